/- Parts of a proof: K. Conditions: none. -/
import Derived.Test.YtcnndelmnobigaaChecked
import Derived.KernelRfl
import Derived.Test.YtcnndelmnobigaaM6
import Derived.Test.YtcnndelmnobigaaM7
import Derived.Test.YtcnndelmnobigaaM8
set_option linter.all false
set_option maxRecDepth 100000
namespace Go.Proofs.Ytcnndelmnobigaa
open Go Go.Ab Go.Proofs
variable {H:Type} [HeapC H]
noncomputable abbrev P:=Try.prog
noncomputable def ZcQ:Code:=Z0g Try.f6
noncomputable def f6_c:ACode:=(.seq (rg 0 ZcQ 2 false) (.seq (.seq (rg 1 ZcQ 9 false) (.cond (.tmp 16) (.seq (rg 2 ZcQ 37 false) .ret) .skip)) (.seq (.seq (rg 3 ZcQ 19 false) (.cond (.tmp 25) (.seq (rg 4 ZcQ 75 false) .ret) .skip)) (.seq (rg 5 ZcQ 23 false) (.seq (rg 6 ZcQ 47 false) (.seq (.seq (rg 7 ZcQ 159 true) (.cond (.tmp 53) (.seq (rg 8 ZcQ 607 false) .ret) .skip)) (.seq (rg 9 ZcQ 191 false) (.seq (rg 10 ZcQ 383 false) (.seq (.seq (rg 11 ZcQ 1279 false) (.cond (.tmp 72) (.seq (rg 12 ZcQ 4863 false) .ret) .skip)) (.seq (rg 13 ZcQ 1535 false) (.seq (rg 14 ZcQ 3071 false) (.seq (rg 15 ZcQ 6143 false) (.seq (rg 16 ZcQ 12287 false) (.seq (rg 17 ZcQ 24575 false) .ret))))))))))))))
noncomputable def f6_f:AFun:={ code:=f6_c,nt:=115,res:=Try.f6.results.toList,fr:=[] }
noncomputable def Z62:Code:=Z0g Try.f11
noncomputable def f11_c:ACode:=(.seq (rg 0 Z62 2 false) (.seq (rg 1 Z62 5 false) (.seq (rg 2 Z62 11 false) (.seq (rg 3 Z62 23 false) (.seq (.seq (rg 4 Z62 79 false) (.cond (.tmp 50) (.seq (rg 5 Z62 303 false) .ret) .skip)) (.seq (rg 6 Z62 95 true) (.seq (rg 7 Z62 191 true) (.seq (rg 8 Z62 383 true) (.seq (rg 9 Z62 767 false) (.seq (rg 10 Z62 1535 false) (.seq (.seq (rg 11 Z62 5119 false) (.cond (.tmp 128) (.seq (rg 12 Z62 19455 false) .ret) .skip)) (.seq (rg 13 Z62 6143 false) (.seq (rg 14 Z62 12287 false) (.seq (rg 15 Z62 24575 false) .ret))))))))))))))
noncomputable def ZiR:AFun:={ code:=f11_c,nt:=175,res:=Try.f11.results.toList,fr:=[] }
noncomputable def Zr3:Code:=Z0g Try.f12
noncomputable def f12_c:ACode:=(.seq (rg 0 Zr3 2 false) (.seq (rg 1 Zr3 5 false) .ret))
noncomputable def ZoE:AFun:={ code:=f12_c,nt:=7,res:=Try.f12.results.toList,fr:=[] }
noncomputable def Z5I:Code:=Z0g Try.f13
noncomputable def Z3O:ACode:=(.seq (.seq (rg 8 Z5I 33943 false) (.cond (.tmp 18) .skip (.exit 2))) (.seq (.join [(.normal,[1,2,3,4,5]),(.ret,[1,2,3,4,5])] (.block 3 (.seq (rg 10 Z5I 140439 false) (.seq (.seq (rg 11 Z5I 599191 false) (.cond (.tmp 36) (.exit 3) .skip)) (.seq (.seq (rg 12 Z5I 1254551 false) (.cond (.tmp 65) (.seq (rg 13 Z5I 4924567 false) .ret) .skip)) (.seq (rg 14 Z5I 1516695 true) (.cond (.tmp 82) (.seq (rg 15 Z5I 5186711 false) .ret) .skip))))))) (rg 9 Z5I 58519 false)))
noncomputable def Z3M (rd:Option Nat):Key:=.lp 13001 [1,2,3,4,5] [] Z3O 83 rd
noncomputable def Z3P:ACode:=(.seq (.seq (rg 5 Z5I 535 false) (.cond (.tmp 14) .skip (.exit 0))) (.seq (.block 1 (.seq (rg 7 Z5I 2199 false) (.block 2 (.loop 13001 [1,2,3,4,5] [] [(.exit 2),.ret] Z3O)))) (rg 6 Z5I 919 false)))
noncomputable def Z3N (rd:Option Nat):Key:=.lp 13000 [1,2,3,4] [] Z3P 83 rd
noncomputable def f13_c:ACode:=(.seq (rg 0 Z5I 2 false) (.seq (rg 1 Z5I 5 false) (.seq (.seq (rg 2 Z5I 19 false) (.cond (.tmp 11) (.seq (rg 3 Z5I 75 false) .ret) .skip)) (.seq (.seq (rg 4 Z5I 39 false) (.block 0 (.loop 13000 [1,2,3,4] [] [(.exit 0),.ret] Z3P))) (.seq (rg 16 Z5I 47 false) .ret)))))
noncomputable def Zfp:AFun:={ code:=f13_c,nt:=83,res:=Try.f13.results.toList,fr:=[] }
noncomputable def Z4P:Code:=Z0g Try.f14
noncomputable def Z3K:ACode:=(.seq (rg 11 Z4P 570159 false) (.seq (.cond (.tmp 44) .skip (.exit 2)) (.seq (.block 3 (.seq (rg 12 Z4P 9220911 false) (.seq (rg 13 Z4P 21803823 false) (.join [(.normal,[1,5,7,9,10,26,27,28,42,43])] (.cond (.tmp 52) (rg 14 Z4P 46969647 false) .skip))))) (rg 15 Z4P 3978031 false))))
noncomputable def Zc1 (rd:Option Nat):Key:=.lp 14001 [1,5,7,9,10,26,27,28,42,43] [] Z3K 68 rd
noncomputable def Z3L:ACode:=(.seq (rg 7 Z4P 559 false) (.seq (.cond (.tmp 29) .skip (.exit 0)) (.seq (.block 1 (.seq (rg 8 Z4P 9007 false) (.seq (rg 9 Z4P 21295 false) (.seq (.seq (rg 10 Z4P 78639 false) (.block 2 (.loop 14001 [1,5,7,9,10,26,27,28,42,43] [] [(.exit 2)] Z3K))) (rg 16 Z4P 62255 false))))) (rg 17 Z4P 3887 false))))
noncomputable def Zc2 (rd:Option Nat):Key:=.lp 14000 [1,5,7,26,27,28] [] Z3L 68 rd
noncomputable def f14_c:ACode:=(.seq (rg 0 Z4P 2 false) (.seq (.seq (rg 1 Z4P 9 false) (.seq (rg 2 Z4P 21 false) (.cond (.tmp 15) (.seq (rg 3 Z4P 77 false) .ret) .skip))) (.seq (rg 4 Z4P 11 false) (.seq (rg 5 Z4P 23 false) (.seq (.seq (rg 6 Z4P 79 false) (.block 0 (.loop 14000 [1,5,7,26,27,28] [] [(.exit 0)] Z3L))) (.seq (rg 18 Z4P 95 false) .ret))))))
noncomputable def Zfo:AFun:={ code:=f14_c,nt:=68,res:=Try.f14.results.toList,fr:=[] }
noncomputable def Z42:Code:=Z0g Try.f15
noncomputable def Z3G:ACode:=(.seq (rg 13 Z42 37329303 false) (.seq (.cond (.tmp 64) .skip (.exit 4)) (.seq (.block 5 (.seq (rg 14 Z42 590977431 false) (.seq (rg 15 Z42 1396283799 false) (.join [(.normal,[1,7,8,10,28,29,30,35,36,63])] (.cond (.tmp 68) (rg 16 Z42 3006896535 false) .skip))))) (rg 17 Z42 255433111 false))))
noncomputable def ZbZ (rd:Option Nat):Key:=.lp 15002 [1,7,8,10,28,29,30,35,36,63] [] Z3G 80 rd
noncomputable def Z3H:ACode:=(.seq (rg 9 Z42 72087 false) (.seq (.cond (.tmp 37) .skip (.exit 2)) (.seq (.join [(.normal,[1,7,8,28,29,30,35,36])] (.block 3 (.seq (rg 10 Z42 1153431 false) (.seq (.seq (rg 11 Z42 4823447 false) (.cond (.tmp 62) (.exit 3) .skip)) (.seq (rg 12 Z42 5872023 false) (.block 4 (.loop 15002 [1,7,8,10,28,29,30,35,36,63] [] [(.exit 4)] Z3G))))))) (rg 18 Z42 498071 false))))
noncomputable def Z6u (rd:Option Nat):Key:=.lp 15001 [1,7,8,28,29,30,35,36] [] Z3H 80 rd
noncomputable def Z3I:ACode:=(.seq (rg 6 Z42 279 false) (.seq (.cond (.tmp 31) .skip (.exit 0)) (.seq (.block 1 (.seq (rg 7 Z42 4503 false) (.seq (rg 8 Z42 10647 false) (.block 2 (.loop 15001 [1,7,8,28,29,30,35,36] [] [(.exit 2)] Z3H))))) (rg 19 Z42 1943 false))))
noncomputable def Zc0 (rd:Option Nat):Key:=.lp 15000 [1,7,28,29,30] [] Z3I 80 rd
noncomputable def f15_c:ACode:=(.seq (rg 0 Z42 2 false) (.seq (.seq (rg 1 Z42 9 false) (.seq (rg 2 Z42 21 false) (.cond (.tmp 18) (.seq (rg 3 Z42 77 false) .ret) .skip))) (.seq (rg 4 Z42 11 false) (.seq (.seq (rg 5 Z42 39 false) (.block 0 (.loop 15000 [1,7,28,29,30] [] [(.exit 0)] Z3I))) (.seq (rg 20 Z42 47 false) .ret)))))
noncomputable def Zfn:AFun:={ code:=f15_c,nt:=80,res:=Try.f15.results.toList,fr:=[] }
noncomputable def ZiQ:Code:=Z0g Try.f16
noncomputable def f16_c:ACode:=(.seq (rg 0 ZiQ 2 false) (.seq (.seq (rg 1 ZiQ 9 false) (.seq (rg 2 ZiQ 21 false) (.cond (.tmp 12) (.seq (rg 3 ZiQ 77 false) .ret) .skip))) (.seq (rg 4 ZiQ 11 false) .ret)))
noncomputable def Zfm:AFun:={ code:=f16_c,nt:=17,res:=Try.f16.results.toList,fr:=[] }
noncomputable def Zr2:Code:=Z0g Try.f17
noncomputable def f17_c:ACode:=(.seq (rg 0 Zr2 2 false) (.seq (rg 1 Zr2 5 false) .ret))
noncomputable def Zfl:AFun:={ code:=f17_c,nt:=9,res:=Try.f17.results.toList,fr:=[] }
noncomputable def ZdT:Code:=Z0g Try.f18
noncomputable def Z9b:ACode:=(.seq (.seq (rg 2 ZdT 133 false) (.cond (.tmp 7) .skip (.exit 0))) (.seq (.block 1 (.seq (rg 4 ZdT 549 false) (.cond (.tmp 15) (.seq (rg 5 ZdT 2341 false) .ret) .skip))) (rg 3 ZdT 229 false)))
noncomputable def ZbY (rd:Option Nat):Key:=.lp 18000 [0,2,3] [] Z9b 16 rd
noncomputable def f18_c:ACode:=(.seq (rg 0 ZdT 2 false) (.seq (.seq (rg 1 ZdT 9 false) (.block 0 (.loop 18000 [0,2,3] [] [(.exit 0),.ret] Z9b))) (.seq (rg 6 ZdT 11 false) .ret)))
noncomputable def ZoC:AFun:={ code:=f18_c,nt:=16,res:=Try.f18.results.toList,fr:=[] }
noncomputable def Zfk:Code:=Z0g Try.f20
noncomputable def f20_c:ACode:=(.seq (rg 0 Zfk 2 false) (.seq (.seq (rg 1 Zfk 9 false) (.cond (.tmp 7) (.seq (rg 2 Zfk 37 false) .ret) .skip)) (.seq (.seq (rg 3 Zfk 19 false) (.cond (.tmp 12) (.seq (rg 4 Zfk 75 false) .ret) .skip)) (.seq (rg 5 Zfk 23 false) .ret))))
noncomputable def Zoz:AFun:={ code:=f20_c,nt:=19,res:=Try.f20.results.toList,fr:=[] }
noncomputable def ZaR:Code:=Z0g Try.f21
noncomputable def Z3F:ACode:=(.seq (.seq (rg 4 ZaR 267 false) (.cond (.tmp 14) .skip (.exit 0))) (.seq (.block 1 (.seq (rg 6 ZaR 1099 true) (.cond (.tmp 25) (.seq (rg 7 ZaR 4683 false) .ret) .skip))) (rg 5 ZaR 459 false)))
noncomputable def ZbX (rd:Option Nat):Key:=.lp 21000 [0,1,4,5] [] Z3F 26 rd
noncomputable def f21_c:ACode:=(.seq (rg 0 ZaR 2 false) (.seq (.seq (rg 1 ZaR 9 false) (.cond (.tmp 10) (.seq (rg 2 ZaR 37 false) .ret) .skip)) (.seq (.seq (rg 3 ZaR 19 false) (.block 0 (.loop 21000 [0,1,4,5] [] [(.exit 0),.ret] Z3F))) (.seq (rg 8 ZaR 23 false) .ret))))
noncomputable def Zfj:AFun:={ code:=f21_c,nt:=26,res:=Try.f21.results.toList,fr:=[] }
noncomputable def Z2v:Code:=Z0g Try.f23
noncomputable def Z3D:ACode:=(.seq (rg 12 Z2v 1140319 false) (.seq (.cond (.tmp 55) .skip (.exit 2)) (.seq (.block 3 (.seq (rg 13 Z2v 18441823 false) (.seq (rg 14 Z2v 43607647 false) (.join [(.normal,[1,4,5,8,11,12,33,34,35,53,54])] (.cond (.tmp 63) (rg 15 Z2v 93939295 false) .skip))))) (rg 16 Z2v 7956063 false))))
noncomputable def ZiN (rd:Option Nat):Key:=.lp 23001 [1,4,5,8,11,12,33,34,35,53,54] [] Z3D 112 rd
noncomputable def Z3C:ACode:=(.seq (rg 18 Z2v 2287199 false) (.seq (.cond (.tmp 83) .skip (.exit 4)) (.seq (.block 5 (.seq (rg 19 Z2v 36890207 false) (.seq (rg 20 Z2v 87221855 false) (.join [(.normal,[1,4,5,8,11,12,33,34,35,81,82])] (.cond (.tmp 91) (rg 21 Z2v 187885151 false) .skip))))) (rg 22 Z2v 15918687 false))))
noncomputable def ZiM (rd:Option Nat):Key:=.lp 23002 [1,4,5,8,11,12,33,34,35,81,82] [] Z3C 112 rd
noncomputable def Z3E:ACode:=(.seq (rg 8 Z2v 1119 false) (.seq (.cond (.tmp 36) .skip (.exit 0)) (.seq (.block 1 (.seq (rg 9 Z2v 18015 false) (.seq (rg 10 Z2v 42591 false) (.seq (.seq (rg 11 Z2v 157279 false) (.block 2 (.loop 23001 [1,4,5,8,11,12,33,34,35,53,54] [] [(.exit 2)] Z3D))) (.seq (.seq (rg 17 Z2v 321119 false) (.block 4 (.loop 23002 [1,4,5,8,11,12,33,34,35,81,82] [] [(.exit 4)] Z3C))) (rg 23 Z2v 255583 false)))))) (rg 24 Z2v 7775 false))))
noncomputable def ZiO (rd:Option Nat):Key:=.lp 23000 [1,4,5,8,33,34,35] [] Z3E 112 rd
noncomputable def f23_c:ACode:=(.seq (rg 0 Z2v 2 false) (.seq (.seq (rg 1 Z2v 9 false) (.seq (rg 2 Z2v 21 false) (.cond (.tmp 20) (.seq (rg 3 Z2v 77 false) .ret) .skip))) (.seq (rg 4 Z2v 11 false) (.seq (rg 5 Z2v 23 false) (.seq (rg 6 Z2v 47 false) (.seq (.seq (rg 7 Z2v 159 false) (.block 0 (.loop 23000 [1,4,5,8,33,34,35] [] [(.exit 0)] Z3E))) (.seq (rg 25 Z2v 191 false) .ret)))))))
noncomputable def ZiP:AFun:={ code:=f23_c,nt:=112,res:=Try.f23.results.toList,fr:=[] }
noncomputable def Z61:Code:=Z0g Try.f25
noncomputable def Z3B:ACode:=(.seq (rg 7 Z61 279 false) (.seq (.cond (.tmp 31) .skip (.exit 0)) (.seq (.block 1 (.seq (rg 8 Z61 4503 false) (.seq (rg 9 Z61 10647 false) (.cond (.tmp 41) (.seq (rg 10 Z61 39319 false) .ret) .skip)))) (rg 11 Z61 1943 false))))
noncomputable def ZiK (rd:Option Nat):Key:=.lp 25000 [1,2,4,5,29,30] [] Z3B 52 rd
noncomputable def f25_c:ACode:=(.seq (rg 0 Z61 2 false) (.seq (.seq (rg 1 Z61 9 false) (.seq (rg 2 Z61 21 false) (.cond (.tmp 13) (.seq (rg 3 Z61 77 false) .ret) .skip))) (.seq (.seq (rg 4 Z61 19 false) (.cond (.tmp 26) (.seq (rg 5 Z61 75 false) .ret) .skip)) (.seq (.seq (rg 6 Z61 39 false) (.block 0 (.loop 25000 [1,2,4,5,29,30] [] [(.exit 0),.ret] Z3B))) (.seq (rg 12 Z61 47 false) (.seq (.seq (rg 13 Z61 159 false) (.cond (.tmp 50) (.seq (rg 14 Z61 607 false) .ret) .skip)) (.seq (rg 15 Z61 191 false) .ret)))))))
noncomputable def ZiL:AFun:={ code:=f25_c,nt:=52,res:=Try.f25.results.toList,fr:=[] }
noncomputable def Z2u:Code:=Z0g Try.f26
noncomputable def Z93:ACode:=(.seq (.seq (rg 14 Z2u 17713455 false) (.cond (.tmp 55) .skip (.exit 4))) (.seq (.join [(.normal,[1,5,6,7,8,9])] (.block 5 (.seq (.seq (rg 16 Z2u 139348271 false) (.cond (.tmp 60) (.exit 5) .skip)) (.seq (rg 17 Z2u 172902703 false) (.seq (rg 18 Z2u 374229295 false) (.seq (rg 19 Z2u 776882479 false) (.seq (rg 20 Z2u 1582188847 false) (.seq (rg 21 Z2u 3192801583 false) (.seq (rg 22 Z2u 6414027055 false) (.seq (rg 23 Z2u 12856477999 true) (rg 24 Z2u 17151445295 false))))))))))) (rg 15 Z2u 30296367 false)))
noncomputable def ZbV (rd:Option Nat):Key:=.lp 26002 [1,5,6,7,8,9] [] Z93 123 rd
noncomputable def Z94:ACode:=(.seq (.seq (rg 9 Z2u 67887 false) (.cond (.tmp 26) .skip (.exit 2))) (.seq (.join [(.normal,[1,5,6,7])] (.block 3 (.seq (rg 11 Z2u 280879 false) (.seq (.seq (rg 12 Z2u 1198383 false) (.cond (.tmp 53) (.exit 3) .skip)) (.seq (rg 13 Z2u 1460527 false) (.block 4 (.loop 26002 [1,5,6,7,8,9] [] [(.exit 4)] Z93))))))) (rg 10 Z2u 117039 false)))
noncomputable def Z6r (rd:Option Nat):Key:=.lp 26001 [1,5,6,7] [] Z94 123 rd
noncomputable def Z95:ACode:=(.seq (.seq (rg 6 Z2u 1071 false) (.cond (.tmp 22) .skip (.exit 0))) (.seq (.block 1 (.seq (rg 8 Z2u 4399 false) (.block 2 (.loop 26001 [1,5,6,7] [] [(.exit 2)] Z94)))) (rg 7 Z2u 1839 false)))
noncomputable def ZbW (rd:Option Nat):Key:=.lp 26000 [1,5,6] [] Z95 123 rd
noncomputable def f26_c:ACode:=(.seq (rg 0 Z2u 2 false) (.seq (rg 1 Z2u 5 false) (.seq (.seq (rg 2 Z2u 19 false) (.cond (.tmp 16) (.seq (rg 3 Z2u 75 false) .ret) .skip)) (.seq (rg 4 Z2u 23 false) (.seq (.seq (rg 5 Z2u 79 false) (.block 0 (.loop 26000 [1,5,6] [] [(.exit 0)] Z95))) (.seq (rg 25 Z2u 95 false) .ret))))))
noncomputable def Zov:AFun:={ code:=f26_c,nt:=123,res:=Try.f26.results.toList,fr:=[] }
noncomputable def Z74:Code:=Z0g Try.f27
noncomputable def Z2t:ACode:=(rg 6 Z74 151 false)
noncomputable def Z2s:ACode:=(.block 1 (.seq (rg 7 Z74 599 false) (.seq (rg 8 Z74 1367 false) (.seq (rg 9 Z74 2903 true) (.seq (rg 10 Z74 5975 false) (.seq (rg 11 Z74 12119 true) (rg 12 Z74 16215 false)))))))
noncomputable def f27_c:ACode:=(.seq (rg 0 Z74 2 false) (.seq (.seq (rg 1 Z74 9 false) (.seq (rg 2 Z74 21 false) (.cond (.tmp 11) (.seq (rg 3 Z74 77 false) .ret) .skip))) (.seq (rg 4 Z74 11 false) (.seq (.seq (rg 5 Z74 39 false) (.block 0 (.rangeFunc 27000 [1,5] [] [.normal] (.tmp 15) #[16] Z2t Z2s))) (.seq (rg 13 Z74 47 false) .ret)))))
noncomputable def Zot:AFun:={ code:=f27_c,nt:=83,res:=Try.f27.results.toList,fr:=[] }
noncomputable def ZdS:Code:=Z0g Try.f28
noncomputable def f28_c:ACode:=(.seq (rg 0 ZdS 2 false) (.seq (rg 1 ZdS 5 false) (.seq (.seq (rg 2 ZdS 19 false) (.cond (.tmp 9) (.seq (rg 3 ZdS 75 false) .ret) .skip)) (.seq (.seq (rg 4 ZdS 39 false) (.cond (.tmp 14) (.seq (rg 5 ZdS 151 false) .ret) .skip)) (.seq (rg 6 ZdS 47 false) .ret)))))
noncomputable def Zor:AFun:={ code:=f28_c,nt:=15,res:=Try.f28.results.toList,fr:=[] }
noncomputable def ZaQ:Code:=Z0g Try.f29
noncomputable def Z91:ACode:=(.seq (.seq (rg 4 ZaQ 267 false) (.cond (.tmp 14) .skip (.exit 0))) (.seq (.block 1 (.seq (rg 6 ZaQ 1099 true) (.cond (.tmp 26) (.seq (rg 7 ZaQ 4683 false) .ret) .skip))) (rg 5 ZaQ 459 false)))
noncomputable def ZbU (rd:Option Nat):Key:=.lp 29000 [0,1,4,5] [] Z91 27 rd
noncomputable def f29_c:ACode:=(.seq (rg 0 ZaQ 2 false) (.seq (.seq (rg 1 ZaQ 9 false) (.cond (.tmp 10) (.seq (rg 2 ZaQ 37 false) .ret) .skip)) (.seq (.seq (rg 3 ZaQ 19 false) (.block 0 (.loop 29000 [0,1,4,5] [] [(.exit 0),.ret] Z91))) (.seq (rg 8 ZaQ 23 false) .ret))))
noncomputable def Zop:AFun:={ code:=f29_c,nt:=27,res:=Try.f29.results.toList,fr:=[] }
noncomputable def Z5H:Code:=Z0g Try.f30
noncomputable def Z8Y:ACode:=(.seq (.seq (rg 11 Z5H 545375 false) (.cond (.tmp 31) .skip (.exit 2))) (.seq (.block 3 (.seq (rg 13 Z5H 2249311 false) (.join [(.normal,[1,5,6,7,8,9])] (.cond (.tmp 39) (rg 14 Z5H 5395039 false) .skip)))) (rg 12 Z5H 938591 false)))
noncomputable def ZbS (rd:Option Nat):Key:=.lp 30001 [1,5,6,7,8,9] [] Z8Y 53 rd
noncomputable def Z8Z:ACode:=(.seq (.seq (rg 7 Z5H 2143 false) (.cond (.tmp 20) .skip (.exit 0))) (.seq (.block 1 (.seq (rg 9 Z5H 8799 false) (.seq (.seq (rg 10 Z5H 37471 false) (.block 2 (.loop 30001 [1,5,6,7,8,9] [] [(.exit 2)] Z8Y))) (rg 15 Z5H 29279 false)))) (rg 8 Z5H 3679 false)))
noncomputable def ZbT (rd:Option Nat):Key:=.lp 30000 [1,5,6,7] [] Z8Z 53 rd
noncomputable def f30_c:ACode:=(.seq (rg 0 Z5H 2 false) (.seq (rg 1 Z5H 5 false) (.seq (.seq (rg 2 Z5H 19 false) (.cond (.tmp 13) (.seq (rg 3 Z5H 75 false) .ret) .skip)) (.seq (rg 4 Z5H 23 false) (.seq (rg 5 Z5H 47 false) (.seq (.seq (rg 6 Z5H 159 false) (.block 0 (.loop 30000 [1,5,6,7] [] [(.exit 0)] Z8Z))) (.seq (rg 16 Z5H 191 false) .ret)))))))
noncomputable def Zon:AFun:={ code:=f30_c,nt:=53,res:=Try.f30.results.toList,fr:=[] }
noncomputable def Z9x:Code:=Z0g Try.f31
noncomputable def Z8W:ACode:=(.seq (.seq (rg 7 Z9x 2143 false) (.cond (.tmp 24) .skip (.exit 0))) (.seq (.block 1 (rg 9 Z9x 4703 true)) (rg 8 Z9x 3679 false)))
noncomputable def ZbR (rd:Option Nat):Key:=.lp 31000 [1,7,8,9] [] Z8W 40 rd
noncomputable def f31_c:ACode:=(.seq (rg 0 Z9x 2 false) (.seq (rg 1 Z9x 5 false) (.seq (.seq (rg 2 Z9x 19 false) (.cond (.tmp 14) (.seq (rg 3 Z9x 75 false) .ret) .skip)) (.seq (rg 4 Z9x 23 false) (.seq (rg 5 Z9x 47 false) (.seq (.seq (rg 6 Z9x 159 false) (.block 0 (.loop 31000 [1,7,8,9] [] [(.exit 0)] Z8W))) (.seq (rg 10 Z9x 191 false) .ret)))))))
noncomputable def Zol:AFun:={ code:=f31_c,nt:=40,res:=Try.f31.results.toList,fr:=[] }
noncomputable def Z2S:Code:=Z0g Try.f32
noncomputable def Z8R:ACode:=(.seq (.seq (rg 6 Z2S 1071 false) (.cond (.tmp 26) .skip (.exit 0))) (.seq (.block 1 (rg 8 Z2S 2351 false)) (rg 7 Z2S 1839 false)))
noncomputable def ZbQ (rd:Option Nat):Key:=.lp 32000 [1,2,6,8,9] [] Z8R 95 rd
noncomputable def Z8P:ACode:=(.seq (.seq (rg 13 Z2S 135775 false) (.cond (.tmp 43) .skip (.exit 4))) (.seq (.block 5 (.seq (rg 15 Z2S 561759 false) (.seq (rg 16 Z2S 1348191 false) (.join [(.normal,[1,2,8,10,11])] (.cond (.tmp 75) (rg 17 Z2S 2921055 false) .skip))))) (rg 14 Z2S 234079 false)))
noncomputable def Z6o (rd:Option Nat):Key:=.lp 32002 [1,2,8,10,11] [] Z8P 95 rd
noncomputable def Z8Q:ACode:=(.seq (.seq (rg 10 Z2S 2143 false) (.cond (.tmp 39) .skip (.exit 2))) (.seq (.block 3 (.seq (rg 12 Z2S 8799 false) (.block 4 (.loop 32002 [1,2,8,10,11] [] [(.exit 4)] Z8P)))) (rg 11 Z2S 3679 false)))
noncomputable def ZbP (rd:Option Nat):Key:=.lp 32001 [1,2,8,10] [] Z8Q 95 rd
noncomputable def Z8O:ACode:=(.seq (.seq (rg 19 Z2S 4287 false) (.cond (.tmp 85) .skip (.exit 6))) (.seq (.block 7 (rg 21 Z2S 9407 false)) (rg 20 Z2S 7359 false)))
noncomputable def ZbO (rd:Option Nat):Key:=.lp 32003 [1,8,13] [] Z8O 95 rd
noncomputable def f32_c:ACode:=(.seq (rg 0 Z2S 2 false) (.seq (rg 1 Z2S 5 false) (.seq (.seq (rg 2 Z2S 19 false) (.cond (.tmp 21) (.seq (rg 3 Z2S 75 false) .ret) .skip)) (.seq (rg 4 Z2S 23 false) (.seq (.seq (rg 5 Z2S 79 false) (.block 0 (.loop 32000 [1,2,6,8,9] [] [(.exit 0)] Z8R))) (.seq (.seq (rg 9 Z2S 159 false) (.block 2 (.loop 32001 [1,2,8,10] [] [(.exit 2)] Z8Q))) (.seq (.seq (rg 18 Z2S 319 false) (.block 6 (.loop 32003 [1,8,13] [] [(.exit 6)] Z8O))) (.seq (rg 22 Z2S 383 false) .ret))))))))
noncomputable def Zoj:AFun:={ code:=f32_c,nt:=95,res:=Try.f32.results.toList,fr:=[] }
noncomputable def ZdR:Code:=Z0g Try.f33
noncomputable def Z8M:ACode:=(.seq (.seq (rg 3 ZdR 267 false) (.cond (.tmp 10) .skip (.exit 0))) (.seq (.block 1 (rg 5 ZdR 587 true)) (rg 4 ZdR 459 false)))
noncomputable def ZbN (rd:Option Nat):Key:=.lp 33000 [0,1,5,6] [] Z8M 25 rd
noncomputable def f33_c:ACode:=(.seq (rg 0 ZdR 2 false) (.seq (rg 1 ZdR 5 false) (.seq (.seq (rg 2 ZdR 19 false) (.block 0 (.loop 33000 [0,1,5,6] [] [(.exit 0)] Z8M))) (.seq (rg 6 ZdR 23 false) .ret))))
noncomputable def Zoh:AFun:={ code:=f33_c,nt:=25,res:=Try.f33.results.toList,fr:=[] }
noncomputable def Z10:Code:=Z0g Try.f40
noncomputable def Z3y:ACode:=(.seq (.seq (rg 28 Z10 17978004223 false) (.cond (.tmp 92) .skip (.exit 4))) (.seq (.block 5 (.seq (rg 30 Z10 73812579071 false) (.seq (.seq (rg 31 Z10 314330747647 false) (.cond (.tmp 107) (.seq (rg 32 Z10 1276403421951 false) .ret) .skip)) (rg 33 Z10 245611270911 false)))) (rg 29 Z10 30862906111 false)))
noncomputable def ZiF (rd:Option Nat):Key:=.lp 40002 [2,3,4,5,7,8,9,10,11,14] [] Z3y 135 rd
noncomputable def Z3z:ACode:=(.seq (.seq (rg 16 Z10 4363007 false) (.cond (.tmp 42) .skip (.exit 2))) (.seq (.join [(.ret,[2,3,4,5,7,8,9,10,11]),(.normal,[2,3,4,5,7,8,9,10,11])] (.block 3 (.seq (.seq (rg 18 Z10 34771711 false) (.cond (.tmp 48) (.seq (rg 19 Z10 152212223 false) .ret) .skip)) (.seq (.seq (rg 20 Z10 76714751 false) (.cond (.tmp 54) (.seq (rg 21 Z10 311595775 false) (.seq (rg 22 Z10 714248959 false) (.exit 3))) .skip)) (.seq (rg 23 Z10 93491967 false) (.seq (.seq (rg 24 Z10 328372991 false) (.cond (.tmp 85) (.seq (rg 25 Z10 1267897087 false) .ret) .skip)) (.seq (rg 26 Z10 395481855 false) (.seq (.seq (rg 27 Z10 1335005951 false) (.block 4 (.loop 40002 [2,3,4,5,7,8,9,10,11,14] [] [(.exit 4),.ret] Z3y))) (rg 34 Z10 1066570495 false))))))))) (rg 17 Z10 7508735 false)))
noncomputable def ZiG (rd:Option Nat):Key:=.lp 40001 [2,3,4,5,7,8,9,10,11] [] Z3z 135 rd
noncomputable def Z3A:ACode:=(.seq (.seq (rg 12 Z10 17151 false) (.cond (.tmp 38) .skip (.exit 0))) (.seq (.block 1 (.seq (rg 14 Z10 70399 false) (.seq (.seq (rg 15 Z10 299775 false) (.block 2 (.loop 40001 [2,3,4,5,7,8,9,10,11] [] [(.exit 2),.ret] Z3z))) (rg 35 Z10 234239 false)))) (rg 13 Z10 29439 false)))
noncomputable def ZiH (rd:Option Nat):Key:=.lp 40000 [2,3,4,5,7,8,9] [] Z3A 135 rd
noncomputable def f40_c:ACode:=(.seq (rg 0 Z10 2 false) (.seq (.seq (rg 1 Z10 9 false) (.cond (.tmp 18) (.seq (rg 2 Z10 37 false) .ret) .skip)) (.seq (rg 3 Z10 11 false) (.seq (.seq (rg 4 Z10 39 false) (.cond (.tmp 24) (.seq (rg 5 Z10 151 false) .ret) .skip)) (.seq (rg 6 Z10 47 false) (.seq (.seq (rg 7 Z10 159 false) (.cond (.tmp 34) (.seq (rg 8 Z10 607 false) .ret) .skip)) (.seq (rg 9 Z10 191 false) (.seq (rg 10 Z10 383 false) (.seq (.seq (rg 11 Z10 1279 false) (.block 0 (.loop 40000 [2,3,4,5,7,8,9] [] [(.exit 0),.ret] Z3A))) (.seq (.seq (rg 36 Z10 2559 false) (.cond (.tmp 128) (.seq (rg 37 Z10 9727 false) .ret) .skip)) (.seq (.seq (rg 38 Z10 5119 false) (.cond (.tmp 132) (.seq (rg 39 Z10 19455 false) .ret) .skip)) (.seq (rg 40 Z10 6143 false) .ret))))))))))))
noncomputable def ZiI:AFun:={ code:=f40_c,nt:=135,res:=Try.f40.results.toList,fr:=[] }
noncomputable def ZaP:Code:=Z0g Try.f41
noncomputable def Z3x:ACode:=(.seq (.seq (rg 3 ZaP 267 false) (.cond (.tmp 6) .skip (.exit 0))) (.seq (.block 1 (.seq (.seq (rg 5 ZaP 2123 false) (.cond (.tmp 25) (.seq (rg 6 ZaP 9291 false) .ret) .skip)) (rg 7 ZaP 1611 false))) (rg 4 ZaP 459 false)))
noncomputable def Z4L (rd:Option Nat):Key:=.lp 41000 [1,2,3,4] [] Z3x 30 rd
noncomputable def f41_c:ACode:=(.seq (rg 0 ZaP 2 false) (.seq (rg 1 ZaP 5 false) (.seq (.seq (rg 2 ZaP 19 false) (.block 0 (.loop 41000 [1,2,3,4] [] [(.exit 0),.ret] Z3x))) (.seq (rg 8 ZaP 23 false) .ret))))
noncomputable def Zfi:AFun:={ code:=f41_c,nt:=30,res:=Try.f41.results.toList,fr:=[] }
noncomputable def ZaO:Code:=Z0g Try.f42
noncomputable def Z3w:ACode:=(.seq (.seq (rg 5 ZaO 535 false) (.cond (.tmp 10) .skip (.exit 0))) (.seq (.block 1 (rg 7 ZaO 1175 false)) (rg 6 ZaO 919 false)))
noncomputable def Z4K (rd:Option Nat):Key:=.lp 42000 [1,2,3,4] [] Z3w 19 rd
noncomputable def f42_c:ACode:=(.seq (rg 0 ZaO 2 false) (.seq (rg 1 ZaO 5 false) (.seq (.seq (rg 2 ZaO 19 false) (.cond (.tmp 7) (.seq (rg 3 ZaO 75 false) .ret) .skip)) (.seq (.seq (rg 4 ZaO 39 false) (.block 0 (.loop 42000 [1,2,3,4] [] [(.exit 0)] Z3w))) (.seq (rg 8 ZaO 47 false) .ret)))))
noncomputable def Zfh:AFun:={ code:=f42_c,nt:=19,res:=Try.f42.results.toList,fr:=[] }
noncomputable def Zfg:Code:=Z0g Try.f43
noncomputable def f43_c:ACode:=(.seq (rg 0 Zfg 2 false) (.seq (.block 0 (.seq (rg 1 Zfg 17 false) (.cond (.tmp 3) (.seq (rg 2 Zfg 73 false) .ret) (.seq (rg 3 Zfg 89 false) (.cond (.tmp 7) (.seq (rg 4 Zfg 313 false) .ret) .skip))))) (.seq (rg 5 Zfg 11 false) .ret)))
noncomputable def Zff:AFun:={ code:=f43_c,nt:=12,res:=Try.f43.results.toList,fr:=[] }
noncomputable def Z73:Code:=Z0g Try.f44
noncomputable def Z3u:ACode:=(.seq (rg 8 Z73 18263 false) (.seq (.cond (.tmp 53) .skip (.exit 2)) (.seq (.block 3 (.seq (rg 9 Z73 288599 false) (.seq (rg 10 Z73 681815 false) (.join [(.normal,[6,7,8,52])] (.cond (.tmp 64) (rg 11 Z73 1468247 true) .skip))))) (rg 12 Z73 124759 false))))
noncomputable def ZbM (rd:Option Nat):Key:=.lp 44001 [6,7,8,52] [] Z3u 92 rd
noncomputable def Z1d:ACode:=(rg 4 Z73 151 false)
noncomputable def Z1c:ACode:=(.block 1 (.seq (rg 5 Z73 599 true) (.seq (rg 6 Z73 1367 true) (.seq (rg 7 Z73 2903 false) (.block 2 (.loop 44001 [6,7,8,52] [] [(.exit 2)] Z3u))))))
noncomputable def f44_c:ACode:=(.seq (rg 0 Z73 2 false) (.seq (rg 1 Z73 5 false) (.seq (rg 2 Z73 11 false) (.seq (.seq (rg 3 Z73 39 false) (.block 0 (.rangeFunc 44000 [1,5,6] [] [.normal] (.tmp 24) #[25] Z1d Z1c))) (.seq (rg 13 Z73 47 true) .ret)))))
noncomputable def Zfe:AFun:={ code:=f44_c,nt:=92,res:=Try.f44.results.toList,fr:=[] }
noncomputable def ZaN:Code:=Z0g Try.f45
noncomputable def Z3t:ACode:=(.seq (rg 3 ZaN 139 false) (.seq (.cond (.tmp 11) .skip (.exit 0)) (.seq (.block 1 (.seq (rg 4 ZaN 2251 false) (.seq (rg 5 ZaN 5323 false) (.join [(.normal,[0,3,9,10])] (.cond (.tmp 17) (rg 6 ZaN 11467 false) .skip))))) (rg 7 ZaN 971 false))))
noncomputable def ZbL (rd:Option Nat):Key:=.lp 45000 [0,3,9,10] [] Z3t 24 rd
noncomputable def f45_c:ACode:=(.seq (rg 0 ZaN 2 false) (.seq (rg 1 ZaN 5 false) (.seq (.seq (rg 2 ZaN 19 false) (.block 0 (.loop 45000 [0,3,9,10] [] [(.exit 0)] Z3t))) (.seq (rg 8 ZaN 23 false) .ret))))
noncomputable def Zfd:AFun:={ code:=f45_c,nt:=24,res:=Try.f45.results.toList,fr:=[] }
noncomputable def ZkI:Code:=Z0g Try.f46
noncomputable def Z3s:ACode:=(.seq (.seq (rg 1 ZkI 65 false) (.cond (.tmp 13) .skip (.exit 0))) (.block 1 (rg 2 ZkI 81 false)))
noncomputable def ZbK (rd:Option Nat):Key:=.lp 46000 [0,1] [] Z3s 22 rd
noncomputable def f46_c:ACode:=(.seq (rg 0 ZkI 2 false) (.seq (.block 0 (.loop 46000 [0,1] [] [(.exit 0)] Z3s)) (.seq (rg 3 ZkI 11 false) .ret)))
noncomputable def Zfc:AFun:={ code:=f46_c,nt:=22,res:=Try.f46.results.toList,fr:=[] }
noncomputable def Z41:Code:=Z0g Try.f47
noncomputable def Z3p:ACode:=(.seq (rg 10 Z41 142539 false) (.seq (.cond (.tmp 37) .skip (.exit 2)) (.seq (.block 3 (.seq (rg 11 Z41 2305227 false) (.seq (rg 12 Z41 5450955 false) (.cond (.tmp 48) (.seq (rg 13 Z41 20131019 false) .ret) .skip)))) (rg 14 Z41 994507 false))))
noncomputable def ZbJ (rd:Option Nat):Key:=.lp 47001 [2,4,7,15,16,17,35,36] [] Z3p 71 rd
noncomputable def Z1b:ACode:=(rg 16 Z41 81099 false)
noncomputable def Z1a:ACode:=(.block 5 (.seq (rg 17 Z41 310475 true) (.cond (.tmp 69) (.seq (rg 18 Z41 1227979 false) .ret) .skip)))
noncomputable def Z3q:ACode:=(.seq (rg 5 Z41 139 false) (.seq (.cond (.tmp 18) .skip (.exit 0)) (.seq (.block 1 (.seq (rg 6 Z41 2251 false) (.seq (.seq (rg 7 Z41 9419 false) (.cond (.tmp 32) (.seq (rg 8 Z41 38091 false) .ret) .skip)) (.seq (.seq (rg 9 Z41 19659 false) (.block 2 (.loop 47001 [2,4,7,15,16,17,35,36] [] [(.exit 2),.ret] Z3p))) (.seq (rg 15 Z41 23755 false) (.block 4 (.rangeFunc 47002 [4,7] [] [.normal,.ret] (.tmp 51) #[52] Z1b Z1a))))))) (rg 19 Z41 971 false))))
noncomputable def Z8I (rd:Option Nat):Key:=.lp 47000 [2,4,15,16,17] [] Z3q 71 rd
noncomputable def f47_c:ACode:=(.seq (rg 0 Z41 2 false) (.seq (.seq (rg 1 Z41 9 false) (.seq (rg 2 Z41 21 false) (.cond (.tmp 13) (.seq (rg 3 Z41 77 false) .ret) .skip))) (.seq (.seq (rg 4 Z41 19 false) (.block 0 (.loop 47000 [2,4,15,16,17] [] [(.exit 0),.ret] Z3q))) (.seq (rg 20 Z41 23 false) .ret))))
noncomputable def Zfb:AFun:={ code:=f47_c,nt:=71,res:=Try.f47.results.toList,fr:=[] }
noncomputable def ZcZ:Code:=Z0g Try.f48
noncomputable def Z3o:ACode:=(.seq (rg 3 ZcZ 139 false) (.seq (.cond (.tmp 9) .skip (.exit 0)) (.seq (.block 1 (.seq (rg 4 ZcZ 2251 false) (rg 5 ZcZ 3275 false))) (rg 6 ZcZ 971 false))))
noncomputable def ZbI (rd:Option Nat):Key:=.lp 48000 [3,6,7,8] [] Z3o 17 rd
noncomputable def f48_c:ACode:=(.seq (rg 0 ZcZ 2 false) (.seq (rg 1 ZcZ 5 false) (.seq (.seq (rg 2 ZcZ 19 false) (.block 0 (.loop 48000 [3,6,7,8] [] [(.exit 0)] Z3o))) (.seq (rg 7 ZcZ 23 false) .ret))))
noncomputable def Zfa:AFun:={ code:=f48_c,nt:=17,res:=Try.f48.results.toList,fr:=[] }
noncomputable def ZaM:Code:=Z0g Try.f49
noncomputable def Z3n:ACode:=(.seq (rg 4 ZaM 279 false) (.seq (.cond (.tmp 22) .skip (.exit 0)) (.seq (.block 1 (.seq (rg 5 ZaM 4503 false) (rg 6 ZaM 6551 false))) (rg 7 ZaM 1943 false))))
noncomputable def ZbH (rd:Option Nat):Key:=.lp 49000 [1,7,19,20,21] [] Z3n 36 rd
noncomputable def f49_c:ACode:=(.seq (rg 0 ZaM 2 false) (.seq (rg 1 ZaM 5 false) (.seq (rg 2 ZaM 11 false) (.seq (.seq (rg 3 ZaM 39 false) (.block 0 (.loop 49000 [1,7,19,20,21] [] [(.exit 0)] Z3n))) (.seq (rg 8 ZaM 47 false) .ret)))))
noncomputable def Zf9:AFun:={ code:=f49_c,nt:=36,res:=Try.f49.results.toList,fr:=[] }
noncomputable def ZqP:Code:=Z0g Try.f50
noncomputable def f50_c:ACode:=(.seq (rg 0 ZqP 2 false) (.seq (rg 1 ZqP 5 true) .ret))
noncomputable def Zf8:AFun:={ code:=f50_c,nt:=29,res:=Try.f50.results.toList,fr:=[] }
noncomputable def ZkD:Code:=Z0g Try.f53
noncomputable def f53_c:ACode:=(.seq (rg 0 ZkD 2 false) (.seq (.seq (rg 1 ZkD 9 false) (.cond (.tmp 4) (.seq (rg 2 ZkD 37 false) .ret) .skip)) (.seq (rg 3 ZkD 11 false) .ret)))
noncomputable def Ziz:AFun:={ code:=f53_c,nt:=8,res:=Try.f53.results.toList,fr:=[] }
noncomputable def ZqN:Code:=Z0g Try.f55
noncomputable def f55_c:ACode:=(.seq (rg 0 ZqN 2 false) (.seq (rg 1 ZqN 5 false) .ret))
noncomputable def Zf7:AFun:={ code:=f55_c,nt:=6,res:=Try.f55.results.toList,fr:=[] }
noncomputable def ZaL:Code:=Z0g Try.f56
noncomputable def Z3m:ACode:=(.seq (rg 3 ZaL 139 false) (.seq (.cond (.tmp 9) .skip (.exit 0)) (.seq (.block 1 (.seq (rg 4 ZaL 2251 false) (.seq (rg 5 ZaL 5323 false) (.join [(.normal,[3,6,7,8])] (.cond (.tmp 13) (rg 6 ZaL 11467 false) .skip))))) (rg 7 ZaL 971 false))))
noncomputable def ZbG (rd:Option Nat):Key:=.lp 56000 [3,6,7,8] [] Z3m 19 rd
noncomputable def f56_c:ACode:=(.seq (rg 0 ZaL 2 false) (.seq (rg 1 ZaL 5 false) (.seq (.seq (rg 2 ZaL 19 false) (.block 0 (.loop 56000 [3,6,7,8] [] [(.exit 0)] Z3m))) (.seq (rg 8 ZaL 23 false) .ret))))
noncomputable def Zf6:AFun:={ code:=f56_c,nt:=19,res:=Try.f56.results.toList,fr:=[] }
noncomputable def Z0Z:Code:=Z0g Try.f57
noncomputable def Z3l:ACode:=(.seq (rg 4 Z0Z 279 false) (.seq (.cond (.tmp 35) .skip (.exit 0)) (.seq (.block 1 (.seq (rg 5 Z0Z 4503 false) (rg 6 Z0Z 6551 true))) (rg 7 Z0Z 1943 false))))
noncomputable def Zix (rd:Option Nat):Key:=.lp 57000 [1,2,4,5,6,7,33,34] [] Z3l 200 rd
noncomputable def Z3i:ACode:=(.seq (rg 21 Z0Z 1179372735 false) (.seq (.cond (.tmp 95) .skip (.exit 6)) (.seq (.join [(.normal,[2,4,5,7,11,14,15,16,17,18,62,63,64,93,94]),(.ret,[2,4,5,7,11,14,15,16,17,18,62,63,64,93,94])] (.block 7 (.seq (rg 22 Z0Z 18896112831 false) (.seq (.seq (rg 23 Z0Z 79025654975 false) (.cond (.tmp 105) (.exit 7) .skip)) (.seq (rg 24 Z0Z 96205524159 true) (.seq (rg 25 Z0Z 199284739263 false) (.block 8 (.seq (rg 26 Z0Z 680321076415 false) (.join [(.normal,[2,4,5,7,11,14,15,16,17,18,62,63,64,93,94]),(.ret,[2,4,5,7,11,14,15,16,17,18,62,63,64,93,94])] (.cond (.tmp 134) (.seq (rg 27 Z0Z 2604466425023 false) (.seq (rg 28 Z0Z 5903001308351 false) (.seq (rg 29 Z0Z 12500071075007 false) (rg 30 Z0Z 16898117586111 false)))) (.seq (rg 31 Z0Z 3154222238911 false) (.cond (.tmp 166) (.seq (rg 32 Z0Z 10850803633343 false) .ret) .skip)))))))))))) (rg 33 Z0Z 8158694591 false))))
noncomputable def Ziu (rd:Option Nat):Key:=.lp 57003 [2,4,5,7,11,14,15,16,17,18,62,63,64,93,94] [] Z3i 200 rd
noncomputable def Z3j:ACode:=(.seq (.seq (rg 17 Z0Z 17550527 false) (.cond (.tmp 76) .skip (.exit 4))) (.seq (.block 5 (.seq (rg 19 Z0Z 72076479 true) (.seq (rg 20 Z0Z 172739775 false) (.block 6 (.loop 57003 [2,4,5,7,11,14,15,16,17,18,62,63,64,93,94] [] [(.exit 6),.ret] Z3i))))) (rg 18 Z0Z 30133439 false)))
noncomputable def Ziv (rd:Option Nat):Key:=.lp 57002 [2,4,5,7,11,14,15,16,62,63,64] [] Z3j 200 rd
noncomputable def Z3h:ACode:=(.seq (rg 35 Z0Z 9424063 false) (.seq (.cond (.tmp 180) .skip (.exit 9)) (.seq (.block 10 (.seq (rg 36 Z0Z 147836095 false) (rg 37 Z0Z 214944959 false))) (rg 38 Z0Z 63950015 false))))
noncomputable def Zit (rd:Option Nat):Key:=.lp 57004 [2,4,5,7,11,15,62,63,64,177,178,179] [] Z3h 200 rd
noncomputable def Z3k:ACode:=(.seq (rg 11 Z0Z 2239 false) (.seq (.cond (.tmp 65) .skip (.exit 2)) (.seq (.block 3 (.seq (rg 12 Z0Z 36031 false) (.seq (rg 13 Z0Z 85183 false) (.seq (rg 14 Z0Z 183487 false) (.seq (rg 15 Z0Z 380095 false) (.seq (.seq (rg 16 Z0Z 1297599 false) (.block 4 (.loop 57002 [2,4,5,7,11,14,15,16,62,63,64] [] [(.exit 4),.ret] Z3j))) (.seq (rg 34 Z0Z 1559743 false) (.block 9 (.loop 57004 [2,4,5,7,11,15,62,63,64,177,178,179] [] [(.exit 9)] Z3h))))))))) (rg 39 Z0Z 15551 false))))
noncomputable def Ziw (rd:Option Nat):Key:=.lp 57001 [2,4,5,7,11,62,63,64] [] Z3k 200 rd
noncomputable def f57_c:ACode:=(.seq (rg 0 Z0Z 2 false) (.seq (rg 1 Z0Z 5 false) (.seq (rg 2 Z0Z 11 false) (.seq (.seq (rg 3 Z0Z 39 false) (.block 0 (.loop 57000 [1,2,4,5,6,7,33,34] [] [(.exit 0)] Z3l))) (.seq (rg 8 Z0Z 47 false) (.seq (rg 9 Z0Z 95 false) (.seq (.seq (rg 10 Z0Z 319 false) (.block 2 (.loop 57001 [2,4,5,7,11,62,63,64] [] [(.exit 2),.ret] Z3k))) (.seq (rg 40 Z0Z 383 false) .ret))))))))
noncomputable def Ziy:AFun:={ code:=f57_c,nt:=200,res:=Try.f57.results.toList,fr:=[] }
noncomputable def Zf5:Code:=Z0g Try.f58
noncomputable def f58_c:ACode:=(.seq (rg 0 Zf5 2 false) (.seq (.seq (rg 1 Zf5 9 false) (.cond (.tmp 5) (.seq (rg 2 Zf5 37 false) .ret) .skip)) (.seq (.seq (rg 3 Zf5 19 false) (.cond (.tmp 9) (.seq (rg 4 Zf5 75 false) .ret) .skip)) (.seq (rg 5 Zf5 23 false) .ret))))
noncomputable def Zoc:AFun:={ code:=f58_c,nt:=10,res:=Try.f58.results.toList,fr:=[] }
noncomputable def ZqK:Code:=Z0g Try.f59
noncomputable def f59_c:ACode:=(.seq (rg 0 ZqK 2 false) (.seq (rg 1 ZqK 5 false) .ret))
noncomputable def Zf4:AFun:={ code:=f59_c,nt:=4,res:=Try.f59.results.toList,fr:=[] }
noncomputable def ZqJ:Code:=Z0g Try.f60
noncomputable def f60_c:ACode:=(.seq (rg 0 ZqJ 2 false) (.seq (rg 1 ZqJ 5 false) .ret))
noncomputable def Zf3:AFun:={ code:=f60_c,nt:=6,res:=Try.f60.results.toList,fr:=[] }
noncomputable def Z2p:Code:=Z0g Try.f61
noncomputable def Z8C:ACode:=(.seq (.seq (rg 4 Z2p 267 false) (.cond (.tmp 22) .skip (.exit 0))) (.seq (.block 1 (.seq (rg 6 Z2p 1099 false) (.cond (.tmp 36) (.seq (rg 7 Z2p 4683 false) .ret) .skip))) (rg 5 Z2p 459 false)))
noncomputable def ZbF (rd:Option Nat):Key:=.lp 61000 [1,2,4,5] [] Z8C 79 rd
noncomputable def Z8A:ACode:=(.seq (.seq (rg 13 Z2p 136343 false) (.cond (.tmp 45) .skip (.exit 4))) (.seq (.block 5 (.seq (rg 15 Z2p 562327 false) (.join [(.normal,[1,2,4,6,7,8])] (.cond (.tmp 56) (rg 16 Z2p 1348759 false) .skip)))) (rg 14 Z2p 234647 false)))
noncomputable def ZbD (rd:Option Nat):Key:=.lp 61002 [1,2,4,6,7,8] [] Z8A 79 rd
noncomputable def Z8B:ACode:=(.seq (.seq (rg 9 Z2p 535 false) (.cond (.tmp 41) .skip (.exit 2))) (.seq (.block 3 (.seq (rg 11 Z2p 2199 false) (.seq (.seq (rg 12 Z2p 9367 false) (.block 4 (.loop 61002 [1,2,4,6,7,8] [] [(.exit 4)] Z8A))) (.seq (rg 17 Z2p 11415 false) (.cond (.tmp 60) (.seq (rg 18 Z2p 40087 false) .ret) .skip))))) (rg 10 Z2p 919 false)))
noncomputable def ZbE (rd:Option Nat):Key:=.lp 61001 [1,2,4,6] [] Z8B 79 rd
noncomputable def Z8z:ACode:=(.seq (.seq (rg 21 Z2p 2143 false) (.cond (.tmp 69) .skip (.exit 6))) (.seq (.block 7 (.seq (rg 23 Z2p 8799 false) (.cond (.tmp 78) (.seq (rg 24 Z2p 37471 false) .ret) .skip))) (rg 22 Z2p 3679 false)))
noncomputable def ZbC (rd:Option Nat):Key:=.lp 61003 [1,4,9,11] [] Z8z 79 rd
noncomputable def f61_c:ACode:=(.seq (rg 0 Z2p 2 false) (.seq (.seq (rg 1 Z2p 9 false) (.cond (.tmp 18) (.seq (rg 2 Z2p 37 false) .ret) .skip)) (.seq (.seq (rg 3 Z2p 19 false) (.block 0 (.loop 61000 [1,2,4,5] [] [(.exit 0),.ret] Z8C))) (.seq (.seq (rg 8 Z2p 39 false) (.block 2 (.loop 61001 [1,2,4,6] [] [(.exit 2),.ret] Z8B))) (.seq (rg 19 Z2p 47 false) (.seq (.seq (rg 20 Z2p 159 false) (.block 6 (.loop 61003 [1,4,9,11] [] [(.exit 6),.ret] Z8z))) (.seq (rg 25 Z2p 191 false) .ret)))))))
noncomputable def Zoa:AFun:={ code:=f61_c,nt:=79,res:=Try.f61.results.toList,fr:=[] }
noncomputable def Z6D:Code:=Z0g Try.f62
noncomputable def Z8v:ACode:=(.seq (.seq (rg 10 Z6D 2200139 false) (.cond (.tmp 37) .skip (.exit 4))) (.seq (.block 5 (.seq (rg 12 Z6D 9015883 false) (.join [(.normal,[1,3,4,5,6,7])] (.cond (.tmp 42) (rg 13 Z6D 21598795 true) .skip)))) (rg 11 Z6D 3773003 false)))
noncomputable def Z8u (rd:Option Nat):Key:=.lp 62002 [1,3,4,5,6,7] [] Z8v 59 rd
noncomputable def Z8w:ACode:=(.seq (.seq (rg 6 Z6D 16971 false) (.cond (.tmp 21) .skip (.exit 2))) (.seq (.block 3 (.seq (rg 8 Z6D 70219 false) (.seq (rg 9 Z6D 168523 false) (.block 4 (.loop 62002 [1,3,4,5,6,7] [] [(.exit 4)] Z8v))))) (rg 7 Z6D 29259 false)))
noncomputable def ZbA (rd:Option Nat):Key:=.lp 62001 [1,3,4,5] [] Z8w 59 rd
noncomputable def Z8x:ACode:=(.seq (.seq (rg 3 Z6D 267 false) (.cond (.tmp 17) .skip (.exit 0))) (.seq (.block 1 (.seq (rg 5 Z6D 1099 false) (.block 2 (.loop 62001 [1,3,4,5] [] [(.exit 2)] Z8w)))) (rg 4 Z6D 459 false)))
noncomputable def ZbB (rd:Option Nat):Key:=.lp 62000 [1,3,4] [] Z8x 59 rd
noncomputable def f62_c:ACode:=(.seq (rg 0 Z6D 2 false) (.seq (rg 1 Z6D 5 false) (.seq (.seq (rg 2 Z6D 19 false) (.block 0 (.loop 62000 [1,3,4] [] [(.exit 0)] Z8x))) (.seq (rg 14 Z6D 23 false) .ret))))
noncomputable def Zo8:AFun:={ code:=f62_c,nt:=59,res:=Try.f62.results.toList,fr:=[] }
noncomputable def ZdQ:Code:=Z0g Try.f63
noncomputable def Z8s:ACode:=(.seq (.seq (rg 3 ZdQ 267 false) (.cond (.tmp 8) .skip (.exit 0))) (.seq (.block 1 (rg 5 ZdQ 587 false)) (rg 4 ZdQ 459 false)))
noncomputable def Zbz (rd:Option Nat):Key:=.lp 63000 [0,3,4] [] Z8s 19 rd
noncomputable def f63_c:ACode:=(.seq (rg 0 ZdQ 2 false) (.seq (rg 1 ZdQ 5 false) (.seq (.seq (rg 2 ZdQ 19 false) (.block 0 (.loop 63000 [0,3,4] [] [(.exit 0)] Z8s))) (.seq (rg 6 ZdQ 23 false) .ret))))
noncomputable def Zo6:AFun:={ code:=f63_c,nt:=19,res:=Try.f63.results.toList,fr:=[] }
noncomputable def Z60:Code:=Z0g Try.f64
noncomputable def Z8o:ACode:=(.seq (.seq (rg 10 Z60 2200139 false) (.cond (.tmp 39) .skip (.exit 4))) (.seq (.block 5 (.seq (rg 12 Z60 9015883 false) (.seq (rg 13 Z60 21598795 false) (.join [(.normal,[1,3,4,5,6,7])] (.cond (.tmp 54) (rg 14 Z60 46764619 true) .skip))))) (rg 11 Z60 3773003 false)))
noncomputable def Z8n (rd:Option Nat):Key:=.lp 64002 [1,3,4,5,6,7] [] Z8o 76 rd
noncomputable def Z8p:ACode:=(.seq (.seq (rg 6 Z60 16971 false) (.cond (.tmp 23) .skip (.exit 2))) (.seq (.block 3 (.seq (rg 8 Z60 70219 false) (.seq (rg 9 Z60 168523 false) (.block 4 (.loop 64002 [1,3,4,5,6,7] [] [(.exit 4)] Z8o))))) (rg 7 Z60 29259 false)))
noncomputable def Zbx (rd:Option Nat):Key:=.lp 64001 [1,3,4,5] [] Z8p 76 rd
noncomputable def Z8q:ACode:=(.seq (.seq (rg 3 Z60 267 false) (.cond (.tmp 19) .skip (.exit 0))) (.seq (.block 1 (.seq (rg 5 Z60 1099 false) (.block 2 (.loop 64001 [1,3,4,5] [] [(.exit 2)] Z8p)))) (rg 4 Z60 459 false)))
noncomputable def Zby (rd:Option Nat):Key:=.lp 64000 [1,3,4] [] Z8q 76 rd
noncomputable def f64_c:ACode:=(.seq (rg 0 Z60 2 false) (.seq (rg 1 Z60 5 false) (.seq (.seq (rg 2 Z60 19 false) (.block 0 (.loop 64000 [1,3,4] [] [(.exit 0)] Z8q))) (.seq (rg 15 Z60 23 false) .ret))))
noncomputable def Zo4:AFun:={ code:=f64_c,nt:=76,res:=Try.f64.results.toList,fr:=[] }
noncomputable def ZaK:Code:=Z0g Try.f65
noncomputable def Z8l:ACode:=(.seq (.seq (rg 4 ZaK 535 false) (.cond (.tmp 32) .skip (.exit 0))) (.seq (.block 1 (.seq (rg 6 ZaK 2199 false) (.join [(.normal,[0,1,7,8,9,10])] (.cond (.tmp 39) (rg 7 ZaK 5271 false) .skip)))) (rg 5 ZaK 919 false)))
noncomputable def Zbw (rd:Option Nat):Key:=.lp 65000 [0,1,7,8,9,10] [] Z8l 51 rd
noncomputable def f65_c:ACode:=(.seq (rg 0 ZaK 2 false) (.seq (rg 1 ZaK 5 false) (.seq (rg 2 ZaK 11 true) (.seq (.seq (rg 3 ZaK 39 false) (.block 0 (.loop 65000 [0,1,7,8,9,10] [] [(.exit 0)] Z8l))) (.seq (rg 8 ZaK 47 false) .ret)))))
noncomputable def Zo2:AFun:={ code:=f65_c,nt:=51,res:=Try.f65.results.toList,fr:=[] }
noncomputable def ZcT:Code:=Z0g Try.f66
noncomputable def Z8k:ACode:=(.seq (.seq (rg 3 ZcT 267 false) (.cond (.tmp 10) .skip (.exit 0))) (.seq (.block 1 (.seq (rg 5 ZcT 1099 false) (.join [(.normal,[0,1,2,7,8])] (.cond (.tmp 15) (rg 6 ZcT 2635 true) .skip)))) (rg 4 ZcT 459 false)))
noncomputable def Zbv (rd:Option Nat):Key:=.lp 66000 [0,1,2,7,8] [] Z8k 37 rd
noncomputable def f66_c:ACode:=(.seq (rg 0 ZcT 2 false) (.seq (rg 1 ZcT 5 false) (.seq (.seq (rg 2 ZcT 19 false) (.block 0 (.loop 66000 [0,1,2,7,8] [] [(.exit 0)] Z8k))) (.seq (rg 7 ZcT 23 false) .ret))))
noncomputable def Zo0:AFun:={ code:=f66_c,nt:=37,res:=Try.f66.results.toList,fr:=[] }
noncomputable def Z7o:Code:=Z0g Try.f68
noncomputable def Z3f:ACode:=(.seq (.seq (rg 4 Z7o 535 false) (.cond (.tmp 10) .skip (.exit 0))) (.seq (.block 1 (.seq (rg 6 Z7o 2199 false) (.seq (.seq (rg 7 Z7o 9367 false) (.join [(.normal,[0,3,4,5,6])] (.cond (.tmp 28) (rg 8 Z7o 21655 false) .skip))) (.seq (rg 9 Z7o 11415 false) (.join [(.normal,[0,3,4,5])] (.cond (.tmp 34) (.seq (rg 10 Z7o 40087 false) (rg 11 Z7o 56471 false)) .skip)))))) (rg 5 Z7o 919 false)))
noncomputable def Zir (rd:Option Nat):Key:=.lp 68000 [0,3,4,5] [] Z3f 43 rd
noncomputable def f68_c:ACode:=(.seq (rg 0 Z7o 2 false) (.seq (rg 1 Z7o 5 false) (.seq (rg 2 Z7o 11 false) (.seq (.seq (rg 3 Z7o 39 false) (.block 0 (.loop 68000 [0,3,4,5] [] [(.exit 0)] Z3f))) (.seq (rg 12 Z7o 47 false) .ret)))))
noncomputable def Zis:AFun:={ code:=f68_c,nt:=43,res:=Try.f68.results.toList,fr:=[] }
noncomputable def Z9w:Code:=Z0g Try.f69
noncomputable def Z3e:ACode:=(.seq (.seq (rg 5 Z9w 535 false) (.cond (.tmp 27) .skip (.exit 0))) (.seq (.block 1 (.seq (.seq (rg 7 Z9w 4247 false) (.cond (.tmp 39) (.seq (rg 8 Z9w 18583 false) .ret) .skip)) (rg 9 Z9w 3223 false))) (rg 6 Z9w 919 false)))
noncomputable def Zip (rd:Option Nat):Key:=.lp 69000 [0,2,3,4,5] [] Z3e 51 rd
noncomputable def f69_c:ACode:=(.seq (rg 0 Z9w 2 false) (.seq (.seq (rg 1 Z9w 9 false) (.cond (.tmp 23) (.seq (rg 2 Z9w 37 false) .ret) .skip)) (.seq (rg 3 Z9w 11 false) (.seq (.seq (rg 4 Z9w 39 false) (.block 0 (.loop 69000 [0,2,3,4,5] [] [(.exit 0),.ret] Z3e))) (.seq (rg 10 Z9w 47 false) .ret)))))
noncomputable def Ziq:AFun:={ code:=f69_c,nt:=51,res:=Try.f69.results.toList,fr:=[] }
noncomputable def Z7m:Code:=Z0g Try.f70
noncomputable def Z1y:ACode:=(.seq (rg 5 Z7m 279 false) (rg 6 Z7m 407 false))
noncomputable def Z1x:ACode:=(.join [(.normal,[]),(.ret,[])] (.block 1 (.seq (.seq (rg 7 Z7m 1111 false) (.cond (.tmp 17) (.exit 1) .skip)) (.seq (.seq (rg 8 Z7m 2391 true) (.cond (.tmp 51) (.seq (rg 9 Z7m 9559 false) .ret) .skip)) (.seq (rg 10 Z7m 2903 true) (.cond (.tmp 70) (.seq (rg 11 Z7m 10071 false) .ret) .skip))))))
noncomputable def f70_c:ACode:=(.seq (rg 0 Z7m 2 false) (.seq (.seq (rg 1 Z7m 9 false) (.cond (.tmp 9) (.seq (rg 2 Z7m 37 false) .ret) .skip)) (.seq (rg 3 Z7m 11 false) (.seq (.seq (rg 4 Z7m 39 false) (.block 0 (.rangeFunc 70000 [1,2,3] [] [.normal,.ret] (.tmp 12) #[13,14] Z1y Z1x))) (.seq (rg 12 Z7m 47 false) .ret)))))
noncomputable def Zf2:AFun:={ code:=f70_c,nt:=71,res:=Try.f70.results.toList,fr:=[] }
noncomputable def ZcP:Code:=Z0g Try.f71
noncomputable def Z3c:ACode:=(.seq (rg 3 ZcP 139 false) (.seq (.cond (.tmp 12) .skip (.exit 0)) (.seq (.block 1 (.seq (rg 4 ZcP 2251 false) (rg 5 ZcP 3275 false))) (rg 6 ZcP 971 false))))
noncomputable def Zbu (rd:Option Nat):Key:=.lp 71000 [2,3,10,11] [] Z3c 21 rd
noncomputable def f71_c:ACode:=(.seq (rg 0 ZcP 2 false) (.seq (rg 1 ZcP 5 false) (.seq (.seq (rg 2 ZcP 19 false) (.block 0 (.loop 71000 [2,3,10,11] [] [(.exit 0)] Z3c))) (.seq (rg 7 ZcP 23 false) .ret))))
noncomputable def Zf1:AFun:={ code:=f71_c,nt:=21,res:=Try.f71.results.toList,fr:=[] }
noncomputable def Zqz:Code:=Z0g Try.f72
noncomputable def f72_c:ACode:=(.seq (rg 0 Zqz 2 false) (rg 1 Zqz 3 false))
noncomputable def Zf0:AFun:={ code:=f72_c,nt:=23,res:=Try.f72.results.toList,fr:=[] }
noncomputable def Zqy:Code:=Z0g Try.f73
noncomputable def f73_c:ACode:=(.seq (rg 0 Zqy 2 false) (.seq (rg 1 Zqy 5 false) .ret))
noncomputable def ZeZ:AFun:={ code:=f73_c,nt:=8,res:=Try.f73.results.toList,fr:=[] }
noncomputable def Zam:Code:=Z0g Try.f74
noncomputable def Z3b:ACode:=(.seq (rg 4 Zam 279 false) (.seq (.cond (.tmp 35) .skip (.exit 0)) (.seq (.block 1 (.seq (rg 5 Zam 4503 false) (.seq (rg 6 Zam 10647 false) (.join [(.normal,[0,1,7,8,9,34])] (.cond (.tmp 43) (rg 7 Zam 22935 false) .skip))))) (rg 8 Zam 1943 false))))
noncomputable def Zbt (rd:Option Nat):Key:=.lp 74000 [0,1,7,8,9,34] [] Z3b 56 rd
noncomputable def f74_c:ACode:=(.seq (rg 0 Zam 2 false) (.seq (rg 1 Zam 5 true) (.seq (rg 2 Zam 11 true) (.seq (.seq (rg 3 Zam 39 false) (.block 0 (.loop 74000 [0,1,7,8,9,34] [] [(.exit 0)] Z3b))) (.seq (rg 9 Zam 47 false) .ret)))))
noncomputable def ZeY:AFun:={ code:=f74_c,nt:=56,res:=Try.f74.results.toList,fr:=[] }
noncomputable def Zqx:Code:=Z0g Try.f75
noncomputable def f75_c:ACode:=(.seq (rg 0 Zqx 2 false) (.seq (rg 1 Zqx 5 false) .ret))
noncomputable def ZeX:AFun:={ code:=f75_c,nt:=9,res:=Try.f75.results.toList,fr:=[] }
noncomputable def Zqw:Code:=Z0g Try.f76
noncomputable def f76_c:ACode:=(.seq (rg 0 Zqw 2 false) (.seq (rg 1 Zqw 5 false) .ret))
noncomputable def ZeW:AFun:={ code:=f76_c,nt:=9,res:=Try.f76.results.toList,fr:=[] }
noncomputable def Z72:Code:=Z0g Try.f77
noncomputable def Z38:ACode:=(.seq (rg 8 Z72 2333081 false) (.seq (.cond (.tmp 45) .skip (.exit 4)) (.seq (.block 5 (.seq (rg 9 Z72 36936089 false) (.seq (rg 10 Z72 87267737 true) (.cond (.tmp 68) .ret .skip)))) (rg 11 Z72 15964569 false))))
noncomputable def Z8g (rd:Option Nat):Key:=.lp 77002 [0,3,5,6,9,10,11,16,17,44] [] Z38 72 rd
noncomputable def Z39:ACode:=(.seq (rg 4 Z72 4505 false) (.seq (.cond (.tmp 18) .skip (.exit 2)) (.seq (.join [(.normal,[0,3,9,10,11,16,17]),(.ret,[0,3,9,10,11,16,17])] (.block 3 (.seq (rg 5 Z72 72089 false) (.seq (.seq (rg 6 Z72 301465 false) (.cond (.tmp 43) (.exit 3) .skip)) (.seq (rg 7 Z72 367001 false) (.block 4 (.loop 77002 [0,3,5,6,9,10,11,16,17,44] [] [(.exit 4),.ret] Z38))))))) (rg 12 Z72 31129 false))))
noncomputable def Z8h (rd:Option Nat):Key:=.lp 77001 [0,3,9,10,11,16,17] [] Z39 72 rd
noncomputable def Z3a:ACode:=(.seq (rg 1 Z72 17 false) (.seq (.cond (.tmp 12) .skip (.exit 0)) (.seq (.block 1 (.seq (rg 2 Z72 281 false) (.seq (rg 3 Z72 665 false) (.block 2 (.loop 77001 [0,3,9,10,11,16,17] [] [(.exit 2),.ret] Z39))))) (rg 13 Z72 121 false))))
noncomputable def Zbs (rd:Option Nat):Key:=.lp 77000 [0,9,10,11] [] Z3a 72 rd
noncomputable def f77_c:ACode:=(.seq (rg 0 Z72 2 false) (.block 0 (.loop 77000 [0,9,10,11] [] [(.exit 0),.ret] Z3a)))
noncomputable def ZeV:AFun:={ code:=f77_c,nt:=72,res:=Try.f77.results.toList,fr:=[] }
noncomputable def ZdP:Code:=Z0g Try.f78
noncomputable def Z8e:ACode:=(.seq (.seq (rg 3 ZdP 267 false) (.cond (.tmp 9) .skip (.exit 0))) (.seq (.block 1 (rg 5 ZdP 587 false)) (rg 4 ZdP 459 false)))
noncomputable def Zbr (rd:Option Nat):Key:=.lp 78000 [0,3,4] [] Z8e 17 rd
noncomputable def f78_c:ACode:=(.seq (rg 0 ZdP 2 false) (.seq (rg 1 ZdP 5 false) (.seq (.seq (rg 2 ZdP 19 false) (.block 0 (.loop 78000 [0,3,4] [] [(.exit 0)] Z8e))) (.seq (rg 6 ZdP 23 false) .ret))))
noncomputable def ZnW:AFun:={ code:=f78_c,nt:=17,res:=Try.f78.results.toList,fr:=[] }
noncomputable def ZaJ:Code:=Z0g Try.f79
noncomputable def Z8d:ACode:=(.seq (.seq (rg 4 ZaJ 535 false) (.cond (.tmp 31) .skip (.exit 0))) (.seq (.block 1 (.seq (rg 6 ZaJ 2199 false) (.join [(.normal,[0,7,8,9])] (.cond (.tmp 39) (rg 7 ZaJ 5271 false) .skip)))) (rg 5 ZaJ 919 false)))
noncomputable def Zbq (rd:Option Nat):Key:=.lp 79000 [0,7,8,9] [] Z8d 45 rd
noncomputable def f79_c:ACode:=(.seq (rg 0 ZaJ 2 false) (.seq (rg 1 ZaJ 5 true) (.seq (rg 2 ZaJ 11 true) (.seq (.seq (rg 3 ZaJ 39 false) (.block 0 (.loop 79000 [0,7,8,9] [] [(.exit 0)] Z8d))) (.seq (rg 8 ZaJ 47 false) .ret)))))
noncomputable def ZnT:AFun:={ code:=f79_c,nt:=45,res:=Try.f79.results.toList,fr:=[] }
noncomputable def Z5Z:Code:=Z0g Try.f80
noncomputable def Z8b:ACode:=(.seq (.seq (rg 8 Z5Z 136343 false) (.cond (.tmp 28) .skip (.exit 2))) (.seq (.block 3 (.seq (rg 10 Z5Z 562327 true) (.join [(.normal,[0,3,4,5,6])] (.cond (.tmp 39) (rg 11 Z5Z 1348759 false) .skip)))) (rg 9 Z5Z 234647 false)))
noncomputable def Zbo (rd:Option Nat):Key:=.lp 80001 [0,3,4,5,6] [] Z8b 59 rd
noncomputable def Z8c:ACode:=(.seq (.seq (rg 4 Z5Z 535 false) (.cond (.tmp 13) .skip (.exit 0))) (.seq (.block 1 (.seq (rg 6 Z5Z 2199 false) (.seq (.seq (rg 7 Z5Z 9367 false) (.block 2 (.loop 80001 [0,3,4,5,6] [] [(.exit 2)] Z8b))) (.seq (rg 12 Z5Z 11415 false) (.join [(.normal,[0,3,4,5])] (.cond (.tmp 51) (.seq (rg 13 Z5Z 40087 false) (rg 14 Z5Z 56471 false)) .skip)))))) (rg 5 Z5Z 919 false)))
noncomputable def Zbp (rd:Option Nat):Key:=.lp 80000 [0,3,4,5] [] Z8c 59 rd
noncomputable def f80_c:ACode:=(.seq (rg 0 Z5Z 2 false) (.seq (rg 1 Z5Z 5 false) (.seq (rg 2 Z5Z 11 false) (.seq (.seq (rg 3 Z5Z 39 false) (.block 0 (.loop 80000 [0,3,4,5] [] [(.exit 0)] Z8c))) (.seq (rg 15 Z5Z 47 false) .ret)))))
noncomputable def ZnR:AFun:={ code:=f80_c,nt:=59,res:=Try.f80.results.toList,fr:=[] }
noncomputable def Z89:Code:=Z0g Try.f81
noncomputable def Z87:ACode:=(.seq (.seq (rg 6 Z89 16971 false) (.cond (.tmp 14) .skip (.exit 2))) (.seq (.block 3 (.seq (.seq (rg 8 Z89 135755 false) (.cond (.tmp 19) (.seq (rg 9 Z89 594507 false) .ret) .skip)) (rg 10 Z89 102987 false))) (rg 7 Z89 29259 false)))
noncomputable def Z86 (rd:Option Nat):Key:=.lp 81001 [0,2,3,4,5,6] [] Z87 24 rd
noncomputable def Z88:ACode:=(.seq (.seq (rg 3 Z89 267 false) (.cond (.tmp 8) .skip (.exit 0))) (.seq (.block 1 (.seq (rg 5 Z89 1099 false) (.block 2 (.loop 81001 [0,2,3,4,5,6] [] [(.exit 2),.ret] Z87)))) (rg 4 Z89 459 false)))
noncomputable def Z4x (rd:Option Nat):Key:=.lp 81000 [0,2,3,4,5] [] Z88 24 rd
noncomputable def f81_c:ACode:=(.seq (rg 0 Z89 2 false) (.seq (rg 1 Z89 5 false) (.seq (.seq (rg 2 Z89 19 false) (.block 0 (.loop 81000 [0,2,3,4,5] [] [(.exit 0),.ret] Z88))) (.seq (rg 11 Z89 23 false) .ret))))
noncomputable def ZnP:AFun:={ code:=f81_c,nt:=24,res:=Try.f81.results.toList,fr:=[] }
noncomputable def ZcO:Code:=Z0g Try.f82
noncomputable def Z85:ACode:=(.seq (.seq (rg 2 ZcO 133 false) (.cond (.tmp 9) .skip (.exit 0))) (.seq (.block 1 (.seq (rg 4 ZcO 549 false) (.seq (rg 5 ZcO 1317 false) (.cond (.tmp 34) (.seq (rg 6 ZcO 4901 false) .ret) .skip)))) (rg 3 ZcO 229 false)))
noncomputable def Zbn (rd:Option Nat):Key:=.lp 82000 [0,1,4,5] [] Z85 36 rd
noncomputable def f82_c:ACode:=(.seq (rg 0 ZcO 2 false) (.seq (.seq (rg 1 ZcO 9 false) (.block 0 (.loop 82000 [0,1,4,5] [] [(.exit 0),.ret] Z85))) (.seq (rg 7 ZcO 11 false) .ret)))
noncomputable def ZnN:AFun:={ code:=f82_c,nt:=36,res:=Try.f82.results.toList,fr:=[] }
noncomputable def Zqr:Code:=Z0g Try.f83
noncomputable def f83_c:ACode:=(.seq (rg 0 Zqr 2 false) (.seq (rg 1 Zqr 5 false) .ret))
noncomputable def ZeU:AFun:={ code:=f83_c,nt:=4,res:=Try.f83.results.toList,fr:=[] }
noncomputable def Zal:Code:=Z0g Try.f84
noncomputable def Z36:ACode:=(.seq (rg 3 Zal 139 false) (.seq (.cond (.tmp 8) .skip (.exit 0)) (.seq (.block 1 (.seq (rg 4 Zal 2251 false) (.seq (.seq (rg 5 Zal 9419 false) (.cond (.tmp 15) (.seq (rg 6 Zal 38091 false) .ret) .skip)) (rg 7 Zal 7371 false)))) (rg 8 Zal 971 false))))
noncomputable def Z4w (rd:Option Nat):Key:=.lp 84000 [2,3,6,7] [] Z36 23 rd
noncomputable def f84_c:ACode:=(.seq (rg 0 Zal 2 false) (.seq (rg 1 Zal 5 false) (.seq (.seq (rg 2 Zal 19 false) (.block 0 (.loop 84000 [2,3,6,7] [] [(.exit 0),.ret] Z36))) (.seq (rg 9 Zal 23 false) .ret))))
noncomputable def ZeT:AFun:={ code:=f84_c,nt:=23,res:=Try.f84.results.toList,fr:=[] }
noncomputable def ZcN:Code:=Z0g Try.f85
noncomputable def Z35:ACode:=(.seq (rg 3 ZcN 139 false) (.seq (.cond (.tmp 8) .skip (.exit 0)) (.seq (.block 1 (.seq (rg 4 ZcN 2251 false) (rg 5 ZcN 3275 false))) (rg 6 ZcN 971 false))))
noncomputable def Z4v (rd:Option Nat):Key:=.lp 85000 [2,3,6,7] [] Z35 16 rd
noncomputable def f85_c:ACode:=(.seq (rg 0 ZcN 2 false) (.seq (rg 1 ZcN 5 false) (.seq (.seq (rg 2 ZcN 19 false) (.block 0 (.loop 85000 [2,3,6,7] [] [(.exit 0)] Z35))) (.seq (rg 7 ZcN 23 false) .ret))))
noncomputable def ZeS:AFun:={ code:=f85_c,nt:=16,res:=Try.f85.results.toList,fr:=[] }
noncomputable def ZcM:Code:=Z0g Try.f86
noncomputable def Z34:ACode:=(.seq (rg 2 ZcM 69 false) (.seq (.cond (.tmp 9) .skip (.exit 0)) (.seq (.block 1 (.seq (rg 3 ZcM 1125 false) (.seq (rg 4 ZcM 2661 false) (.cond (.tmp 16) (.seq (rg 5 ZcM 9829 false) .ret) .skip)))) (rg 6 ZcM 485 false))))
noncomputable def Zbl (rd:Option Nat):Key:=.lp 86000 [0,1,4,7,8] [] Z34 19 rd
noncomputable def f86_c:ACode:=(.seq (rg 0 ZcM 2 false) (.seq (.seq (rg 1 ZcM 9 false) (.block 0 (.loop 86000 [0,1,4,7,8] [] [(.exit 0),.ret] Z34))) (.seq (rg 7 ZcM 11 false) .ret)))
noncomputable def ZeR:AFun:={ code:=f86_c,nt:=19,res:=Try.f86.results.toList,fr:=[] }
noncomputable def ZnM:Code:=Z0g Try.f87
noncomputable def f87_c:ACode:=(.seq (rg 0 ZnM 2 false) (.seq (rg 1 ZnM 5 false) (.seq (rg 2 ZnM 11 false) .ret)))
noncomputable def ZeQ:AFun:={ code:=f87_c,nt:=4,res:=Try.f87.results.toList,fr:=[] }
noncomputable def Zqq:Code:=Z0g Try.f88
noncomputable def f88_c:ACode:=(.seq (rg 0 Zqq 2 false) (.seq (rg 1 Zqq 5 false) .ret))
noncomputable def ZeP:AFun:={ code:=f88_c,nt:=17,res:=Try.f88.results.toList,fr:=[] }
noncomputable def Zqp:Code:=Z0g Try.f89
noncomputable def f89_c:ACode:=(.seq (rg 0 Zqp 2 false) (.seq (rg 1 Zqp 5 false) .ret))
noncomputable def ZeO:AFun:={ code:=f89_c,nt:=8,res:=Try.f89.results.toList,fr:=[] }
noncomputable def ZcL:Code:=Z0g Try.f90
noncomputable def Z33:ACode:=(.seq (rg 2 ZcL 69 false) (.seq (.cond (.tmp 9) .skip (.exit 0)) (.seq (.block 1 (.seq (rg 3 ZcL 1125 false) (.seq (rg 4 ZcL 2661 false) (.cond (.tmp 16) (.seq (rg 5 ZcL 9829 false) .ret) .skip)))) (rg 6 ZcL 485 false))))
noncomputable def Zbk (rd:Option Nat):Key:=.lp 90000 [0,1,4,7,8] [] Z33 19 rd
noncomputable def f90_c:ACode:=(.seq (rg 0 ZcL 2 false) (.seq (.seq (rg 1 ZcL 9 false) (.block 0 (.loop 90000 [0,1,4,7,8] [] [(.exit 0),.ret] Z33))) (.seq (rg 7 ZcL 11 false) .ret)))
noncomputable def ZeN:AFun:={ code:=f90_c,nt:=19,res:=Try.f90.results.toList,fr:=[] }
noncomputable def ZaI:Code:=Z0g Try.f91
noncomputable def Z31:ACode:=(.seq (rg 4 ZaI 4505 false) (.seq (.cond (.tmp 18) .skip (.exit 2)) (.seq (.block 3 (.seq (rg 5 ZaI 72089 false) (.seq (rg 6 ZaI 170393 false) (.cond (.tmp 27) .ret .skip)))) (rg 7 ZaI 31129 false))))
noncomputable def Z4r (rd:Option Nat):Key:=.lp 91001 [0,1,3,8,9,16,17] [] Z31 30 rd
noncomputable def Z32:ACode:=(.seq (rg 1 ZaI 17 false) (.seq (.cond (.tmp 10) .skip (.exit 0)) (.seq (.block 1 (.seq (rg 2 ZaI 281 false) (.seq (rg 3 ZaI 665 false) (.block 2 (.loop 91001 [0,1,3,8,9,16,17] [] [(.exit 2),.ret] Z31))))) (rg 8 ZaI 121 false))))
noncomputable def Z4s (rd:Option Nat):Key:=.lp 91000 [0,1,8,9] [] Z32 30 rd
noncomputable def f91_c:ACode:=(.seq (rg 0 ZaI 2 false) (.block 0 (.loop 91000 [0,1,8,9] [] [(.exit 0),.ret] Z32)))
noncomputable def ZeM:AFun:={ code:=f91_c,nt:=30,res:=Try.f91.results.toList,fr:=[] }
noncomputable def bkT:BT AFun:=(.node 56 Zf6 (.node 30 Zon (.node 18 ZoC (.node 14 Zfo (.node 12 ZoE (.node 11 ZiR (.node 6 f6_f .leaf .leaf) .leaf) (.node 13 Zfp .leaf .leaf)) (.node 16 Zfm (.node 15 Zfn .leaf .leaf) (.node 17 Zfl .leaf .leaf))) (.node 26 Zov (.node 23 ZiP (.node 21 Zfj (.node 20 Zoz .leaf .leaf) .leaf) (.node 25 ZiL .leaf .leaf)) (.node 28 Zor (.node 27 Zot .leaf .leaf) (.node 29 Zop .leaf .leaf)))) (.node 45 Zfd (.node 41 Zfi (.node 33 Zoh (.node 32 Zoj (.node 31 Zol .leaf .leaf) .leaf) (.node 40 ZiI .leaf .leaf)) (.node 43 Zff (.node 42 Zfh .leaf .leaf) (.node 44 Zfe .leaf .leaf))) (.node 49 Zf9 (.node 47 Zfb (.node 46 Zfc .leaf .leaf) (.node 48 Zfa .leaf .leaf)) (.node 53 Ziz (.node 50 Zf8 .leaf .leaf) (.node 55 Zf7 .leaf .leaf))))) (.node 75 ZeX (.node 65 Zo2 (.node 61 Zoa (.node 59 Zf4 (.node 58 Zoc (.node 57 Ziy .leaf .leaf) .leaf) (.node 60 Zf3 .leaf .leaf)) (.node 63 Zo6 (.node 62 Zo8 .leaf .leaf) (.node 64 Zo4 .leaf .leaf))) (.node 71 Zf1 (.node 69 Ziq (.node 68 Zis (.node 66 Zo0 .leaf .leaf) .leaf) (.node 70 Zf2 .leaf .leaf)) (.node 73 ZeZ (.node 72 Zf0 .leaf .leaf) (.node 74 ZeY .leaf .leaf)))) (.node 84 ZeT (.node 80 ZnR (.node 78 ZnW (.node 77 ZeV (.node 76 ZeW .leaf .leaf) .leaf) (.node 79 ZnT .leaf .leaf)) (.node 82 ZnN (.node 81 ZnP .leaf .leaf) (.node 83 ZeU .leaf .leaf))) (.node 88 ZeP (.node 86 ZeR (.node 85 ZeS .leaf .leaf) (.node 87 ZeQ .leaf .leaf)) (.node 90 ZeN (.node 89 ZeO .leaf .leaf) (.node 91 ZeM .leaf .leaf))))))
noncomputable def bk (f:FuncId):Option AFun:=bkT.look f
theorem bk_6:bk 6 = some f6_f:=by kernel_rfl
theorem ok_6:Z0w P 6 f6_f:=⟨Try.f6,ZcQ,Try.func6,rfl,by kernel_rfl,by kernel_rfl,rfl,rfl⟩
theorem bk_11:bk 11 = some ZiR:=by kernel_rfl
theorem ok_11:Z0w P 11 ZiR:=⟨Try.f11,Z62,Try.func11,rfl,by kernel_rfl,by kernel_rfl,rfl,rfl⟩
theorem bk_12:bk 12 = some ZoE:=by kernel_rfl
theorem ok_12:Z0w P 12 ZoE:=⟨Try.f12,Zr3,Try.func12,rfl,by kernel_rfl,by kernel_rfl,rfl,rfl⟩
theorem bk_13:bk 13 = some Zfp:=by kernel_rfl
theorem ok_13:Z0w P 13 Zfp:=⟨Try.f13,Z5I,Try.func13,rfl,by kernel_rfl,by kernel_rfl,rfl,rfl⟩
theorem bk_14:bk 14 = some Zfo:=by kernel_rfl
theorem ok_14:Z0w P 14 Zfo:=⟨Try.f14,Z4P,Try.func14,rfl,by kernel_rfl,by kernel_rfl,rfl,rfl⟩
theorem bk_15:bk 15 = some Zfn:=by kernel_rfl
theorem ok_15:Z0w P 15 Zfn:=⟨Try.f15,Z42,Try.func15,rfl,by kernel_rfl,by kernel_rfl,rfl,rfl⟩
theorem bk_16:bk 16 = some Zfm:=by kernel_rfl
theorem ok_16:Z0w P 16 Zfm:=⟨Try.f16,ZiQ,Try.func16,rfl,by kernel_rfl,by kernel_rfl,rfl,rfl⟩
theorem bk_17:bk 17 = some Zfl:=by kernel_rfl
theorem ok_17:Z0w P 17 Zfl:=⟨Try.f17,Zr2,Try.func17,rfl,by kernel_rfl,by kernel_rfl,rfl,rfl⟩
theorem bk_18:bk 18 = some ZoC:=by kernel_rfl
theorem ok_18:Z0w P 18 ZoC:=⟨Try.f18,ZdT,Try.func18,rfl,by kernel_rfl,by kernel_rfl,rfl,rfl⟩
theorem bk_20:bk 20 = some Zoz:=by kernel_rfl
theorem ok_20:Z0w P 20 Zoz:=⟨Try.f20,Zfk,Try.func20,rfl,by kernel_rfl,by kernel_rfl,rfl,rfl⟩
theorem bk_21:bk 21 = some Zfj:=by kernel_rfl
theorem ok_21:Z0w P 21 Zfj:=⟨Try.f21,ZaR,Try.func21,rfl,by kernel_rfl,by kernel_rfl,rfl,rfl⟩
theorem bk_23:bk 23 = some ZiP:=by kernel_rfl
theorem ok_23:Z0w P 23 ZiP:=⟨Try.f23,Z2v,Try.func23,rfl,by kernel_rfl,by kernel_rfl,rfl,rfl⟩
theorem bk_25:bk 25 = some ZiL:=by kernel_rfl
theorem ok_25:Z0w P 25 ZiL:=⟨Try.f25,Z61,Try.func25,rfl,by kernel_rfl,by kernel_rfl,rfl,rfl⟩
theorem bk_26:bk 26 = some Zov:=by kernel_rfl
theorem ok_26:Z0w P 26 Zov:=⟨Try.f26,Z2u,Try.func26,rfl,by kernel_rfl,by kernel_rfl,rfl,rfl⟩
theorem bk_27:bk 27 = some Zot:=by kernel_rfl
theorem ok_27:Z0w P 27 Zot:=⟨Try.f27,Z74,Try.func27,rfl,by kernel_rfl,by kernel_rfl,rfl,rfl⟩
theorem bk_28:bk 28 = some Zor:=by kernel_rfl
theorem ok_28:Z0w P 28 Zor:=⟨Try.f28,ZdS,Try.func28,rfl,by kernel_rfl,by kernel_rfl,rfl,rfl⟩
theorem bk_29:bk 29 = some Zop:=by kernel_rfl
theorem ok_29:Z0w P 29 Zop:=⟨Try.f29,ZaQ,Try.func29,rfl,by kernel_rfl,by kernel_rfl,rfl,rfl⟩
theorem bk_30:bk 30 = some Zon:=by kernel_rfl
theorem ok_30:Z0w P 30 Zon:=⟨Try.f30,Z5H,Try.func30,rfl,by kernel_rfl,by kernel_rfl,rfl,rfl⟩
theorem bk_31:bk 31 = some Zol:=by kernel_rfl
theorem ok_31:Z0w P 31 Zol:=⟨Try.f31,Z9x,Try.func31,rfl,by kernel_rfl,by kernel_rfl,rfl,rfl⟩
theorem bk_32:bk 32 = some Zoj:=by kernel_rfl
theorem ok_32:Z0w P 32 Zoj:=⟨Try.f32,Z2S,Try.func32,rfl,by kernel_rfl,by kernel_rfl,rfl,rfl⟩
theorem bk_33:bk 33 = some Zoh:=by kernel_rfl
theorem ok_33:Z0w P 33 Zoh:=⟨Try.f33,ZdR,Try.func33,rfl,by kernel_rfl,by kernel_rfl,rfl,rfl⟩
theorem bk_40:bk 40 = some ZiI:=by kernel_rfl
theorem ok_40:Z0w P 40 ZiI:=⟨Try.f40,Z10,Try.func40,rfl,by kernel_rfl,by kernel_rfl,rfl,rfl⟩
theorem bk_41:bk 41 = some Zfi:=by kernel_rfl
theorem ok_41:Z0w P 41 Zfi:=⟨Try.f41,ZaP,Try.func41,rfl,by kernel_rfl,by kernel_rfl,rfl,rfl⟩
theorem bk_42:bk 42 = some Zfh:=by kernel_rfl
theorem ok_42:Z0w P 42 Zfh:=⟨Try.f42,ZaO,Try.func42,rfl,by kernel_rfl,by kernel_rfl,rfl,rfl⟩
theorem bk_43:bk 43 = some Zff:=by kernel_rfl
theorem ok_43:Z0w P 43 Zff:=⟨Try.f43,Zfg,Try.func43,rfl,by kernel_rfl,by kernel_rfl,rfl,rfl⟩
theorem bk_44:bk 44 = some Zfe:=by kernel_rfl
theorem ok_44:Z0w P 44 Zfe:=⟨Try.f44,Z73,Try.func44,rfl,by kernel_rfl,by kernel_rfl,rfl,rfl⟩
theorem bk_45:bk 45 = some Zfd:=by kernel_rfl
theorem ok_45:Z0w P 45 Zfd:=⟨Try.f45,ZaN,Try.func45,rfl,by kernel_rfl,by kernel_rfl,rfl,rfl⟩
theorem bk_46:bk 46 = some Zfc:=by kernel_rfl
theorem ok_46:Z0w P 46 Zfc:=⟨Try.f46,ZkI,Try.func46,rfl,by kernel_rfl,by kernel_rfl,rfl,rfl⟩
theorem bk_47:bk 47 = some Zfb:=by kernel_rfl
theorem ok_47:Z0w P 47 Zfb:=⟨Try.f47,Z41,Try.func47,rfl,by kernel_rfl,by kernel_rfl,rfl,rfl⟩
theorem bk_48:bk 48 = some Zfa:=by kernel_rfl
theorem ok_48:Z0w P 48 Zfa:=⟨Try.f48,ZcZ,Try.func48,rfl,by kernel_rfl,by kernel_rfl,rfl,rfl⟩
theorem bk_49:bk 49 = some Zf9:=by kernel_rfl
theorem ok_49:Z0w P 49 Zf9:=⟨Try.f49,ZaM,Try.func49,rfl,by kernel_rfl,by kernel_rfl,rfl,rfl⟩
theorem bk_50:bk 50 = some Zf8:=by kernel_rfl
theorem ok_50:Z0w P 50 Zf8:=⟨Try.f50,ZqP,Try.func50,rfl,by kernel_rfl,by kernel_rfl,rfl,rfl⟩
theorem bk_53:bk 53 = some Ziz:=by kernel_rfl
theorem ok_53:Z0w P 53 Ziz:=⟨Try.f53,ZkD,Try.func53,rfl,by kernel_rfl,by kernel_rfl,rfl,rfl⟩
theorem bk_55:bk 55 = some Zf7:=by kernel_rfl
theorem ok_55:Z0w P 55 Zf7:=⟨Try.f55,ZqN,Try.func55,rfl,by kernel_rfl,by kernel_rfl,rfl,rfl⟩
theorem bk_56:bk 56 = some Zf6:=by kernel_rfl
theorem ok_56:Z0w P 56 Zf6:=⟨Try.f56,ZaL,Try.func56,rfl,by kernel_rfl,by kernel_rfl,rfl,rfl⟩
theorem bk_57:bk 57 = some Ziy:=by kernel_rfl
theorem ok_57:Z0w P 57 Ziy:=⟨Try.f57,Z0Z,Try.func57,rfl,by kernel_rfl,by kernel_rfl,rfl,rfl⟩
theorem bk_58:bk 58 = some Zoc:=by kernel_rfl
theorem ok_58:Z0w P 58 Zoc:=⟨Try.f58,Zf5,Try.func58,rfl,by kernel_rfl,by kernel_rfl,rfl,rfl⟩
theorem bk_59:bk 59 = some Zf4:=by kernel_rfl
theorem ok_59:Z0w P 59 Zf4:=⟨Try.f59,ZqK,Try.func59,rfl,by kernel_rfl,by kernel_rfl,rfl,rfl⟩
theorem bk_60:bk 60 = some Zf3:=by kernel_rfl
theorem ok_60:Z0w P 60 Zf3:=⟨Try.f60,ZqJ,Try.func60,rfl,by kernel_rfl,by kernel_rfl,rfl,rfl⟩
theorem bk_61:bk 61 = some Zoa:=by kernel_rfl
theorem ok_61:Z0w P 61 Zoa:=⟨Try.f61,Z2p,Try.func61,rfl,by kernel_rfl,by kernel_rfl,rfl,rfl⟩
theorem bk_62:bk 62 = some Zo8:=by kernel_rfl
theorem ok_62:Z0w P 62 Zo8:=⟨Try.f62,Z6D,Try.func62,rfl,by kernel_rfl,by kernel_rfl,rfl,rfl⟩
theorem bk_63:bk 63 = some Zo6:=by kernel_rfl
theorem ok_63:Z0w P 63 Zo6:=⟨Try.f63,ZdQ,Try.func63,rfl,by kernel_rfl,by kernel_rfl,rfl,rfl⟩
theorem bk_64:bk 64 = some Zo4:=by kernel_rfl
theorem ok_64:Z0w P 64 Zo4:=⟨Try.f64,Z60,Try.func64,rfl,by kernel_rfl,by kernel_rfl,rfl,rfl⟩
theorem bk_65:bk 65 = some Zo2:=by kernel_rfl
theorem ok_65:Z0w P 65 Zo2:=⟨Try.f65,ZaK,Try.func65,rfl,by kernel_rfl,by kernel_rfl,rfl,rfl⟩
theorem bk_66:bk 66 = some Zo0:=by kernel_rfl
theorem ok_66:Z0w P 66 Zo0:=⟨Try.f66,ZcT,Try.func66,rfl,by kernel_rfl,by kernel_rfl,rfl,rfl⟩
theorem bk_68:bk 68 = some Zis:=by kernel_rfl
theorem ok_68:Z0w P 68 Zis:=⟨Try.f68,Z7o,Try.func68,rfl,by kernel_rfl,by kernel_rfl,rfl,rfl⟩
theorem bk_69:bk 69 = some Ziq:=by kernel_rfl
theorem ok_69:Z0w P 69 Ziq:=⟨Try.f69,Z9w,Try.func69,rfl,by kernel_rfl,by kernel_rfl,rfl,rfl⟩
theorem bk_70:bk 70 = some Zf2:=by kernel_rfl
theorem ok_70:Z0w P 70 Zf2:=⟨Try.f70,Z7m,Try.func70,rfl,by kernel_rfl,by kernel_rfl,rfl,rfl⟩
theorem bk_71:bk 71 = some Zf1:=by kernel_rfl
theorem ok_71:Z0w P 71 Zf1:=⟨Try.f71,ZcP,Try.func71,rfl,by kernel_rfl,by kernel_rfl,rfl,rfl⟩
theorem bk_72:bk 72 = some Zf0:=by kernel_rfl
theorem ok_72:Z0w P 72 Zf0:=⟨Try.f72,Zqz,Try.func72,rfl,by kernel_rfl,by kernel_rfl,rfl,rfl⟩
theorem bk_73:bk 73 = some ZeZ:=by kernel_rfl
theorem ok_73:Z0w P 73 ZeZ:=⟨Try.f73,Zqy,Try.func73,rfl,by kernel_rfl,by kernel_rfl,rfl,rfl⟩
theorem bk_74:bk 74 = some ZeY:=by kernel_rfl
theorem ok_74:Z0w P 74 ZeY:=⟨Try.f74,Zam,Try.func74,rfl,by kernel_rfl,by kernel_rfl,rfl,rfl⟩
theorem bk_75:bk 75 = some ZeX:=by kernel_rfl
theorem ok_75:Z0w P 75 ZeX:=⟨Try.f75,Zqx,Try.func75,rfl,by kernel_rfl,by kernel_rfl,rfl,rfl⟩
theorem bk_76:bk 76 = some ZeW:=by kernel_rfl
theorem ok_76:Z0w P 76 ZeW:=⟨Try.f76,Zqw,Try.func76,rfl,by kernel_rfl,by kernel_rfl,rfl,rfl⟩
theorem bk_77:bk 77 = some ZeV:=by kernel_rfl
theorem ok_77:Z0w P 77 ZeV:=⟨Try.f77,Z72,Try.func77,rfl,by kernel_rfl,by kernel_rfl,rfl,rfl⟩
theorem bk_78:bk 78 = some ZnW:=by kernel_rfl
theorem ok_78:Z0w P 78 ZnW:=⟨Try.f78,ZdP,Try.func78,rfl,by kernel_rfl,by kernel_rfl,rfl,rfl⟩
theorem bk_79:bk 79 = some ZnT:=by kernel_rfl
theorem ok_79:Z0w P 79 ZnT:=⟨Try.f79,ZaJ,Try.func79,rfl,by kernel_rfl,by kernel_rfl,rfl,rfl⟩
theorem bk_80:bk 80 = some ZnR:=by kernel_rfl
theorem ok_80:Z0w P 80 ZnR:=⟨Try.f80,Z5Z,Try.func80,rfl,by kernel_rfl,by kernel_rfl,rfl,rfl⟩
theorem bk_81:bk 81 = some ZnP:=by kernel_rfl
theorem ok_81:Z0w P 81 ZnP:=⟨Try.f81,Z89,Try.func81,rfl,by kernel_rfl,by kernel_rfl,rfl,rfl⟩
theorem bk_82:bk 82 = some ZnN:=by kernel_rfl
theorem ok_82:Z0w P 82 ZnN:=⟨Try.f82,ZcO,Try.func82,rfl,by kernel_rfl,by kernel_rfl,rfl,rfl⟩
theorem bk_83:bk 83 = some ZeU:=by kernel_rfl
theorem ok_83:Z0w P 83 ZeU:=⟨Try.f83,Zqr,Try.func83,rfl,by kernel_rfl,by kernel_rfl,rfl,rfl⟩
theorem bk_84:bk 84 = some ZeT:=by kernel_rfl
theorem ok_84:Z0w P 84 ZeT:=⟨Try.f84,Zal,Try.func84,rfl,by kernel_rfl,by kernel_rfl,rfl,rfl⟩
theorem bk_85:bk 85 = some ZeS:=by kernel_rfl
theorem ok_85:Z0w P 85 ZeS:=⟨Try.f85,ZcN,Try.func85,rfl,by kernel_rfl,by kernel_rfl,rfl,rfl⟩
theorem bk_86:bk 86 = some ZeR:=by kernel_rfl
theorem ok_86:Z0w P 86 ZeR:=⟨Try.f86,ZcM,Try.func86,rfl,by kernel_rfl,by kernel_rfl,rfl,rfl⟩
theorem bk_87:bk 87 = some ZeQ:=by kernel_rfl
theorem ok_87:Z0w P 87 ZeQ:=⟨Try.f87,ZnM,Try.func87,rfl,by kernel_rfl,by kernel_rfl,rfl,rfl⟩
theorem bk_88:bk 88 = some ZeP:=by kernel_rfl
theorem ok_88:Z0w P 88 ZeP:=⟨Try.f88,Zqq,Try.func88,rfl,by kernel_rfl,by kernel_rfl,rfl,rfl⟩
theorem bk_89:bk 89 = some ZeO:=by kernel_rfl
theorem ok_89:Z0w P 89 ZeO:=⟨Try.f89,Zqp,Try.func89,rfl,by kernel_rfl,by kernel_rfl,rfl,rfl⟩
theorem bk_90:bk 90 = some ZeN:=by kernel_rfl
theorem ok_90:Z0w P 90 ZeN:=⟨Try.f90,ZcL,Try.func90,rfl,by kernel_rfl,by kernel_rfl,rfl,rfl⟩
theorem bk_91:bk 91 = some ZeM:=by kernel_rfl
theorem ok_91:Z0w P 91 ZeM:=⟨Try.f91,ZaI,Try.func91,rfl,by kernel_rfl,by kernel_rfl,rfl,rfl⟩
theorem bk_ok:Z7L P bk:=fun f a e=>BT.look_all (Q:=Z0w P) (t:=bkT) (ai ok_56 (ai (ai ok_30 (ai (ai ok_18 (ai (ai ok_14 (ai (ai ok_12 (ai (ai ok_11 (ai (ai ok_6 (ai tt tt)) tt)) (ai ok_13 (ai tt tt)))) (ai ok_16 (ai (ai ok_15 (ai tt tt)) (ai ok_17 (ai tt tt)))))) (ai ok_26 (ai (ai ok_23 (ai (ai ok_21 (ai (ai ok_20 (ai tt tt)) tt)) (ai ok_25 (ai tt tt)))) (ai ok_28 (ai (ai ok_27 (ai tt tt)) (ai ok_29 (ai tt tt)))))))) (ai ok_45 (ai (ai ok_41 (ai (ai ok_33 (ai (ai ok_32 (ai (ai ok_31 (ai tt tt)) tt)) (ai ok_40 (ai tt tt)))) (ai ok_43 (ai (ai ok_42 (ai tt tt)) (ai ok_44 (ai tt tt)))))) (ai ok_49 (ai (ai ok_47 (ai (ai ok_46 (ai tt tt)) (ai ok_48 (ai tt tt)))) (ai ok_53 (ai (ai ok_50 (ai tt tt)) (ai ok_55 (ai tt tt)))))))))) (ai ok_75 (ai (ai ok_65 (ai (ai ok_61 (ai (ai ok_59 (ai (ai ok_58 (ai (ai ok_57 (ai tt tt)) tt)) (ai ok_60 (ai tt tt)))) (ai ok_63 (ai (ai ok_62 (ai tt tt)) (ai ok_64 (ai tt tt)))))) (ai ok_71 (ai (ai ok_69 (ai (ai ok_68 (ai (ai ok_66 (ai tt tt)) tt)) (ai ok_70 (ai tt tt)))) (ai ok_73 (ai (ai ok_72 (ai tt tt)) (ai ok_74 (ai tt tt)))))))) (ai ok_84 (ai (ai ok_80 (ai (ai ok_78 (ai (ai ok_77 (ai (ai ok_76 (ai tt tt)) tt)) (ai ok_79 (ai tt tt)))) (ai ok_82 (ai (ai ok_81 (ai tt tt)) (ai ok_83 (ai tt tt)))))) (ai ok_88 (ai (ai ok_86 (ai (ai ok_85 (ai tt tt)) (ai ok_87 (ai tt tt)))) (ai ok_90 (ai (ai ok_89 (ai tt tt)) (ai ok_91 (ai tt tt)))))))))))) e
theorem mixed:P.follows .mixedOrders = true:=by kernel_rfl
def selF:List Nat:=[83,91,59,77,71,44,14,16,23,24,25,27,26,30,31,34,35,36,37,38,19,45,49,53,54,57,62,64,67,68,40,78,80,87,22,29]
def selL:List Nat:=[13000,13001,14001,15000,15001,15002,18000,21000,23001,23002,25000,29000,30001,31000,32000,32001,32002,32003,33000,40001,40002,41000,42000,44001,46000,47001,48000,51000,52000,56000,57000,57004,61000,61001,61002,61003,62000,62001,62002,63000,64000,64001,64002,65000,66000,67000,69000,71000,74000,78000,79000,80000,80001,81000,81001,82000,84000,85000,90000,86000]
def Zrn (x:Nat):List Nat -> Bool
 | []=>false
 | y :: ys=>cond (Nat.beq x y) true (Zrn x ys)
def sel:Key -> Bool
 | .fn f=>!(Zrn f selF)
 | .lp j _ _ _ _ _=>Zrn j selL
 | .rnd ..=>false
noncomputable def ext:Fo FH:=fun f args h c=>match args with
 | []=>cond (Zrn f [11]) (some { e:=.ret,vs:=[.bool true],h:=h,c:=c,df:=[] }) none
 | _=>none
noncomputable abbrev G:Orc FH:=Z7U P bk sel ext
end Go.Proofs.Ytcnndelmnobigaa
