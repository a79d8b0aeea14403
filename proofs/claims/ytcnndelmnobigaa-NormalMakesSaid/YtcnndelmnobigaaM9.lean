/- Parts of a proof: K. Conditions: none. -/
import Derived.Test.YtcnndelmnobigaaChecked
import Derived.KernelRfl
import Derived.Test.YtcnndelmnobigaaM6
import Derived.Test.YtcnndelmnobigaaM7
import Derived.Test.YtcnndelmnobigaaM8
set_option linter.all false
set_option maxRecDepth 100000
namespace Go.Proofs.Ytcnndelmnobigaa
open Go Go.Ab Go.Proofs
variable {H:Type} [HeapC H]
noncomputable abbrev P:=Try.prog
noncomputable def Zbh:Code:=Z0h Try.f9
noncomputable def f9_c:ACode:=(.seq (rg 0 Zbh 2 false) (.seq (.seq (rg 1 Zbh 9 false) (.cond (.tmp 16) (.seq (rg 2 Zbh 37 false) .ret) .skip)) (.seq (.seq (rg 3 Zbh 19 false) (.cond (.tmp 27) (.seq (rg 4 Zbh 75 false) .ret) .skip)) (.seq (rg 5 Zbh 23 false) (.seq (rg 6 Zbh 47 false) (.seq (.seq (rg 7 Zbh 159 false) (.cond (.tmp 50) (.seq (rg 8 Zbh 607 false) .ret) .skip)) (.seq (rg 9 Zbh 191 false) (.seq (rg 10 Zbh 383 false) (.seq (.seq (rg 11 Zbh 1279 false) (.cond (.tmp 71) (.seq (rg 12 Zbh 4863 false) .ret) .skip)) (.seq (rg 13 Zbh 1535 false) (.seq (rg 14 Zbh 3071 false) (.seq (.seq (rg 15 Zbh 10239 false) (.cond (.tmp 92) (.seq (rg 16 Zbh 38911 false) .ret) .skip)) (.seq (rg 17 Zbh 12287 false) (.seq (rg 18 Zbh 24575 false) (.seq (rg 19 Zbh 49151 false) .ret)))))))))))))))
noncomputable def f9_f:AFun:={ code:=f9_c,nt:=120,res:=Try.f9.results.toList,fr:=[] }
noncomputable def Z6o:Code:=Z0h Try.f11
noncomputable def f11_c:ACode:=(.seq (rg 0 Z6o 2 false) (.seq (rg 1 Z6o 5 false) (.seq (rg 2 Z6o 11 false) (.seq (rg 3 Z6o 23 false) (.seq (.seq (rg 4 Z6o 79 false) (.cond (.tmp 50) (.seq (rg 5 Z6o 303 false) .ret) .skip)) (.seq (rg 6 Z6o 95 true) (.seq (rg 7 Z6o 191 true) (.seq (rg 8 Z6o 383 true) (.seq (rg 9 Z6o 767 false) (.seq (rg 10 Z6o 1535 false) (.seq (.seq (rg 11 Z6o 5119 false) (.cond (.tmp 128) (.seq (rg 12 Z6o 19455 false) .ret) .skip)) (.seq (rg 13 Z6o 6143 false) (.seq (rg 14 Z6o 12287 false) (.seq (rg 15 Z6o 24575 false) .ret))))))))))))))
noncomputable def Zjy:AFun:={ code:=f11_c,nt:=175,res:=Try.f11.results.toList,fr:=[] }
noncomputable def ZrD:Code:=Z0h Try.f12
noncomputable def f12_c:ACode:=(.seq (rg 0 ZrD 2 false) (.seq (rg 1 ZrD 5 false) .ret))
noncomputable def Zp6:AFun:={ code:=f12_c,nt:=7,res:=Try.f12.results.toList,fr:=[] }
noncomputable def Z63:Code:=Z0h Try.f13
noncomputable def Z41:ACode:=(.seq (.seq (rg 8 Z63 33943 false) (.cond (.tmp 18) .skip (.exit 2))) (.seq (.join [(.normal,[1,2,3,4,5]),(.ret,[1,2,3,4,5])] (.block 3 (.seq (rg 10 Z63 140439 false) (.seq (.seq (rg 11 Z63 599191 false) (.cond (.tmp 36) (.exit 3) .skip)) (.seq (.seq (rg 12 Z63 1254551 false) (.cond (.tmp 65) (.seq (rg 13 Z63 4924567 false) .ret) .skip)) (.seq (rg 14 Z63 1516695 true) (.cond (.tmp 82) (.seq (rg 15 Z63 5186711 false) .ret) .skip))))))) (rg 9 Z63 58519 false)))
noncomputable def Z3Z (rd:Option Nat):Key:=.lp 13001 [1,2,3,4,5] [] Z41 83 rd
noncomputable def Z42:ACode:=(.seq (.seq (rg 5 Z63 535 false) (.cond (.tmp 14) .skip (.exit 0))) (.seq (.block 1 (.seq (rg 7 Z63 2199 false) (.block 2 (.loop 13001 [1,2,3,4,5] [] [(.exit 2),.ret] Z41)))) (rg 6 Z63 919 false)))
noncomputable def Z40 (rd:Option Nat):Key:=.lp 13000 [1,2,3,4] [] Z42 83 rd
noncomputable def f13_c:ACode:=(.seq (rg 0 Z63 2 false) (.seq (rg 1 Z63 5 false) (.seq (.seq (rg 2 Z63 19 false) (.cond (.tmp 11) (.seq (rg 3 Z63 75 false) .ret) .skip)) (.seq (.seq (rg 4 Z63 39 false) (.block 0 (.loop 13000 [1,2,3,4] [] [(.exit 0),.ret] Z42))) (.seq (rg 16 Z63 47 false) .ret)))))
noncomputable def Zg5:AFun:={ code:=f13_c,nt:=83,res:=Try.f13.results.toList,fr:=[] }
noncomputable def Z56:Code:=Z0h Try.f14
noncomputable def Z3X:ACode:=(.seq (rg 11 Z56 570159 false) (.seq (.cond (.tmp 44) .skip (.exit 2)) (.seq (.block 3 (.seq (rg 12 Z56 9220911 false) (.seq (rg 13 Z56 21803823 false) (.join [(.normal,[1,5,7,9,10,26,27,28,42,43])] (.cond (.tmp 52) (rg 14 Z56 46969647 false) .skip))))) (rg 15 Z56 3978031 false))))
noncomputable def Zjv (rd:Option Nat):Key:=.lp 14001 [1,5,7,9,10,26,27,28,42,43] [] Z3X 68 rd
noncomputable def Z3Y:ACode:=(.seq (rg 7 Z56 559 false) (.seq (.cond (.tmp 29) .skip (.exit 0)) (.seq (.block 1 (.seq (rg 8 Z56 9007 false) (.seq (rg 9 Z56 21295 false) (.seq (.seq (rg 10 Z56 78639 false) (.block 2 (.loop 14001 [1,5,7,9,10,26,27,28,42,43] [] [(.exit 2)] Z3X))) (rg 16 Z56 62255 false))))) (rg 17 Z56 3887 false))))
noncomputable def Zjw (rd:Option Nat):Key:=.lp 14000 [1,5,7,26,27,28] [] Z3Y 68 rd
noncomputable def f14_c:ACode:=(.seq (rg 0 Z56 2 false) (.seq (.seq (rg 1 Z56 9 false) (.seq (rg 2 Z56 21 false) (.cond (.tmp 15) (.seq (rg 3 Z56 77 false) .ret) .skip))) (.seq (rg 4 Z56 11 false) (.seq (rg 5 Z56 23 false) (.seq (.seq (rg 6 Z56 79 false) (.block 0 (.loop 14000 [1,5,7,26,27,28] [] [(.exit 0)] Z3Y))) (.seq (rg 18 Z56 95 false) .ret))))))
noncomputable def Zjx:AFun:={ code:=f14_c,nt:=68,res:=Try.f14.results.toList,fr:=[] }
noncomputable def Z4l:Code:=Z0h Try.f15
noncomputable def Z3U:ACode:=(.seq (rg 13 Z4l 37329303 false) (.seq (.cond (.tmp 64) .skip (.exit 4)) (.seq (.block 5 (.seq (rg 14 Z4l 590977431 false) (.seq (rg 15 Z4l 1396283799 false) (.join [(.normal,[1,7,8,10,28,29,30,35,36,63])] (.cond (.tmp 68) (rg 16 Z4l 3006896535 false) .skip))))) (rg 17 Z4l 255433111 false))))
noncomputable def Zjr (rd:Option Nat):Key:=.lp 15002 [1,7,8,10,28,29,30,35,36,63] [] Z3U 80 rd
noncomputable def Z3V:ACode:=(.seq (rg 9 Z4l 72087 false) (.seq (.cond (.tmp 37) .skip (.exit 2)) (.seq (.join [(.normal,[1,7,8,28,29,30,35,36])] (.block 3 (.seq (rg 10 Z4l 1153431 false) (.seq (.seq (rg 11 Z4l 4823447 false) (.cond (.tmp 62) (.exit 3) .skip)) (.seq (rg 12 Z4l 5872023 false) (.block 4 (.loop 15002 [1,7,8,10,28,29,30,35,36,63] [] [(.exit 4)] Z3U))))))) (rg 18 Z4l 498071 false))))
noncomputable def Zjs (rd:Option Nat):Key:=.lp 15001 [1,7,8,28,29,30,35,36] [] Z3V 80 rd
noncomputable def Z3W:ACode:=(.seq (rg 6 Z4l 279 false) (.seq (.cond (.tmp 31) .skip (.exit 0)) (.seq (.block 1 (.seq (rg 7 Z4l 4503 false) (.seq (rg 8 Z4l 10647 false) (.block 2 (.loop 15001 [1,7,8,28,29,30,35,36] [] [(.exit 2)] Z3V))))) (rg 19 Z4l 1943 false))))
noncomputable def Zjt (rd:Option Nat):Key:=.lp 15000 [1,7,28,29,30] [] Z3W 80 rd
noncomputable def f15_c:ACode:=(.seq (rg 0 Z4l 2 false) (.seq (.seq (rg 1 Z4l 9 false) (.seq (rg 2 Z4l 21 false) (.cond (.tmp 18) (.seq (rg 3 Z4l 77 false) .ret) .skip))) (.seq (rg 4 Z4l 11 false) (.seq (.seq (rg 5 Z4l 39 false) (.block 0 (.loop 15000 [1,7,28,29,30] [] [(.exit 0)] Z3W))) (.seq (rg 20 Z4l 47 false) .ret)))))
noncomputable def Zju:AFun:={ code:=f15_c,nt:=80,res:=Try.f15.results.toList,fr:=[] }
noncomputable def Zjq:Code:=Z0h Try.f16
noncomputable def f16_c:ACode:=(.seq (rg 0 Zjq 2 false) (.seq (.seq (rg 1 Zjq 9 false) (.seq (rg 2 Zjq 21 false) (.cond (.tmp 12) (.seq (rg 3 Zjq 77 false) .ret) .skip))) (.seq (rg 4 Zjq 11 false) .ret)))
noncomputable def Zjp:AFun:={ code:=f16_c,nt:=17,res:=Try.f16.results.toList,fr:=[] }
noncomputable def Zry:Code:=Z0h Try.f17
noncomputable def f17_c:ACode:=(.seq (rg 0 Zry 2 false) (.seq (rg 1 Zry 5 false) .ret))
noncomputable def Zjo:AFun:={ code:=f17_c,nt:=9,res:=Try.f17.results.toList,fr:=[] }
noncomputable def ZeI:Code:=Z0h Try.f18
noncomputable def Z9B:ACode:=(.seq (.seq (rg 2 ZeI 133 false) (.cond (.tmp 7) .skip (.exit 0))) (.seq (.block 1 (.seq (rg 4 ZeI 549 false) (.cond (.tmp 15) (.seq (rg 5 ZeI 2341 false) .ret) .skip))) (rg 3 ZeI 229 false)))
noncomputable def ZcH (rd:Option Nat):Key:=.lp 18000 [0,2,3] [] Z9B 16 rd
noncomputable def f18_c:ACode:=(.seq (rg 0 ZeI 2 false) (.seq (.seq (rg 1 ZeI 9 false) (.block 0 (.loop 18000 [0,2,3] [] [(.exit 0),.ret] Z9B))) (.seq (rg 6 ZeI 11 false) .ret)))
noncomputable def Zp0:AFun:={ code:=f18_c,nt:=16,res:=Try.f18.results.toList,fr:=[] }
noncomputable def Zg4:Code:=Z0h Try.f20
noncomputable def f20_c:ACode:=(.seq (rg 0 Zg4 2 false) (.seq (.seq (rg 1 Zg4 9 false) (.cond (.tmp 7) (.seq (rg 2 Zg4 37 false) .ret) .skip)) (.seq (.seq (rg 3 Zg4 19 false) (.cond (.tmp 12) (.seq (rg 4 Zg4 75 false) .ret) .skip)) (.seq (rg 5 Zg4 23 false) .ret))))
noncomputable def ZoX:AFun:={ code:=f20_c,nt:=19,res:=Try.f20.results.toList,fr:=[] }
noncomputable def Zbp:Code:=Z0h Try.f21
noncomputable def Z3T:ACode:=(.seq (.seq (rg 4 Zbp 267 false) (.cond (.tmp 14) .skip (.exit 0))) (.seq (.block 1 (.seq (rg 6 Zbp 1099 true) (.cond (.tmp 25) (.seq (rg 7 Zbp 4683 false) .ret) .skip))) (rg 5 Zbp 459 false)))
noncomputable def ZcG (rd:Option Nat):Key:=.lp 21000 [0,1,4,5] [] Z3T 26 rd
noncomputable def f21_c:ACode:=(.seq (rg 0 Zbp 2 false) (.seq (.seq (rg 1 Zbp 9 false) (.cond (.tmp 10) (.seq (rg 2 Zbp 37 false) .ret) .skip)) (.seq (.seq (rg 3 Zbp 19 false) (.block 0 (.loop 21000 [0,1,4,5] [] [(.exit 0),.ret] Z3T))) (.seq (rg 8 Zbp 23 false) .ret))))
noncomputable def Zg3:AFun:={ code:=f21_c,nt:=26,res:=Try.f21.results.toList,fr:=[] }
noncomputable def Z2x:Code:=Z0h Try.f23
noncomputable def Z3Q:ACode:=(.seq (rg 12 Z2x 1140319 false) (.seq (.cond (.tmp 55) .skip (.exit 2)) (.seq (.block 3 (.seq (rg 13 Z2x 18441823 false) (.seq (rg 14 Z2x 43607647 false) (.join [(.normal,[1,4,5,8,11,12,33,34,35,53,54])] (.cond (.tmp 63) (rg 15 Z2x 93939295 false) .skip))))) (rg 16 Z2x 7956063 false))))
noncomputable def ZcF (rd:Option Nat):Key:=.lp 23001 [1,4,5,8,11,12,33,34,35,53,54] [] Z3Q 112 rd
noncomputable def Z3P:ACode:=(.seq (rg 18 Z2x 2287199 false) (.seq (.cond (.tmp 83) .skip (.exit 4)) (.seq (.block 5 (.seq (rg 19 Z2x 36890207 false) (.seq (rg 20 Z2x 87221855 false) (.join [(.normal,[1,4,5,8,11,12,33,34,35,81,82])] (.cond (.tmp 91) (rg 21 Z2x 187885151 false) .skip))))) (rg 22 Z2x 15918687 false))))
noncomputable def ZcE (rd:Option Nat):Key:=.lp 23002 [1,4,5,8,11,12,33,34,35,81,82] [] Z3P 112 rd
noncomputable def Z3R:ACode:=(.seq (rg 8 Z2x 1119 false) (.seq (.cond (.tmp 36) .skip (.exit 0)) (.seq (.block 1 (.seq (rg 9 Z2x 18015 false) (.seq (rg 10 Z2x 42591 false) (.seq (.seq (rg 11 Z2x 157279 false) (.block 2 (.loop 23001 [1,4,5,8,11,12,33,34,35,53,54] [] [(.exit 2)] Z3Q))) (.seq (.seq (rg 17 Z2x 321119 false) (.block 4 (.loop 23002 [1,4,5,8,11,12,33,34,35,81,82] [] [(.exit 4)] Z3P))) (rg 23 Z2x 255583 false)))))) (rg 24 Z2x 7775 false))))
noncomputable def Z9A (rd:Option Nat):Key:=.lp 23000 [1,4,5,8,33,34,35] [] Z3R 112 rd
noncomputable def f23_c:ACode:=(.seq (rg 0 Z2x 2 false) (.seq (.seq (rg 1 Z2x 9 false) (.seq (rg 2 Z2x 21 false) (.cond (.tmp 20) (.seq (rg 3 Z2x 77 false) .ret) .skip))) (.seq (rg 4 Z2x 11 false) (.seq (rg 5 Z2x 23 false) (.seq (rg 6 Z2x 47 false) (.seq (.seq (rg 7 Z2x 159 false) (.block 0 (.loop 23000 [1,4,5,8,33,34,35] [] [(.exit 0)] Z3R))) (.seq (rg 25 Z2x 191 false) .ret)))))))
noncomputable def Zg2:AFun:={ code:=f23_c,nt:=112,res:=Try.f23.results.toList,fr:=[] }
noncomputable def Zjn:Code:=Z0h Try.f24
noncomputable def f24_c:ACode:=(.seq (rg 0 Zjn 2 false) (.seq (.seq (rg 1 Zjn 9 false) (.seq (rg 2 Zjn 21 false) (.cond (.tmp 12) (.seq (rg 3 Zjn 77 false) .ret) .skip))) (.seq (rg 4 Zjn 11 false) .ret)))
noncomputable def ZoV:AFun:={ code:=f24_c,nt:=17,res:=Try.f24.results.toList,fr:=[] }
noncomputable def Z6n:Code:=Z0h Try.f25
noncomputable def Z3N:ACode:=(.seq (rg 7 Z6n 279 false) (.seq (.cond (.tmp 31) .skip (.exit 0)) (.seq (.block 1 (.seq (rg 8 Z6n 4503 false) (.seq (rg 9 Z6n 10647 false) (.cond (.tmp 41) (.seq (rg 10 Z6n 39319 false) .ret) .skip)))) (rg 11 Z6n 1943 false))))
noncomputable def ZcD (rd:Option Nat):Key:=.lp 25000 [1,2,4,5,29,30] [] Z3N 52 rd
noncomputable def f25_c:ACode:=(.seq (rg 0 Z6n 2 false) (.seq (.seq (rg 1 Z6n 9 false) (.seq (rg 2 Z6n 21 false) (.cond (.tmp 13) (.seq (rg 3 Z6n 77 false) .ret) .skip))) (.seq (.seq (rg 4 Z6n 19 false) (.cond (.tmp 26) (.seq (rg 5 Z6n 75 false) .ret) .skip)) (.seq (.seq (rg 6 Z6n 39 false) (.block 0 (.loop 25000 [1,2,4,5,29,30] [] [(.exit 0),.ret] Z3N))) (.seq (rg 12 Z6n 47 false) (.seq (.seq (rg 13 Z6n 159 false) (.cond (.tmp 50) (.seq (rg 14 Z6n 607 false) .ret) .skip)) (.seq (rg 15 Z6n 191 false) .ret)))))))
noncomputable def Zg1:AFun:={ code:=f25_c,nt:=52,res:=Try.f25.results.toList,fr:=[] }
noncomputable def Z2w:Code:=Z0h Try.f26
noncomputable def Z9w:ACode:=(.seq (.seq (rg 14 Z2w 17713455 false) (.cond (.tmp 55) .skip (.exit 4))) (.seq (.join [(.normal,[1,5,6,7,8,9])] (.block 5 (.seq (.seq (rg 16 Z2w 139348271 false) (.cond (.tmp 60) (.exit 5) .skip)) (.seq (rg 17 Z2w 172902703 false) (.seq (rg 18 Z2w 374229295 false) (.seq (rg 19 Z2w 776882479 false) (.seq (rg 20 Z2w 1582188847 false) (.seq (rg 21 Z2w 3192801583 false) (.seq (rg 22 Z2w 6414027055 false) (.seq (rg 23 Z2w 12856477999 true) (rg 24 Z2w 17151445295 false))))))))))) (rg 15 Z2w 30296367 false)))
noncomputable def ZcB (rd:Option Nat):Key:=.lp 26002 [1,5,6,7,8,9] [] Z9w 123 rd
noncomputable def Z9x:ACode:=(.seq (.seq (rg 9 Z2w 67887 false) (.cond (.tmp 26) .skip (.exit 2))) (.seq (.join [(.normal,[1,5,6,7])] (.block 3 (.seq (rg 11 Z2w 280879 false) (.seq (.seq (rg 12 Z2w 1198383 false) (.cond (.tmp 53) (.exit 3) .skip)) (.seq (rg 13 Z2w 1460527 false) (.block 4 (.loop 26002 [1,5,6,7,8,9] [] [(.exit 4)] Z9w))))))) (rg 10 Z2w 117039 false)))
noncomputable def Z6P (rd:Option Nat):Key:=.lp 26001 [1,5,6,7] [] Z9x 123 rd
noncomputable def Z9y:ACode:=(.seq (.seq (rg 6 Z2w 1071 false) (.cond (.tmp 22) .skip (.exit 0))) (.seq (.block 1 (.seq (rg 8 Z2w 4399 false) (.block 2 (.loop 26001 [1,5,6,7] [] [(.exit 2)] Z9x)))) (rg 7 Z2w 1839 false)))
noncomputable def ZcC (rd:Option Nat):Key:=.lp 26000 [1,5,6] [] Z9y 123 rd
noncomputable def f26_c:ACode:=(.seq (rg 0 Z2w 2 false) (.seq (rg 1 Z2w 5 false) (.seq (.seq (rg 2 Z2w 19 false) (.cond (.tmp 16) (.seq (rg 3 Z2w 75 false) .ret) .skip)) (.seq (rg 4 Z2w 23 false) (.seq (.seq (rg 5 Z2w 79 false) (.block 0 (.loop 26000 [1,5,6] [] [(.exit 0)] Z9y))) (.seq (rg 25 Z2w 95 false) .ret))))))
noncomputable def ZoT:AFun:={ code:=f26_c,nt:=123,res:=Try.f26.results.toList,fr:=[] }
noncomputable def ZeH:Code:=Z0h Try.f28
noncomputable def f28_c:ACode:=(.seq (rg 0 ZeH 2 false) (.seq (rg 1 ZeH 5 false) (.seq (.seq (rg 2 ZeH 19 false) (.cond (.tmp 9) (.seq (rg 3 ZeH 75 false) .ret) .skip)) (.seq (.seq (rg 4 ZeH 39 false) (.cond (.tmp 14) (.seq (rg 5 ZeH 151 false) .ret) .skip)) (.seq (rg 6 ZeH 47 false) .ret)))))
noncomputable def ZoR:AFun:={ code:=f28_c,nt:=15,res:=Try.f28.results.toList,fr:=[] }
noncomputable def ZeG:Code:=Z0h Try.f33
noncomputable def Z9u:ACode:=(.seq (.seq (rg 3 ZeG 267 false) (.cond (.tmp 10) .skip (.exit 0))) (.seq (.block 1 (rg 5 ZeG 587 true)) (rg 4 ZeG 459 false)))
noncomputable def ZcA (rd:Option Nat):Key:=.lp 33000 [0,1,5,6] [] Z9u 25 rd
noncomputable def f33_c:ACode:=(.seq (rg 0 ZeG 2 false) (.seq (rg 1 ZeG 5 false) (.seq (.seq (rg 2 ZeG 19 false) (.block 0 (.loop 33000 [0,1,5,6] [] [(.exit 0)] Z9u))) (.seq (rg 6 ZeG 23 false) .ret))))
noncomputable def ZoP:AFun:={ code:=f33_c,nt:=25,res:=Try.f33.results.toList,fr:=[] }
noncomputable def Z7m:Code:=Z0h Try.f34
noncomputable def Z9s:ACode:=(.seq (rg 6 Z7m 279 false) (.seq (.cond (.tmp 26) .skip (.exit 0)) (.seq (.block 1 (.seq (rg 7 Z7m 4503 false) (.seq (rg 8 Z7m 10647 false) (.cond (.tmp 37) (.seq (rg 9 Z7m 39319 false) .ret) .skip)))) (rg 10 Z7m 1943 false))))
noncomputable def Zcz (rd:Option Nat):Key:=.lp 34000 [6,7,9,24,25] [] Z9s 43 rd
noncomputable def f34_c:ACode:=(.seq (rg 0 Z7m 2 false) (.seq (.seq (rg 1 Z7m 9 false) (.seq (rg 2 Z7m 21 false) (.cond (.tmp 17) (.seq (rg 3 Z7m 77 false) .ret) .skip))) (.seq (rg 4 Z7m 11 false) (.seq (.seq (rg 5 Z7m 39 false) (.block 0 (.loop 34000 [6,7,9,24,25] [] [(.exit 0),.ret] Z9s))) (.seq (.seq (rg 11 Z7m 79 false) (.cond (.tmp 41) (.seq (rg 12 Z7m 303 false) .ret) .skip)) (.seq (rg 13 Z7m 95 false) .ret))))))
noncomputable def ZoN:AFun:={ code:=f34_c,nt:=43,res:=Try.f34.results.toList,fr:=[] }
noncomputable def Z2e:Code:=Z0h Try.f35
noncomputable def Z9r:ACode:=(.seq (.seq (rg 10 Z2e 8575 false) (.cond (.tmp 33) .skip (.exit 0))) (.seq (.block 1 (.seq (rg 12 Z2e 35199 true) (rg 13 Z2e 51583 false))) (rg 11 Z2e 14719 false)))
noncomputable def Zcy (rd:Option Nat):Key:=.lp 35000 [1,2,3,6,7,9,10,11] [] Z9r 82 rd
noncomputable def Z9p:ACode:=(.seq (.seq (rg 19 Z2e 4363007 false) (.cond (.tmp 64) .skip (.exit 4))) (.seq (.block 5 (.seq (rg 21 Z2e 17994495 false) (.join [(.normal,[3,6,7,9,10,12,13,14])] (.cond (.tmp 75) (rg 22 Z2e 43160319 false) .skip)))) (rg 20 Z2e 7508735 false)))
noncomputable def Zcw (rd:Option Nat):Key:=.lp 35002 [3,6,7,9,10,12,13,14] [] Z9p 82 rd
noncomputable def Z9q:ACode:=(.seq (.seq (rg 15 Z2e 17151 false) (.cond (.tmp 60) .skip (.exit 2))) (.seq (.block 3 (.seq (rg 17 Z2e 70399 false) (.seq (.seq (rg 18 Z2e 299775 false) (.block 4 (.loop 35002 [3,6,7,9,10,12,13,14] [] [(.exit 4)] Z9p))) (.seq (rg 23 Z2e 365311 false) (.cond (.tmp 79) (.seq (rg 24 Z2e 1282815 false) .ret) .skip))))) (rg 16 Z2e 29439 false)))
noncomputable def Zcx (rd:Option Nat):Key:=.lp 35001 [3,6,7,9,10,12] [] Z9q 82 rd
noncomputable def f35_c:ACode:=(.seq (rg 0 Z2e 2 false) (.seq (rg 1 Z2e 5 false) (.seq (.seq (rg 2 Z2e 19 false) (.cond (.tmp 19) (.seq (rg 3 Z2e 75 false) .ret) .skip)) (.seq (rg 4 Z2e 23 false) (.seq (.seq (rg 5 Z2e 79 false) (.cond (.tmp 25) (.seq (rg 6 Z2e 303 false) .ret) .skip)) (.seq (rg 7 Z2e 95 false) (.seq (rg 8 Z2e 191 false) (.seq (.seq (rg 9 Z2e 639 false) (.block 0 (.loop 35000 [1,2,3,6,7,9,10,11] [] [(.exit 0)] Z9r))) (.seq (.seq (rg 14 Z2e 1279 false) (.block 2 (.loop 35001 [3,6,7,9,10,12] [] [(.exit 2),.ret] Z9q))) (.seq (.seq (rg 25 Z2e 2559 false) (.cond (.tmp 80) (.seq (rg 26 Z2e 9727 false) .ret) .skip)) (.seq (rg 27 Z2e 3071 false) .ret)))))))))))
noncomputable def ZoL:AFun:={ code:=f35_c,nt:=82,res:=Try.f35.results.toList,fr:=[] }
noncomputable def ZaY:Code:=Z0h Try.f36
noncomputable def Z9n:ACode:=(.seq (.seq (rg 6 ZaY 1071 false) (.cond (.tmp 19) .skip (.exit 0))) (.seq (.block 1 (rg 8 ZaY 2351 false)) (rg 7 ZaY 1839 false)))
noncomputable def Zcv (rd:Option Nat):Key:=.lp 36000 [1,2,7,8] [] Z9n 33 rd
noncomputable def f36_c:ACode:=(.seq (rg 0 ZaY 2 false) (.seq (rg 1 ZaY 5 false) (.seq (.seq (rg 2 ZaY 19 false) (.cond (.tmp 13) (.seq (rg 3 ZaY 75 false) .ret) .skip)) (.seq (rg 4 ZaY 23 false) (.seq (.seq (rg 5 ZaY 79 false) (.block 0 (.loop 36000 [1,2,7,8] [] [(.exit 0)] Z9n))) (.seq (rg 9 ZaY 95 false) .ret))))))
noncomputable def ZoJ:AFun:={ code:=f36_c,nt:=33,res:=Try.f36.results.toList,fr:=[] }
noncomputable def Z0E:Code:=Z0h Try.f37
noncomputable def Z9h:ACode:=(.seq (.seq (rg 12 Z0E 545375 false) (.cond (.tmp 46) .skip (.exit 2))) (.seq (.block 3 (.seq (.seq (rg 14 Z0E 4346463 false) (.cond (.tmp 66) (.seq (rg 15 Z0E 19026527 false) .ret) .skip)) (.seq (rg 16 Z0E 5395039 false) (.join [(.normal,[1,2,4,5,7,8,9,10])] (.cond (.tmp 74) (rg 17 Z0E 11686495 false) .skip))))) (rg 13 Z0E 938591 false)))
noncomputable def Zct (rd:Option Nat):Key:=.lp 37001 [1,2,4,5,7,8,9,10] [] Z9h 294 rd
noncomputable def Z9i:ACode:=(.seq (.seq (rg 8 Z0E 2143 false) (.cond (.tmp 42) .skip (.exit 0))) (.seq (.block 1 (.seq (rg 10 Z0E 8799 false) (.seq (.seq (rg 11 Z0E 37471 false) (.block 2 (.loop 37001 [1,2,4,5,7,8,9,10] [] [(.exit 2),.ret] Z9h))) (.seq (rg 18 Z0E 45663 false) (.cond (.tmp 78) (.seq (rg 19 Z0E 160351 false) .ret) .skip))))) (rg 9 Z0E 3679 false)))
noncomputable def Zcu (rd:Option Nat):Key:=.lp 37000 [1,2,4,5,7,8] [] Z9i 294 rd
noncomputable def Z9f:ACode:=(.seq (.seq (rg 27 Z0E 2172415 false) (.cond (.tmp 93) .skip (.exit 6))) (.seq (.block 7 (rg 29 Z0E 4793855 false)) (rg 28 Z0E 3745279 false)))
noncomputable def Zcs (rd:Option Nat):Key:=.lp 37003 [1,2,7,11,12,13,14,15] [] Z9f 294 rd
noncomputable def Z9g:ACode:=(.seq (.seq (rg 24 Z0E 34303 false) (.cond (.tmp 89) .skip (.exit 4))) (.seq (.block 5 (.seq (rg 26 Z0E 140799 false) (.block 6 (.loop 37003 [1,2,7,11,12,13,14,15] [] [(.exit 6)] Z9f)))) (rg 25 Z0E 58879 false)))
noncomputable def Z99 (rd:Option Nat):Key:=.lp 37002 [1,2,7,11,12,13,14] [] Z9g 294 rd
noncomputable def Z9d:ACode:=(.seq (.seq (rg 35 Z0E 17452031 false) (.cond (.tmp 124) .skip (.exit 10))) (.seq (.block 11 (.seq (rg 37 Z0E 71977983 false) (.join [(.normal,[2,11,12,13,16,17,18])] (.cond (.tmp 132) (.seq (rg 38 Z0E 306859007 false) (rg 39 Z0E 441076735 false)) .skip)))) (rg 36 Z0E 30034943 false)))
noncomputable def Zcq (rd:Option Nat):Key:=.lp 37005 [2,11,12,13,16,17,18] [] Z9d 294 rd
noncomputable def Z9b:ACode:=(.seq (.seq (rg 48 Z0E 36392815615 false) (.cond (.tmp 166) .skip (.exit 14))) (.seq (.join [(.normal,[2,11,12,13,16,17,19,20,21,22,23])] (.block 15 (.seq (rg 50 Z0E 148061965311 false) (.seq (.seq (rg 51 Z0E 629098302463 false) (.cond (.tmp 183) (.exit 15) .skip)) (.seq (rg 52 Z0E 766537255935 false) (.seq (rg 53 Z0E 1591170976767 false) (.join [(.normal,[2,11,12,13,16,17,19,20,21,22,23])] (.cond (.tmp 196) (.seq (rg 54 Z0E 5439461673983 false) (.seq (rg 55 Z0E 12036531440639 true) (rg 56 Z0E 16434577951743 false))) .skip)))))))) (rg 49 Z0E 62162619391 false)))
noncomputable def Zcp (rd:Option Nat):Key:=.lp 37007 [2,11,12,13,16,17,19,20,21,22,23] [] Z9b 294 rd
noncomputable def Z9c:ACode:=(.seq (.seq (rg 42 Z0E 70142975 false) (.cond (.tmp 143) .skip (.exit 12))) (.seq (.block 13 (.seq (rg 44 Z0E 288246783 false) (.seq (rg 45 Z0E 690899967 false) (.seq (rg 46 Z0E 1496206335 false) (.seq (rg 47 Z0E 3106819071 false) (.block 14 (.loop 37007 [2,11,12,13,16,17,19,20,21,22,23] [] [(.exit 14)] Z9b))))))) (rg 43 Z0E 120474623 false)))
noncomputable def Z98 (rd:Option Nat):Key:=.lp 37006 [2,11,12,13,16,17,19,20] [] Z9c 294 rd
noncomputable def Z9a:ACode:=(.seq (.seq (rg 58 Z0E 71191551 false) (.cond (.tmp 255) .skip (.exit 16))) (.seq (.block 17 (rg 60 Z0E 155077631 true)) (rg 59 Z0E 121523199 false)))
noncomputable def Zco (rd:Option Nat):Key:=.lp 37008 [2,11,12,13,16,17,19,26] [] Z9a 294 rd
noncomputable def Z9e:ACode:=(.seq (.seq (rg 31 Z0E 68607 false) (.cond (.tmp 113) .skip (.exit 8))) (.seq (.block 9 (.seq (rg 33 Z0E 281599 false) (.seq (.seq (rg 34 Z0E 1199103 false) (.block 10 (.loop 37005 [2,11,12,13,16,17,18] [] [(.exit 10)] Z9d))) (.seq (rg 40 Z0E 1461247 false) (.seq (.seq (rg 41 Z0E 5131263 false) (.block 12 (.loop 37006 [2,11,12,13,16,17,19,20] [] [(.exit 12)] Z9c))) (.seq (rg 57 Z0E 6179839 false) (.block 16 (.loop 37008 [2,11,12,13,16,17,19,26] [] [(.exit 16)] Z9a)))))))) (rg 32 Z0E 117759 false)))
noncomputable def Zcr (rd:Option Nat):Key:=.lp 37004 [2,11,12,13,16] [] Z9e 294 rd
noncomputable def f37_c:ACode:=(.seq (rg 0 Z0E 2 false) (.seq (rg 1 Z0E 5 false) (.seq (.seq (rg 2 Z0E 19 false) (.cond (.tmp 30) (.seq (rg 3 Z0E 75 false) .ret) .skip)) (.seq (rg 4 Z0E 23 false) (.seq (.seq (rg 5 Z0E 79 false) (.cond (.tmp 39) (.seq (rg 6 Z0E 303 false) .ret) .skip)) (.seq (.seq (rg 7 Z0E 159 false) (.block 0 (.loop 37000 [1,2,4,5,7,8] [] [(.exit 0),.ret] Z9i))) (.seq (rg 20 Z0E 191 false) (.seq (rg 21 Z0E 383 false) (.seq (rg 22 Z0E 767 false) (.seq (.seq (rg 23 Z0E 2559 false) (.block 4 (.loop 37002 [1,2,7,11,12,13,14] [] [(.exit 4)] Z9g))) (.seq (.seq (rg 30 Z0E 5119 false) (.block 8 (.loop 37004 [2,11,12,13,16] [] [(.exit 8)] Z9e))) (.seq (.seq (rg 61 Z0E 10239 false) (.cond (.tmp 292) (.seq (rg 62 Z0E 38911 false) .ret) .skip)) (.seq (rg 63 Z0E 12287 false) .ret)))))))))))))
noncomputable def ZoH:AFun:={ code:=f37_c,nt:=294,res:=Try.f37.results.toList,fr:=[] }
noncomputable def Z4t:Code:=Z0h Try.f38
noncomputable def Z95:ACode:=(.seq (.seq (rg 7 Z4t 2143 false) (.cond (.tmp 28) .skip (.exit 0))) (.seq (.block 1 (rg 9 Z4t 4703 false)) (rg 8 Z4t 3679 false)))
noncomputable def Zcn (rd:Option Nat):Key:=.lp 38000 [1,8,9,10] [] Z95 99 rd
noncomputable def Z94:ACode:=(.seq (.seq (rg 11 Z4t 4287 false) (.cond (.tmp 37) .skip (.exit 2))) (.seq (.block 3 (rg 13 Z4t 9407 true)) (rg 12 Z4t 7359 false)))
noncomputable def Zcm (rd:Option Nat):Key:=.lp 38001 [1,8,9,11] [] Z94 99 rd
noncomputable def Z93:ACode:=(.seq (.seq (rg 16 Z4t 17151 false) (.cond (.tmp 69) .skip (.exit 4))) (.seq (.block 5 (rg 18 Z4t 37631 true)) (rg 17 Z4t 29439 false)))
noncomputable def Z92 (rd:Option Nat):Key:=.lp 38002 [8,9,12,13] [] Z93 99 rd
noncomputable def f38_c:ACode:=(.seq (rg 0 Z4t 2 false) (.seq (rg 1 Z4t 5 false) (.seq (.seq (rg 2 Z4t 19 false) (.cond (.tmp 18) (.seq (rg 3 Z4t 75 false) .ret) .skip)) (.seq (rg 4 Z4t 23 false) (.seq (rg 5 Z4t 47 false) (.seq (.seq (rg 6 Z4t 159 false) (.block 0 (.loop 38000 [1,8,9,10] [] [(.exit 0)] Z95))) (.seq (.seq (rg 10 Z4t 319 false) (.block 2 (.loop 38001 [1,8,9,11] [] [(.exit 2)] Z94))) (.seq (rg 14 Z4t 383 false) (.seq (.seq (rg 15 Z4t 1279 false) (.block 4 (.loop 38002 [8,9,12,13] [] [(.exit 4)] Z93))) (.seq (rg 19 Z4t 1535 false) .ret))))))))))
noncomputable def ZoF:AFun:={ code:=f38_c,nt:=99,res:=Try.f38.results.toList,fr:=[] }
noncomputable def Z16:Code:=Z0h Try.f40
noncomputable def Z3I:ACode:=(.seq (.seq (rg 28 Z16 17978004223 false) (.cond (.tmp 92) .skip (.exit 4))) (.seq (.block 5 (.seq (rg 30 Z16 73812579071 false) (.seq (.seq (rg 31 Z16 314330747647 false) (.cond (.tmp 107) (.seq (rg 32 Z16 1276403421951 false) .ret) .skip)) (rg 33 Z16 245611270911 false)))) (rg 29 Z16 30862906111 false)))
noncomputable def Zjj (rd:Option Nat):Key:=.lp 40002 [2,3,4,5,7,8,9,10,11,14] [] Z3I 135 rd
noncomputable def Z3J:ACode:=(.seq (.seq (rg 16 Z16 4363007 false) (.cond (.tmp 42) .skip (.exit 2))) (.seq (.join [(.ret,[2,3,4,5,7,8,9,10,11]),(.normal,[2,3,4,5,7,8,9,10,11])] (.block 3 (.seq (.seq (rg 18 Z16 34771711 false) (.cond (.tmp 48) (.seq (rg 19 Z16 152212223 false) .ret) .skip)) (.seq (.seq (rg 20 Z16 76714751 false) (.cond (.tmp 54) (.seq (rg 21 Z16 311595775 false) (.seq (rg 22 Z16 714248959 false) (.exit 3))) .skip)) (.seq (rg 23 Z16 93491967 false) (.seq (.seq (rg 24 Z16 328372991 false) (.cond (.tmp 85) (.seq (rg 25 Z16 1267897087 false) .ret) .skip)) (.seq (rg 26 Z16 395481855 false) (.seq (.seq (rg 27 Z16 1335005951 false) (.block 4 (.loop 40002 [2,3,4,5,7,8,9,10,11,14] [] [(.exit 4),.ret] Z3I))) (rg 34 Z16 1066570495 false))))))))) (rg 17 Z16 7508735 false)))
noncomputable def Zjk (rd:Option Nat):Key:=.lp 40001 [2,3,4,5,7,8,9,10,11] [] Z3J 135 rd
noncomputable def Z3K:ACode:=(.seq (.seq (rg 12 Z16 17151 false) (.cond (.tmp 38) .skip (.exit 0))) (.seq (.block 1 (.seq (rg 14 Z16 70399 false) (.seq (.seq (rg 15 Z16 299775 false) (.block 2 (.loop 40001 [2,3,4,5,7,8,9,10,11] [] [(.exit 2),.ret] Z3J))) (rg 35 Z16 234239 false)))) (rg 13 Z16 29439 false)))
noncomputable def Zjl (rd:Option Nat):Key:=.lp 40000 [2,3,4,5,7,8,9] [] Z3K 135 rd
noncomputable def f40_c:ACode:=(.seq (rg 0 Z16 2 false) (.seq (.seq (rg 1 Z16 9 false) (.cond (.tmp 18) (.seq (rg 2 Z16 37 false) .ret) .skip)) (.seq (rg 3 Z16 11 false) (.seq (.seq (rg 4 Z16 39 false) (.cond (.tmp 24) (.seq (rg 5 Z16 151 false) .ret) .skip)) (.seq (rg 6 Z16 47 false) (.seq (.seq (rg 7 Z16 159 false) (.cond (.tmp 34) (.seq (rg 8 Z16 607 false) .ret) .skip)) (.seq (rg 9 Z16 191 false) (.seq (rg 10 Z16 383 false) (.seq (.seq (rg 11 Z16 1279 false) (.block 0 (.loop 40000 [2,3,4,5,7,8,9] [] [(.exit 0),.ret] Z3K))) (.seq (.seq (rg 36 Z16 2559 false) (.cond (.tmp 128) (.seq (rg 37 Z16 9727 false) .ret) .skip)) (.seq (.seq (rg 38 Z16 5119 false) (.cond (.tmp 132) (.seq (rg 39 Z16 19455 false) .ret) .skip)) (.seq (rg 40 Z16 6143 false) .ret))))))))))))
noncomputable def Zjm:AFun:={ code:=f40_c,nt:=135,res:=Try.f40.results.toList,fr:=[] }
noncomputable def Zbo:Code:=Z0h Try.f41
noncomputable def Z3H:ACode:=(.seq (.seq (rg 3 Zbo 267 false) (.cond (.tmp 6) .skip (.exit 0))) (.seq (.block 1 (.seq (.seq (rg 5 Zbo 2123 false) (.cond (.tmp 25) (.seq (rg 6 Zbo 9291 false) .ret) .skip)) (rg 7 Zbo 1611 false))) (rg 4 Zbo 459 false)))
noncomputable def Z4Z (rd:Option Nat):Key:=.lp 41000 [1,2,3,4] [] Z3H 30 rd
noncomputable def f41_c:ACode:=(.seq (rg 0 Zbo 2 false) (.seq (rg 1 Zbo 5 false) (.seq (.seq (rg 2 Zbo 19 false) (.block 0 (.loop 41000 [1,2,3,4] [] [(.exit 0),.ret] Z3H))) (.seq (rg 8 Zbo 23 false) .ret))))
noncomputable def Zg0:AFun:={ code:=f41_c,nt:=30,res:=Try.f41.results.toList,fr:=[] }
noncomputable def Zbn:Code:=Z0h Try.f42
noncomputable def Z3G:ACode:=(.seq (.seq (rg 5 Zbn 535 false) (.cond (.tmp 10) .skip (.exit 0))) (.seq (.block 1 (rg 7 Zbn 1175 false)) (rg 6 Zbn 919 false)))
noncomputable def Z4Y (rd:Option Nat):Key:=.lp 42000 [1,2,3,4] [] Z3G 19 rd
noncomputable def f42_c:ACode:=(.seq (rg 0 Zbn 2 false) (.seq (rg 1 Zbn 5 false) (.seq (.seq (rg 2 Zbn 19 false) (.cond (.tmp 7) (.seq (rg 3 Zbn 75 false) .ret) .skip)) (.seq (.seq (rg 4 Zbn 39 false) (.block 0 (.loop 42000 [1,2,3,4] [] [(.exit 0)] Z3G))) (.seq (rg 8 Zbn 47 false) .ret)))))
noncomputable def ZfZ:AFun:={ code:=f42_c,nt:=19,res:=Try.f42.results.toList,fr:=[] }
noncomputable def ZfY:Code:=Z0h Try.f43
noncomputable def f43_c:ACode:=(.seq (rg 0 ZfY 2 false) (.seq (.block 0 (.seq (rg 1 ZfY 17 false) (.cond (.tmp 3) (.seq (rg 2 ZfY 73 false) .ret) (.seq (rg 3 ZfY 89 false) (.cond (.tmp 7) (.seq (rg 4 ZfY 313 false) .ret) .skip))))) (.seq (rg 5 ZfY 11 false) .ret)))
noncomputable def ZfX:AFun:={ code:=f43_c,nt:=12,res:=Try.f43.results.toList,fr:=[] }
noncomputable def Z7l:Code:=Z0h Try.f44
noncomputable def Z3E:ACode:=(.seq (rg 8 Z7l 18263 false) (.seq (.cond (.tmp 53) .skip (.exit 2)) (.seq (.block 3 (.seq (rg 9 Z7l 288599 false) (.seq (rg 10 Z7l 681815 false) (.join [(.normal,[6,7,8,52])] (.cond (.tmp 64) (rg 11 Z7l 1468247 true) .skip))))) (rg 12 Z7l 124759 false))))
noncomputable def Zcl (rd:Option Nat):Key:=.lp 44001 [6,7,8,52] [] Z3E 92 rd
noncomputable def Z1o:ACode:=(rg 4 Z7l 151 false)
noncomputable def Z1n:ACode:=(.block 1 (.seq (rg 5 Z7l 599 true) (.seq (rg 6 Z7l 1367 true) (.seq (rg 7 Z7l 2903 false) (.block 2 (.loop 44001 [6,7,8,52] [] [(.exit 2)] Z3E))))))
noncomputable def f44_c:ACode:=(.seq (rg 0 Z7l 2 false) (.seq (rg 1 Z7l 5 false) (.seq (rg 2 Z7l 11 false) (.seq (.seq (rg 3 Z7l 39 false) (.block 0 (.rangeFunc 44000 [1,5,6] [] [.normal] (.tmp 24) #[25] Z1o Z1n))) (.seq (rg 13 Z7l 47 true) .ret)))))
noncomputable def ZfW:AFun:={ code:=f44_c,nt:=92,res:=Try.f44.results.toList,fr:=[] }
noncomputable def Zbm:Code:=Z0h Try.f45
noncomputable def Z3D:ACode:=(.seq (rg 3 Zbm 139 false) (.seq (.cond (.tmp 11) .skip (.exit 0)) (.seq (.block 1 (.seq (rg 4 Zbm 2251 false) (.seq (rg 5 Zbm 5323 false) (.join [(.normal,[0,3,9,10])] (.cond (.tmp 17) (rg 6 Zbm 11467 false) .skip))))) (rg 7 Zbm 971 false))))
noncomputable def Zck (rd:Option Nat):Key:=.lp 45000 [0,3,9,10] [] Z3D 24 rd
noncomputable def f45_c:ACode:=(.seq (rg 0 Zbm 2 false) (.seq (rg 1 Zbm 5 false) (.seq (.seq (rg 2 Zbm 19 false) (.block 0 (.loop 45000 [0,3,9,10] [] [(.exit 0)] Z3D))) (.seq (rg 8 Zbm 23 false) .ret))))
noncomputable def ZfV:AFun:={ code:=f45_c,nt:=24,res:=Try.f45.results.toList,fr:=[] }
noncomputable def Zlf:Code:=Z0h Try.f46
noncomputable def Z3C:ACode:=(.seq (.seq (rg 1 Zlf 65 false) (.cond (.tmp 13) .skip (.exit 0))) (.block 1 (rg 2 Zlf 81 false)))
noncomputable def Zcj (rd:Option Nat):Key:=.lp 46000 [0,1] [] Z3C 22 rd
noncomputable def f46_c:ACode:=(.seq (rg 0 Zlf 2 false) (.seq (.block 0 (.loop 46000 [0,1] [] [(.exit 0)] Z3C)) (.seq (rg 3 Zlf 11 false) .ret)))
noncomputable def ZfU:AFun:={ code:=f46_c,nt:=22,res:=Try.f46.results.toList,fr:=[] }
noncomputable def Z4k:Code:=Z0h Try.f47
noncomputable def Z3z:ACode:=(.seq (rg 10 Z4k 142539 false) (.seq (.cond (.tmp 37) .skip (.exit 2)) (.seq (.block 3 (.seq (rg 11 Z4k 2305227 false) (.seq (rg 12 Z4k 5450955 false) (.cond (.tmp 48) (.seq (rg 13 Z4k 20131019 false) .ret) .skip)))) (rg 14 Z4k 994507 false))))
noncomputable def Zci (rd:Option Nat):Key:=.lp 47001 [2,4,7,15,16,17,35,36] [] Z3z 71 rd
noncomputable def Z1m:ACode:=(rg 16 Z4k 81099 false)
noncomputable def Z1l:ACode:=(.block 5 (.seq (rg 17 Z4k 310475 true) (.cond (.tmp 69) (.seq (rg 18 Z4k 1227979 false) .ret) .skip)))
noncomputable def Z3A:ACode:=(.seq (rg 5 Z4k 139 false) (.seq (.cond (.tmp 18) .skip (.exit 0)) (.seq (.block 1 (.seq (rg 6 Z4k 2251 false) (.seq (.seq (rg 7 Z4k 9419 false) (.cond (.tmp 32) (.seq (rg 8 Z4k 38091 false) .ret) .skip)) (.seq (.seq (rg 9 Z4k 19659 false) (.block 2 (.loop 47001 [2,4,7,15,16,17,35,36] [] [(.exit 2),.ret] Z3z))) (.seq (rg 15 Z4k 23755 false) (.block 4 (.rangeFunc 47002 [4,7] [] [.normal,.ret] (.tmp 51) #[52] Z1m Z1l))))))) (rg 19 Z4k 971 false))))
noncomputable def Z8Y (rd:Option Nat):Key:=.lp 47000 [2,4,15,16,17] [] Z3A 71 rd
noncomputable def f47_c:ACode:=(.seq (rg 0 Z4k 2 false) (.seq (.seq (rg 1 Z4k 9 false) (.seq (rg 2 Z4k 21 false) (.cond (.tmp 13) (.seq (rg 3 Z4k 77 false) .ret) .skip))) (.seq (.seq (rg 4 Z4k 19 false) (.block 0 (.loop 47000 [2,4,15,16,17] [] [(.exit 0),.ret] Z3A))) (.seq (rg 20 Z4k 23 false) .ret))))
noncomputable def ZfT:AFun:={ code:=f47_c,nt:=71,res:=Try.f47.results.toList,fr:=[] }
noncomputable def ZdH:Code:=Z0h Try.f48
noncomputable def Z3y:ACode:=(.seq (rg 3 ZdH 139 false) (.seq (.cond (.tmp 9) .skip (.exit 0)) (.seq (.block 1 (.seq (rg 4 ZdH 2251 false) (rg 5 ZdH 3275 false))) (rg 6 ZdH 971 false))))
noncomputable def Zjc (rd:Option Nat):Key:=.lp 48000 [3,6,7,8] [] Z3y 17 rd
noncomputable def f48_c:ACode:=(.seq (rg 0 ZdH 2 false) (.seq (rg 1 ZdH 5 false) (.seq (.seq (rg 2 ZdH 19 false) (.block 0 (.loop 48000 [3,6,7,8] [] [(.exit 0)] Z3y))) (.seq (rg 7 ZdH 23 false) .ret))))
noncomputable def Zjd:AFun:={ code:=f48_c,nt:=17,res:=Try.f48.results.toList,fr:=[] }
noncomputable def Zbl:Code:=Z0h Try.f49
noncomputable def Z3x:ACode:=(.seq (rg 4 Zbl 279 false) (.seq (.cond (.tmp 22) .skip (.exit 0)) (.seq (.block 1 (.seq (rg 5 Zbl 4503 false) (rg 6 Zbl 6551 false))) (rg 7 Zbl 1943 false))))
noncomputable def Zja (rd:Option Nat):Key:=.lp 49000 [1,7,19,20,21] [] Z3x 36 rd
noncomputable def f49_c:ACode:=(.seq (rg 0 Zbl 2 false) (.seq (rg 1 Zbl 5 false) (.seq (rg 2 Zbl 11 false) (.seq (.seq (rg 3 Zbl 39 false) (.block 0 (.loop 49000 [1,7,19,20,21] [] [(.exit 0)] Z3x))) (.seq (rg 8 Zbl 47 false) .ret)))))
noncomputable def Zjb:AFun:={ code:=f49_c,nt:=36,res:=Try.f49.results.toList,fr:=[] }
noncomputable def Zrk:Code:=Z0h Try.f50
noncomputable def f50_c:ACode:=(.seq (rg 0 Zrk 2 false) (.seq (rg 1 Zrk 5 true) .ret))
noncomputable def ZfS:AFun:={ code:=f50_c,nt:=29,res:=Try.f50.results.toList,fr:=[] }
noncomputable def Zlc:Code:=Z0h Try.f53
noncomputable def f53_c:ACode:=(.seq (rg 0 Zlc 2 false) (.seq (.seq (rg 1 Zlc 9 false) (.cond (.tmp 4) (.seq (rg 2 Zlc 37 false) .ret) .skip)) (.seq (rg 3 Zlc 11 false) .ret)))
noncomputable def ZfR:AFun:={ code:=f53_c,nt:=8,res:=Try.f53.results.toList,fr:=[] }
noncomputable def ZdF:Code:=Z0h Try.f54
noncomputable def Z8U:ACode:=(.seq (rg 3 ZdF 139 false) (.seq (.cond (.tmp 12) .skip (.exit 0)) (.seq (.block 1 (.seq (rg 4 ZdF 2251 false) (rg 5 ZdF 3275 false))) (rg 6 ZdF 971 false))))
noncomputable def Zch (rd:Option Nat):Key:=.lp 54000 [1,5,10,11] [] Z8U 26 rd
noncomputable def f54_c:ACode:=(.seq (rg 0 ZdF 2 false) (.seq (rg 1 ZdF 5 false) (.seq (.seq (rg 2 ZdF 19 false) (.block 0 (.loop 54000 [1,5,10,11] [] [(.exit 0)] Z8U))) (.seq (rg 7 ZdF 23 false) .ret))))
noncomputable def ZoA:AFun:={ code:=f54_c,nt:=26,res:=Try.f54.results.toList,fr:=[] }
noncomputable def Zri:Code:=Z0h Try.f55
noncomputable def f55_c:ACode:=(.seq (rg 0 Zri 2 false) (.seq (rg 1 Zri 5 false) .ret))
noncomputable def ZfQ:AFun:={ code:=f55_c,nt:=6,res:=Try.f55.results.toList,fr:=[] }
noncomputable def Zbk:Code:=Z0h Try.f56
noncomputable def Z3w:ACode:=(.seq (rg 3 Zbk 139 false) (.seq (.cond (.tmp 9) .skip (.exit 0)) (.seq (.block 1 (.seq (rg 4 Zbk 2251 false) (.seq (rg 5 Zbk 5323 false) (.join [(.normal,[3,6,7,8])] (.cond (.tmp 13) (rg 6 Zbk 11467 false) .skip))))) (rg 7 Zbk 971 false))))
noncomputable def Zcg (rd:Option Nat):Key:=.lp 56000 [3,6,7,8] [] Z3w 19 rd
noncomputable def f56_c:ACode:=(.seq (rg 0 Zbk 2 false) (.seq (rg 1 Zbk 5 false) (.seq (.seq (rg 2 Zbk 19 false) (.block 0 (.loop 56000 [3,6,7,8] [] [(.exit 0)] Z3w))) (.seq (rg 8 Zbk 23 false) .ret))))
noncomputable def ZfP:AFun:={ code:=f56_c,nt:=19,res:=Try.f56.results.toList,fr:=[] }
noncomputable def Z15:Code:=Z0h Try.f57
noncomputable def Z3t:ACode:=(.seq (rg 4 Z15 279 false) (.seq (.cond (.tmp 35) .skip (.exit 0)) (.seq (.block 1 (.seq (rg 5 Z15 4503 false) (rg 6 Z15 6551 true))) (rg 7 Z15 1943 false))))
noncomputable def Zcf (rd:Option Nat):Key:=.lp 57000 [1,2,4,5,6,7,33,34] [] Z3t 200 rd
noncomputable def Z3q:ACode:=(.seq (rg 21 Z15 1179372735 false) (.seq (.cond (.tmp 95) .skip (.exit 6)) (.seq (.join [(.normal,[2,4,5,7,11,14,15,16,17,18,62,63,64,93,94]),(.ret,[2,4,5,7,11,14,15,16,17,18,62,63,64,93,94])] (.block 7 (.seq (rg 22 Z15 18896112831 false) (.seq (.seq (rg 23 Z15 79025654975 false) (.cond (.tmp 105) (.exit 7) .skip)) (.seq (rg 24 Z15 96205524159 true) (.seq (rg 25 Z15 199284739263 false) (.block 8 (.seq (rg 26 Z15 680321076415 false) (.join [(.normal,[2,4,5,7,11,14,15,16,17,18,62,63,64,93,94]),(.ret,[2,4,5,7,11,14,15,16,17,18,62,63,64,93,94])] (.cond (.tmp 134) (.seq (rg 27 Z15 2604466425023 false) (.seq (rg 28 Z15 5903001308351 false) (.seq (rg 29 Z15 12500071075007 false) (rg 30 Z15 16898117586111 false)))) (.seq (rg 31 Z15 3154222238911 false) (.cond (.tmp 166) (.seq (rg 32 Z15 10850803633343 false) .ret) .skip)))))))))))) (rg 33 Z15 8158694591 false))))
noncomputable def Zcd (rd:Option Nat):Key:=.lp 57003 [2,4,5,7,11,14,15,16,17,18,62,63,64,93,94] [] Z3q 200 rd
noncomputable def Z3r:ACode:=(.seq (.seq (rg 17 Z15 17550527 false) (.cond (.tmp 76) .skip (.exit 4))) (.seq (.block 5 (.seq (rg 19 Z15 72076479 true) (.seq (rg 20 Z15 172739775 false) (.block 6 (.loop 57003 [2,4,5,7,11,14,15,16,17,18,62,63,64,93,94] [] [(.exit 6),.ret] Z3q))))) (rg 18 Z15 30133439 false)))
noncomputable def Z8T (rd:Option Nat):Key:=.lp 57002 [2,4,5,7,11,14,15,16,62,63,64] [] Z3r 200 rd
noncomputable def Z3p:ACode:=(.seq (rg 35 Z15 9424063 false) (.seq (.cond (.tmp 180) .skip (.exit 9)) (.seq (.block 10 (.seq (rg 36 Z15 147836095 false) (rg 37 Z15 214944959 false))) (rg 38 Z15 63950015 false))))
noncomputable def Zcc (rd:Option Nat):Key:=.lp 57004 [2,4,5,7,11,15,62,63,64,177,178,179] [] Z3p 200 rd
noncomputable def Z3s:ACode:=(.seq (rg 11 Z15 2239 false) (.seq (.cond (.tmp 65) .skip (.exit 2)) (.seq (.block 3 (.seq (rg 12 Z15 36031 false) (.seq (rg 13 Z15 85183 false) (.seq (rg 14 Z15 183487 false) (.seq (rg 15 Z15 380095 false) (.seq (.seq (rg 16 Z15 1297599 false) (.block 4 (.loop 57002 [2,4,5,7,11,14,15,16,62,63,64] [] [(.exit 4),.ret] Z3r))) (.seq (rg 34 Z15 1559743 false) (.block 9 (.loop 57004 [2,4,5,7,11,15,62,63,64,177,178,179] [] [(.exit 9)] Z3p))))))))) (rg 39 Z15 15551 false))))
noncomputable def Zce (rd:Option Nat):Key:=.lp 57001 [2,4,5,7,11,62,63,64] [] Z3s 200 rd
noncomputable def f57_c:ACode:=(.seq (rg 0 Z15 2 false) (.seq (rg 1 Z15 5 false) (.seq (rg 2 Z15 11 false) (.seq (.seq (rg 3 Z15 39 false) (.block 0 (.loop 57000 [1,2,4,5,6,7,33,34] [] [(.exit 0)] Z3t))) (.seq (rg 8 Z15 47 false) (.seq (rg 9 Z15 95 false) (.seq (.seq (rg 10 Z15 319 false) (.block 2 (.loop 57001 [2,4,5,7,11,62,63,64] [] [(.exit 2),.ret] Z3s))) (.seq (rg 40 Z15 383 false) .ret))))))))
noncomputable def ZfO:AFun:={ code:=f57_c,nt:=200,res:=Try.f57.results.toList,fr:=[] }
noncomputable def ZfN:Code:=Z0h Try.f58
noncomputable def f58_c:ACode:=(.seq (rg 0 ZfN 2 false) (.seq (.seq (rg 1 ZfN 9 false) (.cond (.tmp 5) (.seq (rg 2 ZfN 37 false) .ret) .skip)) (.seq (.seq (rg 3 ZfN 19 false) (.cond (.tmp 9) (.seq (rg 4 ZfN 75 false) .ret) .skip)) (.seq (rg 5 ZfN 23 false) .ret))))
noncomputable def Zoy:AFun:={ code:=f58_c,nt:=10,res:=Try.f58.results.toList,fr:=[] }
noncomputable def Zrg:Code:=Z0h Try.f59
noncomputable def f59_c:ACode:=(.seq (rg 0 Zrg 2 false) (.seq (rg 1 Zrg 5 false) .ret))
noncomputable def ZfM:AFun:={ code:=f59_c,nt:=4,res:=Try.f59.results.toList,fr:=[] }
noncomputable def Zrf:Code:=Z0h Try.f60
noncomputable def f60_c:ACode:=(.seq (rg 0 Zrf 2 false) (.seq (rg 1 Zrf 5 false) .ret))
noncomputable def ZfL:AFun:={ code:=f60_c,nt:=6,res:=Try.f60.results.toList,fr:=[] }
noncomputable def Z2t:Code:=Z0h Try.f61
noncomputable def Z8S:ACode:=(.seq (.seq (rg 4 Z2t 267 false) (.cond (.tmp 22) .skip (.exit 0))) (.seq (.block 1 (.seq (rg 6 Z2t 1099 false) (.cond (.tmp 36) (.seq (rg 7 Z2t 4683 false) .ret) .skip))) (rg 5 Z2t 459 false)))
noncomputable def Zcb (rd:Option Nat):Key:=.lp 61000 [1,2,4,5] [] Z8S 79 rd
noncomputable def Z8Q:ACode:=(.seq (.seq (rg 13 Z2t 136343 false) (.cond (.tmp 45) .skip (.exit 4))) (.seq (.block 5 (.seq (rg 15 Z2t 562327 false) (.join [(.normal,[1,2,4,6,7,8])] (.cond (.tmp 56) (rg 16 Z2t 1348759 false) .skip)))) (rg 14 Z2t 234647 false)))
noncomputable def Zc9 (rd:Option Nat):Key:=.lp 61002 [1,2,4,6,7,8] [] Z8Q 79 rd
noncomputable def Z8R:ACode:=(.seq (.seq (rg 9 Z2t 535 false) (.cond (.tmp 41) .skip (.exit 2))) (.seq (.block 3 (.seq (rg 11 Z2t 2199 false) (.seq (.seq (rg 12 Z2t 9367 false) (.block 4 (.loop 61002 [1,2,4,6,7,8] [] [(.exit 4)] Z8Q))) (.seq (rg 17 Z2t 11415 false) (.cond (.tmp 60) (.seq (rg 18 Z2t 40087 false) .ret) .skip))))) (rg 10 Z2t 919 false)))
noncomputable def Zca (rd:Option Nat):Key:=.lp 61001 [1,2,4,6] [] Z8R 79 rd
noncomputable def Z8P:ACode:=(.seq (.seq (rg 21 Z2t 2143 false) (.cond (.tmp 69) .skip (.exit 6))) (.seq (.block 7 (.seq (rg 23 Z2t 8799 false) (.cond (.tmp 78) (.seq (rg 24 Z2t 37471 false) .ret) .skip))) (rg 22 Z2t 3679 false)))
noncomputable def Zc8 (rd:Option Nat):Key:=.lp 61003 [1,4,9,11] [] Z8P 79 rd
noncomputable def f61_c:ACode:=(.seq (rg 0 Z2t 2 false) (.seq (.seq (rg 1 Z2t 9 false) (.cond (.tmp 18) (.seq (rg 2 Z2t 37 false) .ret) .skip)) (.seq (.seq (rg 3 Z2t 19 false) (.block 0 (.loop 61000 [1,2,4,5] [] [(.exit 0),.ret] Z8S))) (.seq (.seq (rg 8 Z2t 39 false) (.block 2 (.loop 61001 [1,2,4,6] [] [(.exit 2),.ret] Z8R))) (.seq (rg 19 Z2t 47 false) (.seq (.seq (rg 20 Z2t 159 false) (.block 6 (.loop 61003 [1,4,9,11] [] [(.exit 6),.ret] Z8P))) (.seq (rg 25 Z2t 191 false) .ret)))))))
noncomputable def Zow:AFun:={ code:=f61_c,nt:=79,res:=Try.f61.results.toList,fr:=[] }
noncomputable def Z6Z:Code:=Z0h Try.f62
noncomputable def Z8L:ACode:=(.seq (.seq (rg 10 Z6Z 2200139 false) (.cond (.tmp 37) .skip (.exit 4))) (.seq (.block 5 (.seq (rg 12 Z6Z 9015883 false) (.join [(.normal,[1,3,4,5,6,7])] (.cond (.tmp 42) (rg 13 Z6Z 21598795 true) .skip)))) (rg 11 Z6Z 3773003 false)))
noncomputable def Z8K (rd:Option Nat):Key:=.lp 62002 [1,3,4,5,6,7] [] Z8L 59 rd
noncomputable def Z8M:ACode:=(.seq (.seq (rg 6 Z6Z 16971 false) (.cond (.tmp 21) .skip (.exit 2))) (.seq (.block 3 (.seq (rg 8 Z6Z 70219 false) (.seq (rg 9 Z6Z 168523 false) (.block 4 (.loop 62002 [1,3,4,5,6,7] [] [(.exit 4)] Z8L))))) (rg 7 Z6Z 29259 false)))
noncomputable def Zc6 (rd:Option Nat):Key:=.lp 62001 [1,3,4,5] [] Z8M 59 rd
noncomputable def Z8N:ACode:=(.seq (.seq (rg 3 Z6Z 267 false) (.cond (.tmp 17) .skip (.exit 0))) (.seq (.block 1 (.seq (rg 5 Z6Z 1099 false) (.block 2 (.loop 62001 [1,3,4,5] [] [(.exit 2)] Z8M)))) (rg 4 Z6Z 459 false)))
noncomputable def Zc7 (rd:Option Nat):Key:=.lp 62000 [1,3,4] [] Z8N 59 rd
noncomputable def f62_c:ACode:=(.seq (rg 0 Z6Z 2 false) (.seq (rg 1 Z6Z 5 false) (.seq (.seq (rg 2 Z6Z 19 false) (.block 0 (.loop 62000 [1,3,4] [] [(.exit 0)] Z8N))) (.seq (rg 14 Z6Z 23 false) .ret))))
noncomputable def Zou:AFun:={ code:=f62_c,nt:=59,res:=Try.f62.results.toList,fr:=[] }
noncomputable def ZeF:Code:=Z0h Try.f63
noncomputable def Z8I:ACode:=(.seq (.seq (rg 3 ZeF 267 false) (.cond (.tmp 8) .skip (.exit 0))) (.seq (.block 1 (rg 5 ZeF 587 false)) (rg 4 ZeF 459 false)))
noncomputable def Zc5 (rd:Option Nat):Key:=.lp 63000 [0,3,4] [] Z8I 19 rd
noncomputable def f63_c:ACode:=(.seq (rg 0 ZeF 2 false) (.seq (rg 1 ZeF 5 false) (.seq (.seq (rg 2 ZeF 19 false) (.block 0 (.loop 63000 [0,3,4] [] [(.exit 0)] Z8I))) (.seq (rg 6 ZeF 23 false) .ret))))
noncomputable def Zos:AFun:={ code:=f63_c,nt:=19,res:=Try.f63.results.toList,fr:=[] }
noncomputable def ZdE:Code:=Z0h Try.f67
noncomputable def Z8G:ACode:=(.seq (rg 3 ZdE 139 false) (.seq (.cond (.tmp 13) .skip (.exit 0)) (.seq (.block 1 (.seq (rg 4 ZdE 2251 false) (rg 5 ZdE 3275 true))) (rg 6 ZdE 971 false))))
noncomputable def Zc4 (rd:Option Nat):Key:=.lp 67000 [0,1,5,11,12] [] Z8G 29 rd
noncomputable def f67_c:ACode:=(.seq (rg 0 ZdE 2 false) (.seq (rg 1 ZdE 5 false) (.seq (.seq (rg 2 ZdE 19 false) (.block 0 (.loop 67000 [0,1,5,11,12] [] [(.exit 0)] Z8G))) (.seq (rg 7 ZdE 23 false) .ret))))
noncomputable def Zoq:AFun:={ code:=f67_c,nt:=29,res:=Try.f67.results.toList,fr:=[] }
noncomputable def Z7P:Code:=Z0h Try.f68
noncomputable def Z3o:ACode:=(.seq (.seq (rg 4 Z7P 535 false) (.cond (.tmp 10) .skip (.exit 0))) (.seq (.block 1 (.seq (rg 6 Z7P 2199 false) (.seq (.seq (rg 7 Z7P 9367 false) (.join [(.normal,[0,3,4,5,6])] (.cond (.tmp 28) (rg 8 Z7P 21655 false) .skip))) (.seq (rg 9 Z7P 11415 false) (.join [(.normal,[0,3,4,5])] (.cond (.tmp 34) (.seq (rg 10 Z7P 40087 false) (rg 11 Z7P 56471 false)) .skip)))))) (rg 5 Z7P 919 false)))
noncomputable def Zj7 (rd:Option Nat):Key:=.lp 68000 [0,3,4,5] [] Z3o 43 rd
noncomputable def f68_c:ACode:=(.seq (rg 0 Z7P 2 false) (.seq (rg 1 Z7P 5 false) (.seq (rg 2 Z7P 11 false) (.seq (.seq (rg 3 Z7P 39 false) (.block 0 (.loop 68000 [0,3,4,5] [] [(.exit 0)] Z3o))) (.seq (rg 12 Z7P 47 false) .ret)))))
noncomputable def Zj8:AFun:={ code:=f68_c,nt:=43,res:=Try.f68.results.toList,fr:=[] }
noncomputable def Za5:Code:=Z0h Try.f69
noncomputable def Z3n:ACode:=(.seq (.seq (rg 5 Za5 535 false) (.cond (.tmp 27) .skip (.exit 0))) (.seq (.block 1 (.seq (.seq (rg 7 Za5 4247 false) (.cond (.tmp 39) (.seq (rg 8 Za5 18583 false) .ret) .skip)) (rg 9 Za5 3223 false))) (rg 6 Za5 919 false)))
noncomputable def Zj5 (rd:Option Nat):Key:=.lp 69000 [0,2,3,4,5] [] Z3n 51 rd
noncomputable def f69_c:ACode:=(.seq (rg 0 Za5 2 false) (.seq (.seq (rg 1 Za5 9 false) (.cond (.tmp 23) (.seq (rg 2 Za5 37 false) .ret) .skip)) (.seq (rg 3 Za5 11 false) (.seq (.seq (rg 4 Za5 39 false) (.block 0 (.loop 69000 [0,2,3,4,5] [] [(.exit 0),.ret] Z3n))) (.seq (rg 10 Za5 47 false) .ret)))))
noncomputable def Zj6:AFun:={ code:=f69_c,nt:=51,res:=Try.f69.results.toList,fr:=[] }
noncomputable def Z7N:Code:=Z0h Try.f70
noncomputable def Z1E:ACode:=(.seq (rg 5 Z7N 279 false) (rg 6 Z7N 407 false))
noncomputable def Z1D:ACode:=(.join [(.normal,[]),(.ret,[])] (.block 1 (.seq (.seq (rg 7 Z7N 1111 false) (.cond (.tmp 17) (.exit 1) .skip)) (.seq (.seq (rg 8 Z7N 2391 true) (.cond (.tmp 51) (.seq (rg 9 Z7N 9559 false) .ret) .skip)) (.seq (rg 10 Z7N 2903 true) (.cond (.tmp 70) (.seq (rg 11 Z7N 10071 false) .ret) .skip))))))
noncomputable def f70_c:ACode:=(.seq (rg 0 Z7N 2 false) (.seq (.seq (rg 1 Z7N 9 false) (.cond (.tmp 9) (.seq (rg 2 Z7N 37 false) .ret) .skip)) (.seq (rg 3 Z7N 11 false) (.seq (.seq (rg 4 Z7N 39 false) (.block 0 (.rangeFunc 70000 [1,2,3] [] [.normal,.ret] (.tmp 12) #[13,14] Z1E Z1D))) (.seq (rg 12 Z7N 47 false) .ret)))))
noncomputable def ZfK:AFun:={ code:=f70_c,nt:=71,res:=Try.f70.results.toList,fr:=[] }
noncomputable def ZdB:Code:=Z0h Try.f71
noncomputable def Z3l:ACode:=(.seq (rg 3 ZdB 139 false) (.seq (.cond (.tmp 12) .skip (.exit 0)) (.seq (.block 1 (.seq (rg 4 ZdB 2251 false) (rg 5 ZdB 3275 false))) (rg 6 ZdB 971 false))))
noncomputable def Zc3 (rd:Option Nat):Key:=.lp 71000 [2,3,10,11] [] Z3l 21 rd
noncomputable def f71_c:ACode:=(.seq (rg 0 ZdB 2 false) (.seq (rg 1 ZdB 5 false) (.seq (.seq (rg 2 ZdB 19 false) (.block 0 (.loop 71000 [2,3,10,11] [] [(.exit 0)] Z3l))) (.seq (rg 7 ZdB 23 false) .ret))))
noncomputable def ZfJ:AFun:={ code:=f71_c,nt:=21,res:=Try.f71.results.toList,fr:=[] }
noncomputable def Zr8:Code:=Z0h Try.f72
noncomputable def f72_c:ACode:=(.seq (rg 0 Zr8 2 false) (rg 1 Zr8 3 false))
noncomputable def ZfI:AFun:={ code:=f72_c,nt:=23,res:=Try.f72.results.toList,fr:=[] }
noncomputable def Zr7:Code:=Z0h Try.f73
noncomputable def f73_c:ACode:=(.seq (rg 0 Zr7 2 false) (.seq (rg 1 Zr7 5 false) .ret))
noncomputable def ZfH:AFun:={ code:=f73_c,nt:=8,res:=Try.f73.results.toList,fr:=[] }
noncomputable def ZaX:Code:=Z0h Try.f74
noncomputable def Z3k:ACode:=(.seq (rg 4 ZaX 279 false) (.seq (.cond (.tmp 35) .skip (.exit 0)) (.seq (.block 1 (.seq (rg 5 ZaX 4503 false) (.seq (rg 6 ZaX 10647 false) (.join [(.normal,[0,1,7,8,9,34])] (.cond (.tmp 43) (rg 7 ZaX 22935 false) .skip))))) (rg 8 ZaX 1943 false))))
noncomputable def Zj1 (rd:Option Nat):Key:=.lp 74000 [0,1,7,8,9,34] [] Z3k 56 rd
noncomputable def f74_c:ACode:=(.seq (rg 0 ZaX 2 false) (.seq (rg 1 ZaX 5 true) (.seq (rg 2 ZaX 11 true) (.seq (.seq (rg 3 ZaX 39 false) (.block 0 (.loop 74000 [0,1,7,8,9,34] [] [(.exit 0)] Z3k))) (.seq (rg 9 ZaX 47 false) .ret)))))
noncomputable def Zj2:AFun:={ code:=f74_c,nt:=56,res:=Try.f74.results.toList,fr:=[] }
noncomputable def Zr5:Code:=Z0h Try.f75
noncomputable def f75_c:ACode:=(.seq (rg 0 Zr5 2 false) (.seq (rg 1 Zr5 5 false) .ret))
noncomputable def ZfG:AFun:={ code:=f75_c,nt:=9,res:=Try.f75.results.toList,fr:=[] }
noncomputable def Zr4:Code:=Z0h Try.f76
noncomputable def f76_c:ACode:=(.seq (rg 0 Zr4 2 false) (.seq (rg 1 Zr4 5 false) .ret))
noncomputable def ZfF:AFun:={ code:=f76_c,nt:=9,res:=Try.f76.results.toList,fr:=[] }
noncomputable def Z7k:Code:=Z0h Try.f77
noncomputable def Z3h:ACode:=(.seq (rg 8 Z7k 2333081 false) (.seq (.cond (.tmp 45) .skip (.exit 4)) (.seq (.block 5 (.seq (rg 9 Z7k 36936089 false) (.seq (rg 10 Z7k 87267737 true) (.cond (.tmp 68) .ret .skip)))) (rg 11 Z7k 15964569 false))))
noncomputable def Z8B (rd:Option Nat):Key:=.lp 77002 [0,3,5,6,9,10,11,16,17,44] [] Z3h 72 rd
noncomputable def Z3i:ACode:=(.seq (rg 4 Z7k 4505 false) (.seq (.cond (.tmp 18) .skip (.exit 2)) (.seq (.join [(.normal,[0,3,9,10,11,16,17]),(.ret,[0,3,9,10,11,16,17])] (.block 3 (.seq (rg 5 Z7k 72089 false) (.seq (.seq (rg 6 Z7k 301465 false) (.cond (.tmp 43) (.exit 3) .skip)) (.seq (rg 7 Z7k 367001 false) (.block 4 (.loop 77002 [0,3,5,6,9,10,11,16,17,44] [] [(.exit 4),.ret] Z3h))))))) (rg 12 Z7k 31129 false))))
noncomputable def Z8C (rd:Option Nat):Key:=.lp 77001 [0,3,9,10,11,16,17] [] Z3i 72 rd
noncomputable def Z3j:ACode:=(.seq (rg 1 Z7k 17 false) (.seq (.cond (.tmp 12) .skip (.exit 0)) (.seq (.block 1 (.seq (rg 2 Z7k 281 false) (.seq (rg 3 Z7k 665 false) (.block 2 (.loop 77001 [0,3,9,10,11,16,17] [] [(.exit 2),.ret] Z3i))))) (rg 13 Z7k 121 false))))
noncomputable def Zc2 (rd:Option Nat):Key:=.lp 77000 [0,9,10,11] [] Z3j 72 rd
noncomputable def f77_c:ACode:=(.seq (rg 0 Z7k 2 false) (.block 0 (.loop 77000 [0,9,10,11] [] [(.exit 0),.ret] Z3j)))
noncomputable def ZfE:AFun:={ code:=f77_c,nt:=72,res:=Try.f77.results.toList,fr:=[] }
noncomputable def ZeE:Code:=Z0h Try.f78
noncomputable def Z8z:ACode:=(.seq (.seq (rg 3 ZeE 267 false) (.cond (.tmp 9) .skip (.exit 0))) (.seq (.block 1 (rg 5 ZeE 587 false)) (rg 4 ZeE 459 false)))
noncomputable def Zc1 (rd:Option Nat):Key:=.lp 78000 [0,3,4] [] Z8z 17 rd
noncomputable def f78_c:ACode:=(.seq (rg 0 ZeE 2 false) (.seq (rg 1 ZeE 5 false) (.seq (.seq (rg 2 ZeE 19 false) (.block 0 (.loop 78000 [0,3,4] [] [(.exit 0)] Z8z))) (.seq (rg 6 ZeE 23 false) .ret))))
noncomputable def Zol:AFun:={ code:=f78_c,nt:=17,res:=Try.f78.results.toList,fr:=[] }
noncomputable def Zbj:Code:=Z0h Try.f79
noncomputable def Z8y:ACode:=(.seq (.seq (rg 4 Zbj 535 false) (.cond (.tmp 31) .skip (.exit 0))) (.seq (.block 1 (.seq (rg 6 Zbj 2199 false) (.join [(.normal,[0,7,8,9])] (.cond (.tmp 39) (rg 7 Zbj 5271 false) .skip)))) (rg 5 Zbj 919 false)))
noncomputable def Zc0 (rd:Option Nat):Key:=.lp 79000 [0,7,8,9] [] Z8y 45 rd
noncomputable def f79_c:ACode:=(.seq (rg 0 Zbj 2 false) (.seq (rg 1 Zbj 5 true) (.seq (rg 2 Zbj 11 true) (.seq (.seq (rg 3 Zbj 39 false) (.block 0 (.loop 79000 [0,7,8,9] [] [(.exit 0)] Z8y))) (.seq (rg 8 Zbj 47 false) .ret)))))
noncomputable def Zoi:AFun:={ code:=f79_c,nt:=45,res:=Try.f79.results.toList,fr:=[] }
noncomputable def Z6m:Code:=Z0h Try.f80
noncomputable def Z8w:ACode:=(.seq (.seq (rg 8 Z6m 136343 false) (.cond (.tmp 28) .skip (.exit 2))) (.seq (.block 3 (.seq (rg 10 Z6m 562327 true) (.join [(.normal,[0,3,4,5,6])] (.cond (.tmp 39) (rg 11 Z6m 1348759 false) .skip)))) (rg 9 Z6m 234647 false)))
noncomputable def ZbY (rd:Option Nat):Key:=.lp 80001 [0,3,4,5,6] [] Z8w 59 rd
noncomputable def Z8x:ACode:=(.seq (.seq (rg 4 Z6m 535 false) (.cond (.tmp 13) .skip (.exit 0))) (.seq (.block 1 (.seq (rg 6 Z6m 2199 false) (.seq (.seq (rg 7 Z6m 9367 false) (.block 2 (.loop 80001 [0,3,4,5,6] [] [(.exit 2)] Z8w))) (.seq (rg 12 Z6m 11415 false) (.join [(.normal,[0,3,4,5])] (.cond (.tmp 51) (.seq (rg 13 Z6m 40087 false) (rg 14 Z6m 56471 false)) .skip)))))) (rg 5 Z6m 919 false)))
noncomputable def ZbZ (rd:Option Nat):Key:=.lp 80000 [0,3,4,5] [] Z8x 59 rd
noncomputable def f80_c:ACode:=(.seq (rg 0 Z6m 2 false) (.seq (rg 1 Z6m 5 false) (.seq (rg 2 Z6m 11 false) (.seq (.seq (rg 3 Z6m 39 false) (.block 0 (.loop 80000 [0,3,4,5] [] [(.exit 0)] Z8x))) (.seq (rg 15 Z6m 47 false) .ret)))))
noncomputable def Zog:AFun:={ code:=f80_c,nt:=59,res:=Try.f80.results.toList,fr:=[] }
noncomputable def Zr1:Code:=Z0h Try.f83
noncomputable def f83_c:ACode:=(.seq (rg 0 Zr1 2 false) (.seq (rg 1 Zr1 5 false) .ret))
noncomputable def ZfD:AFun:={ code:=f83_c,nt:=4,res:=Try.f83.results.toList,fr:=[] }
noncomputable def ZaW:Code:=Z0h Try.f84
noncomputable def Z3f:ACode:=(.seq (rg 3 ZaW 139 false) (.seq (.cond (.tmp 8) .skip (.exit 0)) (.seq (.block 1 (.seq (rg 4 ZaW 2251 false) (.seq (.seq (rg 5 ZaW 9419 false) (.cond (.tmp 15) (.seq (rg 6 ZaW 38091 false) .ret) .skip)) (rg 7 ZaW 7371 false)))) (rg 8 ZaW 971 false))))
noncomputable def Z4M (rd:Option Nat):Key:=.lp 84000 [2,3,6,7] [] Z3f 23 rd
noncomputable def f84_c:ACode:=(.seq (rg 0 ZaW 2 false) (.seq (rg 1 ZaW 5 false) (.seq (.seq (rg 2 ZaW 19 false) (.block 0 (.loop 84000 [2,3,6,7] [] [(.exit 0),.ret] Z3f))) (.seq (rg 9 ZaW 23 false) .ret))))
noncomputable def ZfC:AFun:={ code:=f84_c,nt:=23,res:=Try.f84.results.toList,fr:=[] }
noncomputable def Zdz:Code:=Z0h Try.f85
noncomputable def Z3e:ACode:=(.seq (rg 3 Zdz 139 false) (.seq (.cond (.tmp 8) .skip (.exit 0)) (.seq (.block 1 (.seq (rg 4 Zdz 2251 false) (rg 5 Zdz 3275 false))) (rg 6 Zdz 971 false))))
noncomputable def Z4L (rd:Option Nat):Key:=.lp 85000 [2,3,6,7] [] Z3e 16 rd
noncomputable def f85_c:ACode:=(.seq (rg 0 Zdz 2 false) (.seq (rg 1 Zdz 5 false) (.seq (.seq (rg 2 Zdz 19 false) (.block 0 (.loop 85000 [2,3,6,7] [] [(.exit 0)] Z3e))) (.seq (rg 7 Zdz 23 false) .ret))))
noncomputable def ZfB:AFun:={ code:=f85_c,nt:=16,res:=Try.f85.results.toList,fr:=[] }
noncomputable def Zdy:Code:=Z0h Try.f86
noncomputable def Z3d:ACode:=(.seq (rg 2 Zdy 69 false) (.seq (.cond (.tmp 9) .skip (.exit 0)) (.seq (.block 1 (.seq (rg 3 Zdy 1125 false) (.seq (rg 4 Zdy 2661 false) (.cond (.tmp 16) (.seq (rg 5 Zdy 9829 false) .ret) .skip)))) (rg 6 Zdy 485 false))))
noncomputable def ZbW (rd:Option Nat):Key:=.lp 86000 [0,1,4,7,8] [] Z3d 19 rd
noncomputable def f86_c:ACode:=(.seq (rg 0 Zdy 2 false) (.seq (.seq (rg 1 Zdy 9 false) (.block 0 (.loop 86000 [0,1,4,7,8] [] [(.exit 0),.ret] Z3d))) (.seq (rg 7 Zdy 11 false) .ret)))
noncomputable def ZfA:AFun:={ code:=f86_c,nt:=19,res:=Try.f86.results.toList,fr:=[] }
noncomputable def Zof:Code:=Z0h Try.f87
noncomputable def f87_c:ACode:=(.seq (rg 0 Zof 2 false) (.seq (rg 1 Zof 5 false) (.seq (rg 2 Zof 11 false) .ret)))
noncomputable def Zfz:AFun:={ code:=f87_c,nt:=4,res:=Try.f87.results.toList,fr:=[] }
noncomputable def Zr0:Code:=Z0h Try.f88
noncomputable def f88_c:ACode:=(.seq (rg 0 Zr0 2 false) (.seq (rg 1 Zr0 5 false) .ret))
noncomputable def Zfy:AFun:={ code:=f88_c,nt:=17,res:=Try.f88.results.toList,fr:=[] }
noncomputable def ZqZ:Code:=Z0h Try.f89
noncomputable def f89_c:ACode:=(.seq (rg 0 ZqZ 2 false) (.seq (rg 1 ZqZ 5 false) .ret))
noncomputable def Zfx:AFun:={ code:=f89_c,nt:=8,res:=Try.f89.results.toList,fr:=[] }
noncomputable def Zdx:Code:=Z0h Try.f90
noncomputable def Z3c:ACode:=(.seq (rg 2 Zdx 69 false) (.seq (.cond (.tmp 9) .skip (.exit 0)) (.seq (.block 1 (.seq (rg 3 Zdx 1125 false) (.seq (rg 4 Zdx 2661 false) (.cond (.tmp 16) (.seq (rg 5 Zdx 9829 false) .ret) .skip)))) (rg 6 Zdx 485 false))))
noncomputable def ZbV (rd:Option Nat):Key:=.lp 90000 [0,1,4,7,8] [] Z3c 19 rd
noncomputable def f90_c:ACode:=(.seq (rg 0 Zdx 2 false) (.seq (.seq (rg 1 Zdx 9 false) (.block 0 (.loop 90000 [0,1,4,7,8] [] [(.exit 0),.ret] Z3c))) (.seq (rg 7 Zdx 11 false) .ret)))
noncomputable def Zfw:AFun:={ code:=f90_c,nt:=19,res:=Try.f90.results.toList,fr:=[] }
noncomputable def Zbi:Code:=Z0h Try.f91
noncomputable def Z3a:ACode:=(.seq (rg 4 Zbi 4505 false) (.seq (.cond (.tmp 18) .skip (.exit 2)) (.seq (.block 3 (.seq (rg 5 Zbi 72089 false) (.seq (rg 6 Zbi 170393 false) (.cond (.tmp 27) .ret .skip)))) (rg 7 Zbi 31129 false))))
noncomputable def Z4H (rd:Option Nat):Key:=.lp 91001 [0,1,3,8,9,16,17] [] Z3a 30 rd
noncomputable def Z3b:ACode:=(.seq (rg 1 Zbi 17 false) (.seq (.cond (.tmp 10) .skip (.exit 0)) (.seq (.block 1 (.seq (rg 2 Zbi 281 false) (.seq (rg 3 Zbi 665 false) (.block 2 (.loop 91001 [0,1,3,8,9,16,17] [] [(.exit 2),.ret] Z3a))))) (rg 8 Zbi 121 false))))
noncomputable def Z4I (rd:Option Nat):Key:=.lp 91000 [0,1,8,9] [] Z3b 30 rd
noncomputable def f91_c:ACode:=(.seq (rg 0 Zbi 2 false) (.block 0 (.loop 91000 [0,1,8,9] [] [(.exit 0),.ret] Z3b)))
noncomputable def Zfv:AFun:={ code:=f91_c,nt:=30,res:=Try.f91.results.toList,fr:=[] }
noncomputable def bkT:BT AFun:=(.node 53 ZfR (.node 33 ZoP (.node 18 Zp0 (.node 14 Zjx (.node 12 Zp6 (.node 11 Zjy (.node 9 f9_f .leaf .leaf) .leaf) (.node 13 Zg5 .leaf .leaf)) (.node 16 Zjp (.node 15 Zju .leaf .leaf) (.node 17 Zjo .leaf .leaf))) (.node 24 ZoV (.node 21 Zg3 (.node 20 ZoX .leaf .leaf) (.node 23 Zg2 .leaf .leaf)) (.node 26 ZoT (.node 25 Zg1 .leaf .leaf) (.node 28 ZoR .leaf .leaf)))) (.node 43 ZfX (.node 38 ZoF (.node 36 ZoJ (.node 35 ZoL (.node 34 ZoN .leaf .leaf) .leaf) (.node 37 ZoH .leaf .leaf)) (.node 41 Zg0 (.node 40 Zjm .leaf .leaf) (.node 42 ZfZ .leaf .leaf))) (.node 47 ZfT (.node 45 ZfV (.node 44 ZfW .leaf .leaf) (.node 46 ZfU .leaf .leaf)) (.node 49 Zjb (.node 48 Zjd .leaf .leaf) (.node 50 ZfS .leaf .leaf))))) (.node 73 ZfH (.node 62 Zou (.node 58 Zoy (.node 56 ZfP (.node 55 ZfQ (.node 54 ZoA .leaf .leaf) .leaf) (.node 57 ZfO .leaf .leaf)) (.node 60 ZfL (.node 59 ZfM .leaf .leaf) (.node 61 Zow .leaf .leaf))) (.node 69 Zj6 (.node 67 Zoq (.node 63 Zos .leaf .leaf) (.node 68 Zj8 .leaf .leaf)) (.node 71 ZfJ (.node 70 ZfK .leaf .leaf) (.node 72 ZfI .leaf .leaf)))) (.node 84 ZfC (.node 78 Zol (.node 76 ZfF (.node 75 ZfG (.node 74 Zj2 .leaf .leaf) .leaf) (.node 77 ZfE .leaf .leaf)) (.node 80 Zog (.node 79 Zoi .leaf .leaf) (.node 83 ZfD .leaf .leaf))) (.node 88 Zfy (.node 86 ZfA (.node 85 ZfB .leaf .leaf) (.node 87 Zfz .leaf .leaf)) (.node 90 Zfw (.node 89 Zfx .leaf .leaf) (.node 91 Zfv .leaf .leaf))))))
noncomputable def bk (f:FuncId):Option AFun:=bkT.look f
theorem bk_9:bk 9=some f9_f:=by kernel_rfl
theorem ok_9:Z0A P 9 f9_f:=⟨Try.f9,Zbh,Try.func9,rfl,by kernel_rfl,by kernel_rfl,rfl,rfl⟩
theorem bk_11:bk 11=some Zjy:=by kernel_rfl
theorem ok_11:Z0A P 11 Zjy:=⟨Try.f11,Z6o,Try.func11,rfl,by kernel_rfl,by kernel_rfl,rfl,rfl⟩
theorem bk_12:bk 12=some Zp6:=by kernel_rfl
theorem ok_12:Z0A P 12 Zp6:=⟨Try.f12,ZrD,Try.func12,rfl,by kernel_rfl,by kernel_rfl,rfl,rfl⟩
theorem bk_13:bk 13=some Zg5:=by kernel_rfl
theorem ok_13:Z0A P 13 Zg5:=⟨Try.f13,Z63,Try.func13,rfl,by kernel_rfl,by kernel_rfl,rfl,rfl⟩
theorem bk_14:bk 14=some Zjx:=by kernel_rfl
theorem ok_14:Z0A P 14 Zjx:=⟨Try.f14,Z56,Try.func14,rfl,by kernel_rfl,by kernel_rfl,rfl,rfl⟩
theorem bk_15:bk 15=some Zju:=by kernel_rfl
theorem ok_15:Z0A P 15 Zju:=⟨Try.f15,Z4l,Try.func15,rfl,by kernel_rfl,by kernel_rfl,rfl,rfl⟩
theorem bk_16:bk 16=some Zjp:=by kernel_rfl
theorem ok_16:Z0A P 16 Zjp:=⟨Try.f16,Zjq,Try.func16,rfl,by kernel_rfl,by kernel_rfl,rfl,rfl⟩
theorem bk_17:bk 17=some Zjo:=by kernel_rfl
theorem ok_17:Z0A P 17 Zjo:=⟨Try.f17,Zry,Try.func17,rfl,by kernel_rfl,by kernel_rfl,rfl,rfl⟩
theorem bk_18:bk 18=some Zp0:=by kernel_rfl
theorem ok_18:Z0A P 18 Zp0:=⟨Try.f18,ZeI,Try.func18,rfl,by kernel_rfl,by kernel_rfl,rfl,rfl⟩
theorem bk_20:bk 20=some ZoX:=by kernel_rfl
theorem ok_20:Z0A P 20 ZoX:=⟨Try.f20,Zg4,Try.func20,rfl,by kernel_rfl,by kernel_rfl,rfl,rfl⟩
theorem bk_21:bk 21=some Zg3:=by kernel_rfl
theorem ok_21:Z0A P 21 Zg3:=⟨Try.f21,Zbp,Try.func21,rfl,by kernel_rfl,by kernel_rfl,rfl,rfl⟩
theorem bk_23:bk 23=some Zg2:=by kernel_rfl
theorem ok_23:Z0A P 23 Zg2:=⟨Try.f23,Z2x,Try.func23,rfl,by kernel_rfl,by kernel_rfl,rfl,rfl⟩
theorem bk_24:bk 24=some ZoV:=by kernel_rfl
theorem ok_24:Z0A P 24 ZoV:=⟨Try.f24,Zjn,Try.func24,rfl,by kernel_rfl,by kernel_rfl,rfl,rfl⟩
theorem bk_25:bk 25=some Zg1:=by kernel_rfl
theorem ok_25:Z0A P 25 Zg1:=⟨Try.f25,Z6n,Try.func25,rfl,by kernel_rfl,by kernel_rfl,rfl,rfl⟩
theorem bk_26:bk 26=some ZoT:=by kernel_rfl
theorem ok_26:Z0A P 26 ZoT:=⟨Try.f26,Z2w,Try.func26,rfl,by kernel_rfl,by kernel_rfl,rfl,rfl⟩
theorem bk_28:bk 28=some ZoR:=by kernel_rfl
theorem ok_28:Z0A P 28 ZoR:=⟨Try.f28,ZeH,Try.func28,rfl,by kernel_rfl,by kernel_rfl,rfl,rfl⟩
theorem bk_33:bk 33=some ZoP:=by kernel_rfl
theorem ok_33:Z0A P 33 ZoP:=⟨Try.f33,ZeG,Try.func33,rfl,by kernel_rfl,by kernel_rfl,rfl,rfl⟩
theorem bk_34:bk 34=some ZoN:=by kernel_rfl
theorem ok_34:Z0A P 34 ZoN:=⟨Try.f34,Z7m,Try.func34,rfl,by kernel_rfl,by kernel_rfl,rfl,rfl⟩
theorem bk_35:bk 35=some ZoL:=by kernel_rfl
theorem ok_35:Z0A P 35 ZoL:=⟨Try.f35,Z2e,Try.func35,rfl,by kernel_rfl,by kernel_rfl,rfl,rfl⟩
theorem bk_36:bk 36=some ZoJ:=by kernel_rfl
theorem ok_36:Z0A P 36 ZoJ:=⟨Try.f36,ZaY,Try.func36,rfl,by kernel_rfl,by kernel_rfl,rfl,rfl⟩
theorem bk_37:bk 37=some ZoH:=by kernel_rfl
theorem ok_37:Z0A P 37 ZoH:=⟨Try.f37,Z0E,Try.func37,rfl,by kernel_rfl,by kernel_rfl,rfl,rfl⟩
theorem bk_38:bk 38=some ZoF:=by kernel_rfl
theorem ok_38:Z0A P 38 ZoF:=⟨Try.f38,Z4t,Try.func38,rfl,by kernel_rfl,by kernel_rfl,rfl,rfl⟩
theorem bk_40:bk 40=some Zjm:=by kernel_rfl
theorem ok_40:Z0A P 40 Zjm:=⟨Try.f40,Z16,Try.func40,rfl,by kernel_rfl,by kernel_rfl,rfl,rfl⟩
theorem bk_41:bk 41=some Zg0:=by kernel_rfl
theorem ok_41:Z0A P 41 Zg0:=⟨Try.f41,Zbo,Try.func41,rfl,by kernel_rfl,by kernel_rfl,rfl,rfl⟩
theorem bk_42:bk 42=some ZfZ:=by kernel_rfl
theorem ok_42:Z0A P 42 ZfZ:=⟨Try.f42,Zbn,Try.func42,rfl,by kernel_rfl,by kernel_rfl,rfl,rfl⟩
theorem bk_43:bk 43=some ZfX:=by kernel_rfl
theorem ok_43:Z0A P 43 ZfX:=⟨Try.f43,ZfY,Try.func43,rfl,by kernel_rfl,by kernel_rfl,rfl,rfl⟩
theorem bk_44:bk 44=some ZfW:=by kernel_rfl
theorem ok_44:Z0A P 44 ZfW:=⟨Try.f44,Z7l,Try.func44,rfl,by kernel_rfl,by kernel_rfl,rfl,rfl⟩
theorem bk_45:bk 45=some ZfV:=by kernel_rfl
theorem ok_45:Z0A P 45 ZfV:=⟨Try.f45,Zbm,Try.func45,rfl,by kernel_rfl,by kernel_rfl,rfl,rfl⟩
theorem bk_46:bk 46=some ZfU:=by kernel_rfl
theorem ok_46:Z0A P 46 ZfU:=⟨Try.f46,Zlf,Try.func46,rfl,by kernel_rfl,by kernel_rfl,rfl,rfl⟩
theorem bk_47:bk 47=some ZfT:=by kernel_rfl
theorem ok_47:Z0A P 47 ZfT:=⟨Try.f47,Z4k,Try.func47,rfl,by kernel_rfl,by kernel_rfl,rfl,rfl⟩
theorem bk_48:bk 48=some Zjd:=by kernel_rfl
theorem ok_48:Z0A P 48 Zjd:=⟨Try.f48,ZdH,Try.func48,rfl,by kernel_rfl,by kernel_rfl,rfl,rfl⟩
theorem bk_49:bk 49=some Zjb:=by kernel_rfl
theorem ok_49:Z0A P 49 Zjb:=⟨Try.f49,Zbl,Try.func49,rfl,by kernel_rfl,by kernel_rfl,rfl,rfl⟩
theorem bk_50:bk 50=some ZfS:=by kernel_rfl
theorem ok_50:Z0A P 50 ZfS:=⟨Try.f50,Zrk,Try.func50,rfl,by kernel_rfl,by kernel_rfl,rfl,rfl⟩
theorem bk_53:bk 53=some ZfR:=by kernel_rfl
theorem ok_53:Z0A P 53 ZfR:=⟨Try.f53,Zlc,Try.func53,rfl,by kernel_rfl,by kernel_rfl,rfl,rfl⟩
theorem bk_54:bk 54=some ZoA:=by kernel_rfl
theorem ok_54:Z0A P 54 ZoA:=⟨Try.f54,ZdF,Try.func54,rfl,by kernel_rfl,by kernel_rfl,rfl,rfl⟩
theorem bk_55:bk 55=some ZfQ:=by kernel_rfl
theorem ok_55:Z0A P 55 ZfQ:=⟨Try.f55,Zri,Try.func55,rfl,by kernel_rfl,by kernel_rfl,rfl,rfl⟩
theorem bk_56:bk 56=some ZfP:=by kernel_rfl
theorem ok_56:Z0A P 56 ZfP:=⟨Try.f56,Zbk,Try.func56,rfl,by kernel_rfl,by kernel_rfl,rfl,rfl⟩
theorem bk_57:bk 57=some ZfO:=by kernel_rfl
theorem ok_57:Z0A P 57 ZfO:=⟨Try.f57,Z15,Try.func57,rfl,by kernel_rfl,by kernel_rfl,rfl,rfl⟩
theorem bk_58:bk 58=some Zoy:=by kernel_rfl
theorem ok_58:Z0A P 58 Zoy:=⟨Try.f58,ZfN,Try.func58,rfl,by kernel_rfl,by kernel_rfl,rfl,rfl⟩
theorem bk_59:bk 59=some ZfM:=by kernel_rfl
theorem ok_59:Z0A P 59 ZfM:=⟨Try.f59,Zrg,Try.func59,rfl,by kernel_rfl,by kernel_rfl,rfl,rfl⟩
theorem bk_60:bk 60=some ZfL:=by kernel_rfl
theorem ok_60:Z0A P 60 ZfL:=⟨Try.f60,Zrf,Try.func60,rfl,by kernel_rfl,by kernel_rfl,rfl,rfl⟩
theorem bk_61:bk 61=some Zow:=by kernel_rfl
theorem ok_61:Z0A P 61 Zow:=⟨Try.f61,Z2t,Try.func61,rfl,by kernel_rfl,by kernel_rfl,rfl,rfl⟩
theorem bk_62:bk 62=some Zou:=by kernel_rfl
theorem ok_62:Z0A P 62 Zou:=⟨Try.f62,Z6Z,Try.func62,rfl,by kernel_rfl,by kernel_rfl,rfl,rfl⟩
theorem bk_63:bk 63=some Zos:=by kernel_rfl
theorem ok_63:Z0A P 63 Zos:=⟨Try.f63,ZeF,Try.func63,rfl,by kernel_rfl,by kernel_rfl,rfl,rfl⟩
theorem bk_67:bk 67=some Zoq:=by kernel_rfl
theorem ok_67:Z0A P 67 Zoq:=⟨Try.f67,ZdE,Try.func67,rfl,by kernel_rfl,by kernel_rfl,rfl,rfl⟩
theorem bk_68:bk 68=some Zj8:=by kernel_rfl
theorem ok_68:Z0A P 68 Zj8:=⟨Try.f68,Z7P,Try.func68,rfl,by kernel_rfl,by kernel_rfl,rfl,rfl⟩
theorem bk_69:bk 69=some Zj6:=by kernel_rfl
theorem ok_69:Z0A P 69 Zj6:=⟨Try.f69,Za5,Try.func69,rfl,by kernel_rfl,by kernel_rfl,rfl,rfl⟩
theorem bk_70:bk 70=some ZfK:=by kernel_rfl
theorem ok_70:Z0A P 70 ZfK:=⟨Try.f70,Z7N,Try.func70,rfl,by kernel_rfl,by kernel_rfl,rfl,rfl⟩
theorem bk_71:bk 71=some ZfJ:=by kernel_rfl
theorem ok_71:Z0A P 71 ZfJ:=⟨Try.f71,ZdB,Try.func71,rfl,by kernel_rfl,by kernel_rfl,rfl,rfl⟩
theorem bk_72:bk 72=some ZfI:=by kernel_rfl
theorem ok_72:Z0A P 72 ZfI:=⟨Try.f72,Zr8,Try.func72,rfl,by kernel_rfl,by kernel_rfl,rfl,rfl⟩
theorem bk_73:bk 73=some ZfH:=by kernel_rfl
theorem ok_73:Z0A P 73 ZfH:=⟨Try.f73,Zr7,Try.func73,rfl,by kernel_rfl,by kernel_rfl,rfl,rfl⟩
theorem bk_74:bk 74=some Zj2:=by kernel_rfl
theorem ok_74:Z0A P 74 Zj2:=⟨Try.f74,ZaX,Try.func74,rfl,by kernel_rfl,by kernel_rfl,rfl,rfl⟩
theorem bk_75:bk 75=some ZfG:=by kernel_rfl
theorem ok_75:Z0A P 75 ZfG:=⟨Try.f75,Zr5,Try.func75,rfl,by kernel_rfl,by kernel_rfl,rfl,rfl⟩
theorem bk_76:bk 76=some ZfF:=by kernel_rfl
theorem ok_76:Z0A P 76 ZfF:=⟨Try.f76,Zr4,Try.func76,rfl,by kernel_rfl,by kernel_rfl,rfl,rfl⟩
theorem bk_77:bk 77=some ZfE:=by kernel_rfl
theorem ok_77:Z0A P 77 ZfE:=⟨Try.f77,Z7k,Try.func77,rfl,by kernel_rfl,by kernel_rfl,rfl,rfl⟩
theorem bk_78:bk 78=some Zol:=by kernel_rfl
theorem ok_78:Z0A P 78 Zol:=⟨Try.f78,ZeE,Try.func78,rfl,by kernel_rfl,by kernel_rfl,rfl,rfl⟩
theorem bk_79:bk 79=some Zoi:=by kernel_rfl
theorem ok_79:Z0A P 79 Zoi:=⟨Try.f79,Zbj,Try.func79,rfl,by kernel_rfl,by kernel_rfl,rfl,rfl⟩
theorem bk_80:bk 80=some Zog:=by kernel_rfl
theorem ok_80:Z0A P 80 Zog:=⟨Try.f80,Z6m,Try.func80,rfl,by kernel_rfl,by kernel_rfl,rfl,rfl⟩
theorem bk_83:bk 83=some ZfD:=by kernel_rfl
theorem ok_83:Z0A P 83 ZfD:=⟨Try.f83,Zr1,Try.func83,rfl,by kernel_rfl,by kernel_rfl,rfl,rfl⟩
theorem bk_84:bk 84=some ZfC:=by kernel_rfl
theorem ok_84:Z0A P 84 ZfC:=⟨Try.f84,ZaW,Try.func84,rfl,by kernel_rfl,by kernel_rfl,rfl,rfl⟩
theorem bk_85:bk 85=some ZfB:=by kernel_rfl
theorem ok_85:Z0A P 85 ZfB:=⟨Try.f85,Zdz,Try.func85,rfl,by kernel_rfl,by kernel_rfl,rfl,rfl⟩
theorem bk_86:bk 86=some ZfA:=by kernel_rfl
theorem ok_86:Z0A P 86 ZfA:=⟨Try.f86,Zdy,Try.func86,rfl,by kernel_rfl,by kernel_rfl,rfl,rfl⟩
theorem bk_87:bk 87=some Zfz:=by kernel_rfl
theorem ok_87:Z0A P 87 Zfz:=⟨Try.f87,Zof,Try.func87,rfl,by kernel_rfl,by kernel_rfl,rfl,rfl⟩
theorem bk_88:bk 88=some Zfy:=by kernel_rfl
theorem ok_88:Z0A P 88 Zfy:=⟨Try.f88,Zr0,Try.func88,rfl,by kernel_rfl,by kernel_rfl,rfl,rfl⟩
theorem bk_89:bk 89=some Zfx:=by kernel_rfl
theorem ok_89:Z0A P 89 Zfx:=⟨Try.f89,ZqZ,Try.func89,rfl,by kernel_rfl,by kernel_rfl,rfl,rfl⟩
theorem bk_90:bk 90=some Zfw:=by kernel_rfl
theorem ok_90:Z0A P 90 Zfw:=⟨Try.f90,Zdx,Try.func90,rfl,by kernel_rfl,by kernel_rfl,rfl,rfl⟩
theorem bk_91:bk 91=some Zfv:=by kernel_rfl
theorem ok_91:Z0A P 91 Zfv:=⟨Try.f91,Zbi,Try.func91,rfl,by kernel_rfl,by kernel_rfl,rfl,rfl⟩
theorem bk_ok:Z8e P bk:=fun f a e=>BT.look_all (Q:=Z0A P) (t:=bkT) (ai ok_53 (ai (ai ok_33 (ai (ai ok_18 (ai (ai ok_14 (ai (ai ok_12 (ai (ai ok_11 (ai (ai ok_9 (ai tt tt)) tt)) (ai ok_13 (ai tt tt)))) (ai ok_16 (ai (ai ok_15 (ai tt tt)) (ai ok_17 (ai tt tt)))))) (ai ok_24 (ai (ai ok_21 (ai (ai ok_20 (ai tt tt)) (ai ok_23 (ai tt tt)))) (ai ok_26 (ai (ai ok_25 (ai tt tt)) (ai ok_28 (ai tt tt)))))))) (ai ok_43 (ai (ai ok_38 (ai (ai ok_36 (ai (ai ok_35 (ai (ai ok_34 (ai tt tt)) tt)) (ai ok_37 (ai tt tt)))) (ai ok_41 (ai (ai ok_40 (ai tt tt)) (ai ok_42 (ai tt tt)))))) (ai ok_47 (ai (ai ok_45 (ai (ai ok_44 (ai tt tt)) (ai ok_46 (ai tt tt)))) (ai ok_49 (ai (ai ok_48 (ai tt tt)) (ai ok_50 (ai tt tt)))))))))) (ai ok_73 (ai (ai ok_62 (ai (ai ok_58 (ai (ai ok_56 (ai (ai ok_55 (ai (ai ok_54 (ai tt tt)) tt)) (ai ok_57 (ai tt tt)))) (ai ok_60 (ai (ai ok_59 (ai tt tt)) (ai ok_61 (ai tt tt)))))) (ai ok_69 (ai (ai ok_67 (ai (ai ok_63 (ai tt tt)) (ai ok_68 (ai tt tt)))) (ai ok_71 (ai (ai ok_70 (ai tt tt)) (ai ok_72 (ai tt tt)))))))) (ai ok_84 (ai (ai ok_78 (ai (ai ok_76 (ai (ai ok_75 (ai (ai ok_74 (ai tt tt)) tt)) (ai ok_77 (ai tt tt)))) (ai ok_80 (ai (ai ok_79 (ai tt tt)) (ai ok_83 (ai tt tt)))))) (ai ok_88 (ai (ai ok_86 (ai (ai ok_85 (ai tt tt)) (ai ok_87 (ai tt tt)))) (ai ok_90 (ai (ai ok_89 (ai tt tt)) (ai ok_91 (ai tt tt)))))))))))) e
theorem mixed:P.follows .mixedOrders=true:=by kernel_rfl
def selF:List Nat:=[83,91,59,77,71,44,14,16,23,24,25,27,26,30,31,34,35,36,37,38,19,45,49,53,54,57,62,64,67,68,40,78,80,87,22,29]
def selL:List Nat:=[13000,13001,14001,15000,15001,15002,18000,21000,23001,23002,25000,33000,34000,35000,35001,35002,37000,37001,37002,37003,37008,38000,38001,38002,40001,40002,41000,42000,44001,46000,47001,48000,56000,57000,57004,61000,61001,61002,61003,62000,62001,62002,63000,64000,64001,64002,65000,66000,67000,69000,71000,74000,78000,79000,80000,80001,81000,81001,82000,84000,85000,90000,86000]
def ZrY (x:Nat):List Nat->Bool
 | []=>false
 | y::ys=>cond (Nat.beq x y) true (ZrY x ys)
def sel:Key->Bool
 | .fn f=>!(ZrY f selF)
 | .lp j _ _ _ _ _=>ZrY j selL
 | .rnd ..=>false
noncomputable def ext:Fo FH:=fun f args h c=>match args with
 | []=>cond (ZrY f [11]) (some { e:=.ret,vs:=[.bool true],h:=h,c:=c,df:=[] }) none
 | _=>none
noncomputable abbrev G:Orc FH:=Z8l P bk sel ext
end Go.Proofs.Ytcnndelmnobigaa
