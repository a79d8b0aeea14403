/- Parts of a proof: K. Conditions: none. -/
import Derived.Test.YtcnndelmnobigaaChecked
import Derived.KernelRfl
import Derived.Test.YtcnndelmnobigaaM6
import Derived.Test.YtcnndelmnobigaaM7
import Derived.Test.YtcnndelmnobigaaM8
set_option linter.all false
set_option maxRecDepth 100000
namespace Go.Proofs.Ytcnndelmnobigaa
open Go Go.Ab Go.Proofs
variable {H:Type} [HeapC H]
noncomputable abbrev P:=Try.prog
noncomputable def Z75:Code:=Z0o Try.f4
noncomputable def ZaW:ACode:=(.seq (.seq (rg 14 Z75 1090751 false) (.cond (.tmp 63) .skip (.exit 2))) (.seq (.block 3 (rg 16 Z75 2401471 true)) (rg 15 Z75 1877183 false)))
noncomputable def Zfc (rd:Option Nat):Key:=.lp 4001 [1,2,3,4,9,11,12,13,14] [] ZaW 162 rd
noncomputable def ZaV:ACode:=(.seq (.seq (rg 18 Z75 1107135 false) (.cond (.tmp 85) .skip (.exit 4))) (.seq (.block 5 (rg 20 Z75 2417855 true)) (rg 19 Z75 1893567 false)))
noncomputable def Zfb (rd:Option Nat):Key:=.lp 4002 [1,2,3,4,9,11,12,13,15] [] ZaV 162 rd
noncomputable def ZaX:ACode:=(.seq (.seq (rg 10 Z75 4287 false) (.cond (.tmp 55) .skip (.exit 0))) (.seq (.block 1 (.seq (rg 12 Z75 17599 false) (.seq (.seq (rg 13 Z75 74943 false) (.block 2 (.loop 4001 [1,2,3,4,9,11,12,13,14] [] [(.exit 2)] ZaW))) (.seq (rg 17 Z75 91327 false) (.block 4 (.loop 4002 [1,2,3,4,9,11,12,13,15] [] [(.exit 4)] ZaV)))))) (rg 11 Z75 7359 false)))
noncomputable def Zfd (rd:Option Nat):Key:=.lp 4000 [1,2,3,4,9,11,12] [] ZaX 162 rd
noncomputable def f4_c:ACode:=(.seq (rg 0 Z75 2 false) (.seq (.seq (rg 1 Z75 9 false) (.cond (.tmp 24) (.seq (rg 2 Z75 37 false) .ret) .skip)) (.seq (.seq (rg 3 Z75 19 false) (.cond (.tmp 39) (.seq (rg 4 Z75 75 false) .ret) .skip)) (.seq (rg 5 Z75 23 false) (.seq (.seq (rg 6 Z75 79 false) (.cond (.tmp 48) (.seq (rg 7 Z75 303 false) .ret) .skip)) (.seq (rg 8 Z75 95 false) (.seq (.seq (rg 9 Z75 319 false) (.block 0 (.loop 4000 [1,2,3,4,9,11,12] [] [(.exit 0)] ZaX))) (.seq (rg 21 Z75 383 false) (.seq (rg 22 Z75 767 false) (.seq (rg 23 Z75 1535 false) (.seq (rg 24 Z75 3071 false) (.seq (rg 25 Z75 6143 false) .ret))))))))))))
noncomputable def f4_f:AFun:={ code:=f4_c,nt:=162,res:=Try.f4.results.toList,fr:=[] }
noncomputable def Z5d:Code:=Z0o Try.f11
noncomputable def f11_c:ACode:=(.seq (rg 0 Z5d 2 false) (.seq (rg 1 Z5d 5 false) (.seq (rg 2 Z5d 11 false) (.seq (rg 3 Z5d 23 false) (.seq (.seq (rg 4 Z5d 79 false) (.cond (.tmp 50) (.seq (rg 5 Z5d 303 false) .ret) .skip)) (.seq (rg 6 Z5d 95 true) (.seq (rg 7 Z5d 191 true) (.seq (rg 8 Z5d 383 true) (.seq (rg 9 Z5d 767 false) (.seq (rg 10 Z5d 1535 false) (.seq (.seq (rg 11 Z5d 5119 false) (.cond (.tmp 128) (.seq (rg 12 Z5d 19455 false) .ret) .skip)) (.seq (rg 13 Z5d 6143 false) (.seq (rg 14 Z5d 12287 false) (.seq (rg 15 Z5d 24575 false) .ret))))))))))))))
noncomputable def ZgU:AFun:={ code:=f11_c,nt:=175,res:=Try.f11.results.toList,fr:=[] }
noncomputable def ZnZ:Code:=Z0o Try.f12
noncomputable def f12_c:ACode:=(.seq (rg 0 ZnZ 2 false) (.seq (rg 1 ZnZ 5 false) .ret))
noncomputable def ZlT:AFun:={ code:=f12_c,nt:=7,res:=Try.f12.results.toList,fr:=[] }
noncomputable def Z50:Code:=Z0o Try.f13
noncomputable def Z3o:ACode:=(.seq (.seq (rg 8 Z50 33943 false) (.cond (.tmp 18) .skip (.exit 2))) (.seq (.join [(.normal,[1,2,3,4,5]),(.ret,[1,2,3,4,5])] (.block 3 (.seq (rg 10 Z50 140439 false) (.seq (.seq (rg 11 Z50 599191 false) (.cond (.tmp 36) (.exit 3) .skip)) (.seq (.seq (rg 12 Z50 1254551 false) (.cond (.tmp 65) (.seq (rg 13 Z50 4924567 false) .ret) .skip)) (.seq (rg 14 Z50 1516695 true) (.cond (.tmp 82) (.seq (rg 15 Z50 5186711 false) .ret) .skip))))))) (rg 9 Z50 58519 false)))
noncomputable def Z3m (rd:Option Nat):Key:=.lp 13001 [1,2,3,4,5] [] Z3o 83 rd
noncomputable def Z3p:ACode:=(.seq (.seq (rg 5 Z50 535 false) (.cond (.tmp 14) .skip (.exit 0))) (.seq (.block 1 (.seq (rg 7 Z50 2199 false) (.block 2 (.loop 13001 [1,2,3,4,5] [] [(.exit 2),.ret] Z3o)))) (rg 6 Z50 919 false)))
noncomputable def Z3n (rd:Option Nat):Key:=.lp 13000 [1,2,3,4] [] Z3p 83 rd
noncomputable def f13_c:ACode:=(.seq (rg 0 Z50 2 false) (.seq (rg 1 Z50 5 false) (.seq (.seq (rg 2 Z50 19 false) (.cond (.tmp 11) (.seq (rg 3 Z50 75 false) .ret) .skip)) (.seq (.seq (rg 4 Z50 39 false) (.block 0 (.loop 13000 [1,2,3,4] [] [(.exit 0),.ret] Z3p))) (.seq (rg 16 Z50 47 false) .ret)))))
noncomputable def Zdf:AFun:={ code:=f13_c,nt:=83,res:=Try.f13.results.toList,fr:=[] }
noncomputable def Z4l:Code:=Z0o Try.f14
noncomputable def Z3k:ACode:=(.seq (rg 11 Z4l 570159 false) (.seq (.cond (.tmp 44) .skip (.exit 2)) (.seq (.block 3 (.seq (rg 12 Z4l 9220911 false) (.seq (rg 13 Z4l 21803823 false) (.join [(.normal,[1,5,7,9,10,26,27,28,42,43])] (.cond (.tmp 52) (rg 14 Z4l 46969647 false) .skip))))) (rg 15 Z4l 3978031 false))))
noncomputable def ZgR (rd:Option Nat):Key:=.lp 14001 [1,5,7,9,10,26,27,28,42,43] [] Z3k 68 rd
noncomputable def Z3l:ACode:=(.seq (rg 7 Z4l 559 false) (.seq (.cond (.tmp 29) .skip (.exit 0)) (.seq (.block 1 (.seq (rg 8 Z4l 9007 false) (.seq (rg 9 Z4l 21295 false) (.seq (.seq (rg 10 Z4l 78639 false) (.block 2 (.loop 14001 [1,5,7,9,10,26,27,28,42,43] [] [(.exit 2)] Z3k))) (rg 16 Z4l 62255 false))))) (rg 17 Z4l 3887 false))))
noncomputable def ZgS (rd:Option Nat):Key:=.lp 14000 [1,5,7,26,27,28] [] Z3l 68 rd
noncomputable def f14_c:ACode:=(.seq (rg 0 Z4l 2 false) (.seq (.seq (rg 1 Z4l 9 false) (.seq (rg 2 Z4l 21 false) (.cond (.tmp 15) (.seq (rg 3 Z4l 77 false) .ret) .skip))) (.seq (rg 4 Z4l 11 false) (.seq (rg 5 Z4l 23 false) (.seq (.seq (rg 6 Z4l 79 false) (.block 0 (.loop 14000 [1,5,7,26,27,28] [] [(.exit 0)] Z3l))) (.seq (rg 18 Z4l 95 false) .ret))))))
noncomputable def ZgT:AFun:={ code:=f14_c,nt:=68,res:=Try.f14.results.toList,fr:=[] }
noncomputable def Z3E:Code:=Z0o Try.f15
noncomputable def Z3g:ACode:=(.seq (rg 13 Z3E 37329303 false) (.seq (.cond (.tmp 64) .skip (.exit 4)) (.seq (.block 5 (.seq (rg 14 Z3E 590977431 false) (.seq (rg 15 Z3E 1396283799 false) (.join [(.normal,[1,7,8,10,28,29,30,35,36,63])] (.cond (.tmp 68) (rg 16 Z3E 3006896535 false) .skip))))) (rg 17 Z3E 255433111 false))))
noncomputable def Za4 (rd:Option Nat):Key:=.lp 15002 [1,7,8,10,28,29,30,35,36,63] [] Z3g 80 rd
noncomputable def Z3h:ACode:=(.seq (rg 9 Z3E 72087 false) (.seq (.cond (.tmp 37) .skip (.exit 2)) (.seq (.join [(.normal,[1,7,8,28,29,30,35,36])] (.block 3 (.seq (rg 10 Z3E 1153431 false) (.seq (.seq (rg 11 Z3E 4823447 false) (.cond (.tmp 62) (.exit 3) .skip)) (.seq (rg 12 Z3E 5872023 false) (.block 4 (.loop 15002 [1,7,8,10,28,29,30,35,36,63] [] [(.exit 4)] Z3g))))))) (rg 18 Z3E 498071 false))))
noncomputable def Z5w (rd:Option Nat):Key:=.lp 15001 [1,7,8,28,29,30,35,36] [] Z3h 80 rd
noncomputable def Z3i:ACode:=(.seq (rg 6 Z3E 279 false) (.seq (.cond (.tmp 31) .skip (.exit 0)) (.seq (.block 1 (.seq (rg 7 Z3E 4503 false) (.seq (rg 8 Z3E 10647 false) (.block 2 (.loop 15001 [1,7,8,28,29,30,35,36] [] [(.exit 2)] Z3h))))) (rg 19 Z3E 1943 false))))
noncomputable def Za5 (rd:Option Nat):Key:=.lp 15000 [1,7,28,29,30] [] Z3i 80 rd
noncomputable def f15_c:ACode:=(.seq (rg 0 Z3E 2 false) (.seq (.seq (rg 1 Z3E 9 false) (.seq (rg 2 Z3E 21 false) (.cond (.tmp 18) (.seq (rg 3 Z3E 77 false) .ret) .skip))) (.seq (rg 4 Z3E 11 false) (.seq (.seq (rg 5 Z3E 39 false) (.block 0 (.loop 15000 [1,7,28,29,30] [] [(.exit 0)] Z3i))) (.seq (rg 20 Z3E 47 false) .ret)))))
noncomputable def Zde:AFun:={ code:=f15_c,nt:=80,res:=Try.f15.results.toList,fr:=[] }
noncomputable def ZgQ:Code:=Z0o Try.f16
noncomputable def f16_c:ACode:=(.seq (rg 0 ZgQ 2 false) (.seq (.seq (rg 1 ZgQ 9 false) (.seq (rg 2 ZgQ 21 false) (.cond (.tmp 12) (.seq (rg 3 ZgQ 77 false) .ret) .skip))) (.seq (rg 4 ZgQ 11 false) .ret)))
noncomputable def Zdd:AFun:={ code:=f16_c,nt:=17,res:=Try.f16.results.toList,fr:=[] }
noncomputable def ZnX:Code:=Z0o Try.f17
noncomputable def f17_c:ACode:=(.seq (rg 0 ZnX 2 false) (.seq (rg 1 ZnX 5 false) .ret))
noncomputable def Zdc:AFun:={ code:=f17_c,nt:=9,res:=Try.f17.results.toList,fr:=[] }
noncomputable def ZbQ:Code:=Z0o Try.f18
noncomputable def Z7o:ACode:=(.seq (.seq (rg 2 ZbQ 133 false) (.cond (.tmp 7) .skip (.exit 0))) (.seq (.block 1 (.seq (rg 4 ZbQ 549 false) (.cond (.tmp 15) (.seq (rg 5 ZbQ 2341 false) .ret) .skip))) (rg 3 ZbQ 229 false)))
noncomputable def Za3 (rd:Option Nat):Key:=.lp 18000 [0,2,3] [] Z7o 16 rd
noncomputable def f18_c:ACode:=(.seq (rg 0 ZbQ 2 false) (.seq (.seq (rg 1 ZbQ 9 false) (.block 0 (.loop 18000 [0,2,3] [] [(.exit 0),.ret] Z7o))) (.seq (rg 6 ZbQ 11 false) .ret)))
noncomputable def ZlQ:AFun:={ code:=f18_c,nt:=16,res:=Try.f18.results.toList,fr:=[] }
noncomputable def Z26:Code:=Z0o Try.f19
noncomputable def Z7k:ACode:=(.seq (.seq (rg 8 Z26 2143 false) (.cond (.tmp 34) .skip (.exit 0))) (.seq (.block 1 (rg 10 Z26 4703 false)) (rg 9 Z26 3679 false)))
noncomputable def Za2 (rd:Option Nat):Key:=.lp 19000 [1,2,3,6,8,9,10] [] Z7k 103 rd
noncomputable def Z7i:ACode:=(.seq (.seq (rg 17 Z26 2181503 false) (.cond (.tmp 50) .skip (.exit 4))) (.seq (.join [(.normal,[1,2,3,6,8,9,11,12,13,14])] (.block 5 (.seq (rg 19 Z26 8997247 true) (.seq (.seq (rg 20 Z26 38357375 false) (.cond (.tmp 70) (.seq (rg 21 Z26 155797887 false) (.exit 5)) .skip)) (.seq (rg 22 Z26 46745983 false) (rg 23 Z26 63523199 true)))))) (rg 18 Z26 3754367 false)))
noncomputable def Za0 (rd:Option Nat):Key:=.lp 19002 [1,2,3,6,8,9,11,12,13,14] [] Z7i 103 rd
noncomputable def Z7j:ACode:=(.seq (.seq (rg 13 Z26 8575 false) (.cond (.tmp 46) .skip (.exit 2))) (.seq (.block 3 (.seq (rg 15 Z26 35199 false) (.seq (.seq (rg 16 Z26 149887 false) (.block 4 (.loop 19002 [1,2,3,6,8,9,11,12,13,14] [] [(.exit 4)] Z7i))) (rg 24 Z26 117119 false)))) (rg 14 Z26 14719 false)))
noncomputable def Za1 (rd:Option Nat):Key:=.lp 19001 [1,2,3,6,8,9,11,12] [] Z7j 103 rd
noncomputable def f19_c:ACode:=(.seq (rg 0 Z26 2 false) (.seq (.seq (rg 1 Z26 9 false) (.cond (.tmp 19) (.seq (rg 2 Z26 37 false) .ret) .skip)) (.seq (rg 3 Z26 11 false) (.seq (.seq (rg 4 Z26 39 false) (.cond (.tmp 28) (.seq (rg 5 Z26 151 false) .ret) .skip)) (.seq (rg 6 Z26 47 false) (.seq (.seq (rg 7 Z26 159 false) (.block 0 (.loop 19000 [1,2,3,6,8,9,10] [] [(.exit 0)] Z7k))) (.seq (rg 11 Z26 191 false) (.seq (.seq (rg 12 Z26 639 false) (.block 2 (.loop 19001 [1,2,3,6,8,9,11,12] [] [(.exit 2)] Z7j))) (.seq (rg 25 Z26 767 false) .ret)))))))))
noncomputable def ZlO:AFun:={ code:=f19_c,nt:=103,res:=Try.f19.results.toList,fr:=[] }
noncomputable def Zdb:Code:=Z0o Try.f20
noncomputable def f20_c:ACode:=(.seq (rg 0 Zdb 2 false) (.seq (.seq (rg 1 Zdb 9 false) (.cond (.tmp 7) (.seq (rg 2 Zdb 37 false) .ret) .skip)) (.seq (.seq (rg 3 Zdb 19 false) (.cond (.tmp 12) (.seq (rg 4 Zdb 75 false) .ret) .skip)) (.seq (rg 5 Zdb 23 false) .ret))))
noncomputable def ZlL:AFun:={ code:=f20_c,nt:=19,res:=Try.f20.results.toList,fr:=[] }
noncomputable def Z9f:Code:=Z0o Try.f21
noncomputable def Z3f:ACode:=(.seq (.seq (rg 4 Z9f 267 false) (.cond (.tmp 14) .skip (.exit 0))) (.seq (.block 1 (.seq (rg 6 Z9f 1099 true) (.cond (.tmp 25) (.seq (rg 7 Z9f 4683 false) .ret) .skip))) (rg 5 Z9f 459 false)))
noncomputable def Z9Z (rd:Option Nat):Key:=.lp 21000 [0,1,4,5] [] Z3f 26 rd
noncomputable def f21_c:ACode:=(.seq (rg 0 Z9f 2 false) (.seq (.seq (rg 1 Z9f 9 false) (.cond (.tmp 10) (.seq (rg 2 Z9f 37 false) .ret) .skip)) (.seq (.seq (rg 3 Z9f 19 false) (.block 0 (.loop 21000 [0,1,4,5] [] [(.exit 0),.ret] Z3f))) (.seq (rg 8 Z9f 23 false) .ret))))
noncomputable def Zda:AFun:={ code:=f21_c,nt:=26,res:=Try.f21.results.toList,fr:=[] }
noncomputable def Z8L:Code:=Z0o Try.f22
noncomputable def Z7f:ACode:=(.seq (.seq (rg 6 Z8L 16971 true) (.cond (.tmp 29) .skip (.exit 2))) (.seq (.block 3 (rg 8 Z8L 37451 true)) (rg 7 Z8L 29259 false)))
noncomputable def Z9Y (rd:Option Nat):Key:=.lp 22001 [3,4,5] [] Z7f 49 rd
noncomputable def Z7g:ACode:=(.seq (.seq (rg 3 Z8L 267 false) (.cond (.tmp 12) .skip (.exit 0))) (.seq (.block 1 (.seq (rg 5 Z8L 1099 false) (.block 2 (.loop 22001 [3,4,5] [] [(.exit 2)] Z7f)))) (rg 4 Z8L 459 false)))
noncomputable def Z7e (rd:Option Nat):Key:=.lp 22000 [3,4] [] Z7g 49 rd
noncomputable def f22_c:ACode:=(.seq (rg 0 Z8L 2 false) (.seq (rg 1 Z8L 5 false) (.seq (.seq (rg 2 Z8L 19 false) (.block 0 (.loop 22000 [3,4] [] [(.exit 0)] Z7g))) (.seq (rg 9 Z8L 23 false) .ret))))
noncomputable def ZlJ:AFun:={ code:=f22_c,nt:=49,res:=Try.f22.results.toList,fr:=[] }
noncomputable def Z25:Code:=Z0o Try.f23
noncomputable def Z3d:ACode:=(.seq (rg 12 Z25 1140319 false) (.seq (.cond (.tmp 55) .skip (.exit 2)) (.seq (.block 3 (.seq (rg 13 Z25 18441823 false) (.seq (rg 14 Z25 43607647 false) (.join [(.normal,[1,4,5,8,11,12,33,34,35,53,54])] (.cond (.tmp 63) (rg 15 Z25 93939295 false) .skip))))) (rg 16 Z25 7956063 false))))
noncomputable def ZgN (rd:Option Nat):Key:=.lp 23001 [1,4,5,8,11,12,33,34,35,53,54] [] Z3d 112 rd
noncomputable def Z3c:ACode:=(.seq (rg 18 Z25 2287199 false) (.seq (.cond (.tmp 83) .skip (.exit 4)) (.seq (.block 5 (.seq (rg 19 Z25 36890207 false) (.seq (rg 20 Z25 87221855 false) (.join [(.normal,[1,4,5,8,11,12,33,34,35,81,82])] (.cond (.tmp 91) (rg 21 Z25 187885151 false) .skip))))) (rg 22 Z25 15918687 false))))
noncomputable def ZgM (rd:Option Nat):Key:=.lp 23002 [1,4,5,8,11,12,33,34,35,81,82] [] Z3c 112 rd
noncomputable def Z3e:ACode:=(.seq (rg 8 Z25 1119 false) (.seq (.cond (.tmp 36) .skip (.exit 0)) (.seq (.block 1 (.seq (rg 9 Z25 18015 false) (.seq (rg 10 Z25 42591 false) (.seq (.seq (rg 11 Z25 157279 false) (.block 2 (.loop 23001 [1,4,5,8,11,12,33,34,35,53,54] [] [(.exit 2)] Z3d))) (.seq (.seq (rg 17 Z25 321119 false) (.block 4 (.loop 23002 [1,4,5,8,11,12,33,34,35,81,82] [] [(.exit 4)] Z3c))) (rg 23 Z25 255583 false)))))) (rg 24 Z25 7775 false))))
noncomputable def ZgO (rd:Option Nat):Key:=.lp 23000 [1,4,5,8,33,34,35] [] Z3e 112 rd
noncomputable def f23_c:ACode:=(.seq (rg 0 Z25 2 false) (.seq (.seq (rg 1 Z25 9 false) (.seq (rg 2 Z25 21 false) (.cond (.tmp 20) (.seq (rg 3 Z25 77 false) .ret) .skip))) (.seq (rg 4 Z25 11 false) (.seq (rg 5 Z25 23 false) (.seq (rg 6 Z25 47 false) (.seq (.seq (rg 7 Z25 159 false) (.block 0 (.loop 23000 [1,4,5,8,33,34,35] [] [(.exit 0)] Z3e))) (.seq (rg 25 Z25 191 false) .ret)))))))
noncomputable def ZgP:AFun:={ code:=f23_c,nt:=112,res:=Try.f23.results.toList,fr:=[] }
noncomputable def Z5c:Code:=Z0o Try.f25
noncomputable def Z3b:ACode:=(.seq (rg 7 Z5c 279 false) (.seq (.cond (.tmp 31) .skip (.exit 0)) (.seq (.block 1 (.seq (rg 8 Z5c 4503 false) (.seq (rg 9 Z5c 10647 false) (.cond (.tmp 41) (.seq (rg 10 Z5c 39319 false) .ret) .skip)))) (rg 11 Z5c 1943 false))))
noncomputable def ZgK (rd:Option Nat):Key:=.lp 25000 [1,2,4,5,29,30] [] Z3b 52 rd
noncomputable def f25_c:ACode:=(.seq (rg 0 Z5c 2 false) (.seq (.seq (rg 1 Z5c 9 false) (.seq (rg 2 Z5c 21 false) (.cond (.tmp 13) (.seq (rg 3 Z5c 77 false) .ret) .skip))) (.seq (.seq (rg 4 Z5c 19 false) (.cond (.tmp 26) (.seq (rg 5 Z5c 75 false) .ret) .skip)) (.seq (.seq (rg 6 Z5c 39 false) (.block 0 (.loop 25000 [1,2,4,5,29,30] [] [(.exit 0),.ret] Z3b))) (.seq (rg 12 Z5c 47 false) (.seq (.seq (rg 13 Z5c 159 false) (.cond (.tmp 50) (.seq (rg 14 Z5c 607 false) .ret) .skip)) (.seq (rg 15 Z5c 191 false) .ret)))))))
noncomputable def ZgL:AFun:={ code:=f25_c,nt:=52,res:=Try.f25.results.toList,fr:=[] }
noncomputable def Z10:Code:=Z0o Try.f40
noncomputable def Z38:ACode:=(.seq (.seq (rg 28 Z10 17978004223 false) (.cond (.tmp 92) .skip (.exit 4))) (.seq (.block 5 (.seq (rg 30 Z10 73812579071 false) (.seq (.seq (rg 31 Z10 314330747647 false) (.cond (.tmp 107) (.seq (rg 32 Z10 1276403421951 false) .ret) .skip)) (rg 33 Z10 245611270911 false)))) (rg 29 Z10 30862906111 false)))
noncomputable def ZgG (rd:Option Nat):Key:=.lp 40002 [2,3,4,5,7,8,9,10,11,14] [] Z38 135 rd
noncomputable def Z39:ACode:=(.seq (.seq (rg 16 Z10 4363007 false) (.cond (.tmp 42) .skip (.exit 2))) (.seq (.join [(.ret,[2,3,4,5,7,8,9,10,11]),(.normal,[2,3,4,5,7,8,9,10,11])] (.block 3 (.seq (.seq (rg 18 Z10 34771711 false) (.cond (.tmp 48) (.seq (rg 19 Z10 152212223 false) .ret) .skip)) (.seq (.seq (rg 20 Z10 76714751 false) (.cond (.tmp 54) (.seq (rg 21 Z10 311595775 false) (.seq (rg 22 Z10 714248959 false) (.exit 3))) .skip)) (.seq (rg 23 Z10 93491967 false) (.seq (.seq (rg 24 Z10 328372991 false) (.cond (.tmp 85) (.seq (rg 25 Z10 1267897087 false) .ret) .skip)) (.seq (rg 26 Z10 395481855 false) (.seq (.seq (rg 27 Z10 1335005951 false) (.block 4 (.loop 40002 [2,3,4,5,7,8,9,10,11,14] [] [(.exit 4),.ret] Z38))) (rg 34 Z10 1066570495 false))))))))) (rg 17 Z10 7508735 false)))
noncomputable def ZgH (rd:Option Nat):Key:=.lp 40001 [2,3,4,5,7,8,9,10,11] [] Z39 135 rd
noncomputable def Z3a:ACode:=(.seq (.seq (rg 12 Z10 17151 false) (.cond (.tmp 38) .skip (.exit 0))) (.seq (.block 1 (.seq (rg 14 Z10 70399 false) (.seq (.seq (rg 15 Z10 299775 false) (.block 2 (.loop 40001 [2,3,4,5,7,8,9,10,11] [] [(.exit 2),.ret] Z39))) (rg 35 Z10 234239 false)))) (rg 13 Z10 29439 false)))
noncomputable def ZgI (rd:Option Nat):Key:=.lp 40000 [2,3,4,5,7,8,9] [] Z3a 135 rd
noncomputable def f40_c:ACode:=(.seq (rg 0 Z10 2 false) (.seq (.seq (rg 1 Z10 9 false) (.cond (.tmp 18) (.seq (rg 2 Z10 37 false) .ret) .skip)) (.seq (rg 3 Z10 11 false) (.seq (.seq (rg 4 Z10 39 false) (.cond (.tmp 24) (.seq (rg 5 Z10 151 false) .ret) .skip)) (.seq (rg 6 Z10 47 false) (.seq (.seq (rg 7 Z10 159 false) (.cond (.tmp 34) (.seq (rg 8 Z10 607 false) .ret) .skip)) (.seq (rg 9 Z10 191 false) (.seq (rg 10 Z10 383 false) (.seq (.seq (rg 11 Z10 1279 false) (.block 0 (.loop 40000 [2,3,4,5,7,8,9] [] [(.exit 0),.ret] Z3a))) (.seq (.seq (rg 36 Z10 2559 false) (.cond (.tmp 128) (.seq (rg 37 Z10 9727 false) .ret) .skip)) (.seq (.seq (rg 38 Z10 5119 false) (.cond (.tmp 132) (.seq (rg 39 Z10 19455 false) .ret) .skip)) (.seq (rg 40 Z10 6143 false) .ret))))))))))))
noncomputable def ZgJ:AFun:={ code:=f40_c,nt:=135,res:=Try.f40.results.toList,fr:=[] }
noncomputable def Z9e:Code:=Z0o Try.f41
noncomputable def Z37:ACode:=(.seq (.seq (rg 3 Z9e 267 false) (.cond (.tmp 6) .skip (.exit 0))) (.seq (.block 1 (.seq (.seq (rg 5 Z9e 2123 false) (.cond (.tmp 25) (.seq (rg 6 Z9e 9291 false) .ret) .skip)) (rg 7 Z9e 1611 false))) (rg 4 Z9e 459 false)))
noncomputable def Z4h (rd:Option Nat):Key:=.lp 41000 [1,2,3,4] [] Z37 30 rd
noncomputable def f41_c:ACode:=(.seq (rg 0 Z9e 2 false) (.seq (rg 1 Z9e 5 false) (.seq (.seq (rg 2 Z9e 19 false) (.block 0 (.loop 41000 [1,2,3,4] [] [(.exit 0),.ret] Z37))) (.seq (rg 8 Z9e 23 false) .ret))))
noncomputable def Zd9:AFun:={ code:=f41_c,nt:=30,res:=Try.f41.results.toList,fr:=[] }
noncomputable def Z9d:Code:=Z0o Try.f42
noncomputable def Z36:ACode:=(.seq (.seq (rg 5 Z9d 535 false) (.cond (.tmp 10) .skip (.exit 0))) (.seq (.block 1 (rg 7 Z9d 1175 false)) (rg 6 Z9d 919 false)))
noncomputable def Z4g (rd:Option Nat):Key:=.lp 42000 [1,2,3,4] [] Z36 19 rd
noncomputable def f42_c:ACode:=(.seq (rg 0 Z9d 2 false) (.seq (rg 1 Z9d 5 false) (.seq (.seq (rg 2 Z9d 19 false) (.cond (.tmp 7) (.seq (rg 3 Z9d 75 false) .ret) .skip)) (.seq (.seq (rg 4 Z9d 39 false) (.block 0 (.loop 42000 [1,2,3,4] [] [(.exit 0)] Z36))) (.seq (rg 8 Z9d 47 false) .ret)))))
noncomputable def Zd8:AFun:={ code:=f42_c,nt:=19,res:=Try.f42.results.toList,fr:=[] }
noncomputable def Zd7:Code:=Z0o Try.f43
noncomputable def f43_c:ACode:=(.seq (rg 0 Zd7 2 false) (.seq (.block 0 (.seq (rg 1 Zd7 17 false) (.cond (.tmp 3) (.seq (rg 2 Zd7 73 false) .ret) (.seq (rg 3 Zd7 89 false) (.cond (.tmp 7) (.seq (rg 4 Zd7 313 false) .ret) .skip))))) (.seq (rg 5 Zd7 11 false) .ret)))
noncomputable def Zd6:AFun:={ code:=f43_c,nt:=12,res:=Try.f43.results.toList,fr:=[] }
noncomputable def Z63:Code:=Z0o Try.f44
noncomputable def Z34:ACode:=(.seq (rg 8 Z63 18263 false) (.seq (.cond (.tmp 53) .skip (.exit 2)) (.seq (.block 3 (.seq (rg 9 Z63 288599 false) (.seq (rg 10 Z63 681815 false) (.join [(.normal,[6,7,8,52])] (.cond (.tmp 64) (rg 11 Z63 1468247 true) .skip))))) (rg 12 Z63 124759 false))))
noncomputable def Z9X (rd:Option Nat):Key:=.lp 44001 [6,7,8,52] [] Z34 92 rd
noncomputable def Z1c:ACode:=(rg 4 Z63 151 false)
noncomputable def Z1b:ACode:=(.block 1 (.seq (rg 5 Z63 599 true) (.seq (rg 6 Z63 1367 true) (.seq (rg 7 Z63 2903 false) (.block 2 (.loop 44001 [6,7,8,52] [] [(.exit 2)] Z34))))))
noncomputable def f44_c:ACode:=(.seq (rg 0 Z63 2 false) (.seq (rg 1 Z63 5 false) (.seq (rg 2 Z63 11 false) (.seq (.seq (rg 3 Z63 39 false) (.block 0 (.rangeFunc 44000 [1,5,6] [] [.normal] (.tmp 24) #[25] Z1c Z1b))) (.seq (rg 13 Z63 47 true) .ret)))))
noncomputable def Zd5:AFun:={ code:=f44_c,nt:=92,res:=Try.f44.results.toList,fr:=[] }
noncomputable def Z9c:Code:=Z0o Try.f45
noncomputable def Z33:ACode:=(.seq (rg 3 Z9c 139 false) (.seq (.cond (.tmp 11) .skip (.exit 0)) (.seq (.block 1 (.seq (rg 4 Z9c 2251 false) (.seq (rg 5 Z9c 5323 false) (.join [(.normal,[0,3,9,10])] (.cond (.tmp 17) (rg 6 Z9c 11467 false) .skip))))) (rg 7 Z9c 971 false))))
noncomputable def Z9W (rd:Option Nat):Key:=.lp 45000 [0,3,9,10] [] Z33 24 rd
noncomputable def f45_c:ACode:=(.seq (rg 0 Z9c 2 false) (.seq (rg 1 Z9c 5 false) (.seq (.seq (rg 2 Z9c 19 false) (.block 0 (.loop 45000 [0,3,9,10] [] [(.exit 0)] Z33))) (.seq (rg 8 Z9c 23 false) .ret))))
noncomputable def Zd4:AFun:={ code:=f45_c,nt:=24,res:=Try.f45.results.toList,fr:=[] }
noncomputable def ZiJ:Code:=Z0o Try.f46
noncomputable def Z32:ACode:=(.seq (.seq (rg 1 ZiJ 65 false) (.cond (.tmp 13) .skip (.exit 0))) (.block 1 (rg 2 ZiJ 81 false)))
noncomputable def Z9V (rd:Option Nat):Key:=.lp 46000 [0,1] [] Z32 22 rd
noncomputable def f46_c:ACode:=(.seq (rg 0 ZiJ 2 false) (.seq (.block 0 (.loop 46000 [0,1] [] [(.exit 0)] Z32)) (.seq (rg 3 ZiJ 11 false) .ret)))
noncomputable def Zd3:AFun:={ code:=f46_c,nt:=22,res:=Try.f46.results.toList,fr:=[] }
noncomputable def Z3D:Code:=Z0o Try.f47
noncomputable def Z2Z:ACode:=(.seq (rg 10 Z3D 142539 false) (.seq (.cond (.tmp 37) .skip (.exit 2)) (.seq (.block 3 (.seq (rg 11 Z3D 2305227 false) (.seq (rg 12 Z3D 5450955 false) (.cond (.tmp 48) (.seq (rg 13 Z3D 20131019 false) .ret) .skip)))) (rg 14 Z3D 994507 false))))
noncomputable def Z9U (rd:Option Nat):Key:=.lp 47001 [2,4,7,15,16,17,35,36] [] Z2Z 71 rd
noncomputable def Z1a:ACode:=(rg 16 Z3D 81099 false)
noncomputable def Z19:ACode:=(.block 5 (.seq (rg 17 Z3D 310475 true) (.cond (.tmp 69) (.seq (rg 18 Z3D 1227979 false) .ret) .skip)))
noncomputable def Z30:ACode:=(.seq (rg 5 Z3D 139 false) (.seq (.cond (.tmp 18) .skip (.exit 0)) (.seq (.block 1 (.seq (rg 6 Z3D 2251 false) (.seq (.seq (rg 7 Z3D 9419 false) (.cond (.tmp 32) (.seq (rg 8 Z3D 38091 false) .ret) .skip)) (.seq (.seq (rg 9 Z3D 19659 false) (.block 2 (.loop 47001 [2,4,7,15,16,17,35,36] [] [(.exit 2),.ret] Z2Z))) (.seq (rg 15 Z3D 23755 false) (.block 4 (.rangeFunc 47002 [4,7] [] [.normal,.ret] (.tmp 51) #[52] Z1a Z19))))))) (rg 19 Z3D 971 false))))
noncomputable def Z76 (rd:Option Nat):Key:=.lp 47000 [2,4,15,16,17] [] Z30 71 rd
noncomputable def f47_c:ACode:=(.seq (rg 0 Z3D 2 false) (.seq (.seq (rg 1 Z3D 9 false) (.seq (rg 2 Z3D 21 false) (.cond (.tmp 13) (.seq (rg 3 Z3D 77 false) .ret) .skip))) (.seq (.seq (rg 4 Z3D 19 false) (.block 0 (.loop 47000 [2,4,15,16,17] [] [(.exit 0),.ret] Z30))) (.seq (rg 20 Z3D 23 false) .ret))))
noncomputable def Zd2:AFun:={ code:=f47_c,nt:=71,res:=Try.f47.results.toList,fr:=[] }
noncomputable def Zb1:Code:=Z0o Try.f48
noncomputable def Z2Y:ACode:=(.seq (rg 3 Zb1 139 false) (.seq (.cond (.tmp 9) .skip (.exit 0)) (.seq (.block 1 (.seq (rg 4 Zb1 2251 false) (rg 5 Zb1 3275 false))) (rg 6 Zb1 971 false))))
noncomputable def Z9T (rd:Option Nat):Key:=.lp 48000 [3,6,7,8] [] Z2Y 17 rd
noncomputable def f48_c:ACode:=(.seq (rg 0 Zb1 2 false) (.seq (rg 1 Zb1 5 false) (.seq (.seq (rg 2 Zb1 19 false) (.block 0 (.loop 48000 [3,6,7,8] [] [(.exit 0)] Z2Y))) (.seq (rg 7 Zb1 23 false) .ret))))
noncomputable def Zd1:AFun:={ code:=f48_c,nt:=17,res:=Try.f48.results.toList,fr:=[] }
noncomputable def Z9b:Code:=Z0o Try.f49
noncomputable def Z2X:ACode:=(.seq (rg 4 Z9b 279 false) (.seq (.cond (.tmp 22) .skip (.exit 0)) (.seq (.block 1 (.seq (rg 5 Z9b 4503 false) (rg 6 Z9b 6551 false))) (rg 7 Z9b 1943 false))))
noncomputable def Z9S (rd:Option Nat):Key:=.lp 49000 [1,7,19,20,21] [] Z2X 36 rd
noncomputable def f49_c:ACode:=(.seq (rg 0 Z9b 2 false) (.seq (rg 1 Z9b 5 false) (.seq (rg 2 Z9b 11 false) (.seq (.seq (rg 3 Z9b 39 false) (.block 0 (.loop 49000 [1,7,19,20,21] [] [(.exit 0)] Z2X))) (.seq (rg 8 Z9b 47 false) .ret)))))
noncomputable def Zd0:AFun:={ code:=f49_c,nt:=36,res:=Try.f49.results.toList,fr:=[] }
noncomputable def ZnP:Code:=Z0o Try.f50
noncomputable def f50_c:ACode:=(.seq (rg 0 ZnP 2 false) (.seq (rg 1 ZnP 5 true) .ret))
noncomputable def ZcZ:AFun:={ code:=f50_c,nt:=29,res:=Try.f50.results.toList,fr:=[] }
noncomputable def Z7S:Code:=Z0o Try.f51
noncomputable def Z73:ACode:=(.seq (.seq (rg 5 Z7S 535 false) (.cond (.tmp 23) .skip (.exit 0))) (.seq (.block 1 (.seq (.seq (rg 7 Z7S 4247 false) (.cond (.tmp 55) (.seq (rg 8 Z7S 18583 false) .ret) .skip)) (rg 9 Z7S 3223 false))) (rg 6 Z7S 919 false)))
noncomputable def Z9R (rd:Option Nat):Key:=.lp 51000 [0,1,2,6,7,8] [] Z73 62 rd
noncomputable def f51_c:ACode:=(.seq (rg 0 Z7S 2 false) (.seq (.seq (rg 1 Z7S 9 false) (.cond (.tmp 18) (.seq (rg 2 Z7S 37 false) .ret) .skip)) (.seq (rg 3 Z7S 11 false) (.seq (.seq (rg 4 Z7S 39 false) (.block 0 (.loop 51000 [0,1,2,6,7,8] [] [(.exit 0),.ret] Z73))) (.seq (rg 10 Z7S 47 false) .ret)))))
noncomputable def ZlE:AFun:={ code:=f51_c,nt:=62,res:=Try.f51.results.toList,fr:=[] }
noncomputable def Z9a:Code:=Z0o Try.f52
noncomputable def Z72:ACode:=(.seq (.seq (rg 5 Z9a 535 false) (.cond (.tmp 17) .skip (.exit 0))) (.seq (.block 1 (rg 7 Z9a 1175 false)) (rg 6 Z9a 919 false)))
noncomputable def Z49 (rd:Option Nat):Key:=.lp 52000 [2,3,4,5,6] [] Z72 28 rd
noncomputable def f52_c:ACode:=(.seq (rg 0 Z9a 2 false) (.seq (rg 1 Z9a 5 false) (.seq (.seq (rg 2 Z9a 19 false) (.cond (.tmp 14) (.seq (rg 3 Z9a 75 false) .ret) .skip)) (.seq (.seq (rg 4 Z9a 39 false) (.block 0 (.loop 52000 [2,3,4,5,6] [] [(.exit 0)] Z72))) (.seq (rg 8 Z9a 47 false) .ret)))))
noncomputable def ZlC:AFun:={ code:=f52_c,nt:=28,res:=Try.f52.results.toList,fr:=[] }
noncomputable def ZiE:Code:=Z0o Try.f53
noncomputable def f53_c:ACode:=(.seq (rg 0 ZiE 2 false) (.seq (.seq (rg 1 ZiE 9 false) (.cond (.tmp 4) (.seq (rg 2 ZiE 37 false) .ret) .skip)) (.seq (rg 3 ZiE 11 false) .ret)))
noncomputable def Zgy:AFun:={ code:=f53_c,nt:=8,res:=Try.f53.results.toList,fr:=[] }
noncomputable def ZnL:Code:=Z0o Try.f55
noncomputable def f55_c:ACode:=(.seq (rg 0 ZnL 2 false) (.seq (rg 1 ZnL 5 false) .ret))
noncomputable def ZcY:AFun:={ code:=f55_c,nt:=6,res:=Try.f55.results.toList,fr:=[] }
noncomputable def Z99:Code:=Z0o Try.f56
noncomputable def Z2W:ACode:=(.seq (rg 3 Z99 139 false) (.seq (.cond (.tmp 9) .skip (.exit 0)) (.seq (.block 1 (.seq (rg 4 Z99 2251 false) (.seq (rg 5 Z99 5323 false) (.join [(.normal,[3,6,7,8])] (.cond (.tmp 13) (rg 6 Z99 11467 false) .skip))))) (rg 7 Z99 971 false))))
noncomputable def Z9Q (rd:Option Nat):Key:=.lp 56000 [3,6,7,8] [] Z2W 19 rd
noncomputable def f56_c:ACode:=(.seq (rg 0 Z99 2 false) (.seq (rg 1 Z99 5 false) (.seq (.seq (rg 2 Z99 19 false) (.block 0 (.loop 56000 [3,6,7,8] [] [(.exit 0)] Z2W))) (.seq (rg 8 Z99 23 false) .ret))))
noncomputable def ZcX:AFun:={ code:=f56_c,nt:=19,res:=Try.f56.results.toList,fr:=[] }
noncomputable def Z0Z:Code:=Z0o Try.f57
noncomputable def Z2V:ACode:=(.seq (rg 4 Z0Z 279 false) (.seq (.cond (.tmp 35) .skip (.exit 0)) (.seq (.block 1 (.seq (rg 5 Z0Z 4503 false) (rg 6 Z0Z 6551 true))) (rg 7 Z0Z 1943 false))))
noncomputable def Zgw (rd:Option Nat):Key:=.lp 57000 [1,2,4,5,6,7,33,34] [] Z2V 200 rd
noncomputable def Z2S:ACode:=(.seq (rg 21 Z0Z 1179372735 false) (.seq (.cond (.tmp 95) .skip (.exit 6)) (.seq (.join [(.normal,[2,4,5,7,11,14,15,16,17,18,62,63,64,93,94]),(.ret,[2,4,5,7,11,14,15,16,17,18,62,63,64,93,94])] (.block 7 (.seq (rg 22 Z0Z 18896112831 false) (.seq (.seq (rg 23 Z0Z 79025654975 false) (.cond (.tmp 105) (.exit 7) .skip)) (.seq (rg 24 Z0Z 96205524159 true) (.seq (rg 25 Z0Z 199284739263 false) (.block 8 (.seq (rg 26 Z0Z 680321076415 false) (.join [(.normal,[2,4,5,7,11,14,15,16,17,18,62,63,64,93,94]),(.ret,[2,4,5,7,11,14,15,16,17,18,62,63,64,93,94])] (.cond (.tmp 134) (.seq (rg 27 Z0Z 2604466425023 false) (.seq (rg 28 Z0Z 5903001308351 false) (.seq (rg 29 Z0Z 12500071075007 false) (rg 30 Z0Z 16898117586111 false)))) (.seq (rg 31 Z0Z 3154222238911 false) (.cond (.tmp 166) (.seq (rg 32 Z0Z 10850803633343 false) .ret) .skip)))))))))))) (rg 33 Z0Z 8158694591 false))))
noncomputable def Zgt (rd:Option Nat):Key:=.lp 57003 [2,4,5,7,11,14,15,16,17,18,62,63,64,93,94] [] Z2S 200 rd
noncomputable def Z2T:ACode:=(.seq (.seq (rg 17 Z0Z 17550527 false) (.cond (.tmp 76) .skip (.exit 4))) (.seq (.block 5 (.seq (rg 19 Z0Z 72076479 true) (.seq (rg 20 Z0Z 172739775 false) (.block 6 (.loop 57003 [2,4,5,7,11,14,15,16,17,18,62,63,64,93,94] [] [(.exit 6),.ret] Z2S))))) (rg 18 Z0Z 30133439 false)))
noncomputable def Zgu (rd:Option Nat):Key:=.lp 57002 [2,4,5,7,11,14,15,16,62,63,64] [] Z2T 200 rd
noncomputable def Z2R:ACode:=(.seq (rg 35 Z0Z 9424063 false) (.seq (.cond (.tmp 180) .skip (.exit 9)) (.seq (.block 10 (.seq (rg 36 Z0Z 147836095 false) (rg 37 Z0Z 214944959 false))) (rg 38 Z0Z 63950015 false))))
noncomputable def Zgs (rd:Option Nat):Key:=.lp 57004 [2,4,5,7,11,15,62,63,64,177,178,179] [] Z2R 200 rd
noncomputable def Z2U:ACode:=(.seq (rg 11 Z0Z 2239 false) (.seq (.cond (.tmp 65) .skip (.exit 2)) (.seq (.block 3 (.seq (rg 12 Z0Z 36031 false) (.seq (rg 13 Z0Z 85183 false) (.seq (rg 14 Z0Z 183487 false) (.seq (rg 15 Z0Z 380095 false) (.seq (.seq (rg 16 Z0Z 1297599 false) (.block 4 (.loop 57002 [2,4,5,7,11,14,15,16,62,63,64] [] [(.exit 4),.ret] Z2T))) (.seq (rg 34 Z0Z 1559743 false) (.block 9 (.loop 57004 [2,4,5,7,11,15,62,63,64,177,178,179] [] [(.exit 9)] Z2R))))))))) (rg 39 Z0Z 15551 false))))
noncomputable def Zgv (rd:Option Nat):Key:=.lp 57001 [2,4,5,7,11,62,63,64] [] Z2U 200 rd
noncomputable def f57_c:ACode:=(.seq (rg 0 Z0Z 2 false) (.seq (rg 1 Z0Z 5 false) (.seq (rg 2 Z0Z 11 false) (.seq (.seq (rg 3 Z0Z 39 false) (.block 0 (.loop 57000 [1,2,4,5,6,7,33,34] [] [(.exit 0)] Z2V))) (.seq (rg 8 Z0Z 47 false) (.seq (rg 9 Z0Z 95 false) (.seq (.seq (rg 10 Z0Z 319 false) (.block 2 (.loop 57001 [2,4,5,7,11,62,63,64] [] [(.exit 2),.ret] Z2U))) (.seq (rg 40 Z0Z 383 false) .ret))))))))
noncomputable def Zgx:AFun:={ code:=f57_c,nt:=200,res:=Try.f57.results.toList,fr:=[] }
noncomputable def ZnJ:Code:=Z0o Try.f59
noncomputable def f59_c:ACode:=(.seq (rg 0 ZnJ 2 false) (.seq (rg 1 ZnJ 5 false) .ret))
noncomputable def ZcW:AFun:={ code:=f59_c,nt:=4,res:=Try.f59.results.toList,fr:=[] }
noncomputable def ZnI:Code:=Z0o Try.f60
noncomputable def f60_c:ACode:=(.seq (rg 0 ZnI 2 false) (.seq (rg 1 ZnI 5 false) .ret))
noncomputable def ZcV:AFun:={ code:=f60_c,nt:=6,res:=Try.f60.results.toList,fr:=[] }
noncomputable def Z6o:Code:=Z0o Try.f68
noncomputable def Z2Q:ACode:=(.seq (.seq (rg 4 Z6o 535 false) (.cond (.tmp 10) .skip (.exit 0))) (.seq (.block 1 (.seq (rg 6 Z6o 2199 false) (.seq (.seq (rg 7 Z6o 9367 false) (.join [(.normal,[0,3,4,5,6])] (.cond (.tmp 28) (rg 8 Z6o 21655 false) .skip))) (.seq (rg 9 Z6o 11415 false) (.join [(.normal,[0,3,4,5])] (.cond (.tmp 34) (.seq (rg 10 Z6o 40087 false) (rg 11 Z6o 56471 false)) .skip)))))) (rg 5 Z6o 919 false)))
noncomputable def Zgq (rd:Option Nat):Key:=.lp 68000 [0,3,4,5] [] Z2Q 43 rd
noncomputable def f68_c:ACode:=(.seq (rg 0 Z6o 2 false) (.seq (rg 1 Z6o 5 false) (.seq (rg 2 Z6o 11 false) (.seq (.seq (rg 3 Z6o 39 false) (.block 0 (.loop 68000 [0,3,4,5] [] [(.exit 0)] Z2Q))) (.seq (rg 12 Z6o 47 false) .ret)))))
noncomputable def Zgr:AFun:={ code:=f68_c,nt:=43,res:=Try.f68.results.toList,fr:=[] }
noncomputable def Z7R:Code:=Z0o Try.f69
noncomputable def Z2P:ACode:=(.seq (.seq (rg 5 Z7R 535 false) (.cond (.tmp 27) .skip (.exit 0))) (.seq (.block 1 (.seq (.seq (rg 7 Z7R 4247 false) (.cond (.tmp 39) (.seq (rg 8 Z7R 18583 false) .ret) .skip)) (rg 9 Z7R 3223 false))) (rg 6 Z7R 919 false)))
noncomputable def Zgo (rd:Option Nat):Key:=.lp 69000 [0,2,3,4,5] [] Z2P 51 rd
noncomputable def f69_c:ACode:=(.seq (rg 0 Z7R 2 false) (.seq (.seq (rg 1 Z7R 9 false) (.cond (.tmp 23) (.seq (rg 2 Z7R 37 false) .ret) .skip)) (.seq (rg 3 Z7R 11 false) (.seq (.seq (rg 4 Z7R 39 false) (.block 0 (.loop 69000 [0,2,3,4,5] [] [(.exit 0),.ret] Z2P))) (.seq (rg 10 Z7R 47 false) .ret)))))
noncomputable def Zgp:AFun:={ code:=f69_c,nt:=51,res:=Try.f69.results.toList,fr:=[] }
noncomputable def Z6m:Code:=Z0o Try.f70
noncomputable def Z1r:ACode:=(.seq (rg 5 Z6m 279 false) (rg 6 Z6m 407 false))
noncomputable def Z1q:ACode:=(.join [(.normal,[]),(.ret,[])] (.block 1 (.seq (.seq (rg 7 Z6m 1111 false) (.cond (.tmp 17) (.exit 1) .skip)) (.seq (.seq (rg 8 Z6m 2391 true) (.cond (.tmp 51) (.seq (rg 9 Z6m 9559 false) .ret) .skip)) (.seq (rg 10 Z6m 2903 true) (.cond (.tmp 70) (.seq (rg 11 Z6m 10071 false) .ret) .skip))))))
noncomputable def f70_c:ACode:=(.seq (rg 0 Z6m 2 false) (.seq (.seq (rg 1 Z6m 9 false) (.cond (.tmp 9) (.seq (rg 2 Z6m 37 false) .ret) .skip)) (.seq (rg 3 Z6m 11 false) (.seq (.seq (rg 4 Z6m 39 false) (.block 0 (.rangeFunc 70000 [1,2,3] [] [.normal,.ret] (.tmp 12) #[13,14] Z1r Z1q))) (.seq (rg 12 Z6m 47 false) .ret)))))
noncomputable def ZcU:AFun:={ code:=f70_c,nt:=71,res:=Try.f70.results.toList,fr:=[] }
noncomputable def ZaN:Code:=Z0o Try.f71
noncomputable def Z2N:ACode:=(.seq (rg 3 ZaN 139 false) (.seq (.cond (.tmp 12) .skip (.exit 0)) (.seq (.block 1 (.seq (rg 4 ZaN 2251 false) (rg 5 ZaN 3275 false))) (rg 6 ZaN 971 false))))
noncomputable def Z9P (rd:Option Nat):Key:=.lp 71000 [2,3,10,11] [] Z2N 21 rd
noncomputable def f71_c:ACode:=(.seq (rg 0 ZaN 2 false) (.seq (rg 1 ZaN 5 false) (.seq (.seq (rg 2 ZaN 19 false) (.block 0 (.loop 71000 [2,3,10,11] [] [(.exit 0)] Z2N))) (.seq (rg 7 ZaN 23 false) .ret))))
noncomputable def ZcT:AFun:={ code:=f71_c,nt:=21,res:=Try.f71.results.toList,fr:=[] }
noncomputable def ZnF:Code:=Z0o Try.f72
noncomputable def f72_c:ACode:=(.seq (rg 0 ZnF 2 false) (rg 1 ZnF 3 false))
noncomputable def ZcS:AFun:={ code:=f72_c,nt:=23,res:=Try.f72.results.toList,fr:=[] }
noncomputable def ZnE:Code:=Z0o Try.f73
noncomputable def f73_c:ACode:=(.seq (rg 0 ZnE 2 false) (.seq (rg 1 ZnE 5 false) .ret))
noncomputable def ZcR:AFun:={ code:=f73_c,nt:=8,res:=Try.f73.results.toList,fr:=[] }
noncomputable def Z8H:Code:=Z0o Try.f74
noncomputable def Z2M:ACode:=(.seq (rg 4 Z8H 279 false) (.seq (.cond (.tmp 35) .skip (.exit 0)) (.seq (.block 1 (.seq (rg 5 Z8H 4503 false) (.seq (rg 6 Z8H 10647 false) (.join [(.normal,[0,1,7,8,9,34])] (.cond (.tmp 43) (rg 7 Z8H 22935 false) .skip))))) (rg 8 Z8H 1943 false))))
noncomputable def Z9O (rd:Option Nat):Key:=.lp 74000 [0,1,7,8,9,34] [] Z2M 56 rd
noncomputable def f74_c:ACode:=(.seq (rg 0 Z8H 2 false) (.seq (rg 1 Z8H 5 true) (.seq (rg 2 Z8H 11 true) (.seq (.seq (rg 3 Z8H 39 false) (.block 0 (.loop 74000 [0,1,7,8,9,34] [] [(.exit 0)] Z2M))) (.seq (rg 9 Z8H 47 false) .ret)))))
noncomputable def ZcQ:AFun:={ code:=f74_c,nt:=56,res:=Try.f74.results.toList,fr:=[] }
noncomputable def ZnD:Code:=Z0o Try.f75
noncomputable def f75_c:ACode:=(.seq (rg 0 ZnD 2 false) (.seq (rg 1 ZnD 5 false) .ret))
noncomputable def ZcP:AFun:={ code:=f75_c,nt:=9,res:=Try.f75.results.toList,fr:=[] }
noncomputable def ZnC:Code:=Z0o Try.f76
noncomputable def f76_c:ACode:=(.seq (rg 0 ZnC 2 false) (.seq (rg 1 ZnC 5 false) .ret))
noncomputable def ZcO:AFun:={ code:=f76_c,nt:=9,res:=Try.f76.results.toList,fr:=[] }
noncomputable def Z62:Code:=Z0o Try.f77
noncomputable def Z2J:ACode:=(.seq (rg 8 Z62 2333081 false) (.seq (.cond (.tmp 45) .skip (.exit 4)) (.seq (.block 5 (.seq (rg 9 Z62 36936089 false) (.seq (rg 10 Z62 87267737 true) (.cond (.tmp 68) .ret .skip)))) (rg 11 Z62 15964569 false))))
noncomputable def Z6T (rd:Option Nat):Key:=.lp 77002 [0,3,5,6,9,10,11,16,17,44] [] Z2J 72 rd
noncomputable def Z2K:ACode:=(.seq (rg 4 Z62 4505 false) (.seq (.cond (.tmp 18) .skip (.exit 2)) (.seq (.join [(.normal,[0,3,9,10,11,16,17]),(.ret,[0,3,9,10,11,16,17])] (.block 3 (.seq (rg 5 Z62 72089 false) (.seq (.seq (rg 6 Z62 301465 false) (.cond (.tmp 43) (.exit 3) .skip)) (.seq (rg 7 Z62 367001 false) (.block 4 (.loop 77002 [0,3,5,6,9,10,11,16,17,44] [] [(.exit 4),.ret] Z2J))))))) (rg 12 Z62 31129 false))))
noncomputable def Z6U (rd:Option Nat):Key:=.lp 77001 [0,3,9,10,11,16,17] [] Z2K 72 rd
noncomputable def Z2L:ACode:=(.seq (rg 1 Z62 17 false) (.seq (.cond (.tmp 12) .skip (.exit 0)) (.seq (.block 1 (.seq (rg 2 Z62 281 false) (.seq (rg 3 Z62 665 false) (.block 2 (.loop 77001 [0,3,9,10,11,16,17] [] [(.exit 2),.ret] Z2K))))) (rg 13 Z62 121 false))))
noncomputable def Z9N (rd:Option Nat):Key:=.lp 77000 [0,9,10,11] [] Z2L 72 rd
noncomputable def f77_c:ACode:=(.seq (rg 0 Z62 2 false) (.block 0 (.loop 77000 [0,9,10,11] [] [(.exit 0),.ret] Z2L)))
noncomputable def ZcN:AFun:={ code:=f77_c,nt:=72,res:=Try.f77.results.toList,fr:=[] }
noncomputable def ZnB:Code:=Z0o Try.f83
noncomputable def f83_c:ACode:=(.seq (rg 0 ZnB 2 false) (.seq (rg 1 ZnB 5 false) .ret))
noncomputable def ZcM:AFun:={ code:=f83_c,nt:=4,res:=Try.f83.results.toList,fr:=[] }
noncomputable def Z8G:Code:=Z0o Try.f84
noncomputable def Z2I:ACode:=(.seq (rg 3 Z8G 139 false) (.seq (.cond (.tmp 8) .skip (.exit 0)) (.seq (.block 1 (.seq (rg 4 Z8G 2251 false) (.seq (.seq (rg 5 Z8G 9419 false) (.cond (.tmp 15) (.seq (rg 6 Z8G 38091 false) .ret) .skip)) (rg 7 Z8G 7371 false)))) (rg 8 Z8G 971 false))))
noncomputable def Z43 (rd:Option Nat):Key:=.lp 84000 [2,3,6,7] [] Z2I 23 rd
noncomputable def f84_c:ACode:=(.seq (rg 0 Z8G 2 false) (.seq (rg 1 Z8G 5 false) (.seq (.seq (rg 2 Z8G 19 false) (.block 0 (.loop 84000 [2,3,6,7] [] [(.exit 0),.ret] Z2I))) (.seq (rg 9 Z8G 23 false) .ret))))
noncomputable def ZcL:AFun:={ code:=f84_c,nt:=23,res:=Try.f84.results.toList,fr:=[] }
noncomputable def ZaM:Code:=Z0o Try.f85
noncomputable def Z2H:ACode:=(.seq (rg 3 ZaM 139 false) (.seq (.cond (.tmp 8) .skip (.exit 0)) (.seq (.block 1 (.seq (rg 4 ZaM 2251 false) (rg 5 ZaM 3275 false))) (rg 6 ZaM 971 false))))
noncomputable def Z42 (rd:Option Nat):Key:=.lp 85000 [2,3,6,7] [] Z2H 16 rd
noncomputable def f85_c:ACode:=(.seq (rg 0 ZaM 2 false) (.seq (rg 1 ZaM 5 false) (.seq (.seq (rg 2 ZaM 19 false) (.block 0 (.loop 85000 [2,3,6,7] [] [(.exit 0)] Z2H))) (.seq (rg 7 ZaM 23 false) .ret))))
noncomputable def ZcK:AFun:={ code:=f85_c,nt:=16,res:=Try.f85.results.toList,fr:=[] }
noncomputable def ZaL:Code:=Z0o Try.f86
noncomputable def Z2G:ACode:=(.seq (rg 2 ZaL 69 false) (.seq (.cond (.tmp 9) .skip (.exit 0)) (.seq (.block 1 (.seq (rg 3 ZaL 1125 false) (.seq (rg 4 ZaL 2661 false) (.cond (.tmp 16) (.seq (rg 5 ZaL 9829 false) .ret) .skip)))) (rg 6 ZaL 485 false))))
noncomputable def Z9L (rd:Option Nat):Key:=.lp 86000 [0,1,4,7,8] [] Z2G 19 rd
noncomputable def f86_c:ACode:=(.seq (rg 0 ZaL 2 false) (.seq (.seq (rg 1 ZaL 9 false) (.block 0 (.loop 86000 [0,1,4,7,8] [] [(.exit 0),.ret] Z2G))) (.seq (rg 7 ZaL 11 false) .ret)))
noncomputable def ZcJ:AFun:={ code:=f86_c,nt:=19,res:=Try.f86.results.toList,fr:=[] }
noncomputable def Zlx:Code:=Z0o Try.f87
noncomputable def f87_c:ACode:=(.seq (rg 0 Zlx 2 false) (.seq (rg 1 Zlx 5 false) (.seq (rg 2 Zlx 11 false) .ret)))
noncomputable def ZcI:AFun:={ code:=f87_c,nt:=4,res:=Try.f87.results.toList,fr:=[] }
noncomputable def ZnA:Code:=Z0o Try.f88
noncomputable def f88_c:ACode:=(.seq (rg 0 ZnA 2 false) (.seq (rg 1 ZnA 5 false) .ret))
noncomputable def ZcH:AFun:={ code:=f88_c,nt:=17,res:=Try.f88.results.toList,fr:=[] }
noncomputable def Znz:Code:=Z0o Try.f89
noncomputable def f89_c:ACode:=(.seq (rg 0 Znz 2 false) (.seq (rg 1 Znz 5 false) .ret))
noncomputable def ZcG:AFun:={ code:=f89_c,nt:=8,res:=Try.f89.results.toList,fr:=[] }
noncomputable def ZaK:Code:=Z0o Try.f90
noncomputable def Z2F:ACode:=(.seq (rg 2 ZaK 69 false) (.seq (.cond (.tmp 9) .skip (.exit 0)) (.seq (.block 1 (.seq (rg 3 ZaK 1125 false) (.seq (rg 4 ZaK 2661 false) (.cond (.tmp 16) (.seq (rg 5 ZaK 9829 false) .ret) .skip)))) (rg 6 ZaK 485 false))))
noncomputable def Z9K (rd:Option Nat):Key:=.lp 90000 [0,1,4,7,8] [] Z2F 19 rd
noncomputable def f90_c:ACode:=(.seq (rg 0 ZaK 2 false) (.seq (.seq (rg 1 ZaK 9 false) (.block 0 (.loop 90000 [0,1,4,7,8] [] [(.exit 0),.ret] Z2F))) (.seq (rg 7 ZaK 11 false) .ret)))
noncomputable def ZcF:AFun:={ code:=f90_c,nt:=19,res:=Try.f90.results.toList,fr:=[] }
noncomputable def Z98:Code:=Z0o Try.f91
noncomputable def Z2D:ACode:=(.seq (rg 4 Z98 4505 false) (.seq (.cond (.tmp 18) .skip (.exit 2)) (.seq (.block 3 (.seq (rg 5 Z98 72089 false) (.seq (rg 6 Z98 170393 false) (.cond (.tmp 27) .ret .skip)))) (rg 7 Z98 31129 false))))
noncomputable def Z3Y (rd:Option Nat):Key:=.lp 91001 [0,1,3,8,9,16,17] [] Z2D 30 rd
noncomputable def Z2E:ACode:=(.seq (rg 1 Z98 17 false) (.seq (.cond (.tmp 10) .skip (.exit 0)) (.seq (.block 1 (.seq (rg 2 Z98 281 false) (.seq (rg 3 Z98 665 false) (.block 2 (.loop 91001 [0,1,3,8,9,16,17] [] [(.exit 2),.ret] Z2D))))) (rg 8 Z98 121 false))))
noncomputable def Z3Z (rd:Option Nat):Key:=.lp 91000 [0,1,8,9] [] Z2E 30 rd
noncomputable def f91_c:ACode:=(.seq (rg 0 Z98 2 false) (.block 0 (.loop 91000 [0,1,8,9] [] [(.exit 0),.ret] Z2E)))
noncomputable def ZcE:AFun:={ code:=f91_c,nt:=30,res:=Try.f91.results.toList,fr:=[] }
noncomputable def bkT:BT AFun:=(.node 51 ZlE (.node 23 ZgP (.node 16 Zdd (.node 13 Zdf (.node 11 ZgU (.node 4 f4_f .leaf .leaf) (.node 12 ZlT .leaf .leaf)) (.node 15 Zde (.node 14 ZgT .leaf .leaf) .leaf)) (.node 20 ZlL (.node 18 ZlQ (.node 17 Zdc .leaf .leaf) (.node 19 ZlO .leaf .leaf)) (.node 22 ZlJ (.node 21 Zda .leaf .leaf) .leaf))) (.node 45 Zd4 (.node 42 Zd8 (.node 40 ZgJ (.node 25 ZgL .leaf .leaf) (.node 41 Zd9 .leaf .leaf)) (.node 44 Zd5 (.node 43 Zd6 .leaf .leaf) .leaf)) (.node 48 Zd1 (.node 47 Zd2 (.node 46 Zd3 .leaf .leaf) .leaf) (.node 50 ZcZ (.node 49 Zd0 .leaf .leaf) .leaf)))) (.node 74 ZcQ (.node 60 ZcV (.node 56 ZcX (.node 53 Zgy (.node 52 ZlC .leaf .leaf) (.node 55 ZcY .leaf .leaf)) (.node 59 ZcW (.node 57 Zgx .leaf .leaf) .leaf)) (.node 71 ZcT (.node 69 Zgp (.node 68 Zgr .leaf .leaf) (.node 70 ZcU .leaf .leaf)) (.node 73 ZcR (.node 72 ZcS .leaf .leaf) .leaf))) (.node 86 ZcJ (.node 83 ZcM (.node 76 ZcO (.node 75 ZcP .leaf .leaf) (.node 77 ZcN .leaf .leaf)) (.node 85 ZcK (.node 84 ZcL .leaf .leaf) .leaf)) (.node 89 ZcG (.node 88 ZcH (.node 87 ZcI .leaf .leaf) .leaf) (.node 91 ZcE (.node 90 ZcF .leaf .leaf) .leaf)))))
noncomputable def bk (f:FuncId):Option AFun:=bkT.look f
theorem bk_4:bk 4=some f4_f:=by kernel_rfl
theorem ok_4:Z0I P 4 f4_f:=⟨Try.f4,Z75,Try.func4,rfl,by kernel_rfl,by kernel_rfl,rfl,rfl⟩
theorem bk_11:bk 11=some ZgU:=by kernel_rfl
theorem ok_11:Z0I P 11 ZgU:=⟨Try.f11,Z5d,Try.func11,rfl,by kernel_rfl,by kernel_rfl,rfl,rfl⟩
theorem bk_12:bk 12=some ZlT:=by kernel_rfl
theorem ok_12:Z0I P 12 ZlT:=⟨Try.f12,ZnZ,Try.func12,rfl,by kernel_rfl,by kernel_rfl,rfl,rfl⟩
theorem bk_13:bk 13=some Zdf:=by kernel_rfl
theorem ok_13:Z0I P 13 Zdf:=⟨Try.f13,Z50,Try.func13,rfl,by kernel_rfl,by kernel_rfl,rfl,rfl⟩
theorem bk_14:bk 14=some ZgT:=by kernel_rfl
theorem ok_14:Z0I P 14 ZgT:=⟨Try.f14,Z4l,Try.func14,rfl,by kernel_rfl,by kernel_rfl,rfl,rfl⟩
theorem bk_15:bk 15=some Zde:=by kernel_rfl
theorem ok_15:Z0I P 15 Zde:=⟨Try.f15,Z3E,Try.func15,rfl,by kernel_rfl,by kernel_rfl,rfl,rfl⟩
theorem bk_16:bk 16=some Zdd:=by kernel_rfl
theorem ok_16:Z0I P 16 Zdd:=⟨Try.f16,ZgQ,Try.func16,rfl,by kernel_rfl,by kernel_rfl,rfl,rfl⟩
theorem bk_17:bk 17=some Zdc:=by kernel_rfl
theorem ok_17:Z0I P 17 Zdc:=⟨Try.f17,ZnX,Try.func17,rfl,by kernel_rfl,by kernel_rfl,rfl,rfl⟩
theorem bk_18:bk 18=some ZlQ:=by kernel_rfl
theorem ok_18:Z0I P 18 ZlQ:=⟨Try.f18,ZbQ,Try.func18,rfl,by kernel_rfl,by kernel_rfl,rfl,rfl⟩
theorem bk_19:bk 19=some ZlO:=by kernel_rfl
theorem ok_19:Z0I P 19 ZlO:=⟨Try.f19,Z26,Try.func19,rfl,by kernel_rfl,by kernel_rfl,rfl,rfl⟩
theorem bk_20:bk 20=some ZlL:=by kernel_rfl
theorem ok_20:Z0I P 20 ZlL:=⟨Try.f20,Zdb,Try.func20,rfl,by kernel_rfl,by kernel_rfl,rfl,rfl⟩
theorem bk_21:bk 21=some Zda:=by kernel_rfl
theorem ok_21:Z0I P 21 Zda:=⟨Try.f21,Z9f,Try.func21,rfl,by kernel_rfl,by kernel_rfl,rfl,rfl⟩
theorem bk_22:bk 22=some ZlJ:=by kernel_rfl
theorem ok_22:Z0I P 22 ZlJ:=⟨Try.f22,Z8L,Try.func22,rfl,by kernel_rfl,by kernel_rfl,rfl,rfl⟩
theorem bk_23:bk 23=some ZgP:=by kernel_rfl
theorem ok_23:Z0I P 23 ZgP:=⟨Try.f23,Z25,Try.func23,rfl,by kernel_rfl,by kernel_rfl,rfl,rfl⟩
theorem bk_25:bk 25=some ZgL:=by kernel_rfl
theorem ok_25:Z0I P 25 ZgL:=⟨Try.f25,Z5c,Try.func25,rfl,by kernel_rfl,by kernel_rfl,rfl,rfl⟩
theorem bk_40:bk 40=some ZgJ:=by kernel_rfl
theorem ok_40:Z0I P 40 ZgJ:=⟨Try.f40,Z10,Try.func40,rfl,by kernel_rfl,by kernel_rfl,rfl,rfl⟩
theorem bk_41:bk 41=some Zd9:=by kernel_rfl
theorem ok_41:Z0I P 41 Zd9:=⟨Try.f41,Z9e,Try.func41,rfl,by kernel_rfl,by kernel_rfl,rfl,rfl⟩
theorem bk_42:bk 42=some Zd8:=by kernel_rfl
theorem ok_42:Z0I P 42 Zd8:=⟨Try.f42,Z9d,Try.func42,rfl,by kernel_rfl,by kernel_rfl,rfl,rfl⟩
theorem bk_43:bk 43=some Zd6:=by kernel_rfl
theorem ok_43:Z0I P 43 Zd6:=⟨Try.f43,Zd7,Try.func43,rfl,by kernel_rfl,by kernel_rfl,rfl,rfl⟩
theorem bk_44:bk 44=some Zd5:=by kernel_rfl
theorem ok_44:Z0I P 44 Zd5:=⟨Try.f44,Z63,Try.func44,rfl,by kernel_rfl,by kernel_rfl,rfl,rfl⟩
theorem bk_45:bk 45=some Zd4:=by kernel_rfl
theorem ok_45:Z0I P 45 Zd4:=⟨Try.f45,Z9c,Try.func45,rfl,by kernel_rfl,by kernel_rfl,rfl,rfl⟩
theorem bk_46:bk 46=some Zd3:=by kernel_rfl
theorem ok_46:Z0I P 46 Zd3:=⟨Try.f46,ZiJ,Try.func46,rfl,by kernel_rfl,by kernel_rfl,rfl,rfl⟩
theorem bk_47:bk 47=some Zd2:=by kernel_rfl
theorem ok_47:Z0I P 47 Zd2:=⟨Try.f47,Z3D,Try.func47,rfl,by kernel_rfl,by kernel_rfl,rfl,rfl⟩
theorem bk_48:bk 48=some Zd1:=by kernel_rfl
theorem ok_48:Z0I P 48 Zd1:=⟨Try.f48,Zb1,Try.func48,rfl,by kernel_rfl,by kernel_rfl,rfl,rfl⟩
theorem bk_49:bk 49=some Zd0:=by kernel_rfl
theorem ok_49:Z0I P 49 Zd0:=⟨Try.f49,Z9b,Try.func49,rfl,by kernel_rfl,by kernel_rfl,rfl,rfl⟩
theorem bk_50:bk 50=some ZcZ:=by kernel_rfl
theorem ok_50:Z0I P 50 ZcZ:=⟨Try.f50,ZnP,Try.func50,rfl,by kernel_rfl,by kernel_rfl,rfl,rfl⟩
theorem bk_51:bk 51=some ZlE:=by kernel_rfl
theorem ok_51:Z0I P 51 ZlE:=⟨Try.f51,Z7S,Try.func51,rfl,by kernel_rfl,by kernel_rfl,rfl,rfl⟩
theorem bk_52:bk 52=some ZlC:=by kernel_rfl
theorem ok_52:Z0I P 52 ZlC:=⟨Try.f52,Z9a,Try.func52,rfl,by kernel_rfl,by kernel_rfl,rfl,rfl⟩
theorem bk_53:bk 53=some Zgy:=by kernel_rfl
theorem ok_53:Z0I P 53 Zgy:=⟨Try.f53,ZiE,Try.func53,rfl,by kernel_rfl,by kernel_rfl,rfl,rfl⟩
theorem bk_55:bk 55=some ZcY:=by kernel_rfl
theorem ok_55:Z0I P 55 ZcY:=⟨Try.f55,ZnL,Try.func55,rfl,by kernel_rfl,by kernel_rfl,rfl,rfl⟩
theorem bk_56:bk 56=some ZcX:=by kernel_rfl
theorem ok_56:Z0I P 56 ZcX:=⟨Try.f56,Z99,Try.func56,rfl,by kernel_rfl,by kernel_rfl,rfl,rfl⟩
theorem bk_57:bk 57=some Zgx:=by kernel_rfl
theorem ok_57:Z0I P 57 Zgx:=⟨Try.f57,Z0Z,Try.func57,rfl,by kernel_rfl,by kernel_rfl,rfl,rfl⟩
theorem bk_59:bk 59=some ZcW:=by kernel_rfl
theorem ok_59:Z0I P 59 ZcW:=⟨Try.f59,ZnJ,Try.func59,rfl,by kernel_rfl,by kernel_rfl,rfl,rfl⟩
theorem bk_60:bk 60=some ZcV:=by kernel_rfl
theorem ok_60:Z0I P 60 ZcV:=⟨Try.f60,ZnI,Try.func60,rfl,by kernel_rfl,by kernel_rfl,rfl,rfl⟩
theorem bk_68:bk 68=some Zgr:=by kernel_rfl
theorem ok_68:Z0I P 68 Zgr:=⟨Try.f68,Z6o,Try.func68,rfl,by kernel_rfl,by kernel_rfl,rfl,rfl⟩
theorem bk_69:bk 69=some Zgp:=by kernel_rfl
theorem ok_69:Z0I P 69 Zgp:=⟨Try.f69,Z7R,Try.func69,rfl,by kernel_rfl,by kernel_rfl,rfl,rfl⟩
theorem bk_70:bk 70=some ZcU:=by kernel_rfl
theorem ok_70:Z0I P 70 ZcU:=⟨Try.f70,Z6m,Try.func70,rfl,by kernel_rfl,by kernel_rfl,rfl,rfl⟩
theorem bk_71:bk 71=some ZcT:=by kernel_rfl
theorem ok_71:Z0I P 71 ZcT:=⟨Try.f71,ZaN,Try.func71,rfl,by kernel_rfl,by kernel_rfl,rfl,rfl⟩
theorem bk_72:bk 72=some ZcS:=by kernel_rfl
theorem ok_72:Z0I P 72 ZcS:=⟨Try.f72,ZnF,Try.func72,rfl,by kernel_rfl,by kernel_rfl,rfl,rfl⟩
theorem bk_73:bk 73=some ZcR:=by kernel_rfl
theorem ok_73:Z0I P 73 ZcR:=⟨Try.f73,ZnE,Try.func73,rfl,by kernel_rfl,by kernel_rfl,rfl,rfl⟩
theorem bk_74:bk 74=some ZcQ:=by kernel_rfl
theorem ok_74:Z0I P 74 ZcQ:=⟨Try.f74,Z8H,Try.func74,rfl,by kernel_rfl,by kernel_rfl,rfl,rfl⟩
theorem bk_75:bk 75=some ZcP:=by kernel_rfl
theorem ok_75:Z0I P 75 ZcP:=⟨Try.f75,ZnD,Try.func75,rfl,by kernel_rfl,by kernel_rfl,rfl,rfl⟩
theorem bk_76:bk 76=some ZcO:=by kernel_rfl
theorem ok_76:Z0I P 76 ZcO:=⟨Try.f76,ZnC,Try.func76,rfl,by kernel_rfl,by kernel_rfl,rfl,rfl⟩
theorem bk_77:bk 77=some ZcN:=by kernel_rfl
theorem ok_77:Z0I P 77 ZcN:=⟨Try.f77,Z62,Try.func77,rfl,by kernel_rfl,by kernel_rfl,rfl,rfl⟩
theorem bk_83:bk 83=some ZcM:=by kernel_rfl
theorem ok_83:Z0I P 83 ZcM:=⟨Try.f83,ZnB,Try.func83,rfl,by kernel_rfl,by kernel_rfl,rfl,rfl⟩
theorem bk_84:bk 84=some ZcL:=by kernel_rfl
theorem ok_84:Z0I P 84 ZcL:=⟨Try.f84,Z8G,Try.func84,rfl,by kernel_rfl,by kernel_rfl,rfl,rfl⟩
theorem bk_85:bk 85=some ZcK:=by kernel_rfl
theorem ok_85:Z0I P 85 ZcK:=⟨Try.f85,ZaM,Try.func85,rfl,by kernel_rfl,by kernel_rfl,rfl,rfl⟩
theorem bk_86:bk 86=some ZcJ:=by kernel_rfl
theorem ok_86:Z0I P 86 ZcJ:=⟨Try.f86,ZaL,Try.func86,rfl,by kernel_rfl,by kernel_rfl,rfl,rfl⟩
theorem bk_87:bk 87=some ZcI:=by kernel_rfl
theorem ok_87:Z0I P 87 ZcI:=⟨Try.f87,Zlx,Try.func87,rfl,by kernel_rfl,by kernel_rfl,rfl,rfl⟩
theorem bk_88:bk 88=some ZcH:=by kernel_rfl
theorem ok_88:Z0I P 88 ZcH:=⟨Try.f88,ZnA,Try.func88,rfl,by kernel_rfl,by kernel_rfl,rfl,rfl⟩
theorem bk_89:bk 89=some ZcG:=by kernel_rfl
theorem ok_89:Z0I P 89 ZcG:=⟨Try.f89,Znz,Try.func89,rfl,by kernel_rfl,by kernel_rfl,rfl,rfl⟩
theorem bk_90:bk 90=some ZcF:=by kernel_rfl
theorem ok_90:Z0I P 90 ZcF:=⟨Try.f90,ZaK,Try.func90,rfl,by kernel_rfl,by kernel_rfl,rfl,rfl⟩
theorem bk_91:bk 91=some ZcE:=by kernel_rfl
theorem ok_91:Z0I P 91 ZcE:=⟨Try.f91,Z98,Try.func91,rfl,by kernel_rfl,by kernel_rfl,rfl,rfl⟩
theorem bk_ok:Z6E P bk:=fun f a e=>BT.look_all (Q:=Z0I P) (t:=bkT) (ai ok_51 (ai (ai ok_23 (ai (ai ok_16 (ai (ai ok_13 (ai (ai ok_11 (ai (ai ok_4 (ai tt tt)) (ai ok_12 (ai tt tt)))) (ai ok_15 (ai (ai ok_14 (ai tt tt)) tt)))) (ai ok_20 (ai (ai ok_18 (ai (ai ok_17 (ai tt tt)) (ai ok_19 (ai tt tt)))) (ai ok_22 (ai (ai ok_21 (ai tt tt)) tt)))))) (ai ok_45 (ai (ai ok_42 (ai (ai ok_40 (ai (ai ok_25 (ai tt tt)) (ai ok_41 (ai tt tt)))) (ai ok_44 (ai (ai ok_43 (ai tt tt)) tt)))) (ai ok_48 (ai (ai ok_47 (ai (ai ok_46 (ai tt tt)) tt)) (ai ok_50 (ai (ai ok_49 (ai tt tt)) tt)))))))) (ai ok_74 (ai (ai ok_60 (ai (ai ok_56 (ai (ai ok_53 (ai (ai ok_52 (ai tt tt)) (ai ok_55 (ai tt tt)))) (ai ok_59 (ai (ai ok_57 (ai tt tt)) tt)))) (ai ok_71 (ai (ai ok_69 (ai (ai ok_68 (ai tt tt)) (ai ok_70 (ai tt tt)))) (ai ok_73 (ai (ai ok_72 (ai tt tt)) tt)))))) (ai ok_86 (ai (ai ok_83 (ai (ai ok_76 (ai (ai ok_75 (ai tt tt)) (ai ok_77 (ai tt tt)))) (ai ok_85 (ai (ai ok_84 (ai tt tt)) tt)))) (ai ok_89 (ai (ai ok_88 (ai (ai ok_87 (ai tt tt)) tt)) (ai ok_91 (ai (ai ok_90 (ai tt tt)) tt)))))))))) e
theorem mixed:P.follows .mixedOrders=true:=by kernel_rfl
def selF:List Nat:=[83,91,59,77,71,44,14,16,23,24,25,27,26,30,31,34,35,36,37,38,19,45,49,53,54,57,62,64,67,68,40,78,80,87,22,29]
def selL:List Nat:=[13000,13001,14001,15000,15001,15002,18000,19000,19002,21000,22000,22001,23001,23002,25000,4000,40001,40002,4001,4002,41000,42000,44001,46000,47001,48000,51000,52000,56000,57000,57004,63000,64000,64001,64002,65000,66000,67000,69000,71000,74000,78000,79000,80000,80001,81000,81001,82000,84000,85000,90000,86000]
def Zok (x:Nat):List Nat->Bool
 | []=>false
 | y::ys=>cond (Nat.beq x y) true (Zok x ys)
def sel:Key->Bool
 | .fn f=>!(Zok f selF)
 | .lp j _ _ _ _ _=>Zok j selL
 | .rnd ..=>false
noncomputable def ext:Fo FH:=fun f args h c=>match args with
 | []=>cond (Zok f [11]) (some { e:=.ret,vs:=[.bool true],h:=h,c:=c,df:=[] }) none
 | _=>none
noncomputable abbrev G:Orc FH:=Z6M P bk sel ext
end Go.Proofs.Ytcnndelmnobigaa
