/- Parts of a proof: K. Conditions: none. -/
import Derived.Test.YtemkjcpfgmbibaaChecked
import Derived.KernelRfl
import Derived.Test.YtemkjcpfgmbibaaM6
import Derived.Test.YtemkjcpfgmbibaaM8
set_option linter.all false
set_option maxRecDepth 100000
namespace Go.Proofs.Ytemkjcpfgmbibaa
open Go Go.Ab Go.Proofs
variable {H:Type} [HeapC H]
noncomputable abbrev P:=Try.prog
noncomputable def Z9a:Code:=Z0h Try.f5
noncomputable def f5_c:ACode:=(.seq (rg 0 Z9a 2 false) (.seq (rg 1 Z9a 5 false) (.seq (rg 2 Z9a 11 false) (.seq (rg 3 Z9a 23 false) (.seq (rg 4 Z9a 47 false) (.seq (.seq (rg 5 Z9a 159 false) (.cond (.tmp 72) (.seq (rg 6 Z9a 607 false) .ret) .skip)) (.seq (rg 7 Z9a 191 false) (.seq (.seq (rg 8 Z9a 639 false) (.join [(.ret,[8]),(.normal,[4,5,7,9,10,13])] (.cond (.tmp 84) (.seq (rg 9 Z9a 2431 false) (.seq (rg 10 Z9a 5503 false) (.seq (rg 11 Z9a 11647 false) (.cond (.tmp 108) (.seq (rg 12 Z9a 40319 false) .ret) .skip)))) .skip))) (.seq (.seq (rg 13 Z9a 1279 false) (.cond (.tmp 116) (.seq (rg 14 Z9a 4863 false) .ret) .skip)) (.seq (rg 15 Z9a 1535 false) (.seq (.seq (rg 16 Z9a 5119 false) (.cond (.tmp 127) (.seq (rg 17 Z9a 19455 false) .ret) .skip)) (.seq (rg 18 Z9a 6143 false) (.seq (rg 19 Z9a 12287 false) .ret)))))))))))))
noncomputable def f5_f:AFun:={ code:=f5_c,nt:=149,res:=Try.f5.results.toList,fr:=[] }
noncomputable def Z3t:Code:=Z0h Try.f10
noncomputable def Z3k:ACode:=(rg 16 Z3t 629119 false)
noncomputable def Z3i:ACode:=(.block 3 (.seq (rg 17 Z3t 2464127 false) (.seq (rg 18 Z3t 5609855 false) (.join [(.normal,[])] (.cond (.tmp 60) (rg 19 Z3t 11901311 false) .skip)))))
noncomputable def Z3j:ACode:=(.seq (rg 13 Z3t 4479 false) (.seq (.cond (.tmp 48) .skip (.exit 0)) (.seq (.block 1 (.seq (rg 14 Z3t 72063 false) (.seq (rg 15 Z3t 170367 false) (.block 2 (.rangeFunc 10001 [2,3,9,10] [] [.normal] (.tmp 50) #[51] Z3k Z3i))))) (rg 20 Z3t 31103 false))))
noncomputable def Zgo (rd:Option Nat):Key:=.lp 10000 [2,3,9,46,47] [] Z3j 67 rd
noncomputable def f10_c:ACode:=(.seq (rg 0 Z3t 2 false) (.seq (.seq (rg 1 Z3t 9 false) (.seq (rg 2 Z3t 21 false) (.cond (.tmp 19) (.seq (rg 3 Z3t 77 false) .ret) .skip))) (.seq (rg 4 Z3t 11 false) (.seq (.seq (rg 5 Z3t 39 false) (.cond (.tmp 33) (.seq (rg 6 Z3t 151 false) .ret) .skip)) (.seq (.seq (rg 7 Z3t 79 false) (.cond (.tmp 36) (.seq (rg 8 Z3t 303 false) .ret) .skip)) (.seq (.seq (rg 9 Z3t 159 false) (.cond (.tmp 43) (.seq (rg 10 Z3t 607 false) .ret) .skip)) (.seq (rg 11 Z3t 191 false) (.seq (.seq (rg 12 Z3t 639 false) (.block 0 (.loop 10000 [2,3,9,46,47] [] [(.exit 0)] Z3j))) (.seq (rg 21 Z3t 767 false) .ret)))))))))
noncomputable def Zgp:AFun:={ code:=f10_c,nt:=67,res:=Try.f10.results.toList,fr:=[] }
noncomputable def Z9j:Code:=Z0h Try.f12
noncomputable def Z7l:ACode:=(.seq (.seq (rg 4 Z9j 267 false) (.cond (.tmp 25) .skip (.exit 0))) (.seq (.block 1 (.seq (rg 6 Z9j 1099 true) (.cond (.tmp 38) (.seq (rg 7 Z9j 4683 false) .ret) .skip))) (rg 5 Z9j 459 false)))
noncomputable def Za2 (rd:Option Nat):Key:=.lp 12000 [2,3,4,5] [] Z7l 39 rd
noncomputable def f12_c:ACode:=(.seq (rg 0 Z9j 2 false) (.seq (.seq (rg 1 Z9j 9 false) (.cond (.tmp 20) (.seq (rg 2 Z9j 37 false) .ret) .skip)) (.seq (.seq (rg 3 Z9j 19 false) (.block 0 (.loop 12000 [2,3,4,5] [] [(.exit 0),.ret] Z7l))) (.seq (rg 8 Z9j 23 false) .ret))))
noncomputable def Zlm:AFun:={ code:=f12_c,nt:=39,res:=Try.f12.results.toList,fr:=[] }
noncomputable def Zbc:Code:=Z0h Try.f13
noncomputable def f13_c:ACode:=(.seq (rg 0 Zbc 2 false) (.seq (rg 1 Zbc 5 false) (.seq (rg 2 Zbc 11 false) (.seq (rg 3 Zbc 23 false) (.seq (rg 4 Zbc 47 false) (.seq (rg 5 Zbc 95 true) (.seq (rg 6 Zbc 191 false) (.seq (rg 7 Zbc 383 false) .ret))))))))
noncomputable def Zgn:AFun:={ code:=f13_c,nt:=107,res:=Try.f13.results.toList,fr:=[] }
noncomputable def Zbb:Code:=Z0h Try.f14
noncomputable def f14_c:ACode:=(.seq (rg 0 Zbb 2 false) (.seq (.seq (rg 1 Zbb 9 false) (.seq (rg 2 Zbb 21 false) (.cond (.tmp 15) (.seq (rg 3 Zbb 77 false) .ret) .skip))) (.seq (rg 4 Zbb 11 false) (.seq (.seq (rg 5 Zbb 39 false) (.cond (.tmp 33) (.seq (rg 6 Zbb 151 false) .ret) .skip)) (.seq (rg 7 Zbb 47 false) .ret)))))
noncomputable def Zd2:AFun:={ code:=f14_c,nt:=34,res:=Try.f14.results.toList,fr:=[] }
noncomputable def Zi0:Code:=Z0h Try.f16
noncomputable def f16_c:ACode:=(.seq (rg 0 Zi0 2 false) (.seq (.seq (rg 1 Zi0 9 false) (.cond (.tmp 22) (.seq (rg 2 Zi0 37 false) .ret) .skip)) (.seq (rg 3 Zi0 11 false) .ret)))
noncomputable def Zd1:AFun:={ code:=f16_c,nt:=27,res:=Try.f16.results.toList,fr:=[] }
noncomputable def Z7P:Code:=Z0h Try.f17
noncomputable def Z7j:ACode:=(.seq (.seq (rg 6 Z7P 1071 false) (.cond (.tmp 30) .skip (.exit 0))) (.seq (.block 1 (.seq (rg 8 Z7P 4399 true) (rg 9 Z7P 6447 true))) (rg 7 Z7P 1839 false)))
noncomputable def Za1 (rd:Option Nat):Key:=.lp 17000 [2,3,4,6,7,8] [] Z7j 68 rd
noncomputable def f17_c:ACode:=(.seq (rg 0 Z7P 2 false) (.seq (rg 1 Z7P 5 false) (.seq (.seq (rg 2 Z7P 19 false) (.cond (.tmp 25) (.seq (rg 3 Z7P 75 false) .ret) .skip)) (.seq (rg 4 Z7P 23 false) (.seq (.seq (rg 5 Z7P 79 false) (.block 0 (.loop 17000 [2,3,4,6,7,8] [] [(.exit 0)] Z7j))) (.seq (rg 10 Z7P 95 false) .ret))))))
noncomputable def Zlj:AFun:={ code:=f17_c,nt:=68,res:=Try.f17.results.toList,fr:=[] }
noncomputable def ZhZ:Code:=Z0h Try.f18
noncomputable def f18_c:ACode:=(.seq (rg 0 ZhZ 2 false) (.seq (.seq (rg 1 ZhZ 9 false) (.cond (.tmp 6) (.seq (rg 2 ZhZ 37 false) .ret) .skip)) (.seq (rg 3 ZhZ 11 false) .ret)))
noncomputable def Zlh:AFun:={ code:=f18_c,nt:=10,res:=Try.f18.results.toList,fr:=[] }
noncomputable def Z7O:Code:=Z0h Try.f19
noncomputable def Z7h:ACode:=(.seq (.seq (rg 6 Z7O 1071 false) (.cond (.tmp 26) .skip (.exit 0))) (.seq (.block 1 (.seq (rg 8 Z7O 4399 true) (rg 9 Z7O 6447 true))) (rg 7 Z7O 1839 false)))
noncomputable def Za0 (rd:Option Nat):Key:=.lp 19000 [1,2,4,5,6] [] Z7h 53 rd
noncomputable def f19_c:ACode:=(.seq (rg 0 Z7O 2 false) (.seq (rg 1 Z7O 5 false) (.seq (.seq (rg 2 Z7O 19 false) (.cond (.tmp 17) (.seq (rg 3 Z7O 75 false) .ret) .skip)) (.seq (rg 4 Z7O 23 true) (.seq (.seq (rg 5 Z7O 79 false) (.block 0 (.loop 19000 [1,2,4,5,6] [] [(.exit 0)] Z7h))) (.seq (rg 10 Z7O 95 false) .ret))))))
noncomputable def Zlf:AFun:={ code:=f19_c,nt:=53,res:=Try.f19.results.toList,fr:=[] }
noncomputable def Z26:Code:=Z0h Try.f20
noncomputable def Z7d:ACode:=(.seq (.seq (rg 8 Z26 2143 false) (.cond (.tmp 34) .skip (.exit 0))) (.seq (.block 1 (rg 10 Z26 4703 false)) (rg 9 Z26 3679 false)))
noncomputable def Z9Z (rd:Option Nat):Key:=.lp 20000 [1,2,3,6,8,9,10] [] Z7d 103 rd
noncomputable def Z7b:ACode:=(.seq (.seq (rg 17 Z26 2181503 false) (.cond (.tmp 50) .skip (.exit 4))) (.seq (.join [(.normal,[1,2,3,6,8,9,11,12,13,14])] (.block 5 (.seq (rg 19 Z26 8997247 true) (.seq (.seq (rg 20 Z26 38357375 false) (.cond (.tmp 70) (.seq (rg 21 Z26 155797887 false) (.exit 5)) .skip)) (.seq (rg 22 Z26 46745983 false) (rg 23 Z26 63523199 true)))))) (rg 18 Z26 3754367 false)))
noncomputable def Z9X (rd:Option Nat):Key:=.lp 20002 [1,2,3,6,8,9,11,12,13,14] [] Z7b 103 rd
noncomputable def Z7c:ACode:=(.seq (.seq (rg 13 Z26 8575 false) (.cond (.tmp 46) .skip (.exit 2))) (.seq (.block 3 (.seq (rg 15 Z26 35199 false) (.seq (.seq (rg 16 Z26 149887 false) (.block 4 (.loop 20002 [1,2,3,6,8,9,11,12,13,14] [] [(.exit 4)] Z7b))) (rg 24 Z26 117119 false)))) (rg 14 Z26 14719 false)))
noncomputable def Z9Y (rd:Option Nat):Key:=.lp 20001 [1,2,3,6,8,9,11,12] [] Z7c 103 rd
noncomputable def f20_c:ACode:=(.seq (rg 0 Z26 2 false) (.seq (.seq (rg 1 Z26 9 false) (.cond (.tmp 19) (.seq (rg 2 Z26 37 false) .ret) .skip)) (.seq (rg 3 Z26 11 false) (.seq (.seq (rg 4 Z26 39 false) (.cond (.tmp 28) (.seq (rg 5 Z26 151 false) .ret) .skip)) (.seq (rg 6 Z26 47 false) (.seq (.seq (rg 7 Z26 159 false) (.block 0 (.loop 20000 [1,2,3,6,8,9,10] [] [(.exit 0)] Z7d))) (.seq (rg 11 Z26 191 false) (.seq (.seq (rg 12 Z26 639 false) (.block 2 (.loop 20001 [1,2,3,6,8,9,11,12] [] [(.exit 2)] Z7c))) (.seq (rg 25 Z26 767 false) .ret)))))))))
noncomputable def Zld:AFun:={ code:=f20_c,nt:=103,res:=Try.f20.results.toList,fr:=[] }
noncomputable def Z4B:Code:=Z0h Try.f22
noncomputable def Z3g:ACode:=(.seq (rg 10 Z4B 144175 false) (.seq (.cond (.tmp 32) .skip (.exit 2)) (.seq (.block 3 (.seq (rg 11 Z4B 2306863 false) (.seq (rg 12 Z4B 5452591 false) (rg 13 Z4B 7549743 false)))) (rg 14 Z4B 996143 false))))
noncomputable def Zgk (rd:Option Nat):Key:=.lp 22001 [7,24,25,26,30,31] [] Z3g 46 rd
noncomputable def Z3h:ACode:=(.seq (rg 7 Z4B 559 false) (.seq (.cond (.tmp 27) .skip (.exit 0)) (.seq (.block 1 (.seq (rg 8 Z4B 9007 false) (.seq (rg 9 Z4B 21295 false) (.block 2 (.loop 22001 [7,24,25,26,30,31] [] [(.exit 2)] Z3g))))) (rg 15 Z4B 3887 false))))
noncomputable def Zgl (rd:Option Nat):Key:=.lp 22000 [7,24,25,26] [] Z3h 46 rd
noncomputable def f22_c:ACode:=(.seq (rg 0 Z4B 2 false) (.seq (.seq (rg 1 Z4B 9 false) (.seq (rg 2 Z4B 21 false) (.cond (.tmp 16) (.seq (rg 3 Z4B 77 false) .ret) .skip))) (.seq (rg 4 Z4B 11 false) (.seq (rg 5 Z4B 23 false) (.seq (.seq (rg 6 Z4B 79 false) (.block 0 (.loop 22000 [7,24,25,26] [] [(.exit 0)] Z3h))) (.seq (rg 16 Z4B 95 false) .ret))))))
noncomputable def Zgm:AFun:={ code:=f22_c,nt:=46,res:=Try.f22.results.toList,fr:=[] }
noncomputable def Z4A:Code:=Z0h Try.f23
noncomputable def Z77:ACode:=(.seq (.seq (rg 8 Z4A 33943 false) (.cond (.tmp 18) .skip (.exit 2))) (.seq (.join [(.normal,[1,2,3,4,5]),(.ret,[1,2,3,4,5])] (.block 3 (.seq (rg 10 Z4A 140439 false) (.seq (.seq (rg 11 Z4A 599191 false) (.cond (.tmp 36) (.exit 3) .skip)) (.seq (.seq (rg 12 Z4A 1254551 false) (.cond (.tmp 65) (.seq (rg 13 Z4A 4924567 false) .ret) .skip)) (.seq (rg 14 Z4A 1516695 true) (.cond (.tmp 82) (.seq (rg 15 Z4A 5186711 false) .ret) .skip))))))) (rg 9 Z4A 58519 false)))
noncomputable def Z3d (rd:Option Nat):Key:=.lp 23001 [1,2,3,4,5] [] Z77 83 rd
noncomputable def Z78:ACode:=(.seq (.seq (rg 5 Z4A 535 false) (.cond (.tmp 14) .skip (.exit 0))) (.seq (.block 1 (.seq (rg 7 Z4A 2199 false) (.block 2 (.loop 23001 [1,2,3,4,5] [] [(.exit 2),.ret] Z77)))) (rg 6 Z4A 919 false)))
noncomputable def Z3e (rd:Option Nat):Key:=.lp 23000 [1,2,3,4] [] Z78 83 rd
noncomputable def f23_c:ACode:=(.seq (rg 0 Z4A 2 false) (.seq (rg 1 Z4A 5 false) (.seq (.seq (rg 2 Z4A 19 false) (.cond (.tmp 11) (.seq (rg 3 Z4A 75 false) .ret) .skip)) (.seq (.seq (rg 4 Z4A 39 false) (.block 0 (.loop 23000 [1,2,3,4] [] [(.exit 0),.ret] Z78))) (.seq (rg 16 Z4A 47 false) .ret)))))
noncomputable def Zla:AFun:={ code:=f23_c,nt:=83,res:=Try.f23.results.toList,fr:=[] }
noncomputable def Z9i:Code:=Z0h Try.f26
noncomputable def Z3c:ACode:=(.seq (.seq (rg 4 Z9i 267 false) (.cond (.tmp 14) .skip (.exit 0))) (.seq (.block 1 (.seq (rg 6 Z9i 1099 true) (.cond (.tmp 25) (.seq (rg 7 Z9i 4683 false) .ret) .skip))) (rg 5 Z9i 459 false)))
noncomputable def Z9S (rd:Option Nat):Key:=.lp 26000 [0,1,4,5] [] Z3c 26 rd
noncomputable def f26_c:ACode:=(.seq (rg 0 Z9i 2 false) (.seq (.seq (rg 1 Z9i 9 false) (.cond (.tmp 10) (.seq (rg 2 Z9i 37 false) .ret) .skip)) (.seq (.seq (rg 3 Z9i 19 false) (.block 0 (.loop 26000 [0,1,4,5] [] [(.exit 0),.ret] Z3c))) (.seq (rg 8 Z9i 23 false) .ret))))
noncomputable def Zd0:AFun:={ code:=f26_c,nt:=26,res:=Try.f26.results.toList,fr:=[] }
noncomputable def Z9h:Code:=Z0h Try.f28
noncomputable def f28_c:ACode:=(.seq (rg 0 Z9h 2 false) (.seq (.seq (rg 1 Z9h 9 false) (.seq (rg 2 Z9h 21 false) (.cond (.tmp 17) (.seq (rg 3 Z9h 77 false) .ret) .skip))) (.seq (rg 4 Z9h 11 false) (.seq (rg 5 Z9h 23 false) (.seq (.seq (rg 6 Z9h 79 false) (.cond (.tmp 33) (.seq (rg 7 Z9h 303 false) .ret) .skip)) (.seq (rg 8 Z9h 95 true) .ret))))))
noncomputable def Zgj:AFun:={ code:=f28_c,nt:=39,res:=Try.f28.results.toList,fr:=[] }
noncomputable def Z9g:Code:=Z0h Try.f31
noncomputable def Z3b:ACode:=(.seq (rg 2 Z9g 69 false) (.seq (.cond (.tmp 9) .skip (.exit 0)) (.seq (.block 1 (.seq (rg 3 Z9g 1125 false) (.seq (rg 4 Z9g 2661 false) (.seq (rg 5 Z9g 5733 false) (.cond (.tmp 15) (.seq (rg 6 Z9g 20069 false) .ret) .skip))))) (rg 7 Z9g 485 false))))
noncomputable def Z9R (rd:Option Nat):Key:=.lp 31000 [2,6,7,8] [] Z3b 18 rd
noncomputable def f31_c:ACode:=(.seq (rg 0 Z9g 2 false) (.seq (.seq (rg 1 Z9g 9 false) (.block 0 (.loop 31000 [2,6,7,8] [] [(.exit 0),.ret] Z3b))) (.seq (rg 8 Z9g 11 false) .ret)))
noncomputable def ZcZ:AFun:={ code:=f31_c,nt:=18,res:=Try.f31.results.toList,fr:=[] }
noncomputable def ZcY:Code:=Z0h Try.f32
noncomputable def f32_c:ACode:=(.seq (rg 0 ZcY 2 false) (.seq (.seq (rg 1 ZcY 9 false) (.seq (rg 2 ZcY 21 false) (.cond (.tmp 10) (.seq (rg 3 ZcY 77 false) .ret) .skip))) (.seq (rg 4 ZcY 11 false) (.seq (rg 5 ZcY 23 false) .ret))))
noncomputable def Zgi:AFun:={ code:=f32_c,nt:=18,res:=Try.f32.results.toList,fr:=[] }
noncomputable def Z9f:Code:=Z0h Try.f33
noncomputable def Z3a:ACode:=(.seq (.seq (rg 5 Z9f 535 false) (.cond (.tmp 15) .skip (.exit 0))) (.seq (.block 1 (rg 7 Z9f 1175 false)) (rg 6 Z9f 919 false)))
noncomputable def Zgg (rd:Option Nat):Key:=.lp 33000 [0,3,4] [] Z3a 25 rd
noncomputable def f33_c:ACode:=(.seq (rg 0 Z9f 2 false) (.seq (.seq (rg 1 Z9f 9 false) (.join [(.normal,[0])] (.cond (.tmp 7) (rg 2 Z9f 21 false) .skip))) (.seq (rg 3 Z9f 11 false) (.seq (.seq (rg 4 Z9f 39 false) (.block 0 (.loop 33000 [0,3,4] [] [(.exit 0)] Z3a))) (.seq (rg 8 Z9f 47 false) .ret)))))
noncomputable def Zgh:AFun:={ code:=f33_c,nt:=25,res:=Try.f33.results.toList,fr:=[] }
noncomputable def Znp:Code:=Z0h Try.f34
noncomputable def f34_c:ACode:=(.seq (rg 0 Znp 2 false) (.seq (rg 1 Znp 5 false) .ret))
noncomputable def Zgf:AFun:={ code:=f34_c,nt:=1,res:=Try.f34.results.toList,fr:=[] }
noncomputable def Z25:Code:=Z0h Try.f35
noncomputable def Z38:ACode:=(.seq (rg 11 Z25 287935 false) (.seq (.cond (.tmp 55) .skip (.exit 2)) (.seq (.join [(.ret,[4,5,8,9,10,11,12,13,14,15,53,54]),(.normal,[4,5,8,9,10,11,12,13,14,15,53,54])] (.block 3 (.seq (rg 12 Z25 4613311 false) (.seq (rg 13 Z25 10904767 true) (.seq (.seq (rg 14 Z25 40264895 false) (.cond (.tmp 81) (.seq (rg 15 Z25 157705407 false) .ret) .skip)) (.seq (.seq (rg 16 Z25 82207935 false) (.cond (.tmp 85) (.exit 3) .skip)) (.seq (rg 17 Z25 98985151 true) (.seq (.seq (rg 18 Z25 333866175 false) (.join [(.normal,[4,5,8,9,10,11,12,13,14,15,17,18,19,53,54])] (.cond (.tmp 102) (.seq (rg 19 Z25 1273390271 false) (.seq (rg 20 Z25 2884003007 true) (rg 21 Z25 3957744831 false))) .skip))) (.seq (rg 22 Z25 400975039 true) (.cond (.tmp 142) (.seq (rg 23 Z25 1340499135 false) .ret) .skip)))))))))) (rg 24 Z25 1991871 false))))
noncomputable def Zgc (rd:Option Nat):Key:=.lp 35001 [4,5,8,9,10,11,12,13,14,15,53,54] [] Z38 157 rd
noncomputable def Z39:ACode:=(.seq (.seq (rg 7 Z25 4287 false) (.cond (.tmp 42) .skip (.exit 0))) (.seq (.block 1 (.seq (rg 9 Z25 17599 false) (.seq (rg 10 Z25 42175 false) (.block 2 (.loop 35001 [4,5,8,9,10,11,12,13,14,15,53,54] [] [(.exit 2),.ret] Z38))))) (rg 8 Z25 7359 false)))
noncomputable def Zgd (rd:Option Nat):Key:=.lp 35000 [4,5,8,9,10,11,12,13,14] [] Z39 157 rd
noncomputable def f35_c:ACode:=(.seq (rg 0 Z25 2 false) (.seq (rg 1 Z25 5 false) (.seq (rg 2 Z25 11 true) (.seq (rg 3 Z25 23 false) (.seq (rg 4 Z25 47 true) (.seq (rg 5 Z25 95 false) (.seq (.seq (rg 6 Z25 319 false) (.block 0 (.loop 35000 [4,5,8,9,10,11,12,13,14] [] [(.exit 0),.ret] Z39))) (.seq (rg 25 Z25 383 true) .ret))))))))
noncomputable def Zge:AFun:={ code:=f35_c,nt:=157,res:=Try.f35.results.toList,fr:=[] }
noncomputable def Znm:Code:=Z0h Try.f39
noncomputable def f39_c:ACode:=(.seq (rg 0 Znm 2 false) (.seq (rg 1 Znm 5 false) .ret))
noncomputable def Zgb:AFun:={ code:=f39_c,nt:=12,res:=Try.f39.results.toList,fr:=[] }
noncomputable def Z1q:Code:=Z0h Try.f40
noncomputable def Z37:ACode:=(.seq (rg 10 Z1q 2239 false) (.seq (.cond (.tmp 52) .skip (.exit 0)) (.seq (.block 1 (.seq (rg 11 Z1q 36031 false) (.seq (.seq (rg 12 Z1q 150719 false) (.cond (.tmp 68) (.seq (rg 13 Z1q 609471 false) .ret) .skip)) (rg 14 Z1q 117951 false)))) (rg 15 Z1q 15551 false))))
noncomputable def Z73 (rd:Option Nat):Key:=.lp 40000 [1,2,3,6,7,9,10,11,49,50,51] [] Z37 139 rd
noncomputable def Z35:ACode:=(.seq (rg 22 Z1q 9122559 false) (.seq (.cond (.tmp 86) .skip (.exit 4)) (.seq (.block 5 (.seq (rg 23 Z1q 147534591 false) (.seq (rg 24 Z1q 348861183 true) (.seq (rg 25 Z1q 751514367 false) (.seq (rg 26 Z1q 1556820735 false) (.join [(.normal,[2,3,6,10,14,15,16,17,78,79,80,85])] (.cond (.tmp 107) (.seq (rg 27 Z1q 5314917119 false) (rg 28 Z1q 7462400767 true)) .skip))))))) (rg 29 Z1q 63648511 false))))
noncomputable def Z9P (rd:Option Nat):Key:=.lp 40002 [2,3,6,10,14,15,16,17,78,79,80,85] [] Z35 139 rd
noncomputable def Z36:ACode:=(.seq (rg 18 Z1q 8959 false) (.seq (.cond (.tmp 81) .skip (.exit 2)) (.seq (.block 3 (.seq (rg 19 Z1q 144127 false) (.seq (rg 20 Z1q 340735 false) (.seq (.seq (rg 21 Z1q 1258239 false) (.block 4 (.loop 40002 [2,3,6,10,14,15,16,17,78,79,80,85] [] [(.exit 4)] Z35))) (rg 30 Z1q 996095 false))))) (rg 31 Z1q 62207 false))))
noncomputable def Z9Q (rd:Option Nat):Key:=.lp 40001 [2,3,6,10,14,78,79,80] [] Z36 139 rd
noncomputable def f40_c:ACode:=(.seq (rg 0 Z1q 2 false) (.seq (.seq (rg 1 Z1q 9 false) (.seq (rg 2 Z1q 21 false) (.cond (.tmp 24) (.seq (rg 3 Z1q 77 false) .ret) .skip))) (.seq (rg 4 Z1q 11 false) (.seq (rg 5 Z1q 23 false) (.seq (rg 6 Z1q 47 false) (.seq (.seq (rg 7 Z1q 159 false) (.cond (.tmp 47) (.seq (rg 8 Z1q 607 false) .ret) .skip)) (.seq (.seq (rg 9 Z1q 319 false) (.block 0 (.loop 40000 [1,2,3,6,7,9,10,11,49,50,51] [] [(.exit 0),.ret] Z37))) (.seq (rg 16 Z1q 383 false) (.seq (.seq (rg 17 Z1q 1279 false) (.block 2 (.loop 40001 [2,3,6,10,14,78,79,80] [] [(.exit 2)] Z36))) (.seq (rg 32 Z1q 1535 false) .ret))))))))))
noncomputable def ZcX:AFun:={ code:=f40_c,nt:=139,res:=Try.f40.results.toList,fr:=[] }
noncomputable def Znl:Code:=Z0h Try.f41
noncomputable def f41_c:ACode:=(.seq (rg 0 Znl 2 false) (.seq (rg 1 Znl 5 false) .ret))
noncomputable def ZcW:AFun:={ code:=f41_c,nt:=10,res:=Try.f41.results.toList,fr:=[] }
noncomputable def Z3Y:Code:=Z0h Try.f42
noncomputable def Z34:ACode:=(.seq (rg 6 Z3Y 559 false) (.seq (.cond (.tmp 26) .skip (.exit 0)) (.seq (.block 1 (.seq (rg 7 Z3Y 9007 false) (.seq (.seq (rg 8 Z3Y 37679 false) (.cond (.tmp 40) (.seq (rg 9 Z3Y 152367 false) .ret) .skip)) (rg 10 Z3Y 29487 false)))) (rg 11 Z3Y 3887 false))))
noncomputable def Z9O (rd:Option Nat):Key:=.lp 42000 [1,2,3,4,23,24,25] [] Z34 55 rd
noncomputable def Z33:ACode:=(.seq (rg 13 Z3Y 1119 false) (.seq (.cond (.tmp 48) .skip (.exit 2)) (.seq (.block 3 (.seq (rg 14 Z3Y 18015 false) (.seq (rg 15 Z3Y 42591 false) (.cond (.tmp 53) (.seq (rg 16 Z3Y 157279 false) .ret) .skip)))) (rg 17 Z3Y 7775 false))))
noncomputable def Z9N (rd:Option Nat):Key:=.lp 42001 [2,45,46,47] [] Z33 55 rd
noncomputable def f42_c:ACode:=(.seq (rg 0 Z3Y 2 false) (.seq (rg 1 Z3Y 5 false) (.seq (.seq (rg 2 Z3Y 19 false) (.cond (.tmp 20) (.seq (rg 3 Z3Y 75 false) .ret) .skip)) (.seq (rg 4 Z3Y 23 false) (.seq (.seq (rg 5 Z3Y 79 false) (.block 0 (.loop 42000 [1,2,3,4,23,24,25] [] [(.exit 0),.ret] Z34))) (.seq (.seq (rg 12 Z3Y 159 false) (.block 2 (.loop 42001 [2,45,46,47] [] [(.exit 2),.ret] Z33))) (.seq (rg 18 Z3Y 191 false) .ret)))))))
noncomputable def ZcV:AFun:={ code:=f42_c,nt:=55,res:=Try.f42.results.toList,fr:=[] }
noncomputable def Z9e:Code:=Z0h Try.f43
noncomputable def Z32:ACode:=(.seq (rg 3 Z9e 139 false) (.seq (.cond (.tmp 12) .skip (.exit 0)) (.seq (.block 1 (.seq (rg 4 Z9e 2251 false) (.seq (rg 5 Z9e 5323 true) (rg 6 Z9e 7371 true)))) (rg 7 Z9e 971 false))))
noncomputable def Z9M (rd:Option Nat):Key:=.lp 43000 [2,3,4,5,9,10,11] [] Z32 44 rd
noncomputable def f43_c:ACode:=(.seq (rg 0 Z9e 2 false) (.seq (rg 1 Z9e 5 false) (.seq (.seq (rg 2 Z9e 19 false) (.block 0 (.loop 43000 [2,3,4,5,9,10,11] [] [(.exit 0)] Z32))) (.seq (rg 8 Z9e 23 false) .ret))))
noncomputable def ZcU:AFun:={ code:=f43_c,nt:=44,res:=Try.f43.results.toList,fr:=[] }
noncomputable def Znj:Code:=Z0h Try.f44
noncomputable def f44_c:ACode:=(.seq (rg 0 Znj 2 false) (.seq (rg 1 Znj 5 false) .ret))
noncomputable def Zl2:AFun:={ code:=f44_c,nt:=11,res:=Try.f44.results.toList,fr:=[] }
noncomputable def Z9d:Code:=Z0h Try.f45
noncomputable def Z72:ACode:=(.seq (.seq (rg 5 Z9d 535 false) (.cond (.tmp 17) .skip (.exit 0))) (.seq (.block 1 (rg 7 Z9d 1175 false)) (rg 6 Z9d 919 false)))
noncomputable def Z3V (rd:Option Nat):Key:=.lp 45000 [2,3,4,5,6] [] Z72 28 rd
noncomputable def f45_c:ACode:=(.seq (rg 0 Z9d 2 false) (.seq (rg 1 Z9d 5 false) (.seq (.seq (rg 2 Z9d 19 false) (.cond (.tmp 14) (.seq (rg 3 Z9d 75 false) .ret) .skip)) (.seq (.seq (rg 4 Z9d 39 false) (.block 0 (.loop 45000 [2,3,4,5,6] [] [(.exit 0)] Z72))) (.seq (rg 8 Z9d 47 false) .ret)))))
noncomputable def Zl0:AFun:={ code:=f45_c,nt:=28,res:=Try.f45.results.toList,fr:=[] }
noncomputable def Zb5:Code:=Z0h Try.f46
noncomputable def Z31:ACode:=(.seq (rg 3 Zb5 139 false) (.seq (.cond (.tmp 19) .skip (.exit 0)) (.seq (.block 1 (.seq (rg 4 Zb5 2251 false) (rg 5 Zb5 3275 true))) (rg 6 Zb5 971 false))))
noncomputable def Z9L (rd:Option Nat):Key:=.lp 46000 [1,2,3,16,17,18] [] Z31 40 rd
noncomputable def f46_c:ACode:=(.seq (rg 0 Zb5 2 false) (.seq (rg 1 Zb5 5 true) (.seq (.seq (rg 2 Zb5 19 false) (.block 0 (.loop 46000 [1,2,3,16,17,18] [] [(.exit 0)] Z31))) (.seq (rg 7 Zb5 23 false) .ret))))
noncomputable def ZcT:AFun:={ code:=f46_c,nt:=40,res:=Try.f46.results.toList,fr:=[] }
noncomputable def Z9c:Code:=Z0h Try.f47
noncomputable def Z71:ACode:=(.seq (.seq (rg 5 Z9c 535 false) (.cond (.tmp 10) .skip (.exit 0))) (.seq (.block 1 (rg 7 Z9c 1175 false)) (rg 6 Z9c 919 false)))
noncomputable def Z3S (rd:Option Nat):Key:=.lp 47000 [1,2,3,4] [] Z71 19 rd
noncomputable def f47_c:ACode:=(.seq (rg 0 Z9c 2 false) (.seq (rg 1 Z9c 5 false) (.seq (.seq (rg 2 Z9c 19 false) (.cond (.tmp 7) (.seq (rg 3 Z9c 75 false) .ret) .skip)) (.seq (.seq (rg 4 Z9c 39 false) (.block 0 (.loop 47000 [1,2,3,4] [] [(.exit 0)] Z71))) (.seq (rg 8 Z9c 47 false) .ret)))))
noncomputable def ZkY:AFun:={ code:=f47_c,nt:=19,res:=Try.f47.results.toList,fr:=[] }
noncomputable def Z7N:Code:=Z0h Try.f48
noncomputable def Z6Z:ACode:=(.seq (.seq (rg 5 Z7N 535 false) (.cond (.tmp 23) .skip (.exit 0))) (.seq (.block 1 (.seq (.seq (rg 7 Z7N 4247 false) (.cond (.tmp 55) (.seq (rg 8 Z7N 18583 false) .ret) .skip)) (rg 9 Z7N 3223 false))) (rg 6 Z7N 919 false)))
noncomputable def Z9K (rd:Option Nat):Key:=.lp 48000 [0,1,2,6,7,8] [] Z6Z 62 rd
noncomputable def f48_c:ACode:=(.seq (rg 0 Z7N 2 false) (.seq (.seq (rg 1 Z7N 9 false) (.cond (.tmp 18) (.seq (rg 2 Z7N 37 false) .ret) .skip)) (.seq (rg 3 Z7N 11 false) (.seq (.seq (rg 4 Z7N 39 false) (.block 0 (.loop 48000 [0,1,2,6,7,8] [] [(.exit 0),.ret] Z6Z))) (.seq (rg 10 Z7N 47 false) .ret)))))
noncomputable def ZkW:AFun:={ code:=f48_c,nt:=62,res:=Try.f48.results.toList,fr:=[] }
noncomputable def Z3s:Code:=Z0h Try.f49
noncomputable def Z2Y:ACode:=(.seq (rg 11 Z3s 145119639 false) (.seq (.cond (.tmp 32) .skip (.exit 4)) (.seq (.block 5 (.seq (rg 12 Z3s 2359712151 false) (.seq (rg 13 Z3s 5580937623 false) (.join [(.normal,[2,3,4,5,7,8,10,13,14,15,25,26,27,31])] (.cond (.tmp 38) (rg 14 Z3s 12023388567 false) .skip))))) (rg 15 Z3s 1017534871 false))))
noncomputable def Zg3 (rd:Option Nat):Key:=.lp 49002 [2,3,4,5,7,8,10,13,14,15,25,26,27,31] [] Z2Y 76 rd
noncomputable def Z2Z:ACode:=(.seq (rg 8 Z3s 285079 false) (.seq (.cond (.tmp 28) .skip (.exit 2)) (.seq (.block 3 (.seq (rg 9 Z3s 4610455 false) (.seq (.seq (rg 10 Z3s 19290519 false) (.block 4 (.loop 49002 [2,3,4,5,7,8,10,13,14,15,25,26,27,31] [] [(.exit 4)] Z2Y))) (rg 16 Z3s 15096215 false)))) (rg 17 Z3s 1989015 false))))
noncomputable def Zg4 (rd:Option Nat):Key:=.lp 49001 [2,3,4,5,7,8,13,14,15,25,26,27] [] Z2Z 76 rd
noncomputable def Z30:ACode:=(.seq (rg 4 Z3s 279 false) (.seq (.cond (.tmp 16) .skip (.exit 0)) (.seq (.block 1 (.seq (rg 5 Z3s 4503 false) (.seq (rg 6 Z3s 10647 false) (.seq (.seq (rg 7 Z3s 39319 false) (.block 2 (.loop 49001 [2,3,4,5,7,8,13,14,15,25,26,27] [] [(.exit 2)] Z2Z))) (.seq (rg 18 Z3s 47511 true) (rg 19 Z3s 63895 true)))))) (rg 20 Z3s 1943 false))))
noncomputable def Zg5 (rd:Option Nat):Key:=.lp 49000 [2,3,4,5,13,14,15] [] Z30 76 rd
noncomputable def f49_c:ACode:=(.seq (rg 0 Z3s 2 false) (.seq (rg 1 Z3s 5 false) (.seq (rg 2 Z3s 11 false) (.seq (.seq (rg 3 Z3s 39 false) (.block 0 (.loop 49000 [2,3,4,5,13,14,15] [] [(.exit 0)] Z30))) (.seq (rg 21 Z3s 47 true) .ret)))))
noncomputable def Zg6:AFun:={ code:=f49_c,nt:=76,res:=Try.f49.results.toList,fr:=[] }
noncomputable def Z9b:Code:=Z0h Try.f50
noncomputable def Z6V:ACode:=(.seq (.seq (rg 3 Z9b 267 false) (.cond (.tmp 6) .skip (.exit 0))) (.seq (.block 1 (.seq (.seq (rg 5 Z9b 2123 false) (.cond (.tmp 25) (.seq (rg 6 Z9b 9291 false) .ret) .skip)) (rg 7 Z9b 1611 false))) (rg 4 Z9b 459 false)))
noncomputable def Z3R (rd:Option Nat):Key:=.lp 50000 [1,2,3,4] [] Z6V 30 rd
noncomputable def f50_c:ACode:=(.seq (rg 0 Z9b 2 false) (.seq (rg 1 Z9b 5 false) (.seq (.seq (rg 2 Z9b 19 false) (.block 0 (.loop 50000 [1,2,3,4] [] [(.exit 0),.ret] Z6V))) (.seq (rg 8 Z9b 23 false) .ret))))
noncomputable def ZkT:AFun:={ code:=f50_c,nt:=30,res:=Try.f50.results.toList,fr:=[] }
noncomputable def Z5P:Code:=Z0h Try.f57
noncomputable def Z1p:ACode:=(.seq (rg 5 Z5P 279 false) (rg 6 Z5P 407 false))
noncomputable def Z1o:ACode:=(.join [(.normal,[]),(.ret,[])] (.block 1 (.seq (.seq (rg 7 Z5P 1111 false) (.cond (.tmp 17) (.exit 1) .skip)) (.seq (.seq (rg 8 Z5P 2391 true) (.cond (.tmp 51) (.seq (rg 9 Z5P 9559 false) .ret) .skip)) (.seq (rg 10 Z5P 2903 true) (.cond (.tmp 70) (.seq (rg 11 Z5P 10071 false) .ret) .skip))))))
noncomputable def f57_c:ACode:=(.seq (rg 0 Z5P 2 false) (.seq (.seq (rg 1 Z5P 9 false) (.cond (.tmp 9) (.seq (rg 2 Z5P 37 false) .ret) .skip)) (.seq (rg 3 Z5P 11 false) (.seq (.seq (rg 4 Z5P 39 false) (.block 0 (.rangeFunc 57000 [1,2,3] [] [.normal,.ret] (.tmp 12) #[13,14] Z1p Z1o))) (.seq (rg 12 Z5P 47 false) .ret)))))
noncomputable def ZcS:AFun:={ code:=f57_c,nt:=71,res:=Try.f57.results.toList,fr:=[] }
noncomputable def Z1W:Code:=Z0h Try.f58
noncomputable def Z2W:ACode:=(.seq (rg 3 Z1W 139 false) (.seq (.cond (.tmp 19) .skip (.exit 0)) (.seq (.block 1 (.seq (rg 4 Z1W 2251 false) (rg 5 Z1W 3275 false))) (rg 6 Z1W 971 false))))
noncomputable def ZfZ (rd:Option Nat):Key:=.lp 58000 [1,4,17,18] [] Z2W 85 rd
noncomputable def Z2T:ACode:=(.seq (rg 18 Z1W 143848239 false) (.seq (.cond (.tmp 56) .skip (.exit 6)) (.seq (.block 7 (.seq (rg 19 Z1W 2358440751 false) (.seq (rg 20 Z1W 5579666223 false) (.join [(.normal,[1,4,6,8,9,26,27,54,55])] (.cond (.tmp 68) (.seq (rg 21 Z1W 20612051759 false) (rg 22 Z1W 29201986351 false)) .skip))))) (rg 23 Z1W 1016263471 false))))
noncomputable def ZfW (rd:Option Nat):Key:=.lp 58003 [1,4,6,8,9,26,27,54,55] [] Z2T 85 rd
noncomputable def Z2U:ACode:=(.seq (.seq (rg 15 Z1W 4387631 false) (.cond (.tmp 44) .skip (.exit 4))) (.seq (.block 5 (.seq (rg 17 Z1W 18019119 true) (.block 6 (.loop 58003 [1,4,6,8,9,26,27,54,55] [] [(.exit 6)] Z2T)))) (rg 16 Z1W 7533359 false)))
noncomputable def ZfX (rd:Option Nat):Key:=.lp 58002 [1,4,6,8,9,26,27] [] Z2U 85 rd
noncomputable def Z2V:ACode:=(.seq (rg 9 Z1W 559 false) (.seq (.cond (.tmp 28) .skip (.exit 2)) (.seq (.join [(.normal,[1,4,6,26,27])] (.block 3 (.seq (rg 10 Z1W 9007 false) (.seq (.seq (rg 11 Z1W 37679 false) (.cond (.tmp 34) (.exit 3) .skip)) (.seq (rg 12 Z1W 45871 false) (.seq (rg 13 Z1W 95023 false) (.seq (.seq (rg 14 Z1W 324399 false) (.block 4 (.loop 58002 [1,4,6,8,9,26,27] [] [(.exit 4)] Z2U))) (rg 24 Z1W 258863 false)))))))) (rg 25 Z1W 3887 false))))
noncomputable def ZfY (rd:Option Nat):Key:=.lp 58001 [1,4,6,26,27] [] Z2V 85 rd
noncomputable def f58_c:ACode:=(.seq (rg 0 Z1W 2 false) (.seq (rg 1 Z1W 5 false) (.seq (.seq (rg 2 Z1W 19 false) (.block 0 (.loop 58000 [1,4,17,18] [] [(.exit 0)] Z2W))) (.seq (rg 7 Z1W 23 false) (.seq (.seq (rg 8 Z1W 79 false) (.block 2 (.loop 58001 [1,4,6,26,27] [] [(.exit 2)] Z2V))) (.seq (rg 26 Z1W 95 false) .ret))))))
noncomputable def Zg0:AFun:={ code:=f58_c,nt:=85,res:=Try.f58.results.toList,fr:=[] }
noncomputable def ZcR:Code:=Z0h Try.f59
noncomputable def Z2S:ACode:=(.seq (rg 1 ZcR 17 false) (.seq (.cond (.tmp 5) .skip (.exit 0)) (.seq (.block 1 (.seq (rg 2 ZcR 281 false) (.seq (rg 3 ZcR 665 false) (.seq (rg 4 ZcR 1433 false) (.cond (.tmp 25) .ret .skip))))) (rg 5 ZcR 121 false))))
noncomputable def ZfU (rd:Option Nat):Key:=.lp 59000 [0,4] [] Z2S 27 rd
noncomputable def f59_c:ACode:=(.seq (rg 0 ZcR 2 false) (.block 0 (.loop 59000 [0,4] [] [(.exit 0),.ret] Z2S)))
noncomputable def ZfV:AFun:={ code:=f59_c,nt:=27,res:=Try.f59.results.toList,fr:=[] }
noncomputable def Z3r:Code:=Z0h Try.f60
noncomputable def Z1c:ACode:=(.seq (rg 3 Z3r 139 false) (.seq (.cond (.tmp 8) .skip (.exit 0)) (.seq (.block 1 (.seq (rg 4 Z3r 2251 false) (.seq (.seq (rg 5 Z3r 9419 false) (.cond (.tmp 15) (.seq (rg 6 Z3r 38091 false) .ret) .skip)) (rg 7 Z3r 7371 false)))) (rg 8 Z3r 971 false))))
noncomputable def Z13 (rd:Option Nat):Key:=.lp 60000 [2,3,6,7] [] Z1c 23 rd
noncomputable def ZhQ:ACode:=(.seq (rg 0 Z3r 2 false) (.seq (rg 1 Z3r 5 false) (.seq (.seq (rg 2 Z3r 19 false) (.block 0 (.loop 60000 [2,3,6,7] [] [(.exit 0),.ret] Z1c))) (.seq (rg 9 Z3r 23 false) .ret))))
noncomputable def Z7M:AFun:={ code:=ZhQ,nt:=23,res:=Try.f60.results.toList,fr:=[] }
noncomputable def ZhN:Code:=Z0h Try.f61
noncomputable def f61_c:ACode:=(.seq (rg 0 ZhN 2 false) (.seq (.seq (rg 1 ZhN 9 false) (.cond (.tmp 12) (.seq (rg 2 ZhN 37 false) .ret) .skip)) (.seq (rg 3 ZhN 11 false) .ret)))
noncomputable def ZcQ:AFun:={ code:=f61_c,nt:=17,res:=Try.f61.results.toList,fr:=[] }
noncomputable def ZhL:Code:=Z0h Try.f62
noncomputable def f62_c:ACode:=(.seq (rg 0 ZhL 2 false) (.seq (.seq (rg 1 ZhL 9 false) (.cond (.tmp 5) (.seq (rg 2 ZhL 37 false) .ret) .skip)) (.seq (rg 3 ZhL 11 false) .ret)))
noncomputable def ZcP:AFun:={ code:=f62_c,nt:=9,res:=Try.f62.results.toList,fr:=[] }
noncomputable def Zna:Code:=Z0h Try.f63
noncomputable def f63_c:ACode:=(.seq (rg 0 Zna 2 false) (.seq (rg 1 Zna 5 false) .ret))
noncomputable def ZcO:AFun:={ code:=f63_c,nt:=9,res:=Try.f63.results.toList,fr:=[] }
noncomputable def Zn9:Code:=Z0h Try.f64
noncomputable def f64_c:ACode:=(.seq (rg 0 Zn9 2 false) (.seq (rg 1 Zn9 5 false) .ret))
noncomputable def ZcN:AFun:={ code:=f64_c,nt:=6,res:=Try.f64.results.toList,fr:=[] }
noncomputable def ZcM:Code:=Z0h Try.f65
noncomputable def ZhI:ACode:=(.seq (rg 0 ZcM 2 false) (.seq (rg 1 ZcM 5 true) .ret))
noncomputable def Z7L:AFun:={ code:=ZhI,nt:=22,res:=Try.f65.results.toList,fr:=[] }
noncomputable def Z4j:Code:=Z0h Try.f66
noncomputable def Z1b:ACode:=(.seq (rg 3 Z4j 139 false) (.seq (.cond (.tmp 8) .skip (.exit 0)) (.seq (.block 1 (.seq (rg 4 Z4j 2251 false) (rg 5 Z4j 3275 false))) (rg 6 Z4j 971 false))))
noncomputable def Z12 (rd:Option Nat):Key:=.lp 66000 [2,3,6,7] [] Z1b 16 rd
noncomputable def ZhG:ACode:=(.seq (rg 0 Z4j 2 false) (.seq (rg 1 Z4j 5 false) (.seq (.seq (rg 2 Z4j 19 false) (.block 0 (.loop 66000 [2,3,6,7] [] [(.exit 0)] Z1b))) (.seq (rg 7 Z4j 23 false) .ret))))
noncomputable def Z7K:AFun:={ code:=ZhG,nt:=16,res:=Try.f66.results.toList,fr:=[] }
noncomputable def Z8I:Code:=Z0h Try.f67
noncomputable def Z2R:ACode:=(.seq (rg 4 Z8I 139 false) (.seq (.cond (.tmp 14) .skip (.exit 0)) (.seq (.block 1 (.seq (rg 5 Z8I 2251 false) (.seq (rg 6 Z8I 5323 true) (.cond (.tmp 24) (.seq (rg 7 Z8I 19659 false) .ret) .skip)))) (rg 8 Z8I 971 false))))
noncomputable def Z9J (rd:Option Nat):Key:=.lp 67000 [0,1,4,12,13] [] Z2R 26 rd
noncomputable def f67_c:ACode:=(.seq (rg 0 Z8I 2 false) (.seq (.seq (rg 1 Z8I 9 false) (.cond (.tmp 10) (.seq (rg 2 Z8I 37 false) .ret) .skip)) (.seq (.seq (rg 3 Z8I 19 false) (.block 0 (.loop 67000 [0,1,4,12,13] [] [(.exit 0),.ret] Z2R))) (.seq (rg 9 Z8I 23 false) .ret))))
noncomputable def ZcL:AFun:={ code:=f67_c,nt:=26,res:=Try.f67.results.toList,fr:=[] }
noncomputable def Z4V:Code:=Z0h Try.f68
noncomputable def Z2Q:ACode:=(rg 9 Z4V 80279 false)
noncomputable def Z2O:ACode:=(.block 3 (.seq (rg 10 Z4V 309655 true) (.seq (rg 11 Z4V 702871 false) (.join [(.normal,[])] (.cond (.tmp 40) (rg 12 Z4V 1489303 false) .skip)))))
noncomputable def Z2P:ACode:=(.seq (rg 4 Z4V 279 false) (.seq (.cond (.tmp 18) .skip (.exit 0)) (.seq (.block 1 (.seq (rg 5 Z4V 4503 false) (.seq (.seq (rg 6 Z4V 18839 false) (.join [(.normal,[1,5,6,7,15,16,17])] (.cond (.tmp 25) (rg 7 Z4V 43415 false) .skip))) (.seq (rg 8 Z4V 22935 false) (.block 2 (.rangeFunc 68001 [1,5,6,7] [] [.normal] (.tmp 29) #[30] Z2Q Z2O)))))) (rg 13 Z4V 1943 false))))
noncomputable def ZfS (rd:Option Nat):Key:=.lp 68000 [1,5,15,16,17] [] Z2P 49 rd
noncomputable def f68_c:ACode:=(.seq (rg 0 Z4V 2 false) (.seq (rg 1 Z4V 5 false) (.seq (rg 2 Z4V 11 false) (.seq (.seq (rg 3 Z4V 39 false) (.block 0 (.loop 68000 [1,5,15,16,17] [] [(.exit 0)] Z2P))) (.seq (rg 14 Z4V 47 false) (.seq (rg 15 Z4V 95 false) .ret))))))
noncomputable def ZfT:AFun:={ code:=f68_c,nt:=49,res:=Try.f68.results.toList,fr:=[] }
noncomputable def Zn7:Code:=Z0h Try.f71
noncomputable def f71_c:ACode:=(.seq (rg 0 Zn7 2 false) (.seq (rg 1 Zn7 5 false) .ret))
noncomputable def ZcK:AFun:={ code:=f71_c,nt:=4,res:=Try.f71.results.toList,fr:=[] }
noncomputable def ZaR:Code:=Z0h Try.f72
noncomputable def Z2N:ACode:=(.seq (rg 2 ZaR 69 false) (.seq (.cond (.tmp 9) .skip (.exit 0)) (.seq (.block 1 (.seq (rg 3 ZaR 1125 false) (.seq (rg 4 ZaR 2661 false) (.cond (.tmp 16) (.seq (rg 5 ZaR 9829 false) .ret) .skip)))) (rg 6 ZaR 485 false))))
noncomputable def Z9I (rd:Option Nat):Key:=.lp 72000 [0,1,4,7,8] [] Z2N 19 rd
noncomputable def f72_c:ACode:=(.seq (rg 0 ZaR 2 false) (.seq (.seq (rg 1 ZaR 9 false) (.block 0 (.loop 72000 [0,1,4,7,8] [] [(.exit 0),.ret] Z2N))) (.seq (rg 7 ZaR 11 false) .ret)))
noncomputable def ZcJ:AFun:={ code:=f72_c,nt:=19,res:=Try.f72.results.toList,fr:=[] }
noncomputable def Z4g:Code:=Z0h Try.f73
noncomputable def Z2M:ACode:=(.seq (.seq (rg 5 Z4g 1071 false) (.cond (.tmp 31) .skip (.exit 0))) (.seq (.block 1 (.seq (rg 7 Z4g 4399 false) (.seq (.seq (rg 8 Z4g 18735 false) (.join [(.ret,[3,8,9,10,11]),(.normal,[3,8,9,10,11,12])] (.cond (.tmp 38) (.seq (rg 9 Z4g 76079 true) (.block 2 (.seq (rg 10 Z4g 305455 false) (.cond (.tmp 48) (.seq (rg 11 Z4g 1222959 false) .ret) (.seq (rg 12 Z4g 1485103 false) (.join [(.normal,[3,8,9,10,11,12])] (.cond (.tmp 51) (rg 13 Z4g 3057967 false) .skip))))))) .skip))) (rg 14 Z4g 14639 true)))) (rg 6 Z4g 1839 false)))
noncomputable def ZfP (rd:Option Nat):Key:=.lp 73000 [3,8,9,10,11] [] Z2M 67 rd
noncomputable def f73_c:ACode:=(.seq (rg 0 Z4g 2 false) (.seq (rg 1 Z4g 5 false) (.seq (rg 2 Z4g 11 false) (.seq (rg 3 Z4g 23 false) (.seq (.seq (rg 4 Z4g 79 false) (.block 0 (.loop 73000 [3,8,9,10,11] [] [(.exit 0),.ret] Z2M))) (.seq (.seq (rg 15 Z4g 159 false) (.cond (.tmp 65) (.seq (rg 16 Z4g 607 false) .ret) .skip)) (.seq (rg 17 Z4g 191 false) .ret)))))))
noncomputable def ZfQ:AFun:={ code:=f73_c,nt:=67,res:=Try.f73.results.toList,fr:=[] }
noncomputable def f74_b:Code:=Z0h Try.f74
noncomputable def f74_c:ACode:=(rg 0 f74_b 1 false)
noncomputable def ZfO:AFun:={ code:=f74_c,nt:=9,res:=Try.f74.results.toList,fr:=[] }
noncomputable def ZhC:Code:=Z0h Try.f75
noncomputable def f75_c:ACode:=(.seq (rg 0 ZhC 2 false) (.seq (.seq (rg 1 ZhC 9 true) (.cond (.tmp 15) (.seq (rg 2 ZhC 37 true) .ret) .skip)) (.seq (rg 3 ZhC 11 true) .ret)))
noncomputable def ZfN:AFun:={ code:=f75_c,nt:=36,res:=Try.f75.results.toList,fr:=[] }
noncomputable def Z5E:Code:=Z0h Try.f76
noncomputable def Z2L:ACode:=(.seq (rg 2 Z5E 69 false) (.seq (.cond (.tmp 14) .skip (.exit 0)) (.seq (.block 1 (.seq (rg 3 Z5E 1125 false) (.seq (.seq (rg 4 Z5E 4709 false) (.cond (.tmp 21) (.seq (rg 5 Z5E 19045 false) .ret) .skip)) (.seq (rg 6 Z5E 5733 false) (.seq (rg 7 Z5E 11877 false) (.seq (rg 8 Z5E 24165 false) (.cond (.tmp 31) (.seq (rg 9 Z5E 81509 false) .ret) .skip))))))) (rg 10 Z5E 485 false))))
noncomputable def ZfL (rd:Option Nat):Key:=.lp 76000 [0,1,2,6,11,12,13] [] Z2L 39 rd
noncomputable def f76_c:ACode:=(.seq (rg 0 Z5E 2 false) (.seq (.seq (rg 1 Z5E 9 false) (.block 0 (.loop 76000 [0,1,2,6,11,12,13] [] [(.exit 0),.ret] Z2L))) (.seq (.seq (rg 11 Z5E 19 false) (.cond (.tmp 38) (.seq (rg 12 Z5E 75 false) .ret) .skip)) (.seq (rg 13 Z5E 23 false) .ret))))
noncomputable def ZfM:AFun:={ code:=f76_c,nt:=39,res:=Try.f76.results.toList,fr:=[] }
noncomputable def Z4U:Code:=Z0h Try.f77
noncomputable def Z2J:ACode:=(.seq (rg 9 Z4U 72907 false) (.seq (.cond (.tmp 32) .skip (.exit 2)) (.seq (.block 3 (.seq (rg 10 Z4U 1154251 false) (.seq (rg 11 Z4U 2727115 true) (.cond (.tmp 46) (.seq (rg 12 Z4U 10067147 true) .ret) .skip)))) (rg 13 Z4U 498891 false))))
noncomputable def ZfI (rd:Option Nat):Key:=.lp 77001 [2,3,4,5,10,31] [] Z2J 62 rd
noncomputable def Z2K:ACode:=(.seq (rg 4 Z4U 139 false) (.seq (.cond (.tmp 11) .skip (.exit 0)) (.seq (.block 1 (.seq (rg 5 Z4U 2251 false) (.seq (.seq (rg 6 Z4U 9419 true) (.cond (.tmp 21) (.seq (rg 7 Z4U 38091 true) .ret) .skip)) (.seq (rg 8 Z4U 11467 false) (.block 2 (.loop 77001 [2,3,4,5,10,31] [] [(.exit 2),.ret] Z2J)))))) (rg 14 Z4U 971 false))))
noncomputable def ZfJ (rd:Option Nat):Key:=.lp 77000 [2,3,4,10] [] Z2K 62 rd
noncomputable def f77_c:ACode:=(.seq (rg 0 Z4U 2 false) (.seq (.seq (rg 1 Z4U 9 false) (.cond (.tmp 9) (.seq (rg 2 Z4U 37 false) .ret) .skip)) (.seq (.seq (rg 3 Z4U 19 false) (.block 0 (.loop 77000 [2,3,4,10] [] [(.exit 0),.ret] Z2K))) (.seq (rg 15 Z4U 23 false) .ret))))
noncomputable def ZfK:AFun:={ code:=f77_c,nt:=62,res:=Try.f77.results.toList,fr:=[] }
noncomputable def Z99:Code:=Z0h Try.f78
noncomputable def Z2H:ACode:=(.seq (rg 4 Z99 4505 false) (.seq (.cond (.tmp 18) .skip (.exit 2)) (.seq (.block 3 (.seq (rg 5 Z99 72089 false) (.seq (rg 6 Z99 170393 false) (.cond (.tmp 27) .ret .skip)))) (rg 7 Z99 31129 false))))
noncomputable def Z3M (rd:Option Nat):Key:=.lp 78001 [0,1,3,8,9,16,17] [] Z2H 30 rd
noncomputable def Z2I:ACode:=(.seq (rg 1 Z99 17 false) (.seq (.cond (.tmp 10) .skip (.exit 0)) (.seq (.block 1 (.seq (rg 2 Z99 281 false) (.seq (rg 3 Z99 665 false) (.block 2 (.loop 78001 [0,1,3,8,9,16,17] [] [(.exit 2),.ret] Z2H))))) (rg 8 Z99 121 false))))
noncomputable def Z3N (rd:Option Nat):Key:=.lp 78000 [0,1,8,9] [] Z2I 30 rd
noncomputable def f78_c:ACode:=(.seq (rg 0 Z99 2 false) (.block 0 (.loop 78000 [0,1,8,9] [] [(.exit 0),.ret] Z2I)))
noncomputable def ZcI:AFun:={ code:=f78_c,nt:=30,res:=Try.f78.results.toList,fr:=[] }
noncomputable def ZhB:Code:=Z0h Try.f79
noncomputable def f79_c:ACode:=(.seq (rg 0 ZhB 2 false) (.seq (rg 1 ZhB 5 true) (.seq (rg 2 ZhB 11 false) (rg 3 ZhB 15 true))))
noncomputable def ZfE:AFun:={ code:=f79_c,nt:=41,res:=Try.f79.results.toList,fr:=[] }
noncomputable def Z4T:Code:=Z0h Try.f80
noncomputable def Z2G:ACode:=(.seq (rg 3 Z4T 139 false) (.seq (.cond (.tmp 13) .skip (.exit 0)) (.seq (.join [(.normal,[0,1,4,5,12])] (.block 1 (.seq (rg 4 Z4T 2251 false) (.seq (rg 5 Z4T 5323 true) (.seq (.seq (rg 6 Z4T 19659 false) (.cond (.tmp 43) (.seq (rg 7 Z4T 77003 false) (.exit 1)) .skip)) (.seq (rg 8 Z4T 23755 true) (.seq (.seq (rg 9 Z4T 81099 true) (.seq (rg 10 Z4T 179403 false) (.join [(.normal,[0,1,4,5,6,7,8,12])] (.cond (.tmp 69) (rg 11 Z4T 376011 false) .skip)))) (.seq (rg 12 Z4T 97483 true) (rg 13 Z4T 130251 true))))))))) (rg 14 Z4T 971 false))))
noncomputable def ZfC (rd:Option Nat):Key:=.lp 80000 [0,1,4,5,12] [] Z2G 99 rd
noncomputable def f80_c:ACode:=(.seq (rg 0 Z4T 2 false) (.seq (rg 1 Z4T 5 false) (.seq (.seq (rg 2 Z4T 19 false) (.block 0 (.loop 80000 [0,1,4,5,12] [] [(.exit 0)] Z2G))) (.seq (rg 15 Z4T 23 false) .ret))))
noncomputable def ZfD:AFun:={ code:=f80_c,nt:=99,res:=Try.f80.results.toList,fr:=[] }
noncomputable def Z4z:Code:=Z0h Try.f81
noncomputable def Z2F:ACode:=(.seq (.seq (rg 2 Z4z 131 false) (.cond (.tmp 13) .skip (.exit 0))) (.block 1 (.seq (rg 3 Z4z 291 false) (.seq (rg 4 Z4z 675 false) (rg 5 Z4z 931 false)))))
noncomputable def ZfA (rd:Option Nat):Key:=.lp 81000 [0,1,2,6,7,8] [] Z2F 63 rd
noncomputable def Z2D:ACode:=(.seq (.seq (rg 9 Z4z 16719 false) (.cond (.tmp 35) .skip (.exit 4))) (.block 5 (.seq (rg 10 Z4z 37199 false) (.seq (rg 11 Z4z 86351 false) (rg 12 Z4z 119119 false)))))
noncomputable def Zfy (rd:Option Nat):Key:=.lp 81002 [0,1,2,6,7,8] [] Z2D 63 rd
noncomputable def Z2E:ACode:=(.seq (.seq (rg 7 Z4z 271 false) (.cond (.tmp 30) .skip (.exit 2))) (.block 3 (.seq (rg 8 Z4z 591 false) (.seq (.block 4 (.loop 81002 [0,1,2,6,7,8] [] [(.exit 4)] Z2D)) (.seq (.seq (rg 13 Z4z 4943 false) (.seq (rg 14 Z4z 11087 false) (.join [(.normal,[0,1,2,6])] (.cond (.tmp 54) (rg 15 Z4z 23375 false) .skip)))) (rg 16 Z4z 3919 false))))))
noncomputable def Zfz (rd:Option Nat):Key:=.lp 81001 [0,1,2,6] [] Z2E 63 rd
noncomputable def f81_c:ACode:=(.seq (rg 0 Z4z 2 false) (.seq (rg 1 Z4z 5 false) (.seq (.block 0 (.loop 81000 [0,1,2,6,7,8] [] [(.exit 0)] Z2F)) (.seq (rg 6 Z4z 23 false) (.block 2 (.loop 81001 [0,1,2,6] [] [(.exit 2)] Z2E))))))
noncomputable def ZfB:AFun:={ code:=f81_c,nt:=63,res:=Try.f81.results.toList,fr:=[] }
noncomputable def ZbX:Code:=Z0h Try.f82
noncomputable def Z2B:ACode:=(.seq (.seq (rg 4 ZbX 2121 true) (.cond (.tmp 34) .skip (.exit 2))) (.seq (.block 3 (rg 6 ZbX 4681 true)) (rg 5 ZbX 3657 false)))
noncomputable def Zfv (rd:Option Nat):Key:=.lp 82001 [0,1,2,3,8,9] [] Z2B 53 rd
noncomputable def Z2C:ACode:=(.seq (.seq (rg 1 ZbX 33 false) (.cond (.tmp 14) .skip (.exit 0))) (.seq (.block 1 (.seq (rg 3 ZbX 137 false) (.block 2 (.loop 82001 [0,1,2,3,8,9] [] [(.exit 2)] Z2B)))) (rg 2 ZbX 57 false)))
noncomputable def Zfw (rd:Option Nat):Key:=.lp 82000 [0,1,2,3,8] [] Z2C 53 rd
noncomputable def f82_c:ACode:=(.seq (rg 0 ZbX 2 false) (.block 0 (.loop 82000 [0,1,2,3,8] [] [(.exit 0)] Z2C)))
noncomputable def Zfx:AFun:={ code:=f82_c,nt:=53,res:=Try.f82.results.toList,fr:=[] }
noncomputable def Z0Q:Code:=Z0h Try.f83
noncomputable def Z2A:ACode:=(.seq (.seq (rg 3 Z0Q 1050 false) (.cond (.tmp 33) .skip (.exit 0))) (.block 1 (.seq (rg 4 Z0Q 2330 false) (.seq (rg 5 Z0Q 5402 true) (.join [(.normal,[0,1,4,10,11])] (.cond (.tmp 50) (rg 6 Z0Q 11546 false) (rg 7 Z0Q 15642 false)))))))
noncomputable def Zft (rd:Option Nat):Key:=.lp 83000 [0,1,4,10,11] [] Z2A 220 rd
noncomputable def Z2z:ACode:=(.seq (.seq (rg 9 Z0Q 4282 false) (.cond (.tmp 58) .skip (.exit 2))) (.seq (.block 3 (rg 11 Z0Q 9402 true)) (rg 10 Z0Q 7354 false)))
noncomputable def Zfs (rd:Option Nat):Key:=.lp 83001 [0,10,13] [] Z2z 220 rd
noncomputable def Z2y:ACode:=(.seq (.seq (rg 15 Z0Q 2101 false) (.cond (.tmp 85) .skip (.exit 4))) (.block 5 (.seq (rg 16 Z0Q 4661 false) (.seq (rg 17 Z0Q 10805 true) (.join [(.normal,[0,2,4,14,15])] (.cond (.tmp 103) (rg 18 Z0Q 23093 false) (rg 19 Z0Q 31285 false)))))))
noncomputable def Zfr (rd:Option Nat):Key:=.lp 83002 [0,2,4,14,15] [] Z2y 220 rd
noncomputable def Z2x:ACode:=(.seq (.seq (rg 21 Z0Q 8565 false) (.cond (.tmp 110) .skip (.exit 6))) (.seq (.block 7 (rg 23 Z0Q 18805 true)) (rg 22 Z0Q 14709 false)))
noncomputable def Zfq (rd:Option Nat):Key:=.lp 83003 [0,14,17] [] Z2x 220 rd
noncomputable def Z2w:ACode:=(.seq (.seq (rg 33 Z0Q 4223 false) (.cond (.tmp 151) .skip (.exit 8))) (.block 9 (.seq (rg 34 Z0Q 9343 false) (.seq (rg 35 Z0Q 21631 true) (.join [(.normal,[0,1,2,3,4,18,19,20,21,22])] (.cond (.tmp 171) (rg 36 Z0Q 46207 false) (rg 37 Z0Q 62591 false)))))))
noncomputable def Zfp (rd:Option Nat):Key:=.lp 83004 [0,1,2,3,4,18,19,20,21,22] [] Z2w 220 rd
noncomputable def f83_c:ACode:=(.seq (.seq (rg 0 Z0Q 4 false) (.cond (.tmp 28) (.seq (rg 1 Z0Q 18 false) (.seq (rg 2 Z0Q 42 false) (.seq (.block 0 (.loop 83000 [0,1,4,10,11] [] [(.exit 0)] Z2A)) (.seq (.seq (rg 8 Z0Q 314 false) (.block 2 (.loop 83001 [0,10,13] [] [(.exit 2)] Z2z))) .ret)))) .skip)) (.seq (.seq (rg 12 Z0Q 9 false) (.cond (.tmp 80) (.seq (rg 13 Z0Q 37 false) (.seq (rg 14 Z0Q 85 false) (.seq (.block 4 (.loop 83002 [0,2,4,14,15] [] [(.exit 4)] Z2y)) (.seq (.seq (rg 20 Z0Q 629 false) (.block 6 (.loop 83003 [0,14,17] [] [(.exit 6)] Z2x))) .ret)))) .skip)) (.seq (rg 24 Z0Q 11 false) (.seq (rg 25 Z0Q 23 false) (.seq (rg 26 Z0Q 47 false) (.seq (.seq (rg 27 Z0Q 159 false) (.join [(.normal,[0,1,2,3,4,18,19,20,21])] (.cond (.tmp 140) (.seq (rg 28 Z0Q 607 false) (rg 29 Z0Q 863 false)) (.seq (rg 30 Z0Q 735 false) (rg 31 Z0Q 991 false))))) (.seq (rg 32 Z0Q 191 false) (.seq (.block 8 (.loop 83004 [0,1,2,3,4,18,19,20,21,22] [] [(.exit 8)] Z2w)) (.seq (rg 38 Z0Q 767 false) (.seq (.seq (rg 39 Z0Q 2559 false) (.join [(.normal,[0,1,3,4,18,20,24])] (.cond (.tmp 185) (rg 40 Z0Q 5631 false) .skip))) (.seq (.seq (rg 41 Z0Q 5119 false) (.join [(.normal,[0,3,4,18,24])] (.cond (.tmp 199) (rg 42 Z0Q 11263 false) .skip))) (.seq (rg 43 Z0Q 6143 false) (.join [(.normal,[])] (.cond (.tmp 213) (rg 44 Z0Q 12287 false) .skip))))))))))))))
noncomputable def Zfu:AFun:={ code:=f83_c,nt:=220,res:=Try.f83.results.toList,fr:=[] }
noncomputable def Z98:Code:=Z0h Try.f84
noncomputable def Z2v:ACode:=(.seq (.seq (rg 2 Z98 131 false) (.cond (.tmp 20) .skip (.exit 0))) (.block 1 (.seq (rg 3 Z98 291 false) (.join [(.normal,[0,2,4,10,11])] (.cond (.tmp 23) (.seq (rg 4 Z98 1187 false) (rg 5 Z98 1699 false)) (.seq (rg 6 Z98 1443 false) (rg 7 Z98 1955 false)))))))
noncomputable def Zfn (rd:Option Nat):Key:=.lp 84000 [0,2,4,10,11] [] Z2v 58 rd
noncomputable def f84_c:ACode:=(.seq (rg 0 Z98 2 false) (.seq (rg 1 Z98 5 false) (.seq (.block 0 (.loop 84000 [0,2,4,10,11] [] [(.exit 0)] Z2v)) (rg 8 Z98 15 false))))
noncomputable def Zfo:AFun:={ code:=f84_c,nt:=58,res:=Try.f84.results.toList,fr:=[] }
noncomputable def ZhA:Code:=Z0h Try.f85
noncomputable def Z2u:ACode:=(.seq (.seq (rg 1 ZhA 33 false) (.cond (.tmp 13) .skip (.exit 0))) (.seq (.block 1 (rg 3 ZhA 73 true)) (rg 2 ZhA 57 false)))
noncomputable def Zfl (rd:Option Nat):Key:=.lp 85000 [0,1,2,3,10] [] Z2u 38 rd
noncomputable def f85_c:ACode:=(.seq (rg 0 ZhA 2 false) (.block 0 (.loop 85000 [0,1,2,3,10] [] [(.exit 0)] Z2u)))
noncomputable def Zfm:AFun:={ code:=f85_c,nt:=38,res:=Try.f85.results.toList,fr:=[] }
noncomputable def bkT:BT AFun:=(.node 49 Zg6 (.node 31 ZcZ (.node 18 Zlh (.node 13 Zgn (.node 10 Zgp (.node 5 f5_f .leaf .leaf) (.node 12 Zlm .leaf .leaf)) (.node 16 Zd1 (.node 14 Zd2 .leaf .leaf) (.node 17 Zlj .leaf .leaf))) (.node 23 Zla (.node 20 Zld (.node 19 Zlf .leaf .leaf) (.node 22 Zgm .leaf .leaf)) (.node 28 Zgj (.node 26 Zd0 .leaf .leaf) .leaf))) (.node 42 ZcV (.node 35 Zge (.node 33 Zgh (.node 32 Zgi .leaf .leaf) (.node 34 Zgf .leaf .leaf)) (.node 40 ZcX (.node 39 Zgb .leaf .leaf) (.node 41 ZcW .leaf .leaf))) (.node 46 ZcT (.node 44 Zl2 (.node 43 ZcU .leaf .leaf) (.node 45 Zl0 .leaf .leaf)) (.node 48 ZkW (.node 47 ZkY .leaf .leaf) .leaf)))) (.node 72 ZcJ (.node 63 ZcO (.node 59 ZfV (.node 57 ZcS (.node 50 ZkT .leaf .leaf) (.node 58 Zg0 .leaf .leaf)) (.node 61 ZcQ (.node 60 Z7M .leaf .leaf) (.node 62 ZcP .leaf .leaf))) (.node 67 ZcL (.node 65 Z7L (.node 64 ZcN .leaf .leaf) (.node 66 Z7K .leaf .leaf)) (.node 71 ZcK (.node 68 ZfT .leaf .leaf) .leaf))) (.node 79 ZfE (.node 76 ZfM (.node 74 ZfO (.node 73 ZfQ .leaf .leaf) (.node 75 ZfN .leaf .leaf)) (.node 78 ZcI (.node 77 ZfK .leaf .leaf) .leaf)) (.node 83 Zfu (.node 81 ZfB (.node 80 ZfD .leaf .leaf) (.node 82 Zfx .leaf .leaf)) (.node 85 Zfm (.node 84 Zfo .leaf .leaf) .leaf)))))
noncomputable def bk (f:FuncId):Option AFun:=bkT.look f
theorem bk_5:bk 5=some f5_f:=by kernel_rfl
theorem ok_5:Z0w P 5 f5_f:=⟨Try.f5,Z9a,Try.func5,rfl,by kernel_rfl,by kernel_rfl,rfl,rfl⟩
theorem bk_10:bk 10=some Zgp:=by kernel_rfl
theorem ok_10:Z0w P 10 Zgp:=⟨Try.f10,Z3t,Try.func10,rfl,by kernel_rfl,by kernel_rfl,rfl,rfl⟩
theorem bk_12:bk 12=some Zlm:=by kernel_rfl
theorem ok_12:Z0w P 12 Zlm:=⟨Try.f12,Z9j,Try.func12,rfl,by kernel_rfl,by kernel_rfl,rfl,rfl⟩
theorem bk_13:bk 13=some Zgn:=by kernel_rfl
theorem ok_13:Z0w P 13 Zgn:=⟨Try.f13,Zbc,Try.func13,rfl,by kernel_rfl,by kernel_rfl,rfl,rfl⟩
theorem bk_14:bk 14=some Zd2:=by kernel_rfl
theorem ok_14:Z0w P 14 Zd2:=⟨Try.f14,Zbb,Try.func14,rfl,by kernel_rfl,by kernel_rfl,rfl,rfl⟩
theorem bk_16:bk 16=some Zd1:=by kernel_rfl
theorem ok_16:Z0w P 16 Zd1:=⟨Try.f16,Zi0,Try.func16,rfl,by kernel_rfl,by kernel_rfl,rfl,rfl⟩
theorem bk_17:bk 17=some Zlj:=by kernel_rfl
theorem ok_17:Z0w P 17 Zlj:=⟨Try.f17,Z7P,Try.func17,rfl,by kernel_rfl,by kernel_rfl,rfl,rfl⟩
theorem bk_18:bk 18=some Zlh:=by kernel_rfl
theorem ok_18:Z0w P 18 Zlh:=⟨Try.f18,ZhZ,Try.func18,rfl,by kernel_rfl,by kernel_rfl,rfl,rfl⟩
theorem bk_19:bk 19=some Zlf:=by kernel_rfl
theorem ok_19:Z0w P 19 Zlf:=⟨Try.f19,Z7O,Try.func19,rfl,by kernel_rfl,by kernel_rfl,rfl,rfl⟩
theorem bk_20:bk 20=some Zld:=by kernel_rfl
theorem ok_20:Z0w P 20 Zld:=⟨Try.f20,Z26,Try.func20,rfl,by kernel_rfl,by kernel_rfl,rfl,rfl⟩
theorem bk_22:bk 22=some Zgm:=by kernel_rfl
theorem ok_22:Z0w P 22 Zgm:=⟨Try.f22,Z4B,Try.func22,rfl,by kernel_rfl,by kernel_rfl,rfl,rfl⟩
theorem bk_23:bk 23=some Zla:=by kernel_rfl
theorem ok_23:Z0w P 23 Zla:=⟨Try.f23,Z4A,Try.func23,rfl,by kernel_rfl,by kernel_rfl,rfl,rfl⟩
theorem bk_26:bk 26=some Zd0:=by kernel_rfl
theorem ok_26:Z0w P 26 Zd0:=⟨Try.f26,Z9i,Try.func26,rfl,by kernel_rfl,by kernel_rfl,rfl,rfl⟩
theorem bk_28:bk 28=some Zgj:=by kernel_rfl
theorem ok_28:Z0w P 28 Zgj:=⟨Try.f28,Z9h,Try.func28,rfl,by kernel_rfl,by kernel_rfl,rfl,rfl⟩
theorem bk_31:bk 31=some ZcZ:=by kernel_rfl
theorem ok_31:Z0w P 31 ZcZ:=⟨Try.f31,Z9g,Try.func31,rfl,by kernel_rfl,by kernel_rfl,rfl,rfl⟩
theorem bk_32:bk 32=some Zgi:=by kernel_rfl
theorem ok_32:Z0w P 32 Zgi:=⟨Try.f32,ZcY,Try.func32,rfl,by kernel_rfl,by kernel_rfl,rfl,rfl⟩
theorem bk_33:bk 33=some Zgh:=by kernel_rfl
theorem ok_33:Z0w P 33 Zgh:=⟨Try.f33,Z9f,Try.func33,rfl,by kernel_rfl,by kernel_rfl,rfl,rfl⟩
theorem bk_34:bk 34=some Zgf:=by kernel_rfl
theorem ok_34:Z0w P 34 Zgf:=⟨Try.f34,Znp,Try.func34,rfl,by kernel_rfl,by kernel_rfl,rfl,rfl⟩
theorem bk_35:bk 35=some Zge:=by kernel_rfl
theorem ok_35:Z0w P 35 Zge:=⟨Try.f35,Z25,Try.func35,rfl,by kernel_rfl,by kernel_rfl,rfl,rfl⟩
theorem bk_39:bk 39=some Zgb:=by kernel_rfl
theorem ok_39:Z0w P 39 Zgb:=⟨Try.f39,Znm,Try.func39,rfl,by kernel_rfl,by kernel_rfl,rfl,rfl⟩
theorem bk_40:bk 40=some ZcX:=by kernel_rfl
theorem ok_40:Z0w P 40 ZcX:=⟨Try.f40,Z1q,Try.func40,rfl,by kernel_rfl,by kernel_rfl,rfl,rfl⟩
theorem bk_41:bk 41=some ZcW:=by kernel_rfl
theorem ok_41:Z0w P 41 ZcW:=⟨Try.f41,Znl,Try.func41,rfl,by kernel_rfl,by kernel_rfl,rfl,rfl⟩
theorem bk_42:bk 42=some ZcV:=by kernel_rfl
theorem ok_42:Z0w P 42 ZcV:=⟨Try.f42,Z3Y,Try.func42,rfl,by kernel_rfl,by kernel_rfl,rfl,rfl⟩
theorem bk_43:bk 43=some ZcU:=by kernel_rfl
theorem ok_43:Z0w P 43 ZcU:=⟨Try.f43,Z9e,Try.func43,rfl,by kernel_rfl,by kernel_rfl,rfl,rfl⟩
theorem bk_44:bk 44=some Zl2:=by kernel_rfl
theorem ok_44:Z0w P 44 Zl2:=⟨Try.f44,Znj,Try.func44,rfl,by kernel_rfl,by kernel_rfl,rfl,rfl⟩
theorem bk_45:bk 45=some Zl0:=by kernel_rfl
theorem ok_45:Z0w P 45 Zl0:=⟨Try.f45,Z9d,Try.func45,rfl,by kernel_rfl,by kernel_rfl,rfl,rfl⟩
theorem bk_46:bk 46=some ZcT:=by kernel_rfl
theorem ok_46:Z0w P 46 ZcT:=⟨Try.f46,Zb5,Try.func46,rfl,by kernel_rfl,by kernel_rfl,rfl,rfl⟩
theorem bk_47:bk 47=some ZkY:=by kernel_rfl
theorem ok_47:Z0w P 47 ZkY:=⟨Try.f47,Z9c,Try.func47,rfl,by kernel_rfl,by kernel_rfl,rfl,rfl⟩
theorem bk_48:bk 48=some ZkW:=by kernel_rfl
theorem ok_48:Z0w P 48 ZkW:=⟨Try.f48,Z7N,Try.func48,rfl,by kernel_rfl,by kernel_rfl,rfl,rfl⟩
theorem bk_49:bk 49=some Zg6:=by kernel_rfl
theorem ok_49:Z0w P 49 Zg6:=⟨Try.f49,Z3s,Try.func49,rfl,by kernel_rfl,by kernel_rfl,rfl,rfl⟩
theorem bk_50:bk 50=some ZkT:=by kernel_rfl
theorem ok_50:Z0w P 50 ZkT:=⟨Try.f50,Z9b,Try.func50,rfl,by kernel_rfl,by kernel_rfl,rfl,rfl⟩
theorem bk_57:bk 57=some ZcS:=by kernel_rfl
theorem ok_57:Z0w P 57 ZcS:=⟨Try.f57,Z5P,Try.func57,rfl,by kernel_rfl,by kernel_rfl,rfl,rfl⟩
theorem bk_58:bk 58=some Zg0:=by kernel_rfl
theorem ok_58:Z0w P 58 Zg0:=⟨Try.f58,Z1W,Try.func58,rfl,by kernel_rfl,by kernel_rfl,rfl,rfl⟩
theorem bk_59:bk 59=some ZfV:=by kernel_rfl
theorem ok_59:Z0w P 59 ZfV:=⟨Try.f59,ZcR,Try.func59,rfl,by kernel_rfl,by kernel_rfl,rfl,rfl⟩
theorem ZlD:bk 60=some Z7M:=by kernel_rfl
theorem ZmE:Z0w P 60 Z7M:=⟨Try.f60,Z3r,Try.func60,rfl,by kernel_rfl,by kernel_rfl,rfl,rfl⟩
theorem bk_61:bk 61=some ZcQ:=by kernel_rfl
theorem ok_61:Z0w P 61 ZcQ:=⟨Try.f61,ZhN,Try.func61,rfl,by kernel_rfl,by kernel_rfl,rfl,rfl⟩
theorem bk_62:bk 62=some ZcP:=by kernel_rfl
theorem ok_62:Z0w P 62 ZcP:=⟨Try.f62,ZhL,Try.func62,rfl,by kernel_rfl,by kernel_rfl,rfl,rfl⟩
theorem bk_63:bk 63=some ZcO:=by kernel_rfl
theorem ok_63:Z0w P 63 ZcO:=⟨Try.f63,Zna,Try.func63,rfl,by kernel_rfl,by kernel_rfl,rfl,rfl⟩
theorem bk_64:bk 64=some ZcN:=by kernel_rfl
theorem ok_64:Z0w P 64 ZcN:=⟨Try.f64,Zn9,Try.func64,rfl,by kernel_rfl,by kernel_rfl,rfl,rfl⟩
theorem ZlC:bk 65=some Z7L:=by kernel_rfl
theorem ZmD:Z0w P 65 Z7L:=⟨Try.f65,ZcM,Try.func65,rfl,by kernel_rfl,by kernel_rfl,rfl,rfl⟩
theorem ZlB:bk 66=some Z7K:=by kernel_rfl
theorem ZmC:Z0w P 66 Z7K:=⟨Try.f66,Z4j,Try.func66,rfl,by kernel_rfl,by kernel_rfl,rfl,rfl⟩
theorem bk_67:bk 67=some ZcL:=by kernel_rfl
theorem ok_67:Z0w P 67 ZcL:=⟨Try.f67,Z8I,Try.func67,rfl,by kernel_rfl,by kernel_rfl,rfl,rfl⟩
theorem bk_68:bk 68=some ZfT:=by kernel_rfl
theorem ok_68:Z0w P 68 ZfT:=⟨Try.f68,Z4V,Try.func68,rfl,by kernel_rfl,by kernel_rfl,rfl,rfl⟩
theorem bk_71:bk 71=some ZcK:=by kernel_rfl
theorem ok_71:Z0w P 71 ZcK:=⟨Try.f71,Zn7,Try.func71,rfl,by kernel_rfl,by kernel_rfl,rfl,rfl⟩
theorem bk_72:bk 72=some ZcJ:=by kernel_rfl
theorem ok_72:Z0w P 72 ZcJ:=⟨Try.f72,ZaR,Try.func72,rfl,by kernel_rfl,by kernel_rfl,rfl,rfl⟩
theorem bk_73:bk 73=some ZfQ:=by kernel_rfl
theorem ok_73:Z0w P 73 ZfQ:=⟨Try.f73,Z4g,Try.func73,rfl,by kernel_rfl,by kernel_rfl,rfl,rfl⟩
theorem bk_74:bk 74=some ZfO:=by kernel_rfl
theorem ok_74:Z0w P 74 ZfO:=⟨Try.f74,f74_b,Try.func74,rfl,by kernel_rfl,by kernel_rfl,rfl,rfl⟩
theorem bk_75:bk 75=some ZfN:=by kernel_rfl
theorem ok_75:Z0w P 75 ZfN:=⟨Try.f75,ZhC,Try.func75,rfl,by kernel_rfl,by kernel_rfl,rfl,rfl⟩
theorem bk_76:bk 76=some ZfM:=by kernel_rfl
theorem ok_76:Z0w P 76 ZfM:=⟨Try.f76,Z5E,Try.func76,rfl,by kernel_rfl,by kernel_rfl,rfl,rfl⟩
theorem bk_77:bk 77=some ZfK:=by kernel_rfl
theorem ok_77:Z0w P 77 ZfK:=⟨Try.f77,Z4U,Try.func77,rfl,by kernel_rfl,by kernel_rfl,rfl,rfl⟩
theorem bk_78:bk 78=some ZcI:=by kernel_rfl
theorem ok_78:Z0w P 78 ZcI:=⟨Try.f78,Z99,Try.func78,rfl,by kernel_rfl,by kernel_rfl,rfl,rfl⟩
theorem bk_79:bk 79=some ZfE:=by kernel_rfl
theorem ok_79:Z0w P 79 ZfE:=⟨Try.f79,ZhB,Try.func79,rfl,by kernel_rfl,by kernel_rfl,rfl,rfl⟩
theorem bk_80:bk 80=some ZfD:=by kernel_rfl
theorem ok_80:Z0w P 80 ZfD:=⟨Try.f80,Z4T,Try.func80,rfl,by kernel_rfl,by kernel_rfl,rfl,rfl⟩
theorem bk_81:bk 81=some ZfB:=by kernel_rfl
theorem ok_81:Z0w P 81 ZfB:=⟨Try.f81,Z4z,Try.func81,rfl,by kernel_rfl,by kernel_rfl,rfl,rfl⟩
theorem bk_82:bk 82=some Zfx:=by kernel_rfl
theorem ok_82:Z0w P 82 Zfx:=⟨Try.f82,ZbX,Try.func82,rfl,by kernel_rfl,by kernel_rfl,rfl,rfl⟩
theorem bk_83:bk 83=some Zfu:=by kernel_rfl
theorem ok_83:Z0w P 83 Zfu:=⟨Try.f83,Z0Q,Try.func83,rfl,by kernel_rfl,by kernel_rfl,rfl,rfl⟩
theorem bk_84:bk 84=some Zfo:=by kernel_rfl
theorem ok_84:Z0w P 84 Zfo:=⟨Try.f84,Z98,Try.func84,rfl,by kernel_rfl,by kernel_rfl,rfl,rfl⟩
theorem bk_85:bk 85=some Zfm:=by kernel_rfl
theorem ok_85:Z0w P 85 Zfm:=⟨Try.f85,ZhA,Try.func85,rfl,by kernel_rfl,by kernel_rfl,rfl,rfl⟩
theorem Zgy:Z6c P bk:=fun f a e=>BT.look_all (Q:=Z0w P) (t:=bkT) (ai ok_49 (ai (ai ok_31 (ai (ai ok_18 (ai (ai ok_13 (ai (ai ok_10 (ai (ai ok_5 (ai tt tt)) (ai ok_12 (ai tt tt)))) (ai ok_16 (ai (ai ok_14 (ai tt tt)) (ai ok_17 (ai tt tt)))))) (ai ok_23 (ai (ai ok_20 (ai (ai ok_19 (ai tt tt)) (ai ok_22 (ai tt tt)))) (ai ok_28 (ai (ai ok_26 (ai tt tt)) tt)))))) (ai ok_42 (ai (ai ok_35 (ai (ai ok_33 (ai (ai ok_32 (ai tt tt)) (ai ok_34 (ai tt tt)))) (ai ok_40 (ai (ai ok_39 (ai tt tt)) (ai ok_41 (ai tt tt)))))) (ai ok_46 (ai (ai ok_44 (ai (ai ok_43 (ai tt tt)) (ai ok_45 (ai tt tt)))) (ai ok_48 (ai (ai ok_47 (ai tt tt)) tt)))))))) (ai ok_72 (ai (ai ok_63 (ai (ai ok_59 (ai (ai ok_57 (ai (ai ok_50 (ai tt tt)) (ai ok_58 (ai tt tt)))) (ai ok_61 (ai (ai ZmE (ai tt tt)) (ai ok_62 (ai tt tt)))))) (ai ok_67 (ai (ai ZmD (ai (ai ok_64 (ai tt tt)) (ai ZmC (ai tt tt)))) (ai ok_71 (ai (ai ok_68 (ai tt tt)) tt)))))) (ai ok_79 (ai (ai ok_76 (ai (ai ok_74 (ai (ai ok_73 (ai tt tt)) (ai ok_75 (ai tt tt)))) (ai ok_78 (ai (ai ok_77 (ai tt tt)) tt)))) (ai ok_83 (ai (ai ok_81 (ai (ai ok_80 (ai tt tt)) (ai ok_82 (ai tt tt)))) (ai ok_85 (ai (ai ok_84 (ai tt tt)) tt)))))))))) e
theorem Zfg:P.follows .mixedOrders=true:=by kernel_rfl
def selF:List Nat:=[71,78,20,40,16,17,18,19,43,46]
def selL:List Nat:=[60000,66000,47000,26000,23000,23001,25000,48000,45000,50000,40000,40002,67000,72000,31000,20000,20002,12000,19000,42000,42001,46000]
def Zhb (x:Nat):List Nat->Bool
 | []=>false
 | y::ys=>cond (Nat.beq x y) true (Zhb x ys)
def sel:Key->Bool
 | .fn f=>!(Zhb f selF)
 | .lp j _ _ _ _ _=>Zhb j selL
 | .rnd ..=>false
noncomputable def ext:Fo FH:=fun f args h c=>match args with
 | []=>cond (Zhb f [13]) (some { e:=.ret,vs:=[.bool true],h:=h,c:=c,df:=[] }) none
 | _=>none
noncomputable abbrev G:Orc FH:=Z6d P bk sel ext
end Go.Proofs.Ytemkjcpfgmbibaa
