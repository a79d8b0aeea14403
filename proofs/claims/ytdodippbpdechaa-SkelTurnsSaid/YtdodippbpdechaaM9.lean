/- Parts of a proof: K S0. Conditions: none. -/
import Derived.Test.YtdodippbpdechaaChecked
import Derived.KernelRfl
import Derived.Test.YtdodippbpdechaaM6
import Derived.Test.YtdodippbpdechaaM7
import Derived.Test.YtdodippbpdechaaM8
set_option linter.all false
set_option maxRecDepth 100000
namespace Go.Proofs.Ytdodippbpdechaa
open Go Go.Ab Go.Proofs
variable {H:Type} [HeapC H]
noncomputable abbrev P:=Try.prog
noncomputable def Z6t:Code:=Z0p Try.f7
noncomputable def ZaW:ACode:=(.seq (rg 13 Z6t 70527 false) (.seq (.cond (.tmp 125) .skip (.exit 0)) (.seq (.block 1 (.seq (rg 14 Z6t 1151871 false) (.seq (rg 15 Z6t 2724735 false) (.cond (.tmp 128) (.seq (rg 16 Z6t 10064767 false) .ret) .skip)))) (rg 17 Z6t 496511 false))))
noncomputable def ZaU (rd:Option Nat):Key:=.lp 7000 [3,4,8,9,10,12,122,123,124] [] ZaW 193 rd
noncomputable def ZaV:ACode:=(.seq (rg 19 Z6t 72575 false) (.seq (.cond (.tmp 134) .skip (.exit 2)) (.seq (.block 3 (.seq (rg 20 Z6t 1153919 false) (.seq (rg 21 Z6t 2726783 false) (.cond (.tmp 139) (.seq (rg 22 Z6t 10066815 false) .ret) .skip)))) (rg 23 Z6t 498559 false))))
noncomputable def ZaT (rd:Option Nat):Key:=.lp 7001 [3,4,8,9,10,131,132,133] [] ZaV 193 rd
noncomputable def f7_c:ACode:=(.seq (rg 0 Z6t 2 false) (.seq (.seq (rg 1 Z6t 9 false) (.cond (.tmp 28) (.seq (rg 2 Z6t 37 false) .ret) .skip)) (.seq (rg 3 Z6t 11 false) (.seq (rg 4 Z6t 23 false) (.seq (.seq (rg 5 Z6t 79 false) (.cond (.tmp 57) (.seq (rg 6 Z6t 303 false) .ret) .skip)) (.seq (rg 7 Z6t 95 true) (.seq (.seq (rg 8 Z6t 319 false) (.cond (.tmp 113) (.seq (rg 9 Z6t 1215 false) .ret) .skip)) (.seq (.seq (rg 10 Z6t 639 false) (.seq (rg 11 Z6t 1407 false) (.join [(.ret,[8]),(.normal,[3,4,9,10])] (.cond (.tmp 120) (.seq (.seq (rg 12 Z6t 9087 false) (.block 0 (.loop 7000 [3,4,8,9,10,12,122,123,124] [] [(.exit 0),.ret] ZaW))) (.seq (rg 18 Z6t 11135 false) (.block 2 (.loop 7001 [3,4,8,9,10,131,132,133] [] [(.exit 2),.ret] ZaV)))) .skip)))) (.seq (.seq (rg 24 Z6t 1279 false) (.cond (.tmp 148) (.seq (rg 25 Z6t 4863 false) .ret) .skip)) (.seq (rg 26 Z6t 1535 true) (.seq (rg 27 Z6t 3071 false) .ret)))))))))))
noncomputable def f7_f:AFun:={ code:=f7_c,nt:=193,res:=Try.f7.results.toList,fr:=[] }
noncomputable def ZhP:Code:=Z0p Try.f10
noncomputable def f10_c:ACode:=(.seq (rg 0 ZhP 2 false) (.seq (rg 1 ZhP 5 false) (.seq (rg 2 ZhP 11 false) (.seq (rg 3 ZhP 23 false) .ret))))
noncomputable def Zg1:AFun:={ code:=f10_c,nt:=31,res:=Try.f10.results.toList,fr:=[] }
noncomputable def ZhO:Code:=Z0p Try.f11
noncomputable def f11_c:ACode:=(.seq (rg 0 ZhO 2 false) (.seq (.seq (rg 1 ZhO 9 false) (.cond (.tmp 6) (.seq (rg 2 ZhO 37 false) .ret) .skip)) (.seq (rg 3 ZhO 11 false) .ret)))
noncomputable def Zd0:AFun:={ code:=f11_c,nt:=10,res:=Try.f11.results.toList,fr:=[] }
noncomputable def Z7Q:Code:=Z0p Try.f13
noncomputable def Z3H:ACode:=(.seq (rg 5 Z7Q 279 false) (.seq (.cond (.tmp 14) .skip (.exit 0)) (.seq (.block 1 (.seq (rg 6 Z7Q 4503 false) (.seq (rg 7 Z7Q 10647 false) (.cond (.tmp 19) (.seq (rg 8 Z7Q 39319 false) .ret) .skip)))) (rg 9 Z7Q 1943 false))))
noncomputable def ZfY (rd:Option Nat):Key:=.lp 13000 [2,3,4,12,13] [] Z3H 23 rd
noncomputable def f13_c:ACode:=(.seq (rg 0 Z7Q 2 false) (.seq (.seq (rg 1 Z7Q 9 false) (.cond (.tmp 9) (.seq (rg 2 Z7Q 37 false) .ret) .skip)) (.seq (rg 3 Z7Q 11 false) (.seq (.seq (rg 4 Z7Q 39 false) (.block 0 (.loop 13000 [2,3,4,12,13] [] [(.exit 0),.ret] Z3H))) (.seq (rg 10 Z7Q 47 false) .ret)))))
noncomputable def ZfZ:AFun:={ code:=f13_c,nt:=23,res:=Try.f13.results.toList,fr:=[] }
noncomputable def Z5g:Code:=Z0p Try.f14
noncomputable def Z3F:ACode:=(.seq (.seq (rg 8 Z5g 33943 false) (.cond (.tmp 18) .skip (.exit 2))) (.seq (.join [(.normal,[1,2,3,4,5]),(.ret,[1,2,3,4,5])] (.block 3 (.seq (rg 10 Z5g 140439 false) (.seq (.seq (rg 11 Z5g 599191 false) (.cond (.tmp 36) (.exit 3) .skip)) (.seq (.seq (rg 12 Z5g 1254551 false) (.cond (.tmp 65) (.seq (rg 13 Z5g 4924567 false) .ret) .skip)) (.seq (rg 14 Z5g 1516695 true) (.cond (.tmp 82) (.seq (rg 15 Z5g 5186711 false) .ret) .skip))))))) (rg 9 Z5g 58519 false)))
noncomputable def Z3D (rd:Option Nat):Key:=.lp 14001 [1,2,3,4,5] [] Z3F 83 rd
noncomputable def Z3G:ACode:=(.seq (.seq (rg 5 Z5g 535 false) (.cond (.tmp 14) .skip (.exit 0))) (.seq (.block 1 (.seq (rg 7 Z5g 2199 false) (.block 2 (.loop 14001 [1,2,3,4,5] [] [(.exit 2),.ret] Z3F)))) (rg 6 Z5g 919 false)))
noncomputable def Z3E (rd:Option Nat):Key:=.lp 14000 [1,2,3,4] [] Z3G 83 rd
noncomputable def f14_c:ACode:=(.seq (rg 0 Z5g 2 false) (.seq (rg 1 Z5g 5 false) (.seq (.seq (rg 2 Z5g 19 false) (.cond (.tmp 11) (.seq (rg 3 Z5g 75 false) .ret) .skip)) (.seq (.seq (rg 4 Z5g 39 false) (.block 0 (.loop 14000 [1,2,3,4] [] [(.exit 0),.ret] Z3G))) (.seq (rg 16 Z5g 47 false) .ret)))))
noncomputable def ZcZ:AFun:={ code:=f14_c,nt:=83,res:=Try.f14.results.toList,fr:=[] }
noncomputable def Z9i:Code:=Z0p Try.f16
noncomputable def Z3C:ACode:=(.seq (.seq (rg 4 Z9i 267 false) (.cond (.tmp 14) .skip (.exit 0))) (.seq (.block 1 (.seq (rg 6 Z9i 1099 true) (.cond (.tmp 25) (.seq (rg 7 Z9i 4683 false) .ret) .skip))) (rg 5 Z9i 459 false)))
noncomputable def ZfW (rd:Option Nat):Key:=.lp 16000 [0,1,4,5] [] Z3C 26 rd
noncomputable def f16_c:ACode:=(.seq (rg 0 Z9i 2 false) (.seq (.seq (rg 1 Z9i 9 false) (.cond (.tmp 10) (.seq (rg 2 Z9i 37 false) .ret) .skip)) (.seq (.seq (rg 3 Z9i 19 false) (.block 0 (.loop 16000 [0,1,4,5] [] [(.exit 0),.ret] Z3C))) (.seq (rg 8 Z9i 23 false) .ret))))
noncomputable def ZfX:AFun:={ code:=f16_c,nt:=26,res:=Try.f16.results.toList,fr:=[] }
noncomputable def Zbb:Code:=Z0p Try.f27
noncomputable def Z3B:ACode:=(.seq (rg 2 Zbb 69 false) (.seq (.cond (.tmp 9) .skip (.exit 0)) (.seq (.block 1 (.seq (rg 3 Zbb 1125 false) (.seq (rg 4 Zbb 2661 false) (.cond (.tmp 23) (.seq (rg 5 Zbb 9829 false) .ret) .skip)))) (rg 6 Zbb 485 false))))
noncomputable def Zab (rd:Option Nat):Key:=.lp 27000 [0,1,4,7,8] [] Z3B 26 rd
noncomputable def f27_c:ACode:=(.seq (rg 0 Zbb 2 false) (.seq (.seq (rg 1 Zbb 9 false) (.block 0 (.loop 27000 [0,1,4,7,8] [] [(.exit 0),.ret] Z3B))) (.seq (rg 7 Zbb 11 false) .ret)))
noncomputable def ZcY:AFun:={ code:=f27_c,nt:=26,res:=Try.f27.results.toList,fr:=[] }
noncomputable def Z7P:Code:=Z0p Try.f28
noncomputable def f28_c:ACode:=(.seq (rg 0 Z7P 2 false) (.seq (.seq (rg 1 Z7P 9 false) (.cond (.tmp 23) (.seq (rg 2 Z7P 37 false) .ret) .skip)) (.seq (.seq (rg 3 Z7P 19 false) (.cond (.tmp 26) (.seq (rg 4 Z7P 75 false) .ret) .skip)) (.seq (.seq (rg 5 Z7P 39 false) (.block 0 (.seq (rg 6 Z7P 151 false) (.cond (.tmp 31) (.seq (rg 7 Z7P 599 false) .ret) (.seq (rg 8 Z7P 727 false) (.cond (.tmp 35) (.seq (rg 9 Z7P 2519 false) .ret) .skip)))))) (.seq (rg 10 Z7P 47 false) .ret)))))
noncomputable def Zl3:AFun:={ code:=f28_c,nt:=39,res:=Try.f28.results.toList,fr:=[] }
noncomputable def Z45:Code:=Z0p Try.f29
noncomputable def Z2n:ACode:=(rg 7 Z45 303 false)
noncomputable def Z2k:ACode:=(.block 1 (.seq (.seq (rg 8 Z45 2223 false) (.cond (.tmp 45) (.seq (rg 9 Z45 9391 false) .ret) .skip)) (rg 10 Z45 1711 false)))
noncomputable def Z2m:ACode:=(rg 13 Z45 1215 false)
noncomputable def Z2j:ACode:=(.block 3 (rg 14 Z45 2751 false))
noncomputable def Z2l:ACode:=(rg 17 Z45 4863 false)
noncomputable def Z2i:ACode:=(.block 5 (rg 18 Z45 11007 false))
noncomputable def f29_c:ACode:=(.seq (rg 0 Z45 2 false) (.seq (.seq (rg 1 Z45 9 false) (.cond (.tmp 16) (.seq (rg 2 Z45 37 false) .ret) .skip)) (.seq (.seq (rg 3 Z45 19 false) (.cond (.tmp 30) (.seq (rg 4 Z45 75 false) .ret) .skip)) (.seq (rg 5 Z45 23 false) (.seq (.seq (rg 6 Z45 79 false) (.block 0 (.rangeFunc 29000 [6,7,8,9] [] [.normal,.ret] (.tmp 36) #[37] Z2n Z2k))) (.seq (rg 11 Z45 95 false) (.seq (.seq (rg 12 Z45 319 false) (.block 2 (.rangeFunc 29001 [11] [] [.normal] (.tmp 54) #[55] Z2m Z2j))) (.seq (rg 15 Z45 383 false) (.seq (.seq (rg 16 Z45 1279 false) (.block 4 (.rangeFunc 29002 [6] [] [.normal] (.tmp 59) #[60] Z2l Z2i))) (.seq (rg 19 Z45 1535 false) .ret))))))))))
noncomputable def Zl1:AFun:={ code:=f29_c,nt:=66,res:=Try.f29.results.toList,fr:=[] }
noncomputable def Z2B:Code:=Z0p Try.f30
noncomputable def Z7j:ACode:=(.seq (.seq (rg 14 Z2B 17382551 false) (.cond (.tmp 42) .skip (.exit 4))) (.seq (.join [(.normal,[1,2,3,4,5,6,7,8,9]),(.ret,[1,2,3,4,5,6,7,8,9])] (.block 5 (.seq (rg 16 Z2B 71908503 true) (.seq (.seq (rg 17 Z2B 306789527 false) (.cond (.tmp 57) (.exit 5) .skip)) (.seq (rg 18 Z2B 373898391 true) (.seq (rg 19 Z2B 776551575 false) (.join [(.normal,[1,2,3,4,5,6,7,8,9]),(.ret,[1,2,3,4,5,6,7,8,9])] (.cond (.tmp 75) (.seq (rg 20 Z2B 2655599767 false) (rg 21 Z2B 3729341591 false)) (.seq (rg 22 Z2B 3192470679 false) (.cond (.tmp 92) (.seq (rg 23 Z2B 10708663447 false) .ret) .skip)))))))))) (rg 15 Z2B 29965463 false)))
noncomputable def Za8 (rd:Option Nat):Key:=.lp 30002 [1,2,3,4,5,6,7,8,9] [] Z7j 94 rd
noncomputable def Z7k:ACode:=(.seq (.seq (rg 11 Z2B 277655 false) (.cond (.tmp 38) .skip (.exit 2))) (.seq (.block 3 (.seq (rg 13 Z2B 1129623 false) (.block 4 (.loop 30002 [1,2,3,4,5,6,7,8,9] [] [(.exit 4),.ret] Z7j)))) (rg 12 Z2B 474263 false)))
noncomputable def Za9 (rd:Option Nat):Key:=.lp 30001 [1,2,3,4,5,6,7,8] [] Z7k 94 rd
noncomputable def Z7l:ACode:=(.seq (.seq (rg 5 Z2B 535 false) (.cond (.tmp 22) .skip (.exit 0))) (.seq (.join [(.normal,[1,2,3,4,5,6]),(.ret,[1,2,3,4,5,6])] (.block 1 (.seq (.seq (rg 7 Z2B 4247 false) (.cond (.tmp 29) (.exit 1) .skip)) (.seq (rg 8 Z2B 5271 false) (.seq (rg 9 Z2B 11415 false) (.seq (rg 10 Z2B 23703 false) (.block 2 (.loop 30001 [1,2,3,4,5,6,7,8] [] [(.exit 2),.ret] Z7k)))))))) (rg 6 Z2B 919 false)))
noncomputable def Zaa (rd:Option Nat):Key:=.lp 30000 [1,2,3,4,5,6] [] Z7l 94 rd
noncomputable def f30_c:ACode:=(.seq (rg 0 Z2B 2 false) (.seq (.seq (rg 1 Z2B 9 false) (.cond (.tmp 14) (.seq (rg 2 Z2B 37 false) .ret) .skip)) (.seq (rg 3 Z2B 11 false) (.seq (.seq (rg 4 Z2B 39 false) (.block 0 (.loop 30000 [1,2,3,4,5,6] [] [(.exit 0),.ret] Z7l))) (.seq (rg 24 Z2B 47 false) .ret)))))
noncomputable def ZkZ:AFun:={ code:=f30_c,nt:=94,res:=Try.f30.results.toList,fr:=[] }
noncomputable def Z5q:Code:=Z0p Try.f31
noncomputable def Z7g:ACode:=(.seq (rg 8 Z5q 142539 false) (.seq (.cond (.tmp 21) .skip (.exit 2)) (.seq (.block 3 (.seq (rg 9 Z5q 2305227 false) (rg 10 Z5q 3353803 true))) (rg 11 Z5q 994507 false))))
noncomputable def Za6 (rd:Option Nat):Key:=.lp 31001 [0,1,4,5,6,14,15,19,20] [] Z7g 46 rd
noncomputable def Z7h:ACode:=(.seq (rg 4 Z5q 139 false) (.seq (.cond (.tmp 16) .skip (.exit 0)) (.seq (.block 1 (.seq (rg 5 Z5q 2251 false) (.seq (rg 6 Z5q 5323 false) (.seq (.seq (rg 7 Z5q 19659 false) (.block 2 (.loop 31001 [0,1,4,5,6,14,15,19,20] [] [(.exit 2)] Z7g))) (.seq (rg 12 Z5q 23755 false) (.cond (.tmp 41) (.seq (rg 13 Z5q 81099 false) .ret) .skip)))))) (rg 14 Z5q 971 false))))
noncomputable def Za7 (rd:Option Nat):Key:=.lp 31000 [0,1,4,14,15] [] Z7h 46 rd
noncomputable def f31_c:ACode:=(.seq (rg 0 Z5q 2 false) (.seq (.seq (rg 1 Z5q 9 false) (.cond (.tmp 12) (.seq (rg 2 Z5q 37 false) .ret) .skip)) (.seq (.seq (rg 3 Z5q 19 false) (.block 0 (.loop 31000 [0,1,4,14,15] [] [(.exit 0),.ret] Z7h))) (.seq (rg 15 Z5q 23 false) .ret))))
noncomputable def ZkX:AFun:={ code:=f31_c,nt:=46,res:=Try.f31.results.toList,fr:=[] }
noncomputable def Z8S:Code:=Z0p Try.f32
noncomputable def Z7e:ACode:=(.seq (rg 4 Z8S 139 false) (.seq (.cond (.tmp 14) .skip (.exit 0)) (.seq (.block 1 (.seq (rg 5 Z8S 2251 false) (.seq (rg 6 Z8S 5323 true) (.cond (.tmp 24) (.seq (rg 7 Z8S 19659 false) .ret) .skip)))) (rg 8 Z8S 971 false))))
noncomputable def Za5 (rd:Option Nat):Key:=.lp 32000 [0,1,4,12,13] [] Z7e 26 rd
noncomputable def f32_c:ACode:=(.seq (rg 0 Z8S 2 false) (.seq (.seq (rg 1 Z8S 9 false) (.cond (.tmp 10) (.seq (rg 2 Z8S 37 false) .ret) .skip)) (.seq (.seq (rg 3 Z8S 19 false) (.block 0 (.loop 32000 [0,1,4,12,13] [] [(.exit 0),.ret] Z7e))) (.seq (rg 9 Z8S 23 false) .ret))))
noncomputable def ZkV:AFun:={ code:=f32_c,nt:=26,res:=Try.f32.results.toList,fr:=[] }
noncomputable def ZkT:Code:=Z0p Try.f37
noncomputable def f37_c:ACode:=(.seq (rg 0 ZkT 2 false) (.seq (rg 1 ZkT 5 false) (.seq (rg 2 ZkT 11 false) .ret)))
noncomputable def ZfS:AFun:={ code:=f37_c,nt:=8,res:=Try.f37.results.toList,fr:=[] }
noncomputable def Z6z:Code:=Z0p Try.f38
noncomputable def Z1w:ACode:=(.seq (rg 5 Z6z 279 false) (rg 6 Z6z 407 false))
noncomputable def Z1v:ACode:=(.join [(.normal,[]),(.ret,[])] (.block 1 (.seq (.seq (rg 7 Z6z 1111 false) (.cond (.tmp 17) (.exit 1) .skip)) (.seq (.seq (rg 8 Z6z 2391 true) (.cond (.tmp 51) (.seq (rg 9 Z6z 9559 false) .ret) .skip)) (.seq (rg 10 Z6z 2903 true) (.cond (.tmp 70) (.seq (rg 11 Z6z 10071 false) .ret) .skip))))))
noncomputable def f38_c:ACode:=(.seq (rg 0 Z6z 2 false) (.seq (.seq (rg 1 Z6z 9 false) (.cond (.tmp 9) (.seq (rg 2 Z6z 37 false) .ret) .skip)) (.seq (rg 3 Z6z 11 false) (.seq (.seq (rg 4 Z6z 39 false) (.block 0 (.rangeFunc 38000 [1,2,3] [] [.normal,.ret] (.tmp 12) #[13,14] Z1w Z1v))) (.seq (rg 12 Z6z 47 false) .ret)))))
noncomputable def ZcX:AFun:={ code:=f38_c,nt:=71,res:=Try.f38.results.toList,fr:=[] }
noncomputable def Z25:Code:=Z0p Try.f39
noncomputable def Z3w:ACode:=(.seq (rg 14 Z25 9410943 false) (.seq (.cond (.tmp 107) .skip (.exit 2)) (.seq (.block 3 (.seq (rg 15 Z25 147822975 false) (.seq (rg 16 Z25 349149567 false) (.seq (rg 17 Z25 751802751 false) (.seq (rg 18 Z25 1557109119 true) (.join [(.normal,[2,3,4,5,6,8,10,12,13,59,60,105,106])] (.cond (.tmp 148) (rg 19 Z25 3167721855 false) .skip))))))) (rg 20 Z25 63936895 false))))
noncomputable def Za3 (rd:Option Nat):Key:=.lp 39001 [2,3,4,5,6,8,10,12,13,59,60,105,106] [] Z3w 172 rd
noncomputable def Z3x:ACode:=(.seq (rg 8 Z25 4479 false) (.seq (.cond (.tmp 61) .skip (.exit 0)) (.seq (.block 1 (.seq (rg 9 Z25 72063 false) (.seq (rg 10 Z25 170367 true) (.seq (rg 11 Z25 366975 true) (.seq (rg 12 Z25 760191 true) (.seq (rg 13 Z25 1546623 false) (.block 2 (.loop 39001 [2,3,4,5,6,8,10,12,13,59,60,105,106] [] [(.exit 2)] Z3w)))))))) (rg 21 Z25 31103 false))))
noncomputable def Za4 (rd:Option Nat):Key:=.lp 39000 [2,3,4,5,6,8,10,12,59,60] [] Z3x 172 rd
noncomputable def Z3v:ACode:=(.seq (rg 23 Z25 8959 false) (.seq (.cond (.tmp 157) .skip (.exit 4)) (.seq (.block 5 (.seq (rg 24 Z25 144127 false) (rg 25 Z25 209663 true))) (rg 26 Z25 62207 false))))
noncomputable def Za2 (rd:Option Nat):Key:=.lp 39002 [2,3,4,6,12,155,156] [] Z3v 172 rd
noncomputable def f39_c:ACode:=(.seq (rg 0 Z25 2 false) (.seq (rg 1 Z25 5 false) (.seq (rg 2 Z25 11 false) (.seq (rg 3 Z25 23 false) (.seq (rg 4 Z25 47 false) (.seq (rg 5 Z25 95 false) (.seq (rg 6 Z25 191 true) (.seq (.seq (rg 7 Z25 639 false) (.block 0 (.loop 39000 [2,3,4,5,6,8,10,12,59,60] [] [(.exit 0)] Z3x))) (.seq (.seq (rg 22 Z25 1279 false) (.block 4 (.loop 39002 [2,3,4,6,12,155,156] [] [(.exit 4)] Z3v))) (.seq (rg 27 Z25 1535 false) .ret))))))))))
noncomputable def ZcW:AFun:={ code:=f39_c,nt:=172,res:=Try.f39.results.toList,fr:=[] }
noncomputable def Z24:Code:=Z0p Try.f40
noncomputable def Z3o:ACode:=(.seq (rg 18 Z24 153762765207 false) (.seq (.cond (.tmp 91) .skip (.exit 6)) (.seq (.block 7 (.seq (rg 19 Z24 2421505497495 false) (.seq (rg 20 Z24 5720040380823 false) (.join [(.normal,[4,5,7,8,9,10,35,36,37,42,43,68,90])] (.cond (.tmp 100) (.seq (rg 21 Z24 21113203169687 true) (rg 22 Z24 29909296191895 true)) .skip))))) (rg 23 Z24 1047115962775 false))))
noncomputable def Z9Y (rd:Option Nat):Key:=.lp 40003 [4,5,7,8,9,10,35,36,37,42,43,68,90] [] Z3o 152 rd
noncomputable def Z3p:ACode:=(.seq (rg 13 Z24 150575511 false) (.seq (.cond (.tmp 69) .skip (.exit 4)) (.seq (.join [(.normal,[4,5,7,8,9,35,36,37,42,43,68])] (.block 5 (.seq (rg 14 Z24 2365168023 false) (.seq (.seq (rg 15 Z24 9881360791 false) (.cond (.tmp 73) (.exit 5) .skip)) (.seq (rg 16 Z24 12028844439 true) (.seq (rg 17 Z24 24913746327 false) (.block 6 (.loop 40003 [4,5,7,8,9,10,35,36,37,42,43,68,90] [] [(.exit 6)] Z3o)))))))) (rg 24 Z24 1022990743 false))))
noncomputable def Z9Z (rd:Option Nat):Key:=.lp 40002 [4,5,7,8,9,35,36,37,42,43,68] [] Z3p 152 rd
noncomputable def Z3q:ACode:=(.seq (rg 7 Z24 72087 false) (.seq (.cond (.tmp 44) .skip (.exit 2)) (.seq (.join [(.normal,[4,5,35,36,37,42,43])] (.block 3 (.seq (rg 8 Z24 1153431 false) (.seq (.seq (rg 9 Z24 4823447 false) (.cond (.tmp 49) (.exit 3) .skip)) (.seq (rg 10 Z24 5872023 false) (.seq (rg 11 Z24 12163479 true) (.seq (rg 12 Z24 24746391 false) (.block 4 (.loop 40002 [4,5,7,8,9,35,36,37,42,43,68] [] [(.exit 4)] Z3p))))))))) (rg 25 Z24 498071 false))))
noncomputable def Za0 (rd:Option Nat):Key:=.lp 40001 [4,5,35,36,37,42,43] [] Z3q 152 rd
noncomputable def Z3r:ACode:=(.seq (rg 4 Z24 279 false) (.seq (.cond (.tmp 38) .skip (.exit 0)) (.seq (.block 1 (.seq (rg 5 Z24 4503 false) (.seq (rg 6 Z24 10647 false) (.block 2 (.loop 40001 [4,5,35,36,37,42,43] [] [(.exit 2)] Z3q))))) (rg 26 Z24 1943 false))))
noncomputable def Za1 (rd:Option Nat):Key:=.lp 40000 [4,35,36,37] [] Z3r 152 rd
noncomputable def f40_c:ACode:=(.seq (rg 0 Z24 2 false) (.seq (rg 1 Z24 5 false) (.seq (rg 2 Z24 11 true) (.seq (.seq (rg 3 Z24 39 false) (.block 0 (.loop 40000 [4,35,36,37] [] [(.exit 0)] Z3r))) (.seq (rg 27 Z24 47 false) .ret)))))
noncomputable def ZcV:AFun:={ code:=f40_c,nt:=152,res:=Try.f40.results.toList,fr:=[] }
noncomputable def Z6y:Code:=Z0p Try.f41
noncomputable def Z3n:ACode:=(.seq (rg 4 Z6y 279 false) (.seq (.cond (.tmp 17) .skip (.exit 0)) (.seq (.block 1 (.seq (rg 5 Z6y 4503 false) (.seq (rg 6 Z6y 10647 false) (.seq (rg 7 Z6y 22935 false) (.join [(.normal,[0,4,5,15,16])] (.cond (.tmp 24) (.seq (rg 8 Z6y 80279 false) (rg 9 Z6y 113047 false)) (rg 10 Z6y 63895 false))))))) (rg 11 Z6y 1943 false))))
noncomputable def Z9X (rd:Option Nat):Key:=.lp 41000 [0,4,5,15,16] [] Z3n 41 rd
noncomputable def f41_c:ACode:=(.seq (rg 0 Z6y 2 false) (.seq (rg 1 Z6y 5 false) (.seq (rg 2 Z6y 11 false) (.seq (.seq (rg 3 Z6y 39 false) (.block 0 (.loop 41000 [0,4,5,15,16] [] [(.exit 0)] Z3n))) (.seq (rg 12 Z6y 47 false) .ret)))))
noncomputable def ZcU:AFun:={ code:=f41_c,nt:=41,res:=Try.f41.results.toList,fr:=[] }
noncomputable def Z2A:Code:=Z0p Try.f42
noncomputable def Z3l:ACode:=(.seq (rg 7 Z2A 72087 false) (.seq (.cond (.tmp 26) .skip (.exit 2)) (.seq (.block 3 (.seq (rg 8 Z2A 1153431 false) (rg 9 Z2A 1677719 false))) (rg 10 Z2A 498071 false))))
noncomputable def ZfO (rd:Option Nat):Key:=.lp 42001 [2,3,4,18,19,20,24,25] [] Z3l 90 rd
noncomputable def Z3m:ACode:=(.seq (rg 4 Z2A 279 false) (.seq (.cond (.tmp 21) .skip (.exit 0)) (.seq (.block 1 (.seq (rg 5 Z2A 4503 false) (.seq (rg 6 Z2A 10647 false) (.block 2 (.loop 42001 [2,3,4,18,19,20,24,25] [] [(.exit 2)] Z3l))))) (rg 11 Z2A 1943 false))))
noncomputable def ZfP (rd:Option Nat):Key:=.lp 42000 [2,3,4,18,19,20] [] Z3m 90 rd
noncomputable def Z3k:ACode:=(.seq (rg 13 Z2A 559 false) (.seq (.cond (.tmp 42) .skip (.exit 4)) (.seq (.block 5 (.seq (rg 14 Z2A 9007 false) (rg 15 Z2A 13103 false))) (rg 16 Z2A 3887 false))))
noncomputable def ZfN (rd:Option Nat):Key:=.lp 42002 [2,3,4,39,40,41] [] Z3k 90 rd
noncomputable def Z3j:ACode:=(.seq (rg 18 Z2A 1119 false) (.seq (.cond (.tmp 56) .skip (.exit 6)) (.seq (.block 7 (.seq (rg 19 Z2A 18015 false) (.seq (rg 20 Z2A 42591 false) (.seq (rg 21 Z2A 91743 false) (rg 22 Z2A 124511 false))))) (rg 23 Z2A 7775 false))))
noncomputable def ZfM (rd:Option Nat):Key:=.lp 42003 [2,4,53,54,55] [] Z3j 90 rd
noncomputable def f42_c:ACode:=(.seq (rg 0 Z2A 2 false) (.seq (rg 1 Z2A 5 false) (.seq (rg 2 Z2A 11 false) (.seq (.seq (rg 3 Z2A 39 false) (.block 0 (.loop 42000 [2,3,4,18,19,20] [] [(.exit 0)] Z3m))) (.seq (.seq (rg 12 Z2A 79 false) (.block 4 (.loop 42002 [2,3,4,39,40,41] [] [(.exit 4)] Z3k))) (.seq (.seq (rg 17 Z2A 159 false) (.block 6 (.loop 42003 [2,4,53,54,55] [] [(.exit 6)] Z3j))) (.seq (rg 24 Z2A 191 false) .ret)))))))
noncomputable def ZfQ:AFun:={ code:=f42_c,nt:=90,res:=Try.f42.results.toList,fr:=[] }
noncomputable def Znk:Code:=Z0p Try.f43
noncomputable def f43_c:ACode:=(.seq (rg 0 Znk 2 false) (.seq (rg 1 Znk 5 false) .ret))
noncomputable def ZfL:AFun:={ code:=f43_c,nt:=6,res:=Try.f43.results.toList,fr:=[] }
noncomputable def Z9h:Code:=Z0p Try.f44
noncomputable def Z3i:ACode:=(.seq (.seq (rg 3 Z9h 267 false) (.cond (.tmp 6) .skip (.exit 0))) (.seq (.block 1 (.seq (.seq (rg 5 Z9h 2123 false) (.cond (.tmp 25) (.seq (rg 6 Z9h 9291 false) .ret) .skip)) (rg 7 Z9h 1611 false))) (rg 4 Z9h 459 false)))
noncomputable def Z4q (rd:Option Nat):Key:=.lp 44000 [1,2,3,4] [] Z3i 30 rd
noncomputable def f44_c:ACode:=(.seq (rg 0 Z9h 2 false) (.seq (rg 1 Z9h 5 false) (.seq (.seq (rg 2 Z9h 19 false) (.block 0 (.loop 44000 [1,2,3,4] [] [(.exit 0),.ret] Z3i))) (.seq (rg 8 Z9h 23 false) .ret))))
noncomputable def ZcT:AFun:={ code:=f44_c,nt:=30,res:=Try.f44.results.toList,fr:=[] }
noncomputable def Z9g:Code:=Z0p Try.f45
noncomputable def Z3h:ACode:=(.seq (.seq (rg 5 Z9g 535 false) (.cond (.tmp 10) .skip (.exit 0))) (.seq (.block 1 (rg 7 Z9g 1175 false)) (rg 6 Z9g 919 false)))
noncomputable def Z4p (rd:Option Nat):Key:=.lp 45000 [1,2,3,4] [] Z3h 19 rd
noncomputable def f45_c:ACode:=(.seq (rg 0 Z9g 2 false) (.seq (rg 1 Z9g 5 false) (.seq (.seq (rg 2 Z9g 19 false) (.cond (.tmp 7) (.seq (rg 3 Z9g 75 false) .ret) .skip)) (.seq (.seq (rg 4 Z9g 39 false) (.block 0 (.loop 45000 [1,2,3,4] [] [(.exit 0)] Z3h))) (.seq (rg 8 Z9g 47 false) .ret)))))
noncomputable def ZcS:AFun:={ code:=f45_c,nt:=19,res:=Try.f45.results.toList,fr:=[] }
noncomputable def Z6v:Code:=Z0p Try.f49
noncomputable def Z76:ACode:=(.seq (.seq (rg 8 Z6v 33943 false) (.cond (.tmp 15) .skip (.exit 2))) (.seq (.block 3 (.seq (rg 10 Z6v 140439 true) (.join [(.normal,[1,3,4,5])] (.cond (.tmp 24) (rg 11 Z6v 337047 false) .skip)))) (rg 9 Z6v 58519 false)))
noncomputable def Z9V (rd:Option Nat):Key:=.lp 49001 [1,3,4,5] [] Z76 28 rd
noncomputable def Z77:ACode:=(.seq (.seq (rg 5 Z6v 535 false) (.cond (.tmp 10) .skip (.exit 0))) (.seq (.block 1 (.seq (rg 7 Z6v 2199 false) (.block 2 (.loop 49001 [1,3,4,5] [] [(.exit 2)] Z76)))) (rg 6 Z6v 919 false)))
noncomputable def Z9W (rd:Option Nat):Key:=.lp 49000 [1,3,4] [] Z77 28 rd
noncomputable def f49_c:ACode:=(.seq (rg 0 Z6v 2 false) (.seq (.seq (rg 1 Z6v 9 false) (.cond (.tmp 8) (.seq (rg 2 Z6v 37 false) .ret) .skip)) (.seq (rg 3 Z6v 11 false) (.seq (.seq (rg 4 Z6v 39 false) (.block 0 (.loop 49000 [1,3,4] [] [(.exit 0)] Z77))) (.seq (rg 12 Z6v 47 false) .ret)))))
noncomputable def ZkP:AFun:={ code:=f49_c,nt:=28,res:=Try.f49.results.toList,fr:=[] }
noncomputable def Zni:Code:=Z0p Try.f54
noncomputable def f54_c:ACode:=(.seq (rg 0 Zni 2 false) (.seq (rg 1 Zni 5 false) .ret))
noncomputable def ZcR:AFun:={ code:=f54_c,nt:=8,res:=Try.f54.results.toList,fr:=[] }
noncomputable def Z8R:Code:=Z0p Try.f56
noncomputable def Z3g:ACode:=(.seq (rg 3 Z8R 139 false) (.seq (.cond (.tmp 8) .skip (.exit 0)) (.seq (.block 1 (.seq (rg 4 Z8R 2251 false) (.seq (.seq (rg 5 Z8R 9419 false) (.cond (.tmp 15) (.seq (rg 6 Z8R 38091 false) .ret) .skip)) (rg 7 Z8R 7371 false)))) (rg 8 Z8R 971 false))))
noncomputable def Z4o (rd:Option Nat):Key:=.lp 56000 [2,3,6,7] [] Z3g 23 rd
noncomputable def f56_c:ACode:=(.seq (rg 0 Z8R 2 false) (.seq (rg 1 Z8R 5 false) (.seq (.seq (rg 2 Z8R 19 false) (.block 0 (.loop 56000 [2,3,6,7] [] [(.exit 0),.ret] Z3g))) (.seq (rg 9 Z8R 23 false) .ret))))
noncomputable def ZcQ:AFun:={ code:=f56_c,nt:=23,res:=Try.f56.results.toList,fr:=[] }
noncomputable def Zng:Code:=Z0p Try.f57
noncomputable def f57_c:ACode:=(.seq (rg 0 Zng 2 false) (.seq (rg 1 Zng 5 false) .ret))
noncomputable def ZkN:AFun:={ code:=f57_c,nt:=8,res:=Try.f57.results.toList,fr:=[] }
noncomputable def Z6c:Code:=Z0p Try.f60
noncomputable def Z3e:ACode:=(.seq (rg 6 Z6c 36043 false) (.seq (.cond (.tmp 27) .skip (.exit 2)) (.seq (.block 3 (.seq (rg 7 Z6c 576715 false) (.seq (rg 8 Z6c 1363147 false) (.join [(.normal,[1,2,7,8,22,23,26])] (.cond (.tmp 37) (.seq (rg 9 Z6c 5033163 true) (rg 10 Z6c 7130315 false)) .skip))))) (rg 11 Z6c 249035 false))))
noncomputable def Z9S (rd:Option Nat):Key:=.lp 60001 [1,2,7,8,22,23,26] [] Z3e 65 rd
noncomputable def Z3f:ACode:=(.seq (rg 3 Z6c 139 false) (.seq (.cond (.tmp 24) .skip (.exit 0)) (.seq (.block 1 (.seq (rg 4 Z6c 2251 false) (.seq (rg 5 Z6c 5323 false) (.block 2 (.loop 60001 [1,2,7,8,22,23,26] [] [(.exit 2)] Z3e))))) (rg 12 Z6c 971 false))))
noncomputable def Z9T (rd:Option Nat):Key:=.lp 60000 [1,2,7,22,23] [] Z3f 65 rd
noncomputable def f60_c:ACode:=(.seq (rg 0 Z6c 2 false) (.seq (rg 1 Z6c 5 false) (.seq (.seq (rg 2 Z6c 19 false) (.block 0 (.loop 60000 [1,2,7,22,23] [] [(.exit 0)] Z3f))) (.seq (rg 13 Z6c 23 false) .ret))))
noncomputable def ZcP:AFun:={ code:=f60_c,nt:=65,res:=Try.f60.results.toList,fr:=[] }
noncomputable def Z9f:Code:=Z0p Try.f61
noncomputable def Z3c:ACode:=(.seq (rg 3 Z9f 139 false) (.seq (.cond (.tmp 19) .skip (.exit 0)) (.seq (.block 1 (.seq (rg 4 Z9f 2251 false) (.seq (rg 5 Z9f 5323 false) (.join [(.normal,[0,3,4,5,17,18])] (.cond (.tmp 30) (rg 6 Z9f 11467 true) .skip))))) (rg 7 Z9f 971 false))))
noncomputable def Z9R (rd:Option Nat):Key:=.lp 61000 [0,3,4,5,17,18] [] Z3c 48 rd
noncomputable def f61_c:ACode:=(.seq (rg 0 Z9f 2 false) (.seq (rg 1 Z9f 5 false) (.seq (.seq (rg 2 Z9f 19 true) (.block 0 (.loop 61000 [0,3,4,5,17,18] [] [(.exit 0)] Z3c))) (.seq (rg 8 Z9f 23 false) .ret))))
noncomputable def ZcO:AFun:={ code:=f61_c,nt:=48,res:=Try.f61.results.toList,fr:=[] }
noncomputable def Z17:Code:=Z0p Try.f62
noncomputable def Z39:ACode:=(.seq (.seq (rg 28 Z17 17978004223 false) (.cond (.tmp 92) .skip (.exit 4))) (.seq (.block 5 (.seq (rg 30 Z17 73812579071 false) (.seq (.seq (rg 31 Z17 314330747647 false) (.cond (.tmp 107) (.seq (rg 32 Z17 1276403421951 false) .ret) .skip)) (rg 33 Z17 245611270911 false)))) (rg 29 Z17 30862906111 false)))
noncomputable def ZfD (rd:Option Nat):Key:=.lp 62002 [2,3,4,5,7,8,9,10,11,14] [] Z39 135 rd
noncomputable def Z3a:ACode:=(.seq (.seq (rg 16 Z17 4363007 false) (.cond (.tmp 42) .skip (.exit 2))) (.seq (.join [(.ret,[2,3,4,5,7,8,9,10,11]),(.normal,[2,3,4,5,7,8,9,10,11])] (.block 3 (.seq (.seq (rg 18 Z17 34771711 false) (.cond (.tmp 48) (.seq (rg 19 Z17 152212223 false) .ret) .skip)) (.seq (.seq (rg 20 Z17 76714751 false) (.cond (.tmp 54) (.seq (rg 21 Z17 311595775 false) (.seq (rg 22 Z17 714248959 false) (.exit 3))) .skip)) (.seq (rg 23 Z17 93491967 false) (.seq (.seq (rg 24 Z17 328372991 false) (.cond (.tmp 85) (.seq (rg 25 Z17 1267897087 false) .ret) .skip)) (.seq (rg 26 Z17 395481855 false) (.seq (.seq (rg 27 Z17 1335005951 false) (.block 4 (.loop 62002 [2,3,4,5,7,8,9,10,11,14] [] [(.exit 4),.ret] Z39))) (rg 34 Z17 1066570495 false))))))))) (rg 17 Z17 7508735 false)))
noncomputable def ZfE (rd:Option Nat):Key:=.lp 62001 [2,3,4,5,7,8,9,10,11] [] Z3a 135 rd
noncomputable def Z3b:ACode:=(.seq (.seq (rg 12 Z17 17151 false) (.cond (.tmp 38) .skip (.exit 0))) (.seq (.block 1 (.seq (rg 14 Z17 70399 false) (.seq (.seq (rg 15 Z17 299775 false) (.block 2 (.loop 62001 [2,3,4,5,7,8,9,10,11] [] [(.exit 2),.ret] Z3a))) (rg 35 Z17 234239 false)))) (rg 13 Z17 29439 false)))
noncomputable def ZfF (rd:Option Nat):Key:=.lp 62000 [2,3,4,5,7,8,9] [] Z3b 135 rd
noncomputable def f62_c:ACode:=(.seq (rg 0 Z17 2 false) (.seq (.seq (rg 1 Z17 9 false) (.cond (.tmp 18) (.seq (rg 2 Z17 37 false) .ret) .skip)) (.seq (rg 3 Z17 11 false) (.seq (.seq (rg 4 Z17 39 false) (.cond (.tmp 24) (.seq (rg 5 Z17 151 false) .ret) .skip)) (.seq (rg 6 Z17 47 false) (.seq (.seq (rg 7 Z17 159 false) (.cond (.tmp 34) (.seq (rg 8 Z17 607 false) .ret) .skip)) (.seq (rg 9 Z17 191 false) (.seq (rg 10 Z17 383 false) (.seq (.seq (rg 11 Z17 1279 false) (.block 0 (.loop 62000 [2,3,4,5,7,8,9] [] [(.exit 0),.ret] Z3b))) (.seq (.seq (rg 36 Z17 2559 false) (.cond (.tmp 128) (.seq (rg 37 Z17 9727 false) .ret) .skip)) (.seq (.seq (rg 38 Z17 5119 false) (.cond (.tmp 132) (.seq (rg 39 Z17 19455 false) .ret) .skip)) (.seq (rg 40 Z17 6143 false) .ret))))))))))))
noncomputable def ZfG:AFun:={ code:=f62_c,nt:=135,res:=Try.f62.results.toList,fr:=[] }
noncomputable def Zne:Code:=Z0p Try.f63
noncomputable def f63_c:ACode:=(.seq (rg 0 Zne 2 false) (.seq (rg 1 Zne 5 false) .ret))
noncomputable def ZcN:AFun:={ code:=f63_c,nt:=4,res:=Try.f63.results.toList,fr:=[] }
noncomputable def Zb0:Code:=Z0p Try.f64
noncomputable def Z38:ACode:=(.seq (rg 3 Zb0 139 false) (.seq (.cond (.tmp 8) .skip (.exit 0)) (.seq (.block 1 (.seq (rg 4 Zb0 2251 false) (rg 5 Zb0 3275 false))) (rg 6 Zb0 971 false))))
noncomputable def Z4l (rd:Option Nat):Key:=.lp 64000 [2,3,6,7] [] Z38 16 rd
noncomputable def f64_c:ACode:=(.seq (rg 0 Zb0 2 false) (.seq (rg 1 Zb0 5 false) (.seq (.seq (rg 2 Zb0 19 false) (.block 0 (.loop 64000 [2,3,6,7] [] [(.exit 0)] Z38))) (.seq (rg 7 Zb0 23 false) .ret))))
noncomputable def ZcM:AFun:={ code:=f64_c,nt:=16,res:=Try.f64.results.toList,fr:=[] }
noncomputable def Z3U:Code:=Z0p Try.f65
noncomputable def Z36:ACode:=(.seq (rg 8 Z3U 144175 false) (.seq (.cond (.tmp 30) .skip (.exit 2)) (.seq (.join [(.normal,[0,1,4,5,6,7,9,23,24,25,29])] (.block 3 (.seq (rg 9 Z3U 2306863 false) (.seq (.seq (rg 10 Z3U 9646895 false) (.cond (.tmp 35) (.exit 3) .skip)) (.seq (rg 11 Z3U 11744047 false) (.seq (rg 12 Z3U 24326959 true) (.join [(.normal,[0,1,4,5,6,7,9,23,24,25,29])] (.cond (.tmp 61) (.seq (rg 13 Z3U 83047215 false) (rg 14 Z3U 116601647 false)) (rg 15 Z3U 66269999 false))))))))) (rg 16 Z3U 996143 false))))
noncomputable def Z9P (rd:Option Nat):Key:=.lp 65001 [0,1,4,5,6,7,9,23,24,25,29] [] Z36 90 rd
noncomputable def Z37:ACode:=(.seq (rg 5 Z3U 559 false) (.seq (.cond (.tmp 26) .skip (.exit 0)) (.seq (.block 1 (.seq (rg 6 Z3U 9007 false) (.seq (rg 7 Z3U 21295 false) (.block 2 (.loop 65001 [0,1,4,5,6,7,9,23,24,25,29] [] [(.exit 2)] Z36))))) (rg 17 Z3U 3887 false))))
noncomputable def Z9Q (rd:Option Nat):Key:=.lp 65000 [0,1,4,5,6,7,23,24,25] [] Z37 90 rd
noncomputable def f65_c:ACode:=(.seq (rg 0 Z3U 2 false) (.seq (rg 1 Z3U 5 true) (.seq (rg 2 Z3U 11 false) (.seq (rg 3 Z3U 23 false) (.seq (.seq (rg 4 Z3U 79 false) (.block 0 (.loop 65000 [0,1,4,5,6,7,23,24,25] [] [(.exit 0)] Z37))) (.seq (rg 18 Z3U 95 false) (.seq (rg 19 Z3U 191 false) (.seq (rg 20 Z3U 383 false) (.seq (rg 21 Z3U 767 false) .ret)))))))))
noncomputable def ZcL:AFun:={ code:=f65_c,nt:=90,res:=Try.f65.results.toList,fr:=[] }
noncomputable def ZaZ:Code:=Z0p Try.f66
noncomputable def Z35:ACode:=(.seq (rg 3 ZaZ 139 false) (.seq (.cond (.tmp 12) .skip (.exit 0)) (.seq (.block 1 (.seq (rg 4 ZaZ 2251 false) (rg 5 ZaZ 3275 false))) (rg 6 ZaZ 971 false))))
noncomputable def Z9O (rd:Option Nat):Key:=.lp 66000 [2,3,10,11] [] Z35 21 rd
noncomputable def f66_c:ACode:=(.seq (rg 0 ZaZ 2 false) (.seq (rg 1 ZaZ 5 false) (.seq (.seq (rg 2 ZaZ 19 false) (.block 0 (.loop 66000 [2,3,10,11] [] [(.exit 0)] Z35))) (.seq (rg 7 ZaZ 23 false) .ret))))
noncomputable def ZcK:AFun:={ code:=f66_c,nt:=21,res:=Try.f66.results.toList,fr:=[] }
noncomputable def Znd:Code:=Z0p Try.f67
noncomputable def f67_c:ACode:=(.seq (rg 0 Znd 2 false) (rg 1 Znd 3 false))
noncomputable def ZcJ:AFun:={ code:=f67_c,nt:=23,res:=Try.f67.results.toList,fr:=[] }
noncomputable def Zfy:Code:=Z0p Try.f68
noncomputable def Z34:ACode:=(.seq (.seq (rg 1 Zfy 65 false) (.cond (.tmp 13) .skip (.exit 0))) (.block 1 (.seq (rg 2 Zfy 145 true) (rg 3 Zfy 209 false))))
noncomputable def Z9N (rd:Option Nat):Key:=.lp 68000 [0,1] [] Z34 41 rd
noncomputable def f68_c:ACode:=(.seq (rg 0 Zfy 2 false) (.seq (.block 0 (.loop 68000 [0,1] [] [(.exit 0)] Z34)) (.seq (rg 4 Zfy 11 false) .ret)))
noncomputable def ZcI:AFun:={ code:=f68_c,nt:=41,res:=Try.f68.results.toList,fr:=[] }
noncomputable def Znb:Code:=Z0p Try.f69
noncomputable def f69_c:ACode:=(.seq (rg 0 Znb 2 false) (.seq (rg 1 Znb 5 false) .ret))
noncomputable def Zfx:AFun:={ code:=f69_c,nt:=5,res:=Try.f69.results.toList,fr:=[] }
noncomputable def Zn9:Code:=Z0p Try.f70
noncomputable def f70_c:ACode:=(.seq (rg 0 Zn9 2 false) (.seq (rg 1 Zn9 5 false) .ret))
noncomputable def Zfw:AFun:={ code:=f70_c,nt:=10,res:=Try.f70.results.toList,fr:=[] }
noncomputable def Zn7:Code:=Z0p Try.f71
noncomputable def f71_c:ACode:=(.seq (rg 0 Zn7 2 false) (.seq (rg 1 Zn7 5 false) .ret))
noncomputable def Zfv:AFun:={ code:=f71_c,nt:=6,res:=Try.f71.results.toList,fr:=[] }
noncomputable def Zn5:Code:=Z0p Try.f72
noncomputable def f72_c:ACode:=(.seq (rg 0 Zn5 2 false) (.seq (rg 1 Zn5 5 false) .ret))
noncomputable def Zfu:AFun:={ code:=f72_c,nt:=5,res:=Try.f72.results.toList,fr:=[] }
noncomputable def ZbO:Code:=Z0p Try.f78
noncomputable def Z72:ACode:=(.seq (.seq (rg 1 ZbO 33 false) (.cond (.tmp 10) .skip (.exit 0))) (.seq (.block 1 (.seq (rg 2 ZbO 137 true) (.seq (.seq (rg 3 ZbO 585 false) (.cond (.tmp 24) .ret .skip)) (rg 4 ZbO 457 true)))) (.seq (rg 5 ZbO 89 false) (rg 6 ZbO 121 false))))
noncomputable def Z9M (rd:Option Nat):Key:=.lp 78000 [0,2,3,5] [] Z72 36 rd
noncomputable def f78_c:ACode:=(.seq (rg 0 ZbO 2 false) (.block 0 (.loop 78000 [0,2,3,5] [] [(.exit 0),.ret] Z72)))
noncomputable def ZkG:AFun:={ code:=f78_c,nt:=36,res:=Try.f78.results.toList,fr:=[] }
noncomputable def Zhx:Code:=Z0p Try.f79
noncomputable def f79_c:ACode:=(.seq (rg 0 Zhx 2 false) (.seq (.seq (rg 1 Zhx 9 false) (.cond (.tmp 12) (.seq (rg 2 Zhx 37 false) .ret) .skip)) (.seq (rg 3 Zhx 11 false) .ret)))
noncomputable def ZkE:AFun:={ code:=f79_c,nt:=17,res:=Try.f79.results.toList,fr:=[] }
noncomputable def Z6s:Code:=Z0p Try.f83
noncomputable def Z33:ACode:=(.seq (.seq (rg 4 Z6s 535 false) (.cond (.tmp 10) .skip (.exit 0))) (.seq (.block 1 (.seq (rg 6 Z6s 2199 false) (.seq (.seq (rg 7 Z6s 9367 false) (.join [(.normal,[0,3,4,5,6])] (.cond (.tmp 28) (rg 8 Z6s 21655 false) .skip))) (.seq (rg 9 Z6s 11415 false) (.join [(.normal,[0,3,4,5])] (.cond (.tmp 34) (.seq (rg 10 Z6s 40087 false) (rg 11 Z6s 56471 false)) .skip)))))) (rg 5 Z6s 919 false)))
noncomputable def Zfs (rd:Option Nat):Key:=.lp 83000 [0,3,4,5] [] Z33 43 rd
noncomputable def f83_c:ACode:=(.seq (rg 0 Z6s 2 false) (.seq (rg 1 Z6s 5 false) (.seq (rg 2 Z6s 11 false) (.seq (.seq (rg 3 Z6s 39 false) (.block 0 (.loop 83000 [0,3,4,5] [] [(.exit 0)] Z33))) (.seq (rg 12 Z6s 47 false) .ret)))))
noncomputable def Zft:AFun:={ code:=f83_c,nt:=43,res:=Try.f83.results.toList,fr:=[] }
noncomputable def Z7O:Code:=Z0p Try.f84
noncomputable def Z32:ACode:=(.seq (.seq (rg 5 Z7O 535 false) (.cond (.tmp 27) .skip (.exit 0))) (.seq (.block 1 (.seq (.seq (rg 7 Z7O 4247 false) (.cond (.tmp 39) (.seq (rg 8 Z7O 18583 false) .ret) .skip)) (rg 9 Z7O 3223 false))) (rg 6 Z7O 919 false)))
noncomputable def Zfq (rd:Option Nat):Key:=.lp 84000 [0,2,3,4,5] [] Z32 51 rd
noncomputable def f84_c:ACode:=(.seq (rg 0 Z7O 2 false) (.seq (.seq (rg 1 Z7O 9 false) (.cond (.tmp 23) (.seq (rg 2 Z7O 37 false) .ret) .skip)) (.seq (rg 3 Z7O 11 false) (.seq (.seq (rg 4 Z7O 39 false) (.block 0 (.loop 84000 [0,2,3,4,5] [] [(.exit 0),.ret] Z32))) (.seq (rg 10 Z7O 47 false) .ret)))))
noncomputable def Zfr:AFun:={ code:=f84_c,nt:=51,res:=Try.f84.results.toList,fr:=[] }
noncomputable def Z9e:Code:=Z0p Try.f85
noncomputable def Z30:ACode:=(.seq (rg 4 Z9e 4505 false) (.seq (.cond (.tmp 18) .skip (.exit 2)) (.seq (.block 3 (.seq (rg 5 Z9e 72089 false) (.seq (rg 6 Z9e 170393 false) (.cond (.tmp 27) .ret .skip)))) (rg 7 Z9e 31129 false))))
noncomputable def Z4h (rd:Option Nat):Key:=.lp 85001 [0,1,3,8,9,16,17] [] Z30 30 rd
noncomputable def Z31:ACode:=(.seq (rg 1 Z9e 17 false) (.seq (.cond (.tmp 10) .skip (.exit 0)) (.seq (.block 1 (.seq (rg 2 Z9e 281 false) (.seq (rg 3 Z9e 665 false) (.block 2 (.loop 85001 [0,1,3,8,9,16,17] [] [(.exit 2),.ret] Z30))))) (rg 8 Z9e 121 false))))
noncomputable def Z4i (rd:Option Nat):Key:=.lp 85000 [0,1,8,9] [] Z31 30 rd
noncomputable def f85_c:ACode:=(.seq (rg 0 Z9e 2 false) (.block 0 (.loop 85000 [0,1,8,9] [] [(.exit 0),.ret] Z31)))
noncomputable def ZcH:AFun:={ code:=f85_c,nt:=30,res:=Try.f85.results.toList,fr:=[] }
noncomputable def Z2z:Code:=Z0p Try.f86
noncomputable def Z2W:ACode:=(.seq (rg 13 Z2z 36863179 false) (.seq (.cond (.tmp 52) .skip (.exit 4)) (.seq (.join [(.normal,[0,2,3,5,6,7,18,19,50,51]),(.ret,[0,2,3,5,6,7,18,19,50,51])] (.block 5 (.seq (rg 14 Z2z 590511307 false) (.seq (.seq (rg 15 Z2z 2469559499 false) (.cond (.tmp 56) (.exit 5) .skip)) (.seq (rg 16 Z2z 3006430411 true) (.seq (rg 17 Z2z 6227655883 false) (.join [(.normal,[0,2,3,5,6,7,18,19,50,51]),(.ret,[0,2,3,5,6,7,18,19,50,51])] (.cond (.tmp 83) (.seq (rg 18 Z2z 21260041419 false) (rg 19 Z2z 29849976011 false)) (.seq (rg 20 Z2z 25555008715 false) (.cond (.tmp 97) (.seq (rg 21 Z2z 85684550859 false) .ret) .skip)))))))))) (rg 22 Z2z 254966987 false))))
noncomputable def Z9H (rd:Option Nat):Key:=.lp 86002 [0,2,3,5,6,7,18,19,50,51] [] Z2W 100 rd
noncomputable def Z2X:ACode:=(.seq (.seq (rg 9 Z2z 556235 false) (.cond (.tmp 35) .skip (.exit 2))) (.seq (.block 3 (.seq (rg 11 Z2z 2260171 true) (.seq (rg 12 Z2z 5405899 false) (.block 4 (.loop 86002 [0,2,3,5,6,7,18,19,50,51] [] [(.exit 4),.ret] Z2W))))) (rg 10 Z2z 949451 false)))
noncomputable def Z9I (rd:Option Nat):Key:=.lp 86001 [0,2,3,5,6,18,19] [] Z2X 100 rd
noncomputable def Z2Y:ACode:=(.seq (rg 3 Z2z 139 false) (.seq (.cond (.tmp 20) .skip (.exit 0)) (.seq (.join [(.normal,[0,2,3,18,19]),(.ret,[0,2,3,18,19])] (.block 1 (.seq (rg 4 Z2z 2251 false) (.seq (.seq (rg 5 Z2z 9419 false) (.cond (.tmp 26) (.exit 1) .skip)) (.seq (rg 6 Z2z 11467 false) (.seq (rg 7 Z2z 23755 false) (.seq (rg 8 Z2z 48331 false) (.block 2 (.loop 86001 [0,2,3,5,6,18,19] [] [(.exit 2),.ret] Z2X))))))))) (rg 23 Z2z 971 false))))
noncomputable def Z9J (rd:Option Nat):Key:=.lp 86000 [0,2,3,18,19] [] Z2Y 100 rd
noncomputable def f86_c:ACode:=(.seq (rg 0 Z2z 2 false) (.seq (rg 1 Z2z 5 false) (.seq (.seq (rg 2 Z2z 19 false) (.block 0 (.loop 86000 [0,2,3,18,19] [] [(.exit 0),.ret] Z2Y))) (.seq (rg 24 Z2z 23 false) .ret))))
noncomputable def ZcG:AFun:={ code:=f86_c,nt:=100,res:=Try.f86.results.toList,fr:=[] }
noncomputable def ZmY:Code:=Z0p Try.f90
noncomputable def f90_c:ACode:=(.seq (rg 0 ZmY 2 false) (.seq (rg 1 ZmY 5 true) .ret))
noncomputable def ZkA:AFun:={ code:=f90_c,nt:=22,res:=Try.f90.results.toList,fr:=[] }
noncomputable def Zhu:Code:=Z0p Try.f91
noncomputable def f91_c:ACode:=(.seq (rg 0 Zhu 2 false) (.seq (.seq (rg 1 Zhu 9 false) (.cond (.tmp 5) (.seq (rg 2 Zhu 37 false) .ret) .skip)) (.seq (rg 3 Zhu 11 false) .ret)))
noncomputable def ZcF:AFun:={ code:=f91_c,nt:=8,res:=Try.f91.results.toList,fr:=[] }
noncomputable def Z6r:Code:=Z0p Try.f92
noncomputable def Z2U:ACode:=(.seq (rg 6 Z6r 36043 false) (.seq (.cond (.tmp 11) .skip (.exit 2)) (.seq (.block 3 (.seq (rg 7 Z6r 576715 false) (.seq (rg 8 Z6r 1363147 true) (.join [(.normal,[1,3,4,6,9,10])] (.cond (.tmp 19) (rg 9 Z6r 2936011 false) .skip))))) (rg 10 Z6r 249035 false))))
noncomputable def Z9F (rd:Option Nat):Key:=.lp 92001 [1,3,4,6,9,10] [] Z2U 25 rd
noncomputable def Z2V:ACode:=(.seq (rg 3 Z6r 139 false) (.seq (.cond (.tmp 7) .skip (.exit 0)) (.seq (.block 1 (.seq (rg 4 Z6r 2251 false) (.seq (rg 5 Z6r 5323 false) (.block 2 (.loop 92001 [1,3,4,6,9,10] [] [(.exit 2)] Z2U))))) (rg 11 Z6r 971 false))))
noncomputable def Z9G (rd:Option Nat):Key:=.lp 92000 [1,3,6] [] Z2V 25 rd
noncomputable def f92_c:ACode:=(.seq (rg 0 Z6r 2 false) (.seq (rg 1 Z6r 5 false) (.seq (.seq (rg 2 Z6r 19 false) (.block 0 (.loop 92000 [1,3,6] [] [(.exit 0)] Z2V))) (.seq (rg 12 Z6r 23 false) .ret))))
noncomputable def ZcE:AFun:={ code:=f92_c,nt:=25,res:=Try.f92.results.toList,fr:=[] }
noncomputable def bkT:BT AFun:=(.node 56 ZcQ (.node 32 ZkV (.node 16 ZfX (.node 11 Zd0 (.node 10 Zg1 (.node 7 f7_f .leaf .leaf) .leaf) (.node 14 ZcZ (.node 13 ZfZ .leaf .leaf) .leaf)) (.node 29 Zl1 (.node 28 Zl3 (.node 27 ZcY .leaf .leaf) .leaf) (.node 31 ZkX (.node 30 ZkZ .leaf .leaf) .leaf))) (.node 42 ZfQ (.node 39 ZcW (.node 38 ZcX (.node 37 ZfS .leaf .leaf) .leaf) (.node 41 ZcU (.node 40 ZcV .leaf .leaf) .leaf)) (.node 45 ZcS (.node 44 ZcT (.node 43 ZfL .leaf .leaf) .leaf) (.node 54 ZcR (.node 49 ZkP .leaf .leaf) .leaf)))) (.node 70 Zfw (.node 64 ZcM (.node 61 ZcO (.node 60 ZcP (.node 57 ZkN .leaf .leaf) .leaf) (.node 63 ZcN (.node 62 ZfG .leaf .leaf) .leaf)) (.node 67 ZcJ (.node 66 ZcK (.node 65 ZcL .leaf .leaf) .leaf) (.node 69 Zfx (.node 68 ZcI .leaf .leaf) .leaf))) (.node 84 Zfr (.node 78 ZkG (.node 72 Zfu (.node 71 Zfv .leaf .leaf) .leaf) (.node 83 Zft (.node 79 ZkE .leaf .leaf) .leaf)) (.node 90 ZkA (.node 86 ZcG (.node 85 ZcH .leaf .leaf) .leaf) (.node 92 ZcE (.node 91 ZcF .leaf .leaf) .leaf)))))
noncomputable def bk (f:FuncId):Option AFun:=bkT.look f
theorem bk_7:bk 7=some f7_f:=by kernel_rfl
theorem ok_7:Z0M P 7 f7_f:=⟨Try.f7,Z6t,Try.func7,rfl,by kernel_rfl,by kernel_rfl,rfl,rfl⟩
theorem bk_10:bk 10=some Zg1:=by kernel_rfl
theorem ok_10:Z0M P 10 Zg1:=⟨Try.f10,ZhP,Try.func10,rfl,by kernel_rfl,by kernel_rfl,rfl,rfl⟩
theorem bk_11:bk 11=some Zd0:=by kernel_rfl
theorem ok_11:Z0M P 11 Zd0:=⟨Try.f11,ZhO,Try.func11,rfl,by kernel_rfl,by kernel_rfl,rfl,rfl⟩
theorem bk_13:bk 13=some ZfZ:=by kernel_rfl
theorem ok_13:Z0M P 13 ZfZ:=⟨Try.f13,Z7Q,Try.func13,rfl,by kernel_rfl,by kernel_rfl,rfl,rfl⟩
theorem bk_14:bk 14=some ZcZ:=by kernel_rfl
theorem ok_14:Z0M P 14 ZcZ:=⟨Try.f14,Z5g,Try.func14,rfl,by kernel_rfl,by kernel_rfl,rfl,rfl⟩
theorem bk_16:bk 16=some ZfX:=by kernel_rfl
theorem ok_16:Z0M P 16 ZfX:=⟨Try.f16,Z9i,Try.func16,rfl,by kernel_rfl,by kernel_rfl,rfl,rfl⟩
theorem bk_27:bk 27=some ZcY:=by kernel_rfl
theorem ok_27:Z0M P 27 ZcY:=⟨Try.f27,Zbb,Try.func27,rfl,by kernel_rfl,by kernel_rfl,rfl,rfl⟩
theorem bk_28:bk 28=some Zl3:=by kernel_rfl
theorem ok_28:Z0M P 28 Zl3:=⟨Try.f28,Z7P,Try.func28,rfl,by kernel_rfl,by kernel_rfl,rfl,rfl⟩
theorem bk_29:bk 29=some Zl1:=by kernel_rfl
theorem ok_29:Z0M P 29 Zl1:=⟨Try.f29,Z45,Try.func29,rfl,by kernel_rfl,by kernel_rfl,rfl,rfl⟩
theorem bk_30:bk 30=some ZkZ:=by kernel_rfl
theorem ok_30:Z0M P 30 ZkZ:=⟨Try.f30,Z2B,Try.func30,rfl,by kernel_rfl,by kernel_rfl,rfl,rfl⟩
theorem bk_31:bk 31=some ZkX:=by kernel_rfl
theorem ok_31:Z0M P 31 ZkX:=⟨Try.f31,Z5q,Try.func31,rfl,by kernel_rfl,by kernel_rfl,rfl,rfl⟩
theorem bk_32:bk 32=some ZkV:=by kernel_rfl
theorem ok_32:Z0M P 32 ZkV:=⟨Try.f32,Z8S,Try.func32,rfl,by kernel_rfl,by kernel_rfl,rfl,rfl⟩
theorem bk_37:bk 37=some ZfS:=by kernel_rfl
theorem ok_37:Z0M P 37 ZfS:=⟨Try.f37,ZkT,Try.func37,rfl,by kernel_rfl,by kernel_rfl,rfl,rfl⟩
theorem bk_38:bk 38=some ZcX:=by kernel_rfl
theorem ok_38:Z0M P 38 ZcX:=⟨Try.f38,Z6z,Try.func38,rfl,by kernel_rfl,by kernel_rfl,rfl,rfl⟩
theorem bk_39:bk 39=some ZcW:=by kernel_rfl
theorem ok_39:Z0M P 39 ZcW:=⟨Try.f39,Z25,Try.func39,rfl,by kernel_rfl,by kernel_rfl,rfl,rfl⟩
theorem bk_40:bk 40=some ZcV:=by kernel_rfl
theorem ok_40:Z0M P 40 ZcV:=⟨Try.f40,Z24,Try.func40,rfl,by kernel_rfl,by kernel_rfl,rfl,rfl⟩
theorem bk_41:bk 41=some ZcU:=by kernel_rfl
theorem ok_41:Z0M P 41 ZcU:=⟨Try.f41,Z6y,Try.func41,rfl,by kernel_rfl,by kernel_rfl,rfl,rfl⟩
theorem bk_42:bk 42=some ZfQ:=by kernel_rfl
theorem ok_42:Z0M P 42 ZfQ:=⟨Try.f42,Z2A,Try.func42,rfl,by kernel_rfl,by kernel_rfl,rfl,rfl⟩
theorem bk_43:bk 43=some ZfL:=by kernel_rfl
theorem ok_43:Z0M P 43 ZfL:=⟨Try.f43,Znk,Try.func43,rfl,by kernel_rfl,by kernel_rfl,rfl,rfl⟩
theorem bk_44:bk 44=some ZcT:=by kernel_rfl
theorem ok_44:Z0M P 44 ZcT:=⟨Try.f44,Z9h,Try.func44,rfl,by kernel_rfl,by kernel_rfl,rfl,rfl⟩
theorem bk_45:bk 45=some ZcS:=by kernel_rfl
theorem ok_45:Z0M P 45 ZcS:=⟨Try.f45,Z9g,Try.func45,rfl,by kernel_rfl,by kernel_rfl,rfl,rfl⟩
theorem bk_49:bk 49=some ZkP:=by kernel_rfl
theorem ok_49:Z0M P 49 ZkP:=⟨Try.f49,Z6v,Try.func49,rfl,by kernel_rfl,by kernel_rfl,rfl,rfl⟩
theorem bk_54:bk 54=some ZcR:=by kernel_rfl
theorem ok_54:Z0M P 54 ZcR:=⟨Try.f54,Zni,Try.func54,rfl,by kernel_rfl,by kernel_rfl,rfl,rfl⟩
theorem bk_56:bk 56=some ZcQ:=by kernel_rfl
theorem ok_56:Z0M P 56 ZcQ:=⟨Try.f56,Z8R,Try.func56,rfl,by kernel_rfl,by kernel_rfl,rfl,rfl⟩
theorem bk_57:bk 57=some ZkN:=by kernel_rfl
theorem ok_57:Z0M P 57 ZkN:=⟨Try.f57,Zng,Try.func57,rfl,by kernel_rfl,by kernel_rfl,rfl,rfl⟩
theorem bk_60:bk 60=some ZcP:=by kernel_rfl
theorem ok_60:Z0M P 60 ZcP:=⟨Try.f60,Z6c,Try.func60,rfl,by kernel_rfl,by kernel_rfl,rfl,rfl⟩
theorem bk_61:bk 61=some ZcO:=by kernel_rfl
theorem ok_61:Z0M P 61 ZcO:=⟨Try.f61,Z9f,Try.func61,rfl,by kernel_rfl,by kernel_rfl,rfl,rfl⟩
theorem bk_62:bk 62=some ZfG:=by kernel_rfl
theorem ok_62:Z0M P 62 ZfG:=⟨Try.f62,Z17,Try.func62,rfl,by kernel_rfl,by kernel_rfl,rfl,rfl⟩
theorem bk_63:bk 63=some ZcN:=by kernel_rfl
theorem ok_63:Z0M P 63 ZcN:=⟨Try.f63,Zne,Try.func63,rfl,by kernel_rfl,by kernel_rfl,rfl,rfl⟩
theorem bk_64:bk 64=some ZcM:=by kernel_rfl
theorem ok_64:Z0M P 64 ZcM:=⟨Try.f64,Zb0,Try.func64,rfl,by kernel_rfl,by kernel_rfl,rfl,rfl⟩
theorem bk_65:bk 65=some ZcL:=by kernel_rfl
theorem ok_65:Z0M P 65 ZcL:=⟨Try.f65,Z3U,Try.func65,rfl,by kernel_rfl,by kernel_rfl,rfl,rfl⟩
theorem bk_66:bk 66=some ZcK:=by kernel_rfl
theorem ok_66:Z0M P 66 ZcK:=⟨Try.f66,ZaZ,Try.func66,rfl,by kernel_rfl,by kernel_rfl,rfl,rfl⟩
theorem bk_67:bk 67=some ZcJ:=by kernel_rfl
theorem ok_67:Z0M P 67 ZcJ:=⟨Try.f67,Znd,Try.func67,rfl,by kernel_rfl,by kernel_rfl,rfl,rfl⟩
theorem bk_68:bk 68=some ZcI:=by kernel_rfl
theorem ok_68:Z0M P 68 ZcI:=⟨Try.f68,Zfy,Try.func68,rfl,by kernel_rfl,by kernel_rfl,rfl,rfl⟩
theorem bk_69:bk 69=some Zfx:=by kernel_rfl
theorem ok_69:Z0M P 69 Zfx:=⟨Try.f69,Znb,Try.func69,rfl,by kernel_rfl,by kernel_rfl,rfl,rfl⟩
theorem bk_70:bk 70=some Zfw:=by kernel_rfl
theorem ok_70:Z0M P 70 Zfw:=⟨Try.f70,Zn9,Try.func70,rfl,by kernel_rfl,by kernel_rfl,rfl,rfl⟩
theorem bk_71:bk 71=some Zfv:=by kernel_rfl
theorem ok_71:Z0M P 71 Zfv:=⟨Try.f71,Zn7,Try.func71,rfl,by kernel_rfl,by kernel_rfl,rfl,rfl⟩
theorem bk_72:bk 72=some Zfu:=by kernel_rfl
theorem ok_72:Z0M P 72 Zfu:=⟨Try.f72,Zn5,Try.func72,rfl,by kernel_rfl,by kernel_rfl,rfl,rfl⟩
theorem bk_78:bk 78=some ZkG:=by kernel_rfl
theorem ok_78:Z0M P 78 ZkG:=⟨Try.f78,ZbO,Try.func78,rfl,by kernel_rfl,by kernel_rfl,rfl,rfl⟩
theorem bk_79:bk 79=some ZkE:=by kernel_rfl
theorem ok_79:Z0M P 79 ZkE:=⟨Try.f79,Zhx,Try.func79,rfl,by kernel_rfl,by kernel_rfl,rfl,rfl⟩
theorem bk_83:bk 83=some Zft:=by kernel_rfl
theorem ok_83:Z0M P 83 Zft:=⟨Try.f83,Z6s,Try.func83,rfl,by kernel_rfl,by kernel_rfl,rfl,rfl⟩
theorem bk_84:bk 84=some Zfr:=by kernel_rfl
theorem ok_84:Z0M P 84 Zfr:=⟨Try.f84,Z7O,Try.func84,rfl,by kernel_rfl,by kernel_rfl,rfl,rfl⟩
theorem bk_85:bk 85=some ZcH:=by kernel_rfl
theorem ok_85:Z0M P 85 ZcH:=⟨Try.f85,Z9e,Try.func85,rfl,by kernel_rfl,by kernel_rfl,rfl,rfl⟩
theorem bk_86:bk 86=some ZcG:=by kernel_rfl
theorem ok_86:Z0M P 86 ZcG:=⟨Try.f86,Z2z,Try.func86,rfl,by kernel_rfl,by kernel_rfl,rfl,rfl⟩
theorem bk_90:bk 90=some ZkA:=by kernel_rfl
theorem ok_90:Z0M P 90 ZkA:=⟨Try.f90,ZmY,Try.func90,rfl,by kernel_rfl,by kernel_rfl,rfl,rfl⟩
theorem bk_91:bk 91=some ZcF:=by kernel_rfl
theorem ok_91:Z0M P 91 ZcF:=⟨Try.f91,Zhu,Try.func91,rfl,by kernel_rfl,by kernel_rfl,rfl,rfl⟩
theorem bk_92:bk 92=some ZcE:=by kernel_rfl
theorem ok_92:Z0M P 92 ZcE:=⟨Try.f92,Z6r,Try.func92,rfl,by kernel_rfl,by kernel_rfl,rfl,rfl⟩
theorem bk_ok:Z6M P bk:=fun f a e=>BT.look_all (Q:=Z0M P) (t:=bkT) (ai ok_56 (ai (ai ok_32 (ai (ai ok_16 (ai (ai ok_11 (ai (ai ok_10 (ai (ai ok_7 (ai tt tt)) tt)) (ai ok_14 (ai (ai ok_13 (ai tt tt)) tt)))) (ai ok_29 (ai (ai ok_28 (ai (ai ok_27 (ai tt tt)) tt)) (ai ok_31 (ai (ai ok_30 (ai tt tt)) tt)))))) (ai ok_42 (ai (ai ok_39 (ai (ai ok_38 (ai (ai ok_37 (ai tt tt)) tt)) (ai ok_41 (ai (ai ok_40 (ai tt tt)) tt)))) (ai ok_45 (ai (ai ok_44 (ai (ai ok_43 (ai tt tt)) tt)) (ai ok_54 (ai (ai ok_49 (ai tt tt)) tt)))))))) (ai ok_70 (ai (ai ok_64 (ai (ai ok_61 (ai (ai ok_60 (ai (ai ok_57 (ai tt tt)) tt)) (ai ok_63 (ai (ai ok_62 (ai tt tt)) tt)))) (ai ok_67 (ai (ai ok_66 (ai (ai ok_65 (ai tt tt)) tt)) (ai ok_69 (ai (ai ok_68 (ai tt tt)) tt)))))) (ai ok_84 (ai (ai ok_78 (ai (ai ok_72 (ai (ai ok_71 (ai tt tt)) tt)) (ai ok_83 (ai (ai ok_79 (ai tt tt)) tt)))) (ai ok_90 (ai (ai ok_86 (ai (ai ok_85 (ai tt tt)) tt)) (ai ok_92 (ai (ai ok_91 (ai tt tt)) tt)))))))))) e
theorem mixed:P.follows .mixedOrders=true:=by kernel_rfl
def selF:List Nat:=[63,85,57,78,11,35,29,39,40,41,60,66,21,33,34,51,59,73,74,75,80,82,88,15,18,19,20,30,62,83,17,37]
def selL:List Nat:=[14000,14001,15000,15002,16000,17002,17003,18000,18001,19000,19001,24000,24001,26000,26001,26002,26003,27000,3000,3001,3002,3003,31000,31001,32000,34001,34002,36000,39001,4000,40000,40001,40002,40003,4001,4002,4003,41000,42000,42001,42002,42003,44000,45000,46000,47000,49000,49001,50000,51001,51002,52000,52001,55000,56000,59000,59001,59002,61000,62001,62002,64000,65000,65001,66000,68000,7000,7001,73000,73001,73002,74000,74001,75000,75001,75002,75003,75004,77000,77001,8000,80000,82000,84000,87000,88000,89000,89001,89002,89003,89004,89005,92000,92001]
def ZnT (x:Nat):List Nat->Bool
 | []=>false
 | y::ys=>cond (Nat.beq x y) true (ZnT x ys)
def sel:Key->Bool
 | .fn f=>!(ZnT f selF)
 | .lp j _ _ _ _ _=>ZnT j selL
 | .rnd ..=>false
noncomputable def ext:Fo FH:=fun f args h c=>match args with
 | []=>cond (ZnT f [10]) (some { e:=.ret,vs:=[.bool true],h:=h,c:=c,df:=[] }) none
 | _=>none
noncomputable abbrev G:Orc FH:=Z6U P bk sel ext

variable {H:Type} [HeapC H]
noncomputable def ZaY (o:Orc H) (rd:Option Nat) (t3 t4 t8 t9 t10 t12 t122 t123 t124:Value) (h:H) (c:Nat) (df:List Nat):Option (Rt H) :=
 (Z00 P .lss 3 t124 t123).bind fun t125 =>
 Z08 t125
 ((ixS 1 t122 t124).bind fun t126 =>
 (ld1 h t126).bind fun t127 =>
 Z08 t127
  (some ⟨.ret,[t3,t4,(.bool false),t9,t10,t12,t122,t123,t124],h,(c+1+1+1+1),df⟩)
  ((Z00 P .add 3 t124 (.int .i64 1)).bind fun t129 =>
  some ⟨.normal,[t3,t4,t8,t9,t10,t12,t122,t123,t129],h,(c+1+1+1+1),df⟩))
 (some ⟨(.exit 0),[t3,t4,t8,t9,t10,t12,t122,t123,t124],h,(c+1),df⟩)
theorem Z8Q (o:Orc H) (rd:Option Nat) (t3 t4 t8 t9 t10 t12 t122 t123 t124:Value) (h:H) (c:Nat) (df:List Nat):jx P o 193 rd ZaW (Z0l [3,4,8,9,10,12,122,123,124] [t3,t4,t8,t9,t10,t12,t122,t123,t124]) h c df (Klp [3,4,8,9,10,12,122,123,124])=ZaY o rd t3 t4 t8 t9 t10 t12 t122 t123 t124 h c df:=by kernel_rfl
noncomputable def ZaX (o:Orc H) (rd:Option Nat) (t3 t4 t8 t9 t10 t131 t132 t133:Value) (h:H) (c:Nat) (df:List Nat):Option (Rt H) :=
 (Z00 P .lss 3 t133 t132).bind fun t134 =>
 Z08 t134
 ((ixS 6 t131 t133).bind fun t135 =>
 (ldN h 6 t135).bind fun t136 =>
 (stN (newB h (256*(c+1)+2) [(.int .i64 0),(.int .i64 0),(.int .i64 0),(.int .i64 0),(.bool false),(.bool false)]) 6 (ptrTo (256*(c+1)+2)) t136).bind fun h1 =>
 (Z04 (ptrTo (256*(c+1)+2)) 5).bind fun t137 =>
 (ld1 h1 t137).bind fun t138 =>
 (Z1X .not t138).bind fun t139 =>
 Z08 t139
  (some ⟨.ret,[t3,t4,(.bool false),t9,t10,t131,t132,t133],h1,(c+1+1+1+1),df⟩)
  ((Z00 P .add 3 t133 (.int .i64 1)).bind fun t140 =>
  some ⟨.normal,[t3,t4,t8,t9,t10,t131,t132,t140],h1,(c+1+1+1+1),df⟩))
 (some ⟨(.exit 2),[t3,t4,t8,t9,t10,t131,t132,t133],h,(c+1),df⟩)
theorem Z8P (o:Orc H) (rd:Option Nat) (t3 t4 t8 t9 t10 t131 t132 t133:Value) (h:H) (c:Nat) (df:List Nat):jx P o 193 rd ZaV (Z0l [3,4,8,9,10,131,132,133] [t3,t4,t8,t9,t10,t131,t132,t133]) h c df (Klp [3,4,8,9,10,131,132,133])=ZaX o rd t3 t4 t8 t9 t10 t131 t132 t133 h c df:=by kernel_rfl
noncomputable def f7_S (o:Orc H) (t0 t1 t2 t3:Value) (h:H) (c:Nat):Option (Rt H) :=
 (bif (t0:Value).cells.toList.all Z07 then
 (bif (t2:Value).cells.toList.all Z07 then
 (Z04 (ptrTo (256*c+0)) 0).bind fun t25 =>
 (ld1 (newB (newB h (256*c+0) (t0:Value).cells.toList) (256*c+1) (t2:Value).cells.toList) t25).bind fun t26 =>
 (Z2d t26).bind fun t27 =>
 (Z00 P .gtr 3 t27 (.int .i64 30)).bind fun t28 =>
 Z08 t28
 ((callF o 10 [] (newB (newB h (256*c+0) (t0:Value).cells.toList) (256*c+1) (t2:Value).cells.toList) (c+1+1+1)).bind fun r0 =>
 some ⟨.ret,[r0.1],r0.2.1,r0.2.2,[]⟩)
 ((ldN (newB (newB h (256*c+0) (t0:Value).cells.toList) (256*c+1) (t2:Value).cells.toList) 1 (ptrTo (256*c+0))).bind fun t31 =>
 (ldN (newB (newB h (256*c+0) (t0:Value).cells.toList) (256*c+1) (t2:Value).cells.toList) 4 (ptrTo (256*c+1))).bind fun t33 =>
 (callF o 29 [t31,t1,t33] (newB (newB h (256*c+0) (t0:Value).cells.toList) (256*c+1) (t2:Value).cells.toList) (c+1+1+1)).bind fun r1 =>
 (Z46 r1.1 0).bind fun t35 =>
 (Z46 r1.1 1).bind fun t36 =>
 (Z46 r1.1 2).bind fun t37 =>
 (ldN r1.2.1 1 (ptrTo (256*c+0))).bind fun t39 =>
 (callF o 11 [t39] r1.2.1 (r1.2.2+1)).bind fun r2 =>
 (Z46 r2.1 0).bind fun t41 =>
 (Z46 r2.1 1).bind fun t42 =>
 (stN (newB r2.2.1 (256*r1.2.2+5) [(.slice none 0 0),(.slice none 0 0),(.slice none 0 0),(.slice none 0 0),(.slice none 0 0),(.slice none 0 0)]) 6 (ptrTo (256*r1.2.2+5)) t41).bind fun h4 =>
 (Z00 P .neq 33 t37 (.int .i64 0)).bind fun t44 =>
 (gd t44 false h4 (r2.2.2+1) (some t42)).bind fun r5 =>
 (gd t44 false r5.2.1 r5.2.2 (Z00 P .neq 33 r5.1 (.int .i64 0))).bind fun r6 =>
 (Z0B t44 (.bool true) r6.1).bind fun t48 =>
 (gd t48 false r6.2.1 r6.2.2 (Z04 (ptrTo (256*r1.2.2+5)) 1)).bind fun r7 =>
 (gd t48 false r7.2.1 r7.2.2 (ld1 r7.2.1 r7.1)).bind fun r8 =>
 (gg t48 false r8.2.1 r8.2.2 (((Z2d r8.1).bind fun v=>some (v,r8.2.1)).bind fun r=>some (r.1,r.2,r8.2.2))).bind fun r9 =>
 (gd t48 false r9.2.1 r9.2.2 (Z04 (ptrTo (256*c+0)) 0)).bind fun r10 =>
 (gd t48 false r10.2.1 r10.2.2 (ld1 r10.2.1 r10.1)).bind fun r11 =>
 (gg t48 false r11.2.1 r11.2.2 (((Z2d r11.1).bind fun v=>some (v,r11.2.1)).bind fun r=>some (r.1,r.2,r11.2.2))).bind fun r12 =>
 (gd t48 false r12.2.1 r12.2.2 (Z00 P .neq 3 r9.1 r12.1)).bind fun r13 =>
 (Z0B t48 (.bool true) r13.1).bind fun t57 =>
 Z08 t57
  ((callF o 10 [] r13.2.1 (r13.2.2+1)).bind fun r14 =>
  (gd r14.1 true r14.2.1 r14.2.2 (some t37)).bind fun r15 =>
  (gd r14.1 true r15.2.1 r15.2.2 (Z00 P .neq 33 r15.1 (.int .i64 0))).bind fun r16 =>
  (gd r14.1 true r16.2.1 r16.2.2 (some r16.1)).bind fun r17 =>
  (gd r17.1 false r17.2.1 r17.2.2 (ldN r17.2.1 1 (ptrTo (256*c+0)))).bind fun r18 =>
  (gg r17.1 false r18.2.1 r18.2.2 (callF o 14 [r18.1] r18.2.1 r18.2.2)).bind fun r19 =>
  (gd r17.1 false r19.2.1 r19.2.2 (Z00 P .neq 33 r19.1 (.int .i64 0))).bind fun r20 =>
  (gg r14.1 true r20.2.1 r20.2.2 (Z8r r20.2.1 r20.2.2 r17.1 (.bool true) r20.1)).bind fun r21 =>
  (Z0B r14.1 r21.1 (.bool false)).bind fun t67 =>
  some ⟨.ret,[t67],r21.2.1,r21.2.2,[]⟩)
  ((Z04 (ptrTo (256*r1.2.2+5)) 1).bind fun t68 =>
  (ld1 r13.2.1 t68).bind fun t69 =>
  (ixA 4 1 (ptrTo (256*c+1)) (.int .i64 0)).bind fun t71 =>
  (ld1 r13.2.1 t71).bind fun t72 =>
  (ixA 4 1 (ptrTo (256*c+1)) (.int .i64 1)).bind fun t73 =>
  (ld1 r13.2.1 t73).bind fun t74 =>
  (callF o 28 [t72,t74] r13.2.1 (r13.2.2+1)).bind fun r22 =>
  (ixS 6 t69 t1).bind fun t76 =>
  (ixA 6 1 t76 r22.1).bind fun t77 =>
  (ld1 r22.2.1 t77).bind fun t78 =>
  (bif (Z1f (Z2t t68) r13.2.1 r22.2.1 && true) then
  (Z04 (ptrTo (256*r1.2.2+5)) 3).bind fun t80 =>
  (ld1 r22.2.1 t80).bind fun t81 =>
  (Z2d t81).bind fun t82 =>
  (Z00 P .geq 3 t78 t82).bind fun t83 =>
  (gd t83 false r22.2.1 (r22.2.2+1) (some t78)).bind fun r23 =>
  (gd t83 false r23.2.1 r23.2.2 (Z04 (ptrTo (256*r1.2.2+5)) 4)).bind fun r24 =>
  (gd t83 false r24.2.1 r24.2.2 (ld1 r24.2.1 r24.1)).bind fun r25 =>
  (gg t83 false r25.2.1 r25.2.2 (((Z2d r25.1).bind fun v=>some (v,r25.2.1)).bind fun r=>some (r.1,r.2,r25.2.2))).bind fun r26 =>
  (gd t83 false r26.2.1 r26.2.2 (Z00 P .geq 3 r23.1 r26.1)).bind fun r27 =>
  (Z0B t83 (.bool true) r27.1).bind fun t90 =>
  (gd t90 false r27.2.1 r27.2.2 (some t35)).bind fun r28 =>
  (gg t90 false r28.2.1 r28.2.2 (((Z2d r28.1).bind fun v=>some (v,r28.2.1)).bind fun r=>some (r.1,r.2,r28.2.2))).bind fun r29 =>
  (gd t90 false r29.2.1 r29.2.2 (Z00 P .eql 3 r29.1 (.int .i64 0))).bind fun r30 =>
  (Z0B t90 (.bool true) r30.1).bind fun t95 =>
  (gd t95 false r30.2.1 r30.2.2 (Z04 (ptrTo (256*r1.2.2+5)) 4)).bind fun r31 =>
  (gd t95 false r31.2.1 r31.2.2 (ld1 r31.2.1 r31.1)).bind fun r32 =>
  (gd t95 false r32.2.1 r32.2.2 (some t78)).bind fun r33 =>
  (gd t95 false r33.2.1 r33.2.2 (ixS 1 r32.1 r33.1)).bind fun r34 =>
  (gd t95 false r34.2.1 r34.2.2 (ld1 r34.2.1 r34.1)).bind fun r35 =>
  (gd t95 false r35.2.1 r35.2.2 (Z1X .not r35.1)).bind fun r36 =>
  (gd t95 false r36.2.1 r36.2.2 (some r36.1)).bind fun r37 =>
  (gd r37.1 true r37.2.1 r37.2.2 (some t35)).bind fun r38 =>
  (gg r37.1 true r38.2.1 r38.2.2 (((Z2d r38.1).bind fun v=>some (v,r38.2.1)).bind fun r=>some (r.1,r.2,r38.2.2))).bind fun r39 =>
  (gd r37.1 true r39.2.1 r39.2.2 (Z04 (ptrTo (256*r1.2.2+5)) 3)).bind fun r40 =>
  (gd r37.1 true r40.2.1 r40.2.2 (ld1 r40.2.1 r40.1)).bind fun r41 =>
  (gd r37.1 true r41.2.1 r41.2.2 (some t78)).bind fun r42 =>
  (gd r37.1 true r42.2.1 r42.2.2 (ixS 1 r41.1 r42.1)).bind fun r43 =>
  (gd r37.1 true r43.2.1 r43.2.2 (ld1 r43.2.1 r43.1)).bind fun r44 =>
  (gd r37.1 true r44.2.1 r44.2.2 (Z00 P .neq 3 r39.1 r44.1)).bind fun r45 =>
  (gg t95 false r45.2.1 r45.2.2 (Z8r r45.2.1 r45.2.2 r37.1 r45.1 (.bool false))).bind fun r46 =>
  (Z0B t95 (.bool true) r46.1).bind fun t113 =>
  Z08 t113
   (some ⟨.ret,[(.bool false)],r46.2.1,(r46.2.2+1),[]⟩)
   ((ldN r46.2.1 1 (ptrTo (256*c+0))).bind fun t115 =>
   (callF o 30 [t115] r46.2.1 (r46.2.2+1)).bind fun r47 =>
   (Z46 r47.1 0).bind fun t117 =>
   (Z46 r47.1 1).bind fun t118 =>
   (Z46 r47.1 2).bind fun t119 =>
   (Z08 t118
    ((Z04 (ptrTo (256*r1.2.2+5)) 4).bind fun t121 =>
    (ld1 r47.2.1 t121).bind fun t122 =>
    (Z2d t122).bind fun t123 =>
    (o (ZaU none) [t3,(ptrTo (256*c+0)),(.bool false),t35,t36,(ptrTo (256*r1.2.2+5)),t122,t123,(.int .i64 0)] r47.2.1 (r47.2.2+1+1) []).bind fun r48 =>
    cond (Z0u r48.e (.exit 0))
     ((Z04 (r48.v 5) 5).bind fun t130 =>
     (ld1 r48.h t130).bind fun t131 =>
     (Z2d t131).bind fun t132 =>
     (o (ZaT none) [r48.v 0,r48.v 1,r48.v 2,r48.v 3,r48.v 4,t131,t132,(.int .i64 0)] r48.h (r48.c+1) r48.df).bind fun r49 =>
     cond (Z0u r49.e (.exit 2))
      (some ⟨.normal,[r49.v 0,r49.v 1,r49.v 3,r49.v 4],r49.h,r49.c,r49.df⟩)
      (cond (Z0u r49.e .ret)
       (some ⟨.ret,[r49.v 2],r49.h,r49.c,r49.df⟩)
       (none)))
     (cond (Z0u r48.e .ret)
      (some ⟨.ret,[r48.v 2],r48.h,r48.c,r48.df⟩)
      (none)))
    (some ⟨.normal,[t3,(ptrTo (256*c+0)),t35,t36],r47.2.1,(r47.2.2+1),[]⟩):Option (Rt H)).bind fun r50 =>
   cond (Z0u r50.e .ret)
    ((Z09 r50.h r50.df).bind fun h80 =>
    some ⟨.ret,[r50.v 0],h80,r50.c,[]⟩)
    (cond (Z0u r50.e .normal)
     ((Z00 P .lss 3 (r50.v 0) (.int .i64 0)).bind fun t142 =>
     (gd t142 false r50.h (r50.c+1) (some (r50.v 0))).bind fun r51 =>
     (gd t142 false r51.2.1 r51.2.2 (some (r50.v 2))).bind fun r52 =>
     (gg t142 false r52.2.1 r52.2.2 (((Z2d r52.1).bind fun v=>some (v,r52.2.1)).bind fun r=>some (r.1,r.2,r52.2.2))).bind fun r53 =>
     (gd t142 false r53.2.1 r53.2.2 (Z00 P .geq 3 r51.1 r53.1)).bind fun r54 =>
     (Z0B t142 (.bool true) r54.1).bind fun t148 =>
     Z08 t148
      ((callF o 10 [] r54.2.1 (r54.2.2+1)).bind fun r55 =>
      (Z09 r55.2.1 r50.df).bind fun h56 =>
      some ⟨.ret,[r55.1],h56,r55.2.2,[]⟩)
      ((ldN r54.2.1 1 (r50.v 1)).bind fun t151 =>
      (ixS 5 (r50.v 2) (r50.v 0)).bind fun t154 =>
      (Z04 t154 0).bind fun t155 =>
      (ld1 r54.2.1 t155).bind fun t156 =>
      (ixS 5 (r50.v 2) (r50.v 0)).bind fun t159 =>
      (Z04 t159 1).bind fun t160 =>
      (ldN r54.2.1 4 t160).bind fun t161 =>
      (callF o 29 [t151,t156,t161] r54.2.1 (r54.2.2+1)).bind fun r57 =>
      (Z46 r57.1 0).bind fun t163 =>
      (Z46 r57.1 1).bind fun t164 =>
      (Z46 r57.1 2).bind fun t165 =>
      (callF o 10 [] r57.2.1 (r57.2.2+1)).bind fun r58 =>
      (gd r58.1 true r58.2.1 r58.2.2 (some t165)).bind fun r59 =>
      (gd r58.1 true r59.2.1 r59.2.2 (Z00 P .eql 33 r59.1 (.int .i64 0))).bind fun r60 =>
      (Z0B r58.1 r60.1 (.bool false)).bind fun t170 =>
      (gd t170 true r60.2.1 r60.2.2 (some t164)).bind fun r61 =>
      (gd t170 true r61.2.1 r61.2.2 (some (r50.v 3))).bind fun r62 =>
      (gd t170 true r62.2.1 r62.2.2 (Z00 P .eql 4 r61.1 r62.1)).bind fun r63 =>
      (Z0B t170 r63.1 (.bool false)).bind fun t175 =>
      (gd t175 true r63.2.1 r63.2.2 (some (r50.v 3))).bind fun r64 =>
      (gd t175 true r64.2.1 r64.2.2 (some r64.1)).bind fun r65 =>
      (gd r65.1 true r65.2.1 r65.2.2 (some t163)).bind fun r66 =>
      (gd r65.1 true r66.2.1 r66.2.2 (some (r50.v 2))).bind fun r67 =>
      (gg r65.1 true r67.2.1 r67.2.2 (callF o 31 [r66.1,r67.1] r67.2.1 r67.2.2)).bind fun r68 =>
      (gg t175 true r68.2.1 r68.2.2 (Z8r r68.2.1 r68.2.2 r65.1 r68.1 (.bool false))).bind fun r69 =>
      (gd t175 true r69.2.1 r69.2.2 (some r69.1)).bind fun r70 =>
      (gd r70.1 false r70.2.1 r70.2.2 (some (r50.v 3))).bind fun r71 =>
      (gd r70.1 false r71.2.1 r71.2.2 (Z1X .not r71.1)).bind fun r72 =>
      (gd r70.1 false r72.2.1 r72.2.2 (some r72.1)).bind fun r73 =>
      (gd r73.1 true r73.2.1 r73.2.2 (some t163)).bind fun r74 =>
      (gd r73.1 true r74.2.1 r74.2.2 (some (r50.v 2))).bind fun r75 =>
      (gg r73.1 true r75.2.1 r75.2.2 (callF o 32 [r74.1,r75.1] r75.2.1 r75.2.2)).bind fun r76 =>
      (gg r70.1 false r76.2.1 r76.2.2 (Z8r r76.2.1 r76.2.2 r73.1 r76.1 (.bool false))).bind fun r77 =>
      (gg t175 true r77.2.1 r77.2.2 (Z8r r77.2.1 r77.2.2 r70.1 (.bool true) r77.1)).bind fun r78 =>
      (Z0B t175 r78.1 (.bool false)).bind fun t192 =>
      (Z09 r78.2.1 r50.df).bind fun h79 =>
      some ⟨.ret,[t192],h79,r78.2.2,[]⟩))
     (none)))
  else none)))
 else none)
 else none)
theorem Zn2 (o:Orc H) (t0 t1 t2 t3:Value) (h:H) (c:Nat):jx P o 193 none f7_c (Z0l (List.range 4) [t0,t1,t2,t3]) h c [] (Kfn P Try.f7.results.toList)=f7_S o t0 t1 t2 t3 h c:=by kernel_rfl
theorem f7_go {t0 t1 t2 t3:Value} {h:FH} {c:Nat} {df:List Nat} {r:Rt FH} (e:f7_S G t0 t1 t2 t3 h c=some r):G (.fn 7) [t0,t1,t2,t3] h c df=some (gcR h c [] r):=Z0r (a:=f7_f) bk_7 rfl (fun args h c=>by cases args <;> rfl) rfl ((Zn2 G t0 t1 t2 t3 h c).trans e)
noncomputable def Znu (o:Orc H) (h:H) (c:Nat):Option (Rt H) :=
 (callF o 37 [] h (c+1+1)).bind fun r0 =>
 (callF o 13 [r0.1] r0.2.1 r0.2.2).bind fun r1 =>
 (Z46 r1.1 0).bind fun t8 =>
 (Z46 r1.1 1).bind fun t9 =>
 (callF o 37 [] r1.2.1 (r1.2.2+1)).bind fun r2 =>
 (callF o 11 [r2.1] r2.2.1 r2.2.2).bind fun r3 =>
 (Z46 r3.1 0).bind fun t13 =>
 (Z46 r3.1 1).bind fun t14 =>
 (stN (newB r3.2.1 (256*r1.2.2+5) [(.slice none 0 0),(.slice none 0 0),(.slice none 0 0),(.slice none 0 0),(.slice none 0 0),(.slice none 0 0)]) 6 (ptrTo (256*r1.2.2+5)) t13).bind fun h5 =>
 (Z00 P .eql 33 t9 (.int .i64 0)).bind fun t16 =>
 (gd t16 true h5 (r3.2.2+1) (some t8)).bind fun r6 =>
 (gd t16 true r6.2.1 r6.2.2 (Z00 P .eql 3 r6.1 (.int .i64 1))).bind fun r7 =>
 (Z0B t16 r7.1 (.bool false)).bind fun t20 =>
 (gd t20 true r7.2.1 r7.2.2 (some t14)).bind fun r8 =>
 (gd t20 true r8.2.1 r8.2.2 (Z00 P .eql 33 r8.1 (.int .i64 0))).bind fun r9 =>
 (Z0B t20 r9.1 (.bool false)).bind fun t24 =>
 (gd t24 true r9.2.1 r9.2.2 (Z04 (ptrTo (256*r1.2.2+5)) 3)).bind fun r10 =>
 (gd t24 true r10.2.1 r10.2.2 (ld1 r10.2.1 r10.1)).bind fun r11 =>
 (gg t24 true r11.2.1 r11.2.2 ((Z7R [(.int .i64 0),(.int .i64 0),(.int .i64 0)] [(0,1,(.int .i64 1)),(1,1,(.int .i64 4)),(2,1,(.int .i64 1))]).bind fun cs=>some (.slice (some ⟨(256*r3.2.2+13),0,none⟩) 3 3,newB r11.2.1 (256*r3.2.2+13) cs,r11.2.2))).bind fun r12 =>
 (gg t24 true r12.2.1 r12.2.2 (callF o 16 [r11.1,r12.1] r12.2.1 r12.2.2)).bind fun r13 =>
 (Z0B t24 r13.1 (.bool false)).bind fun t30 =>
 some ⟨.ret,[t30],r13.2.1,r13.2.2,[]⟩
theorem Zl8 (o:Orc H) (h:H) (c:Nat):jx P o 31 none f10_c (Z0l (List.range 0) []) h c [] (Kfn P Try.f10.results.toList)=Znu o h c:=by kernel_rfl
noncomputable def Zg0 (o:Orc H) (t0:Value) (h:H) (c:Nat):Option (Rt H) :=
 (bif (t0:Value).cells.toList.all Z07 then
 (ldN (newB (newB h (256*c+0) (t0:Value).cells.toList) (256*c+1) [(.slice none 0 0),(.slice none 0 0),(.slice none 0 0),(.slice none 0 0),(.slice none 0 0),(.slice none 0 0)]) 1 (ptrTo (256*c+0))).bind fun t4 =>
 (callF o 38 [t4] (newB (newB h (256*c+0) (t0:Value).cells.toList) (256*c+1) [(.slice none 0 0),(.slice none 0 0),(.slice none 0 0),(.slice none 0 0),(.slice none 0 0),(.slice none 0 0)]) (c+1+1)).bind fun r0 =>
 (Z00 P .neq 33 r0.1 (.int .i64 0)).bind fun t6 =>
 Z08 t6
 ((Z1z [(.slice none 0 0),(.slice none 0 0),(.slice none 0 0),(.slice none 0 0),(.slice none 0 0),(.slice none 0 0)] []).bind fun t7 =>
 (stN r0.2.1 6 (ptrTo (256*c+1)) t7).bind fun h2 =>
 (ldN h2 6 (ptrTo (256*c+1))).bind fun v3 =>
 some ⟨.ret,[.tuple #[v3,(.int .i64 7)]],h2,(r0.2.2+1),[]⟩)
 ((ldN r0.2.1 1 (ptrTo (256*c+0))).bind fun t8 =>
 (callF o 39 [t8] r0.2.1 (r0.2.2+1)).bind fun r4 =>
 (stN r4.2.1 6 (ptrTo (256*c+1)) r4.1).bind fun h6 =>
 (ldN h6 6 (ptrTo (256*c+1))).bind fun v7 =>
 some ⟨.ret,[.tuple #[v7,(.int .i64 0)]],h6,r4.2.2,[]⟩)
 else none)
theorem ZeN (o:Orc H) (t0:Value) (h:H) (c:Nat):jx P o 10 none f11_c (Z0l (List.range 1) [t0]) h c [] (Kfn P Try.f11.results.toList)=Zg0 o t0 h c:=by kernel_rfl
theorem ZlS {t0:Value} {h:FH} {c:Nat} {df:List Nat} {r:Rt FH} (e:Zg0 G t0 h c=some r):G (.fn 11) [t0] h c df=some r:=Z0r (a:=Zd0) bk_11 rfl (fun args h c=>by cases args <;> rfl) rfl ((ZeN G t0 h c).trans e)
noncomputable def Z7n (o:Orc H) (rd:Option Nat) (t2 t3 t4 t12 t13:Value) (h:H) (c:Nat) (df:List Nat):Option (Rt H) :=
 (Z00 P .lss 3 t13 (.int .i64 4)).bind fun t14 =>
 Z08 t14
 ((ixV 4 true 2 t12 t13).bind fun t15 =>
 (stN (newB h (256*(c+1)+1) [(.int .i64 0),.nilFunc]) 2 (ptrTo (256*(c+1)+1)) t15).bind fun h1 =>
 (Z04 (ptrTo (256*(c+1)+1)) 1).bind fun t16 =>
 (ld1 h1 t16).bind fun t17 =>
 (ldN h1 4 t4).bind fun t18 =>
 (Z3V o h1 (c+1+1+1) t17 [t18]).bind fun r2 =>
 Z08 r2.1
  ((Z04 (ptrTo (256*(c+1)+1)) 0).bind fun t20 =>
  (ld1 r2.2.1 t20).bind fun t21 =>
  some ⟨.ret,[t21,(.int .i64 0),t4,t12,t13],r2.2.1,(r2.2.2+1),df⟩)
  ((Z00 P .add 3 t13 (.int .i64 1)).bind fun t22 =>
  some ⟨.normal,[t2,t3,t4,t12,t22],r2.2.1,(r2.2.2+1),df⟩))
 (some ⟨(.exit 0),[t2,t3,t4,t12,t13],h,(c+1),df⟩)
theorem Zbd (o:Orc H) (rd:Option Nat) (t2 t3 t4 t12 t13:Value) (h:H) (c:Nat) (df:List Nat):jx P o 23 rd Z3H (Z0l [2,3,4,12,13] [t2,t3,t4,t12,t13]) h c df (Klp [2,3,4,12,13])=Z7n o rd t2 t3 t4 t12 t13 h c df:=by kernel_rfl
noncomputable def Znt (o:Orc H) (t0:Value) (h:H) (c:Nat):Option (Rt H) :=
 (bif (t0:Value).cells.toList.all Z07 then
 (ldN (newB h (256*c+0) (t0:Value).cells.toList) 1 (ptrTo (256*c+0))).bind fun t7 =>
 (callF o 38 [t7] (newB h (256*c+0) (t0:Value).cells.toList) (c+1+1)).bind fun r0 =>
 (Z00 P .neq 33 r0.1 (.int .i64 0)).bind fun t9 =>
 Z08 t9
 (some ⟨.ret,[.tuple #[(.int .i64 0),(.int .i64 7)]],r0.2.1,(r0.2.2+1),[]⟩)
 ((ldN r0.2.1 1 (ptrTo (256*c+0))).bind fun t10 =>
 (callF o 42 [t10] r0.2.1 (r0.2.2+1)).bind fun r1 =>
 (stN (newB r1.2.1 (256*r0.2.2+2) [(.bool false),(.bool false),(.bool false),(.bool false)]) 4 (ptrTo (256*r0.2.2+2)) r1.1).bind fun h3 =>
 (callF o 43 [] h3 (r1.2.2+1)).bind fun r4 =>
 (o (ZfY none) [(.int .i64 0),(.int .i64 0),(ptrTo (256*r0.2.2+2)),r4.1,(.int .i64 0)] r4.2.1 r4.2.2 []).bind fun r5 =>
 cond (Z0u r5.e (.exit 0))
  ((Z09 r5.h r5.df).bind fun h7 =>
  some ⟨.ret,[.tuple #[(.int .i64 4),(.int .i64 0)]],h7,(r5.c+1),[]⟩)
  (cond (Z0u r5.e .ret)
   ((Z09 r5.h r5.df).bind fun h6 =>
   some ⟨.ret,[.tuple #[r5.v 0,r5.v 1]],h6,r5.c,[]⟩)
   (none)))
 else none)
theorem Zl7 (o:Orc H) (t0:Value) (h:H) (c:Nat):jx P o 23 none f13_c (Z0l (List.range 1) [t0]) h c [] (Kfn P Try.f13.results.toList)=Znt o t0 h c:=by kernel_rfl
end Go.Proofs.Ytdodippbpdechaa
