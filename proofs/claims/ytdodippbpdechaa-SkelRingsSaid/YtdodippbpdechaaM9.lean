/- Parts of a proof: K. Conditions: none. -/
import Derived.Test.YtdodippbpdechaaChecked
import Derived.KernelRfl
import Derived.Test.YtdodippbpdechaaM6
import Derived.Test.YtdodippbpdechaaM7
import Derived.Test.YtdodippbpdechaaM8
set_option linter.all false
set_option maxRecDepth 100000
namespace Go.Proofs.Ytdodippbpdechaa
open Go Go.Ab Go.Proofs
variable {H:Type} [HeapC H]
noncomputable abbrev P:=Try.prog
noncomputable def ZbK:Code:=Z0m Try.f8
noncomputable def ZaD:ACode:=(.seq (rg 10 ZbK 4479 false) (.seq (.cond (.tmp 82) .skip (.exit 0)) (.seq (.block 1 (.seq (rg 11 ZbK 72063 false) (.seq (rg 12 ZbK 170367 true) (.cond (.tmp 92) (.seq (rg 13 ZbK 629119 false) .ret) .skip)))) (rg 14 ZbK 31103 false))))
noncomputable def Ze7 (rd:Option Nat):Key:=.lp 8000 [8,12,17,80,81] [] ZaD 95 rd
noncomputable def f8_c:ACode:=(.seq (rg 0 ZbK 2 false) (.seq (.seq (rg 1 ZbK 9 false) (.cond (.tmp 23) (.seq (rg 2 ZbK 37 false) .ret) .skip)) (.seq (rg 3 ZbK 11 false) (.seq (rg 4 ZbK 23 false) (.seq (rg 5 ZbK 47 false) (.seq (rg 6 ZbK 95 false) (.seq (.seq (rg 7 ZbK 319 false) (.cond (.tmp 78) (.seq (rg 8 ZbK 1215 false) .ret) .skip)) (.seq (.seq (rg 9 ZbK 639 false) (.block 0 (.loop 8000 [8,12,17,80,81] [] [(.exit 0),.ret] ZaD))) (.seq (rg 15 ZbK 767 false) .ret)))))))))
noncomputable def f8_f:AFun:={ code:=f8_c,nt:=95,res:=Try.f8.results.toList,fr:=[] }
noncomputable def Zhs:Code:=Z0m Try.f10
noncomputable def f10_c:ACode:=(.seq (rg 0 Zhs 2 false) (.seq (rg 1 Zhs 5 false) (.seq (rg 2 Zhs 11 false) (.seq (rg 3 Zhs 23 false) .ret))))
noncomputable def ZfY:AFun:={ code:=f10_c,nt:=31,res:=Try.f10.results.toList,fr:=[] }
noncomputable def Zhr:Code:=Z0m Try.f11
noncomputable def f11_c:ACode:=(.seq (rg 0 Zhr 2 false) (.seq (.seq (rg 1 Zhr 9 false) (.cond (.tmp 6) (.seq (rg 2 Zhr 37 false) .ret) .skip)) (.seq (rg 3 Zhr 11 false) .ret)))
noncomputable def ZfX:AFun:={ code:=f11_c,nt:=10,res:=Try.f11.results.toList,fr:=[] }
noncomputable def Z7N:Code:=Z0m Try.f13
noncomputable def Z3m:ACode:=(.seq (rg 5 Z7N 279 false) (.seq (.cond (.tmp 14) .skip (.exit 0)) (.seq (.block 1 (.seq (rg 6 Z7N 4503 false) (.seq (rg 7 Z7N 10647 false) (.cond (.tmp 19) (.seq (rg 8 Z7N 39319 false) .ret) .skip)))) (rg 9 Z7N 1943 false))))
noncomputable def ZfV (rd:Option Nat):Key:=.lp 13000 [2,3,4,12,13] [] Z3m 23 rd
noncomputable def f13_c:ACode:=(.seq (rg 0 Z7N 2 false) (.seq (.seq (rg 1 Z7N 9 false) (.cond (.tmp 9) (.seq (rg 2 Z7N 37 false) .ret) .skip)) (.seq (rg 3 Z7N 11 false) (.seq (.seq (rg 4 Z7N 39 false) (.block 0 (.loop 13000 [2,3,4,12,13] [] [(.exit 0),.ret] Z3m))) (.seq (rg 10 Z7N 47 false) .ret)))))
noncomputable def ZfW:AFun:={ code:=f13_c,nt:=23,res:=Try.f13.results.toList,fr:=[] }
noncomputable def Z4K:Code:=Z0m Try.f14
noncomputable def Z3k:ACode:=(.seq (.seq (rg 8 Z4K 33943 false) (.cond (.tmp 18) .skip (.exit 2))) (.seq (.join [(.normal,[1,2,3,4,5]),(.ret,[1,2,3,4,5])] (.block 3 (.seq (rg 10 Z4K 140439 false) (.seq (.seq (rg 11 Z4K 599191 false) (.cond (.tmp 36) (.exit 3) .skip)) (.seq (.seq (rg 12 Z4K 1254551 false) (.cond (.tmp 65) (.seq (rg 13 Z4K 4924567 false) .ret) .skip)) (.seq (rg 14 Z4K 1516695 true) (.cond (.tmp 82) (.seq (rg 15 Z4K 5186711 false) .ret) .skip))))))) (rg 9 Z4K 58519 false)))
noncomputable def Z3i (rd:Option Nat):Key:=.lp 14001 [1,2,3,4,5] [] Z3k 83 rd
noncomputable def Z3l:ACode:=(.seq (.seq (rg 5 Z4K 535 false) (.cond (.tmp 14) .skip (.exit 0))) (.seq (.block 1 (.seq (rg 7 Z4K 2199 false) (.block 2 (.loop 14001 [1,2,3,4,5] [] [(.exit 2),.ret] Z3k)))) (rg 6 Z4K 919 false)))
noncomputable def Z3j (rd:Option Nat):Key:=.lp 14000 [1,2,3,4] [] Z3l 83 rd
noncomputable def f14_c:ACode:=(.seq (rg 0 Z4K 2 false) (.seq (rg 1 Z4K 5 false) (.seq (.seq (rg 2 Z4K 19 false) (.cond (.tmp 11) (.seq (rg 3 Z4K 75 false) .ret) .skip)) (.seq (.seq (rg 4 Z4K 39 false) (.block 0 (.loop 14000 [1,2,3,4] [] [(.exit 0),.ret] Z3l))) (.seq (rg 16 Z4K 47 false) .ret)))))
noncomputable def ZcM:AFun:={ code:=f14_c,nt:=83,res:=Try.f14.results.toList,fr:=[] }
noncomputable def Z91:Code:=Z0m Try.f16
noncomputable def Z3h:ACode:=(.seq (.seq (rg 4 Z91 267 false) (.cond (.tmp 14) .skip (.exit 0))) (.seq (.block 1 (.seq (rg 6 Z91 1099 true) (.cond (.tmp 25) (.seq (rg 7 Z91 4683 false) .ret) .skip))) (rg 5 Z91 459 false)))
noncomputable def ZfT (rd:Option Nat):Key:=.lp 16000 [0,1,4,5] [] Z3h 26 rd
noncomputable def f16_c:ACode:=(.seq (rg 0 Z91 2 false) (.seq (.seq (rg 1 Z91 9 false) (.cond (.tmp 10) (.seq (rg 2 Z91 37 false) .ret) .skip)) (.seq (.seq (rg 3 Z91 19 false) (.block 0 (.loop 16000 [0,1,4,5] [] [(.exit 0),.ret] Z3h))) (.seq (rg 8 Z91 23 false) .ret))))
noncomputable def ZfU:AFun:={ code:=f16_c,nt:=26,res:=Try.f16.results.toList,fr:=[] }
noncomputable def Zb3:Code:=Z0m Try.f27
noncomputable def Z3g:ACode:=(.seq (rg 2 Zb3 69 false) (.seq (.cond (.tmp 9) .skip (.exit 0)) (.seq (.block 1 (.seq (rg 3 Zb3 1125 false) (.seq (rg 4 Zb3 2661 false) (.cond (.tmp 23) (.seq (rg 5 Zb3 9829 false) .ret) .skip)))) (rg 6 Zb3 485 false))))
noncomputable def Z9T (rd:Option Nat):Key:=.lp 27000 [0,1,4,7,8] [] Z3g 26 rd
noncomputable def f27_c:ACode:=(.seq (rg 0 Zb3 2 false) (.seq (.seq (rg 1 Zb3 9 false) (.block 0 (.loop 27000 [0,1,4,7,8] [] [(.exit 0),.ret] Z3g))) (.seq (rg 7 Zb3 11 false) .ret)))
noncomputable def ZcL:AFun:={ code:=f27_c,nt:=26,res:=Try.f27.results.toList,fr:=[] }
noncomputable def Z3K:Code:=Z0m Try.f29
noncomputable def Z28:ACode:=(rg 7 Z3K 303 false)
noncomputable def Z25:ACode:=(.block 1 (.seq (.seq (rg 8 Z3K 2223 false) (.cond (.tmp 45) (.seq (rg 9 Z3K 9391 false) .ret) .skip)) (rg 10 Z3K 1711 false)))
noncomputable def Z27:ACode:=(rg 13 Z3K 1215 false)
noncomputable def Z24:ACode:=(.block 3 (rg 14 Z3K 2751 false))
noncomputable def Z26:ACode:=(rg 17 Z3K 4863 false)
noncomputable def Z23:ACode:=(.block 5 (rg 18 Z3K 11007 false))
noncomputable def f29_c:ACode:=(.seq (rg 0 Z3K 2 false) (.seq (.seq (rg 1 Z3K 9 false) (.cond (.tmp 16) (.seq (rg 2 Z3K 37 false) .ret) .skip)) (.seq (.seq (rg 3 Z3K 19 false) (.cond (.tmp 30) (.seq (rg 4 Z3K 75 false) .ret) .skip)) (.seq (rg 5 Z3K 23 false) (.seq (.seq (rg 6 Z3K 79 false) (.block 0 (.rangeFunc 29000 [6,7,8,9] [] [.normal,.ret] (.tmp 36) #[37] Z28 Z25))) (.seq (rg 11 Z3K 95 false) (.seq (.seq (rg 12 Z3K 319 false) (.block 2 (.rangeFunc 29001 [11] [] [.normal] (.tmp 54) #[55] Z27 Z24))) (.seq (rg 15 Z3K 383 false) (.seq (.seq (rg 16 Z3K 1279 false) (.block 4 (.rangeFunc 29002 [6] [] [.normal] (.tmp 59) #[60] Z26 Z23))) (.seq (rg 19 Z3K 1535 false) .ret))))))))))
noncomputable def ZkA:AFun:={ code:=f29_c,nt:=66,res:=Try.f29.results.toList,fr:=[] }
noncomputable def Z8D:Code:=Z0m Try.f32
noncomputable def Z7l:ACode:=(.seq (rg 4 Z8D 139 false) (.seq (.cond (.tmp 14) .skip (.exit 0)) (.seq (.block 1 (.seq (rg 5 Z8D 2251 false) (.seq (rg 6 Z8D 5323 true) (.cond (.tmp 24) (.seq (rg 7 Z8D 19659 false) .ret) .skip)))) (rg 8 Z8D 971 false))))
noncomputable def Z9S (rd:Option Nat):Key:=.lp 32000 [0,1,4,12,13] [] Z7l 26 rd
noncomputable def f32_c:ACode:=(.seq (rg 0 Z8D 2 false) (.seq (.seq (rg 1 Z8D 9 false) (.cond (.tmp 10) (.seq (rg 2 Z8D 37 false) .ret) .skip)) (.seq (.seq (rg 3 Z8D 19 false) (.block 0 (.loop 32000 [0,1,4,12,13] [] [(.exit 0),.ret] Z7l))) (.seq (rg 9 Z8D 23 false) .ret))))
noncomputable def Zky:AFun:={ code:=f32_c,nt:=26,res:=Try.f32.results.toList,fr:=[] }
noncomputable def Z1T:Code:=Z0m Try.f33
noncomputable def Z7i:ACode:=(.block 1 (.seq (rg 8 Z1T 1055 true) (.seq (.seq (rg 9 Z1T 4639 false) (.cond (.tmp 55) (.exit 0) .skip)) (.seq (.seq (rg 10 Z1T 9759 false) (.cond (.tmp 58) (.seq (rg 11 Z1T 38431 false) .ret) .skip)) (rg 12 Z1T 7711 false)))))
noncomputable def Z9R (rd:Option Nat):Key:=.lp 33000 [3,6,7,8,10,11] [] Z7i 101 rd
noncomputable def Z7h:ACode:=(.seq (.seq (rg 15 Z1T 8575 false) (.cond (.tmp 71) .skip (.exit 2))) (.seq (.block 3 (rg 17 Z1T 18815 false)) (.seq (.seq (rg 18 Z1T 39295 false) (rg 19 Z1T 55679 false)) (rg 16 Z1T 31103 false))))
noncomputable def Z9Q (rd:Option Nat):Key:=.lp 33001 [3,14,15,16] [] Z7h 101 rd
noncomputable def Z7g:ACode:=(.seq (.seq (rg 22 Z1T 34303 false) (.cond (.tmp 88) .skip (.exit 4))) (.seq (.block 5 (rg 24 Z1T 75263 false)) (.seq (.seq (rg 25 Z1T 157183 false) (rg 26 Z1T 222719 false)) (rg 23 Z1T 124415 false))))
noncomputable def Z9P (rd:Option Nat):Key:=.lp 33002 [3,11,17,18] [] Z7g 101 rd
noncomputable def f33_c:ACode:=(.seq (rg 0 Z1T 2 false) (.seq (.seq (rg 1 Z1T 9 false) (.seq (rg 2 Z1T 21 false) (.cond (.tmp 22) (.seq (rg 3 Z1T 77 false) .ret) .skip))) (.seq (.seq (rg 4 Z1T 19 false) (.cond (.tmp 37) (.seq (rg 5 Z1T 75 false) .ret) .skip)) (.seq (rg 6 Z1T 23 false) (.seq (rg 7 Z1T 47 false) (.seq (.block 0 (.loop 33000 [3,6,7,8,10,11] [] [(.exit 0),.ret] Z7i)) (.seq (rg 13 Z1T 191 false) (.seq (.seq (rg 14 Z1T 639 false) (.block 2 (.loop 33001 [3,14,15,16] [] [(.exit 2)] Z7h))) (.seq (rg 20 Z1T 767 false) (.seq (.seq (rg 21 Z1T 2559 false) (.block 4 (.loop 33002 [3,11,17,18] [] [(.exit 4)] Z7g))) (.seq (rg 27 Z1T 3071 false) .ret)))))))))))
noncomputable def Zkw:AFun:={ code:=f33_c,nt:=101,res:=Try.f33.results.toList,fr:=[] }
noncomputable def Z1N:Code:=Z0m Try.f34
noncomputable def Z7e:ACode:=(.seq (rg 10 Z1N 2239 false) (.seq (.cond (.tmp 40) .skip (.exit 0)) (.seq (.block 1 (.seq (rg 11 Z1N 36031 false) (.seq (rg 12 Z1N 85183 false) (.join [(.normal,[1,2,9,10,37,38,39])] (.cond (.tmp 46) (.seq (rg 13 Z1N 314559 false) (rg 14 Z1N 445631 false)) .skip))))) (rg 15 Z1N 15551 false))))
noncomputable def Z9O (rd:Option Nat):Key:=.lp 34000 [1,2,9,10,37,38,39] [] Z7e 112 rd
noncomputable def Z7c:ACode:=(.seq (rg 20 Z1N 2267519 false) (.seq (.cond (.tmp 75) .skip (.exit 4)) (.seq (.block 5 (.seq (rg 21 Z1N 36870527 false) (.seq (rg 22 Z1N 87202175 false) (.seq (rg 23 Z1N 187865471 false) (.join [(.normal,[2,9,10,13,14,61,62,63,73,74])] (.cond (.tmp 89) (rg 24 Z1N 389192063 true) .skip)))))) (rg 25 Z1N 15899007 false))))
noncomputable def Z9M (rd:Option Nat):Key:=.lp 34002 [2,9,10,13,14,61,62,63,73,74] [] Z7c 112 rd
noncomputable def Z7d:ACode:=(.seq (rg 17 Z1N 4479 false) (.seq (.cond (.tmp 64) .skip (.exit 2)) (.seq (.block 3 (.seq (rg 18 Z1N 72063 false) (.seq (.seq (rg 19 Z1N 301439 false) (.block 4 (.loop 34002 [2,9,10,13,14,61,62,63,73,74] [] [(.exit 4)] Z7c))) (rg 26 Z1N 235903 false)))) (rg 27 Z1N 31103 false))))
noncomputable def Z9N (rd:Option Nat):Key:=.lp 34001 [2,9,10,61,62,63] [] Z7d 112 rd
noncomputable def f34_c:ACode:=(.seq (rg 0 Z1N 2 false) (.seq (.seq (rg 1 Z1N 9 false) (.seq (rg 2 Z1N 21 false) (.cond (.tmp 20) (.seq (rg 3 Z1N 77 false) .ret) .skip))) (.seq (rg 4 Z1N 11 false) (.seq (.seq (rg 5 Z1N 39 false) (.cond (.tmp 33) (.seq (rg 6 Z1N 151 false) .ret) .skip)) (.seq (rg 7 Z1N 47 false) (.seq (rg 8 Z1N 95 false) (.seq (.seq (rg 9 Z1N 319 false) (.block 0 (.loop 34000 [1,2,9,10,37,38,39] [] [(.exit 0)] Z7e))) (.seq (.seq (rg 16 Z1N 639 false) (.block 2 (.loop 34001 [2,9,10,61,62,63] [] [(.exit 2)] Z7d))) (.seq (rg 28 Z1N 767 false) .ret)))))))))
noncomputable def Zku:AFun:={ code:=f34_c,nt:=112,res:=Try.f34.results.toList,fr:=[] }
noncomputable def Z5u:Code:=Z0m Try.f35
noncomputable def Z7a:ACode:=(.seq (rg 10 Z5u 4479 false) (.seq (.cond (.tmp 43) .skip (.exit 0)) (.seq (.block 1 (.seq (rg 11 Z5u 72063 false) (rg 12 Z5u 104831 true))) (rg 13 Z5u 31103 false))))
noncomputable def Z9L (rd:Option Nat):Key:=.lp 35000 [9,10,40,41,42] [] Z7a 59 rd
noncomputable def f35_c:ACode:=(.seq (rg 0 Z5u 2 false) (.seq (.seq (rg 1 Z5u 9 false) (.cond (.tmp 15) (.seq (rg 2 Z5u 37 false) .ret) .skip)) (.seq (rg 3 Z5u 11 false) (.seq (rg 4 Z5u 23 false) (.seq (.seq (rg 5 Z5u 79 false) (.cond (.tmp 32) (.seq (rg 6 Z5u 303 false) .ret) .skip)) (.seq (rg 7 Z5u 95 false) (.seq (rg 8 Z5u 191 false) (.seq (.seq (rg 9 Z5u 639 false) (.block 0 (.loop 35000 [9,10,40,41,42] [] [(.exit 0)] Z7a))) (.seq (rg 14 Z5u 767 false) .ret)))))))))
noncomputable def Zks:AFun:={ code:=f35_c,nt:=59,res:=Try.f35.results.toList,fr:=[] }
noncomputable def Zkq:Code:=Z0m Try.f37
noncomputable def f37_c:ACode:=(.seq (rg 0 Zkq 2 false) (.seq (rg 1 Zkq 5 false) (.seq (rg 2 Zkq 11 false) .ret)))
noncomputable def ZfP:AFun:={ code:=f37_c,nt:=8,res:=Try.f37.results.toList,fr:=[] }
noncomputable def Z6b:Code:=Z0m Try.f38
noncomputable def Z1q:ACode:=(.seq (rg 5 Z6b 279 false) (rg 6 Z6b 407 false))
noncomputable def Z1p:ACode:=(.join [(.normal,[]),(.ret,[])] (.block 1 (.seq (.seq (rg 7 Z6b 1111 false) (.cond (.tmp 17) (.exit 1) .skip)) (.seq (.seq (rg 8 Z6b 2391 true) (.cond (.tmp 51) (.seq (rg 9 Z6b 9559 false) .ret) .skip)) (.seq (rg 10 Z6b 2903 true) (.cond (.tmp 70) (.seq (rg 11 Z6b 10071 false) .ret) .skip))))))
noncomputable def f38_c:ACode:=(.seq (rg 0 Z6b 2 false) (.seq (.seq (rg 1 Z6b 9 false) (.cond (.tmp 9) (.seq (rg 2 Z6b 37 false) .ret) .skip)) (.seq (rg 3 Z6b 11 false) (.seq (.seq (rg 4 Z6b 39 false) (.block 0 (.rangeFunc 38000 [1,2,3] [] [.normal,.ret] (.tmp 12) #[13,14] Z1q Z1p))) (.seq (rg 12 Z6b 47 false) .ret)))))
noncomputable def ZcK:AFun:={ code:=f38_c,nt:=71,res:=Try.f38.results.toList,fr:=[] }
noncomputable def Z1S:Code:=Z0m Try.f39
noncomputable def Z3d:ACode:=(.seq (rg 14 Z1S 9410943 false) (.seq (.cond (.tmp 107) .skip (.exit 2)) (.seq (.block 3 (.seq (rg 15 Z1S 147822975 false) (.seq (rg 16 Z1S 349149567 false) (.seq (rg 17 Z1S 751802751 false) (.seq (rg 18 Z1S 1557109119 true) (.join [(.normal,[2,3,4,5,6,8,10,12,13,59,60,105,106])] (.cond (.tmp 148) (rg 19 Z1S 3167721855 false) .skip))))))) (rg 20 Z1S 63936895 false))))
noncomputable def ZfL (rd:Option Nat):Key:=.lp 39001 [2,3,4,5,6,8,10,12,13,59,60,105,106] [] Z3d 172 rd
noncomputable def Z3e:ACode:=(.seq (rg 8 Z1S 4479 false) (.seq (.cond (.tmp 61) .skip (.exit 0)) (.seq (.block 1 (.seq (rg 9 Z1S 72063 false) (.seq (rg 10 Z1S 170367 true) (.seq (rg 11 Z1S 366975 true) (.seq (rg 12 Z1S 760191 true) (.seq (rg 13 Z1S 1546623 false) (.block 2 (.loop 39001 [2,3,4,5,6,8,10,12,13,59,60,105,106] [] [(.exit 2)] Z3d)))))))) (rg 21 Z1S 31103 false))))
noncomputable def ZfM (rd:Option Nat):Key:=.lp 39000 [2,3,4,5,6,8,10,12,59,60] [] Z3e 172 rd
noncomputable def Z3c:ACode:=(.seq (rg 23 Z1S 8959 false) (.seq (.cond (.tmp 157) .skip (.exit 4)) (.seq (.block 5 (.seq (rg 24 Z1S 144127 false) (rg 25 Z1S 209663 true))) (rg 26 Z1S 62207 false))))
noncomputable def ZfK (rd:Option Nat):Key:=.lp 39002 [2,3,4,6,12,155,156] [] Z3c 172 rd
noncomputable def f39_c:ACode:=(.seq (rg 0 Z1S 2 false) (.seq (rg 1 Z1S 5 false) (.seq (rg 2 Z1S 11 false) (.seq (rg 3 Z1S 23 false) (.seq (rg 4 Z1S 47 false) (.seq (rg 5 Z1S 95 false) (.seq (rg 6 Z1S 191 true) (.seq (.seq (rg 7 Z1S 639 false) (.block 0 (.loop 39000 [2,3,4,5,6,8,10,12,59,60] [] [(.exit 0)] Z3e))) (.seq (.seq (rg 22 Z1S 1279 false) (.block 4 (.loop 39002 [2,3,4,6,12,155,156] [] [(.exit 4)] Z3c))) (.seq (rg 27 Z1S 1535 false) .ret))))))))))
noncomputable def ZfN:AFun:={ code:=f39_c,nt:=172,res:=Try.f39.results.toList,fr:=[] }
noncomputable def Z1R:Code:=Z0m Try.f40
noncomputable def Z35:ACode:=(.seq (rg 18 Z1R 153762765207 false) (.seq (.cond (.tmp 91) .skip (.exit 6)) (.seq (.block 7 (.seq (rg 19 Z1R 2421505497495 false) (.seq (rg 20 Z1R 5720040380823 false) (.join [(.normal,[4,5,7,8,9,10,35,36,37,42,43,68,90])] (.cond (.tmp 100) (.seq (rg 21 Z1R 21113203169687 true) (rg 22 Z1R 29909296191895 true)) .skip))))) (rg 23 Z1R 1047115962775 false))))
noncomputable def Z9H (rd:Option Nat):Key:=.lp 40003 [4,5,7,8,9,10,35,36,37,42,43,68,90] [] Z35 152 rd
noncomputable def Z36:ACode:=(.seq (rg 13 Z1R 150575511 false) (.seq (.cond (.tmp 69) .skip (.exit 4)) (.seq (.join [(.normal,[4,5,7,8,9,35,36,37,42,43,68])] (.block 5 (.seq (rg 14 Z1R 2365168023 false) (.seq (.seq (rg 15 Z1R 9881360791 false) (.cond (.tmp 73) (.exit 5) .skip)) (.seq (rg 16 Z1R 12028844439 true) (.seq (rg 17 Z1R 24913746327 false) (.block 6 (.loop 40003 [4,5,7,8,9,10,35,36,37,42,43,68,90] [] [(.exit 6)] Z35)))))))) (rg 24 Z1R 1022990743 false))))
noncomputable def Z9I (rd:Option Nat):Key:=.lp 40002 [4,5,7,8,9,35,36,37,42,43,68] [] Z36 152 rd
noncomputable def Z37:ACode:=(.seq (rg 7 Z1R 72087 false) (.seq (.cond (.tmp 44) .skip (.exit 2)) (.seq (.join [(.normal,[4,5,35,36,37,42,43])] (.block 3 (.seq (rg 8 Z1R 1153431 false) (.seq (.seq (rg 9 Z1R 4823447 false) (.cond (.tmp 49) (.exit 3) .skip)) (.seq (rg 10 Z1R 5872023 false) (.seq (rg 11 Z1R 12163479 true) (.seq (rg 12 Z1R 24746391 false) (.block 4 (.loop 40002 [4,5,7,8,9,35,36,37,42,43,68] [] [(.exit 4)] Z36))))))))) (rg 25 Z1R 498071 false))))
noncomputable def Z9J (rd:Option Nat):Key:=.lp 40001 [4,5,35,36,37,42,43] [] Z37 152 rd
noncomputable def Z38:ACode:=(.seq (rg 4 Z1R 279 false) (.seq (.cond (.tmp 38) .skip (.exit 0)) (.seq (.block 1 (.seq (rg 5 Z1R 4503 false) (.seq (rg 6 Z1R 10647 false) (.block 2 (.loop 40001 [4,5,35,36,37,42,43] [] [(.exit 2)] Z37))))) (rg 26 Z1R 1943 false))))
noncomputable def Z9K (rd:Option Nat):Key:=.lp 40000 [4,35,36,37] [] Z38 152 rd
noncomputable def f40_c:ACode:=(.seq (rg 0 Z1R 2 false) (.seq (rg 1 Z1R 5 false) (.seq (rg 2 Z1R 11 true) (.seq (.seq (rg 3 Z1R 39 false) (.block 0 (.loop 40000 [4,35,36,37] [] [(.exit 0)] Z38))) (.seq (rg 27 Z1R 47 false) .ret)))))
noncomputable def ZcJ:AFun:={ code:=f40_c,nt:=152,res:=Try.f40.results.toList,fr:=[] }
noncomputable def Z6a:Code:=Z0m Try.f41
noncomputable def Z34:ACode:=(.seq (rg 4 Z6a 279 false) (.seq (.cond (.tmp 17) .skip (.exit 0)) (.seq (.block 1 (.seq (rg 5 Z6a 4503 false) (.seq (rg 6 Z6a 10647 false) (.seq (rg 7 Z6a 22935 false) (.join [(.normal,[0,4,5,15,16])] (.cond (.tmp 24) (.seq (rg 8 Z6a 80279 false) (rg 9 Z6a 113047 false)) (rg 10 Z6a 63895 false))))))) (rg 11 Z6a 1943 false))))
noncomputable def Z9G (rd:Option Nat):Key:=.lp 41000 [0,4,5,15,16] [] Z34 41 rd
noncomputable def f41_c:ACode:=(.seq (rg 0 Z6a 2 false) (.seq (rg 1 Z6a 5 false) (.seq (rg 2 Z6a 11 false) (.seq (.seq (rg 3 Z6a 39 false) (.block 0 (.loop 41000 [0,4,5,15,16] [] [(.exit 0)] Z34))) (.seq (rg 12 Z6a 47 false) .ret)))))
noncomputable def ZcI:AFun:={ code:=f41_c,nt:=41,res:=Try.f41.results.toList,fr:=[] }
noncomputable def Z2j:Code:=Z0m Try.f42
noncomputable def Z32:ACode:=(.seq (rg 7 Z2j 72087 false) (.seq (.cond (.tmp 26) .skip (.exit 2)) (.seq (.block 3 (.seq (rg 8 Z2j 1153431 false) (rg 9 Z2j 1677719 false))) (rg 10 Z2j 498071 false))))
noncomputable def ZfH (rd:Option Nat):Key:=.lp 42001 [2,3,4,18,19,20,24,25] [] Z32 90 rd
noncomputable def Z33:ACode:=(.seq (rg 4 Z2j 279 false) (.seq (.cond (.tmp 21) .skip (.exit 0)) (.seq (.block 1 (.seq (rg 5 Z2j 4503 false) (.seq (rg 6 Z2j 10647 false) (.block 2 (.loop 42001 [2,3,4,18,19,20,24,25] [] [(.exit 2)] Z32))))) (rg 11 Z2j 1943 false))))
noncomputable def ZfI (rd:Option Nat):Key:=.lp 42000 [2,3,4,18,19,20] [] Z33 90 rd
noncomputable def Z31:ACode:=(.seq (rg 13 Z2j 559 false) (.seq (.cond (.tmp 42) .skip (.exit 4)) (.seq (.block 5 (.seq (rg 14 Z2j 9007 false) (rg 15 Z2j 13103 false))) (rg 16 Z2j 3887 false))))
noncomputable def ZfG (rd:Option Nat):Key:=.lp 42002 [2,3,4,39,40,41] [] Z31 90 rd
noncomputable def Z30:ACode:=(.seq (rg 18 Z2j 1119 false) (.seq (.cond (.tmp 56) .skip (.exit 6)) (.seq (.block 7 (.seq (rg 19 Z2j 18015 false) (.seq (rg 20 Z2j 42591 false) (.seq (rg 21 Z2j 91743 false) (rg 22 Z2j 124511 false))))) (rg 23 Z2j 7775 false))))
noncomputable def ZfF (rd:Option Nat):Key:=.lp 42003 [2,4,53,54,55] [] Z30 90 rd
noncomputable def f42_c:ACode:=(.seq (rg 0 Z2j 2 false) (.seq (rg 1 Z2j 5 false) (.seq (rg 2 Z2j 11 false) (.seq (.seq (rg 3 Z2j 39 false) (.block 0 (.loop 42000 [2,3,4,18,19,20] [] [(.exit 0)] Z33))) (.seq (.seq (rg 12 Z2j 79 false) (.block 4 (.loop 42002 [2,3,4,39,40,41] [] [(.exit 4)] Z31))) (.seq (.seq (rg 17 Z2j 159 false) (.block 6 (.loop 42003 [2,4,53,54,55] [] [(.exit 6)] Z30))) (.seq (rg 24 Z2j 191 false) .ret)))))))
noncomputable def ZfJ:AFun:={ code:=f42_c,nt:=90,res:=Try.f42.results.toList,fr:=[] }
noncomputable def ZmL:Code:=Z0m Try.f43
noncomputable def f43_c:ACode:=(.seq (rg 0 ZmL 2 false) (.seq (rg 1 ZmL 5 false) .ret))
noncomputable def ZfE:AFun:={ code:=f43_c,nt:=6,res:=Try.f43.results.toList,fr:=[] }
noncomputable def Z90:Code:=Z0m Try.f44
noncomputable def Z2Z:ACode:=(.seq (.seq (rg 3 Z90 267 false) (.cond (.tmp 6) .skip (.exit 0))) (.seq (.block 1 (.seq (.seq (rg 5 Z90 2123 false) (.cond (.tmp 25) (.seq (rg 6 Z90 9291 false) .ret) .skip)) (rg 7 Z90 1611 false))) (rg 4 Z90 459 false)))
noncomputable def Z44 (rd:Option Nat):Key:=.lp 44000 [1,2,3,4] [] Z2Z 30 rd
noncomputable def f44_c:ACode:=(.seq (rg 0 Z90 2 false) (.seq (rg 1 Z90 5 false) (.seq (.seq (rg 2 Z90 19 false) (.block 0 (.loop 44000 [1,2,3,4] [] [(.exit 0),.ret] Z2Z))) (.seq (rg 8 Z90 23 false) .ret))))
noncomputable def ZcH:AFun:={ code:=f44_c,nt:=30,res:=Try.f44.results.toList,fr:=[] }
noncomputable def Z8Z:Code:=Z0m Try.f45
noncomputable def Z2Y:ACode:=(.seq (.seq (rg 5 Z8Z 535 false) (.cond (.tmp 10) .skip (.exit 0))) (.seq (.block 1 (rg 7 Z8Z 1175 false)) (rg 6 Z8Z 919 false)))
noncomputable def Z43 (rd:Option Nat):Key:=.lp 45000 [1,2,3,4] [] Z2Y 19 rd
noncomputable def f45_c:ACode:=(.seq (rg 0 Z8Z 2 false) (.seq (rg 1 Z8Z 5 false) (.seq (.seq (rg 2 Z8Z 19 false) (.cond (.tmp 7) (.seq (rg 3 Z8Z 75 false) .ret) .skip)) (.seq (.seq (rg 4 Z8Z 39 false) (.block 0 (.loop 45000 [1,2,3,4] [] [(.exit 0)] Z2Y))) (.seq (rg 8 Z8Z 47 false) .ret)))))
noncomputable def ZcG:AFun:={ code:=f45_c,nt:=19,res:=Try.f45.results.toList,fr:=[] }
noncomputable def Z8Y:Code:=Z0m Try.f47
noncomputable def Z72:ACode:=(.seq (.seq (rg 5 Z8Y 535 false) (.cond (.tmp 17) .skip (.exit 0))) (.seq (.block 1 (rg 7 Z8Y 1175 false)) (rg 6 Z8Y 919 false)))
noncomputable def Z41 (rd:Option Nat):Key:=.lp 47000 [2,3,4,5,6] [] Z72 28 rd
noncomputable def f47_c:ACode:=(.seq (rg 0 Z8Y 2 false) (.seq (rg 1 Z8Y 5 false) (.seq (.seq (rg 2 Z8Y 19 false) (.cond (.tmp 14) (.seq (rg 3 Z8Y 75 false) .ret) .skip)) (.seq (.seq (rg 4 Z8Y 39 false) (.block 0 (.loop 47000 [2,3,4,5,6] [] [(.exit 0)] Z72))) (.seq (rg 8 Z8Y 47 false) .ret)))))
noncomputable def Zkl:AFun:={ code:=f47_c,nt:=28,res:=Try.f47.results.toList,fr:=[] }
noncomputable def ZmJ:Code:=Z0m Try.f54
noncomputable def f54_c:ACode:=(.seq (rg 0 ZmJ 2 false) (.seq (rg 1 ZmJ 5 false) .ret))
noncomputable def ZcF:AFun:={ code:=f54_c,nt:=8,res:=Try.f54.results.toList,fr:=[] }
noncomputable def Z8C:Code:=Z0m Try.f56
noncomputable def Z2X:ACode:=(.seq (rg 3 Z8C 139 false) (.seq (.cond (.tmp 8) .skip (.exit 0)) (.seq (.block 1 (.seq (rg 4 Z8C 2251 false) (.seq (.seq (rg 5 Z8C 9419 false) (.cond (.tmp 15) (.seq (rg 6 Z8C 38091 false) .ret) .skip)) (rg 7 Z8C 7371 false)))) (rg 8 Z8C 971 false))))
noncomputable def Z40 (rd:Option Nat):Key:=.lp 56000 [2,3,6,7] [] Z2X 23 rd
noncomputable def f56_c:ACode:=(.seq (rg 0 Z8C 2 false) (.seq (rg 1 Z8C 5 false) (.seq (.seq (rg 2 Z8C 19 false) (.block 0 (.loop 56000 [2,3,6,7] [] [(.exit 0),.ret] Z2X))) (.seq (rg 9 Z8C 23 false) .ret))))
noncomputable def ZcE:AFun:={ code:=f56_c,nt:=23,res:=Try.f56.results.toList,fr:=[] }
noncomputable def ZmH:Code:=Z0m Try.f57
noncomputable def f57_c:ACode:=(.seq (rg 0 ZmH 2 false) (.seq (rg 1 ZmH 5 false) .ret))
noncomputable def Zkj:AFun:={ code:=f57_c,nt:=8,res:=Try.f57.results.toList,fr:=[] }
noncomputable def Zfx:Code:=Z0m Try.f58
noncomputable def f58_c:ACode:=(.seq (rg 0 Zfx 2 false) (.seq (rg 1 Zfx 5 true) (.seq (.seq (rg 2 Zfx 19 false) (.cond (.tmp 22) (.seq (rg 3 Zfx 75 false) .ret) .skip)) (.seq (rg 4 Zfx 23 true) .ret))))
noncomputable def Zkh:AFun:={ code:=f58_c,nt:=34,res:=Try.f58.results.toList,fr:=[] }
noncomputable def Z4Y:Code:=Z0m Try.f59
noncomputable def Z6X:ACode:=(.seq (.seq (rg 9 Z4Y 17616075 false) (.cond (.tmp 34) .skip (.exit 4))) (.seq (.block 5 (.seq (rg 11 Z4Y 72142027 false) (.join [(.normal,[4,5,7,8,9,16,17,18,23,24])] (.cond (.tmp 39) (rg 12 Z4Y 172805323 true) .skip)))) (rg 10 Z4Y 30198987 false)))
noncomputable def Z9C (rd:Option Nat):Key:=.lp 59002 [4,5,7,8,9,16,17,18,23,24] [] Z6X 60 rd
noncomputable def Z6Y:ACode:=(.seq (rg 6 Z4Y 36043 false) (.seq (.cond (.tmp 25) .skip (.exit 2)) (.seq (.block 3 (.seq (rg 7 Z4Y 576715 false) (.seq (rg 8 Z4Y 1363147 false) (.block 4 (.loop 59002 [4,5,7,8,9,16,17,18,23,24] [] [(.exit 4)] Z6X))))) (rg 13 Z4Y 249035 false))))
noncomputable def Z9D (rd:Option Nat):Key:=.lp 59001 [4,5,16,17,18,23,24] [] Z6Y 60 rd
noncomputable def Z6Z:ACode:=(.seq (rg 3 Z4Y 139 false) (.seq (.cond (.tmp 19) .skip (.exit 0)) (.seq (.block 1 (.seq (rg 4 Z4Y 2251 false) (.seq (rg 5 Z4Y 5323 false) (.block 2 (.loop 59001 [4,5,16,17,18,23,24] [] [(.exit 2)] Z6Y))))) (rg 14 Z4Y 971 false))))
noncomputable def Z9E (rd:Option Nat):Key:=.lp 59000 [4,16,17,18] [] Z6Z 60 rd
noncomputable def f59_c:ACode:=(.seq (rg 0 Z4Y 2 false) (.seq (rg 1 Z4Y 5 false) (.seq (.seq (rg 2 Z4Y 19 false) (.block 0 (.loop 59000 [4,16,17,18] [] [(.exit 0)] Z6Z))) (.seq (rg 15 Z4Y 23 false) .ret))))
noncomputable def Zkf:AFun:={ code:=f59_c,nt:=60,res:=Try.f59.results.toList,fr:=[] }
noncomputable def Z5M:Code:=Z0m Try.f60
noncomputable def Z2V:ACode:=(.seq (rg 6 Z5M 36043 false) (.seq (.cond (.tmp 27) .skip (.exit 2)) (.seq (.block 3 (.seq (rg 7 Z5M 576715 false) (.seq (rg 8 Z5M 1363147 false) (.join [(.normal,[1,2,7,8,22,23,26])] (.cond (.tmp 37) (.seq (rg 9 Z5M 5033163 true) (rg 10 Z5M 7130315 false)) .skip))))) (rg 11 Z5M 249035 false))))
noncomputable def Z9A (rd:Option Nat):Key:=.lp 60001 [1,2,7,8,22,23,26] [] Z2V 65 rd
noncomputable def Z2W:ACode:=(.seq (rg 3 Z5M 139 false) (.seq (.cond (.tmp 24) .skip (.exit 0)) (.seq (.block 1 (.seq (rg 4 Z5M 2251 false) (.seq (rg 5 Z5M 5323 false) (.block 2 (.loop 60001 [1,2,7,8,22,23,26] [] [(.exit 2)] Z2V))))) (rg 12 Z5M 971 false))))
noncomputable def Z9B (rd:Option Nat):Key:=.lp 60000 [1,2,7,22,23] [] Z2W 65 rd
noncomputable def f60_c:ACode:=(.seq (rg 0 Z5M 2 false) (.seq (rg 1 Z5M 5 false) (.seq (.seq (rg 2 Z5M 19 false) (.block 0 (.loop 60000 [1,2,7,22,23] [] [(.exit 0)] Z2W))) (.seq (rg 13 Z5M 23 false) .ret))))
noncomputable def ZcD:AFun:={ code:=f60_c,nt:=65,res:=Try.f60.results.toList,fr:=[] }
noncomputable def Z8X:Code:=Z0m Try.f61
noncomputable def Z2T:ACode:=(.seq (rg 3 Z8X 139 false) (.seq (.cond (.tmp 19) .skip (.exit 0)) (.seq (.block 1 (.seq (rg 4 Z8X 2251 false) (.seq (rg 5 Z8X 5323 false) (.join [(.normal,[0,3,4,5,17,18])] (.cond (.tmp 30) (rg 6 Z8X 11467 true) .skip))))) (rg 7 Z8X 971 false))))
noncomputable def Z9z (rd:Option Nat):Key:=.lp 61000 [0,3,4,5,17,18] [] Z2T 48 rd
noncomputable def f61_c:ACode:=(.seq (rg 0 Z8X 2 false) (.seq (rg 1 Z8X 5 false) (.seq (.seq (rg 2 Z8X 19 true) (.block 0 (.loop 61000 [0,3,4,5,17,18] [] [(.exit 0)] Z2T))) (.seq (rg 8 Z8X 23 false) .ret))))
noncomputable def ZcC:AFun:={ code:=f61_c,nt:=48,res:=Try.f61.results.toList,fr:=[] }
noncomputable def Z0Z:Code:=Z0m Try.f62
noncomputable def Z2Q:ACode:=(.seq (.seq (rg 28 Z0Z 17978004223 false) (.cond (.tmp 92) .skip (.exit 4))) (.seq (.block 5 (.seq (rg 30 Z0Z 73812579071 false) (.seq (.seq (rg 31 Z0Z 314330747647 false) (.cond (.tmp 107) (.seq (rg 32 Z0Z 1276403421951 false) .ret) .skip)) (rg 33 Z0Z 245611270911 false)))) (rg 29 Z0Z 30862906111 false)))
noncomputable def Zft (rd:Option Nat):Key:=.lp 62002 [2,3,4,5,7,8,9,10,11,14] [] Z2Q 135 rd
noncomputable def Z2R:ACode:=(.seq (.seq (rg 16 Z0Z 4363007 false) (.cond (.tmp 42) .skip (.exit 2))) (.seq (.join [(.ret,[2,3,4,5,7,8,9,10,11]),(.normal,[2,3,4,5,7,8,9,10,11])] (.block 3 (.seq (.seq (rg 18 Z0Z 34771711 false) (.cond (.tmp 48) (.seq (rg 19 Z0Z 152212223 false) .ret) .skip)) (.seq (.seq (rg 20 Z0Z 76714751 false) (.cond (.tmp 54) (.seq (rg 21 Z0Z 311595775 false) (.seq (rg 22 Z0Z 714248959 false) (.exit 3))) .skip)) (.seq (rg 23 Z0Z 93491967 false) (.seq (.seq (rg 24 Z0Z 328372991 false) (.cond (.tmp 85) (.seq (rg 25 Z0Z 1267897087 false) .ret) .skip)) (.seq (rg 26 Z0Z 395481855 false) (.seq (.seq (rg 27 Z0Z 1335005951 false) (.block 4 (.loop 62002 [2,3,4,5,7,8,9,10,11,14] [] [(.exit 4),.ret] Z2Q))) (rg 34 Z0Z 1066570495 false))))))))) (rg 17 Z0Z 7508735 false)))
noncomputable def Zfu (rd:Option Nat):Key:=.lp 62001 [2,3,4,5,7,8,9,10,11] [] Z2R 135 rd
noncomputable def Z2S:ACode:=(.seq (.seq (rg 12 Z0Z 17151 false) (.cond (.tmp 38) .skip (.exit 0))) (.seq (.block 1 (.seq (rg 14 Z0Z 70399 false) (.seq (.seq (rg 15 Z0Z 299775 false) (.block 2 (.loop 62001 [2,3,4,5,7,8,9,10,11] [] [(.exit 2),.ret] Z2R))) (rg 35 Z0Z 234239 false)))) (rg 13 Z0Z 29439 false)))
noncomputable def Zfv (rd:Option Nat):Key:=.lp 62000 [2,3,4,5,7,8,9] [] Z2S 135 rd
noncomputable def f62_c:ACode:=(.seq (rg 0 Z0Z 2 false) (.seq (.seq (rg 1 Z0Z 9 false) (.cond (.tmp 18) (.seq (rg 2 Z0Z 37 false) .ret) .skip)) (.seq (rg 3 Z0Z 11 false) (.seq (.seq (rg 4 Z0Z 39 false) (.cond (.tmp 24) (.seq (rg 5 Z0Z 151 false) .ret) .skip)) (.seq (rg 6 Z0Z 47 false) (.seq (.seq (rg 7 Z0Z 159 false) (.cond (.tmp 34) (.seq (rg 8 Z0Z 607 false) .ret) .skip)) (.seq (rg 9 Z0Z 191 false) (.seq (rg 10 Z0Z 383 false) (.seq (.seq (rg 11 Z0Z 1279 false) (.block 0 (.loop 62000 [2,3,4,5,7,8,9] [] [(.exit 0),.ret] Z2S))) (.seq (.seq (rg 36 Z0Z 2559 false) (.cond (.tmp 128) (.seq (rg 37 Z0Z 9727 false) .ret) .skip)) (.seq (.seq (rg 38 Z0Z 5119 false) (.cond (.tmp 132) (.seq (rg 39 Z0Z 19455 false) .ret) .skip)) (.seq (rg 40 Z0Z 6143 false) .ret))))))))))))
noncomputable def Zfw:AFun:={ code:=f62_c,nt:=135,res:=Try.f62.results.toList,fr:=[] }
noncomputable def ZmD:Code:=Z0m Try.f63
noncomputable def f63_c:ACode:=(.seq (rg 0 ZmD 2 false) (.seq (rg 1 ZmD 5 false) .ret))
noncomputable def ZcB:AFun:={ code:=f63_c,nt:=4,res:=Try.f63.results.toList,fr:=[] }
noncomputable def ZaP:Code:=Z0m Try.f64
noncomputable def Z2P:ACode:=(.seq (rg 3 ZaP 139 false) (.seq (.cond (.tmp 8) .skip (.exit 0)) (.seq (.block 1 (.seq (rg 4 ZaP 2251 false) (rg 5 ZaP 3275 false))) (rg 6 ZaP 971 false))))
noncomputable def Z3W (rd:Option Nat):Key:=.lp 64000 [2,3,6,7] [] Z2P 16 rd
noncomputable def f64_c:ACode:=(.seq (rg 0 ZaP 2 false) (.seq (rg 1 ZaP 5 false) (.seq (.seq (rg 2 ZaP 19 false) (.block 0 (.loop 64000 [2,3,6,7] [] [(.exit 0)] Z2P))) (.seq (rg 7 ZaP 23 false) .ret))))
noncomputable def ZcA:AFun:={ code:=f64_c,nt:=16,res:=Try.f64.results.toList,fr:=[] }
noncomputable def Z3z:Code:=Z0m Try.f65
noncomputable def Z2N:ACode:=(.seq (rg 8 Z3z 144175 false) (.seq (.cond (.tmp 30) .skip (.exit 2)) (.seq (.join [(.normal,[0,1,4,5,6,7,9,23,24,25,29])] (.block 3 (.seq (rg 9 Z3z 2306863 false) (.seq (.seq (rg 10 Z3z 9646895 false) (.cond (.tmp 35) (.exit 3) .skip)) (.seq (rg 11 Z3z 11744047 false) (.seq (rg 12 Z3z 24326959 true) (.join [(.normal,[0,1,4,5,6,7,9,23,24,25,29])] (.cond (.tmp 61) (.seq (rg 13 Z3z 83047215 false) (rg 14 Z3z 116601647 false)) (rg 15 Z3z 66269999 false))))))))) (rg 16 Z3z 996143 false))))
noncomputable def Zfo (rd:Option Nat):Key:=.lp 65001 [0,1,4,5,6,7,9,23,24,25,29] [] Z2N 90 rd
noncomputable def Z2O:ACode:=(.seq (rg 5 Z3z 559 false) (.seq (.cond (.tmp 26) .skip (.exit 0)) (.seq (.block 1 (.seq (rg 6 Z3z 9007 false) (.seq (rg 7 Z3z 21295 false) (.block 2 (.loop 65001 [0,1,4,5,6,7,9,23,24,25,29] [] [(.exit 2)] Z2N))))) (rg 17 Z3z 3887 false))))
noncomputable def Zfp (rd:Option Nat):Key:=.lp 65000 [0,1,4,5,6,7,23,24,25] [] Z2O 90 rd
noncomputable def f65_c:ACode:=(.seq (rg 0 Z3z 2 false) (.seq (rg 1 Z3z 5 true) (.seq (rg 2 Z3z 11 false) (.seq (rg 3 Z3z 23 false) (.seq (.seq (rg 4 Z3z 79 false) (.block 0 (.loop 65000 [0,1,4,5,6,7,23,24,25] [] [(.exit 0)] Z2O))) (.seq (rg 18 Z3z 95 false) (.seq (rg 19 Z3z 191 false) (.seq (rg 20 Z3z 383 false) (.seq (rg 21 Z3z 767 false) .ret)))))))))
noncomputable def Zfq:AFun:={ code:=f65_c,nt:=90,res:=Try.f65.results.toList,fr:=[] }
noncomputable def ZaM:Code:=Z0m Try.f66
noncomputable def Z2M:ACode:=(.seq (rg 3 ZaM 139 false) (.seq (.cond (.tmp 12) .skip (.exit 0)) (.seq (.block 1 (.seq (rg 4 ZaM 2251 false) (rg 5 ZaM 3275 false))) (rg 6 ZaM 971 false))))
noncomputable def Z9y (rd:Option Nat):Key:=.lp 66000 [2,3,10,11] [] Z2M 21 rd
noncomputable def f66_c:ACode:=(.seq (rg 0 ZaM 2 false) (.seq (rg 1 ZaM 5 false) (.seq (.seq (rg 2 ZaM 19 false) (.block 0 (.loop 66000 [2,3,10,11] [] [(.exit 0)] Z2M))) (.seq (rg 7 ZaM 23 false) .ret))))
noncomputable def Zcz:AFun:={ code:=f66_c,nt:=21,res:=Try.f66.results.toList,fr:=[] }
noncomputable def ZmB:Code:=Z0m Try.f67
noncomputable def f67_c:ACode:=(.seq (rg 0 ZmB 2 false) (rg 1 ZmB 3 false))
noncomputable def Zcy:AFun:={ code:=f67_c,nt:=23,res:=Try.f67.results.toList,fr:=[] }
noncomputable def Zfl:Code:=Z0m Try.f68
noncomputable def Z2L:ACode:=(.seq (.seq (rg 1 Zfl 65 false) (.cond (.tmp 13) .skip (.exit 0))) (.block 1 (.seq (rg 2 Zfl 145 true) (rg 3 Zfl 209 false))))
noncomputable def Z9x (rd:Option Nat):Key:=.lp 68000 [0,1] [] Z2L 41 rd
noncomputable def f68_c:ACode:=(.seq (rg 0 Zfl 2 false) (.seq (.block 0 (.loop 68000 [0,1] [] [(.exit 0)] Z2L)) (.seq (rg 4 Zfl 11 false) .ret)))
noncomputable def Zcx:AFun:={ code:=f68_c,nt:=41,res:=Try.f68.results.toList,fr:=[] }
noncomputable def Zmz:Code:=Z0m Try.f69
noncomputable def f69_c:ACode:=(.seq (rg 0 Zmz 2 false) (.seq (rg 1 Zmz 5 false) .ret))
noncomputable def Zfk:AFun:={ code:=f69_c,nt:=5,res:=Try.f69.results.toList,fr:=[] }
noncomputable def Zmx:Code:=Z0m Try.f70
noncomputable def f70_c:ACode:=(.seq (rg 0 Zmx 2 false) (.seq (rg 1 Zmx 5 false) .ret))
noncomputable def Zfj:AFun:={ code:=f70_c,nt:=10,res:=Try.f70.results.toList,fr:=[] }
noncomputable def Zmv:Code:=Z0m Try.f71
noncomputable def f71_c:ACode:=(.seq (rg 0 Zmv 2 false) (.seq (rg 1 Zmv 5 false) .ret))
noncomputable def Zfi:AFun:={ code:=f71_c,nt:=6,res:=Try.f71.results.toList,fr:=[] }
noncomputable def Zmt:Code:=Z0m Try.f72
noncomputable def f72_c:ACode:=(.seq (rg 0 Zmt 2 false) (.seq (rg 1 Zmt 5 false) .ret))
noncomputable def Zfh:AFun:={ code:=f72_c,nt:=5,res:=Try.f72.results.toList,fr:=[] }
noncomputable def ZbL:Code:=Z0m Try.f78
noncomputable def Z6R:ACode:=(.seq (.seq (rg 1 ZbL 33 false) (.cond (.tmp 10) .skip (.exit 0))) (.seq (.block 1 (.seq (rg 2 ZbL 137 true) (.seq (.seq (rg 3 ZbL 585 false) (.cond (.tmp 24) .ret .skip)) (rg 4 ZbL 457 true)))) (.seq (rg 5 ZbL 89 false) (rg 6 ZbL 121 false))))
noncomputable def Z9w (rd:Option Nat):Key:=.lp 78000 [0,2,3,5] [] Z6R 36 rd
noncomputable def f78_c:ACode:=(.seq (rg 0 ZbL 2 false) (.block 0 (.loop 78000 [0,2,3,5] [] [(.exit 0),.ret] Z6R)))
noncomputable def Zk7:AFun:={ code:=f78_c,nt:=36,res:=Try.f78.results.toList,fr:=[] }
noncomputable def Zhc:Code:=Z0m Try.f79
noncomputable def f79_c:ACode:=(.seq (rg 0 Zhc 2 false) (.seq (.seq (rg 1 Zhc 9 false) (.cond (.tmp 12) (.seq (rg 2 Zhc 37 false) .ret) .skip)) (.seq (rg 3 Zhc 11 false) .ret)))
noncomputable def Zk5:AFun:={ code:=f79_c,nt:=17,res:=Try.f79.results.toList,fr:=[] }
noncomputable def ZaL:Code:=Z0m Try.f80
noncomputable def Z6P:ACode:=(.seq (rg 3 ZaL 139 false) (.seq (.cond (.tmp 10) .skip (.exit 0)) (.seq (.block 1 (.seq (rg 4 ZaL 2251 false) (rg 5 ZaL 3275 false))) (rg 6 ZaL 971 false))))
noncomputable def Z9v (rd:Option Nat):Key:=.lp 80000 [3,8,9] [] Z6P 18 rd
noncomputable def f80_c:ACode:=(.seq (rg 0 ZaL 2 false) (.seq (rg 1 ZaL 5 false) (.seq (.seq (rg 2 ZaL 19 false) (.block 0 (.loop 80000 [3,8,9] [] [(.exit 0)] Z6P))) (.seq (rg 7 ZaL 23 false) .ret))))
noncomputable def Zk3:AFun:={ code:=f80_c,nt:=18,res:=Try.f80.results.toList,fr:=[] }
noncomputable def Zfg:Code:=Z0m Try.f81
noncomputable def f81_c:ACode:=(.seq (rg 0 Zfg 2 false) (.seq (rg 1 Zfg 5 false) (.seq (rg 2 Zfg 11 false) (.join [(.normal,[])] (.cond (.tmp 14) (rg 3 Zfg 23 false) (rg 4 Zfg 31 false))))))
noncomputable def Zk0:AFun:={ code:=f81_c,nt:=23,res:=Try.f81.results.toList,fr:=[] }
noncomputable def Z63:Code:=Z0m Try.f82
noncomputable def Z6N:ACode:=(.seq (rg 4 Z63 279 false) (.seq (.cond (.tmp 14) .skip (.exit 0)) (.seq (.block 1 (.seq (rg 5 Z63 4503 false) (.seq (rg 6 Z63 10647 false) (.seq (rg 7 Z63 22935 false) (.join [(.normal,[0,4,5,12,13])] (.cond (.tmp 21) (.seq (rg 8 Z63 80279 false) (rg 9 Z63 113047 false)) (rg 10 Z63 63895 false))))))) (rg 11 Z63 1943 false))))
noncomputable def Z9u (rd:Option Nat):Key:=.lp 82000 [0,4,5,12,13] [] Z6N 38 rd
noncomputable def f82_c:ACode:=(.seq (rg 0 Z63 2 false) (.seq (rg 1 Z63 5 false) (.seq (rg 2 Z63 11 false) (.seq (.seq (rg 3 Z63 39 false) (.block 0 (.loop 82000 [0,4,5,12,13] [] [(.exit 0)] Z6N))) (.seq (rg 12 Z63 47 false) .ret)))))
noncomputable def ZjY:AFun:={ code:=f82_c,nt:=38,res:=Try.f82.results.toList,fr:=[] }
noncomputable def Z62:Code:=Z0m Try.f83
noncomputable def Z2K:ACode:=(.seq (.seq (rg 4 Z62 535 false) (.cond (.tmp 10) .skip (.exit 0))) (.seq (.block 1 (.seq (rg 6 Z62 2199 false) (.seq (.seq (rg 7 Z62 9367 false) (.join [(.normal,[0,3,4,5,6])] (.cond (.tmp 28) (rg 8 Z62 21655 false) .skip))) (.seq (rg 9 Z62 11415 false) (.join [(.normal,[0,3,4,5])] (.cond (.tmp 34) (.seq (rg 10 Z62 40087 false) (rg 11 Z62 56471 false)) .skip)))))) (rg 5 Z62 919 false)))
noncomputable def Zfe (rd:Option Nat):Key:=.lp 83000 [0,3,4,5] [] Z2K 43 rd
noncomputable def f83_c:ACode:=(.seq (rg 0 Z62 2 false) (.seq (rg 1 Z62 5 false) (.seq (rg 2 Z62 11 false) (.seq (.seq (rg 3 Z62 39 false) (.block 0 (.loop 83000 [0,3,4,5] [] [(.exit 0)] Z2K))) (.seq (rg 12 Z62 47 false) .ret)))))
noncomputable def Zff:AFun:={ code:=f83_c,nt:=43,res:=Try.f83.results.toList,fr:=[] }
noncomputable def Z7M:Code:=Z0m Try.f84
noncomputable def Z2J:ACode:=(.seq (.seq (rg 5 Z7M 535 false) (.cond (.tmp 27) .skip (.exit 0))) (.seq (.block 1 (.seq (.seq (rg 7 Z7M 4247 false) (.cond (.tmp 39) (.seq (rg 8 Z7M 18583 false) .ret) .skip)) (rg 9 Z7M 3223 false))) (rg 6 Z7M 919 false)))
noncomputable def Zfc (rd:Option Nat):Key:=.lp 84000 [0,2,3,4,5] [] Z2J 51 rd
noncomputable def f84_c:ACode:=(.seq (rg 0 Z7M 2 false) (.seq (.seq (rg 1 Z7M 9 false) (.cond (.tmp 23) (.seq (rg 2 Z7M 37 false) .ret) .skip)) (.seq (rg 3 Z7M 11 false) (.seq (.seq (rg 4 Z7M 39 false) (.block 0 (.loop 84000 [0,2,3,4,5] [] [(.exit 0),.ret] Z2J))) (.seq (rg 10 Z7M 47 false) .ret)))))
noncomputable def Zfd:AFun:={ code:=f84_c,nt:=51,res:=Try.f84.results.toList,fr:=[] }
noncomputable def Z8W:Code:=Z0m Try.f85
noncomputable def Z2H:ACode:=(.seq (rg 4 Z8W 4505 false) (.seq (.cond (.tmp 18) .skip (.exit 2)) (.seq (.block 3 (.seq (rg 5 Z8W 72089 false) (.seq (rg 6 Z8W 170393 false) (.cond (.tmp 27) .ret .skip)))) (rg 7 Z8W 31129 false))))
noncomputable def Z3T (rd:Option Nat):Key:=.lp 85001 [0,1,3,8,9,16,17] [] Z2H 30 rd
noncomputable def Z2I:ACode:=(.seq (rg 1 Z8W 17 false) (.seq (.cond (.tmp 10) .skip (.exit 0)) (.seq (.block 1 (.seq (rg 2 Z8W 281 false) (.seq (rg 3 Z8W 665 false) (.block 2 (.loop 85001 [0,1,3,8,9,16,17] [] [(.exit 2),.ret] Z2H))))) (rg 8 Z8W 121 false))))
noncomputable def Z3U (rd:Option Nat):Key:=.lp 85000 [0,1,8,9] [] Z2I 30 rd
noncomputable def f85_c:ACode:=(.seq (rg 0 Z8W 2 false) (.block 0 (.loop 85000 [0,1,8,9] [] [(.exit 0),.ret] Z2I)))
noncomputable def Zcw:AFun:={ code:=f85_c,nt:=30,res:=Try.f85.results.toList,fr:=[] }
noncomputable def Z2i:Code:=Z0m Try.f86
noncomputable def Z2E:ACode:=(.seq (rg 13 Z2i 36863179 false) (.seq (.cond (.tmp 52) .skip (.exit 4)) (.seq (.join [(.normal,[0,2,3,5,6,7,18,19,50,51]),(.ret,[0,2,3,5,6,7,18,19,50,51])] (.block 5 (.seq (rg 14 Z2i 590511307 false) (.seq (.seq (rg 15 Z2i 2469559499 false) (.cond (.tmp 56) (.exit 5) .skip)) (.seq (rg 16 Z2i 3006430411 true) (.seq (rg 17 Z2i 6227655883 false) (.join [(.normal,[0,2,3,5,6,7,18,19,50,51]),(.ret,[0,2,3,5,6,7,18,19,50,51])] (.cond (.tmp 83) (.seq (rg 18 Z2i 21260041419 false) (rg 19 Z2i 29849976011 false)) (.seq (rg 20 Z2i 25555008715 false) (.cond (.tmp 97) (.seq (rg 21 Z2i 85684550859 false) .ret) .skip)))))))))) (rg 22 Z2i 254966987 false))))
noncomputable def Zf5 (rd:Option Nat):Key:=.lp 86002 [0,2,3,5,6,7,18,19,50,51] [] Z2E 100 rd
noncomputable def Z2F:ACode:=(.seq (.seq (rg 9 Z2i 556235 false) (.cond (.tmp 35) .skip (.exit 2))) (.seq (.block 3 (.seq (rg 11 Z2i 2260171 true) (.seq (rg 12 Z2i 5405899 false) (.block 4 (.loop 86002 [0,2,3,5,6,7,18,19,50,51] [] [(.exit 4),.ret] Z2E))))) (rg 10 Z2i 949451 false)))
noncomputable def Zf6 (rd:Option Nat):Key:=.lp 86001 [0,2,3,5,6,18,19] [] Z2F 100 rd
noncomputable def Z2G:ACode:=(.seq (rg 3 Z2i 139 false) (.seq (.cond (.tmp 20) .skip (.exit 0)) (.seq (.join [(.normal,[0,2,3,18,19]),(.ret,[0,2,3,18,19])] (.block 1 (.seq (rg 4 Z2i 2251 false) (.seq (.seq (rg 5 Z2i 9419 false) (.cond (.tmp 26) (.exit 1) .skip)) (.seq (rg 6 Z2i 11467 false) (.seq (rg 7 Z2i 23755 false) (.seq (rg 8 Z2i 48331 false) (.block 2 (.loop 86001 [0,2,3,5,6,18,19] [] [(.exit 2),.ret] Z2F))))))))) (rg 23 Z2i 971 false))))
noncomputable def Zf7 (rd:Option Nat):Key:=.lp 86000 [0,2,3,18,19] [] Z2G 100 rd
noncomputable def f86_c:ACode:=(.seq (rg 0 Z2i 2 false) (.seq (rg 1 Z2i 5 false) (.seq (.seq (rg 2 Z2i 19 false) (.block 0 (.loop 86000 [0,2,3,18,19] [] [(.exit 0),.ret] Z2G))) (.seq (rg 24 Z2i 23 false) .ret))))
noncomputable def Zf8:AFun:={ code:=f86_c,nt:=100,res:=Try.f86.results.toList,fr:=[] }
noncomputable def Zhb:Code:=Z0m Try.f87
noncomputable def Z6H:ACode:=(.seq (.seq (rg 1 Zhb 65 false) (.cond (.tmp 10) .skip (.exit 0))) (.block 1 (rg 2 Zhb 81 false)))
noncomputable def Z9q (rd:Option Nat):Key:=.lp 87000 [0,1] [] Z6H 16 rd
noncomputable def f87_c:ACode:=(.seq (rg 0 Zhb 2 false) (.seq (.block 0 (.loop 87000 [0,1] [] [(.exit 0)] Z6H)) (.seq (rg 3 Zhb 11 false) .ret)))
noncomputable def ZjT:AFun:={ code:=f87_c,nt:=16,res:=Try.f87.results.toList,fr:=[] }
noncomputable def Zmi:Code:=Z0m Try.f90
noncomputable def f90_c:ACode:=(.seq (rg 0 Zmi 2 false) (.seq (rg 1 Zmi 5 true) .ret))
noncomputable def ZjR:AFun:={ code:=f90_c,nt:=22,res:=Try.f90.results.toList,fr:=[] }
noncomputable def Zha:Code:=Z0m Try.f91
noncomputable def f91_c:ACode:=(.seq (rg 0 Zha 2 false) (.seq (.seq (rg 1 Zha 9 false) (.cond (.tmp 5) (.seq (rg 2 Zha 37 false) .ret) .skip)) (.seq (rg 3 Zha 11 false) .ret)))
noncomputable def Zf4:AFun:={ code:=f91_c,nt:=8,res:=Try.f91.results.toList,fr:=[] }
noncomputable def Z61:Code:=Z0m Try.f92
noncomputable def Z2C:ACode:=(.seq (rg 6 Z61 36043 false) (.seq (.cond (.tmp 11) .skip (.exit 2)) (.seq (.block 3 (.seq (rg 7 Z61 576715 false) (.seq (rg 8 Z61 1363147 true) (.join [(.normal,[1,3,4,6,9,10])] (.cond (.tmp 19) (rg 9 Z61 2936011 false) .skip))))) (rg 10 Z61 249035 false))))
noncomputable def Zf1 (rd:Option Nat):Key:=.lp 92001 [1,3,4,6,9,10] [] Z2C 25 rd
noncomputable def Z2D:ACode:=(.seq (rg 3 Z61 139 false) (.seq (.cond (.tmp 7) .skip (.exit 0)) (.seq (.block 1 (.seq (rg 4 Z61 2251 false) (.seq (rg 5 Z61 5323 false) (.block 2 (.loop 92001 [1,3,4,6,9,10] [] [(.exit 2)] Z2C))))) (rg 11 Z61 971 false))))
noncomputable def Zf2 (rd:Option Nat):Key:=.lp 92000 [1,3,6] [] Z2D 25 rd
noncomputable def f92_c:ACode:=(.seq (rg 0 Z61 2 false) (.seq (rg 1 Z61 5 false) (.seq (.seq (rg 2 Z61 19 false) (.block 0 (.loop 92000 [1,3,6] [] [(.exit 0)] Z2D))) (.seq (rg 12 Z61 23 false) .ret))))
noncomputable def Zf3:AFun:={ code:=f92_c,nt:=25,res:=Try.f92.results.toList,fr:=[] }
noncomputable def bkT:BT AFun:=(.node 59 Zkf (.node 38 ZcK (.node 27 ZcL (.node 13 ZfW (.node 10 ZfY (.node 8 f8_f .leaf .leaf) (.node 11 ZfX .leaf .leaf)) (.node 16 ZfU (.node 14 ZcM .leaf .leaf) .leaf)) (.node 34 Zku (.node 32 Zky (.node 29 ZkA .leaf .leaf) (.node 33 Zkw .leaf .leaf)) (.node 37 ZfP (.node 35 Zks .leaf .leaf) .leaf))) (.node 45 ZcG (.node 42 ZfJ (.node 40 ZcJ (.node 39 ZfN .leaf .leaf) (.node 41 ZcI .leaf .leaf)) (.node 44 ZcH (.node 43 ZfE .leaf .leaf) .leaf)) (.node 56 ZcE (.node 54 ZcF (.node 47 Zkl .leaf .leaf) .leaf) (.node 58 Zkh (.node 57 Zkj .leaf .leaf) .leaf)))) (.node 78 Zk7 (.node 66 Zcz (.node 63 ZcB (.node 61 ZcC (.node 60 ZcD .leaf .leaf) (.node 62 Zfw .leaf .leaf)) (.node 65 Zfq (.node 64 ZcA .leaf .leaf) .leaf)) (.node 70 Zfj (.node 68 Zcx (.node 67 Zcy .leaf .leaf) (.node 69 Zfk .leaf .leaf)) (.node 72 Zfh (.node 71 Zfi .leaf .leaf) .leaf))) (.node 85 Zcw (.node 82 ZjY (.node 80 Zk3 (.node 79 Zk5 .leaf .leaf) (.node 81 Zk0 .leaf .leaf)) (.node 84 Zfd (.node 83 Zff .leaf .leaf) .leaf)) (.node 90 ZjR (.node 87 ZjT (.node 86 Zf8 .leaf .leaf) .leaf) (.node 92 Zf3 (.node 91 Zf4 .leaf .leaf) .leaf)))))
noncomputable def bk (f:FuncId):Option AFun:=bkT.look f
theorem bk_8:bk 8=some f8_f:=by kernel_rfl
theorem ok_8:Z0C P 8 f8_f:=⟨Try.f8,ZbK,Try.func8,rfl,by kernel_rfl,by kernel_rfl,rfl,rfl⟩
theorem bk_10:bk 10=some ZfY:=by kernel_rfl
theorem ok_10:Z0C P 10 ZfY:=⟨Try.f10,Zhs,Try.func10,rfl,by kernel_rfl,by kernel_rfl,rfl,rfl⟩
theorem bk_11:bk 11=some ZfX:=by kernel_rfl
theorem ok_11:Z0C P 11 ZfX:=⟨Try.f11,Zhr,Try.func11,rfl,by kernel_rfl,by kernel_rfl,rfl,rfl⟩
theorem bk_13:bk 13=some ZfW:=by kernel_rfl
theorem ok_13:Z0C P 13 ZfW:=⟨Try.f13,Z7N,Try.func13,rfl,by kernel_rfl,by kernel_rfl,rfl,rfl⟩
theorem bk_14:bk 14=some ZcM:=by kernel_rfl
theorem ok_14:Z0C P 14 ZcM:=⟨Try.f14,Z4K,Try.func14,rfl,by kernel_rfl,by kernel_rfl,rfl,rfl⟩
theorem bk_16:bk 16=some ZfU:=by kernel_rfl
theorem ok_16:Z0C P 16 ZfU:=⟨Try.f16,Z91,Try.func16,rfl,by kernel_rfl,by kernel_rfl,rfl,rfl⟩
theorem bk_27:bk 27=some ZcL:=by kernel_rfl
theorem ok_27:Z0C P 27 ZcL:=⟨Try.f27,Zb3,Try.func27,rfl,by kernel_rfl,by kernel_rfl,rfl,rfl⟩
theorem bk_29:bk 29=some ZkA:=by kernel_rfl
theorem ok_29:Z0C P 29 ZkA:=⟨Try.f29,Z3K,Try.func29,rfl,by kernel_rfl,by kernel_rfl,rfl,rfl⟩
theorem bk_32:bk 32=some Zky:=by kernel_rfl
theorem ok_32:Z0C P 32 Zky:=⟨Try.f32,Z8D,Try.func32,rfl,by kernel_rfl,by kernel_rfl,rfl,rfl⟩
theorem bk_33:bk 33=some Zkw:=by kernel_rfl
theorem ok_33:Z0C P 33 Zkw:=⟨Try.f33,Z1T,Try.func33,rfl,by kernel_rfl,by kernel_rfl,rfl,rfl⟩
theorem bk_34:bk 34=some Zku:=by kernel_rfl
theorem ok_34:Z0C P 34 Zku:=⟨Try.f34,Z1N,Try.func34,rfl,by kernel_rfl,by kernel_rfl,rfl,rfl⟩
theorem bk_35:bk 35=some Zks:=by kernel_rfl
theorem ok_35:Z0C P 35 Zks:=⟨Try.f35,Z5u,Try.func35,rfl,by kernel_rfl,by kernel_rfl,rfl,rfl⟩
theorem bk_37:bk 37=some ZfP:=by kernel_rfl
theorem ok_37:Z0C P 37 ZfP:=⟨Try.f37,Zkq,Try.func37,rfl,by kernel_rfl,by kernel_rfl,rfl,rfl⟩
theorem bk_38:bk 38=some ZcK:=by kernel_rfl
theorem ok_38:Z0C P 38 ZcK:=⟨Try.f38,Z6b,Try.func38,rfl,by kernel_rfl,by kernel_rfl,rfl,rfl⟩
theorem bk_39:bk 39=some ZfN:=by kernel_rfl
theorem ok_39:Z0C P 39 ZfN:=⟨Try.f39,Z1S,Try.func39,rfl,by kernel_rfl,by kernel_rfl,rfl,rfl⟩
theorem bk_40:bk 40=some ZcJ:=by kernel_rfl
theorem ok_40:Z0C P 40 ZcJ:=⟨Try.f40,Z1R,Try.func40,rfl,by kernel_rfl,by kernel_rfl,rfl,rfl⟩
theorem bk_41:bk 41=some ZcI:=by kernel_rfl
theorem ok_41:Z0C P 41 ZcI:=⟨Try.f41,Z6a,Try.func41,rfl,by kernel_rfl,by kernel_rfl,rfl,rfl⟩
theorem bk_42:bk 42=some ZfJ:=by kernel_rfl
theorem ok_42:Z0C P 42 ZfJ:=⟨Try.f42,Z2j,Try.func42,rfl,by kernel_rfl,by kernel_rfl,rfl,rfl⟩
theorem bk_43:bk 43=some ZfE:=by kernel_rfl
theorem ok_43:Z0C P 43 ZfE:=⟨Try.f43,ZmL,Try.func43,rfl,by kernel_rfl,by kernel_rfl,rfl,rfl⟩
theorem bk_44:bk 44=some ZcH:=by kernel_rfl
theorem ok_44:Z0C P 44 ZcH:=⟨Try.f44,Z90,Try.func44,rfl,by kernel_rfl,by kernel_rfl,rfl,rfl⟩
theorem bk_45:bk 45=some ZcG:=by kernel_rfl
theorem ok_45:Z0C P 45 ZcG:=⟨Try.f45,Z8Z,Try.func45,rfl,by kernel_rfl,by kernel_rfl,rfl,rfl⟩
theorem bk_47:bk 47=some Zkl:=by kernel_rfl
theorem ok_47:Z0C P 47 Zkl:=⟨Try.f47,Z8Y,Try.func47,rfl,by kernel_rfl,by kernel_rfl,rfl,rfl⟩
theorem bk_54:bk 54=some ZcF:=by kernel_rfl
theorem ok_54:Z0C P 54 ZcF:=⟨Try.f54,ZmJ,Try.func54,rfl,by kernel_rfl,by kernel_rfl,rfl,rfl⟩
theorem bk_56:bk 56=some ZcE:=by kernel_rfl
theorem ok_56:Z0C P 56 ZcE:=⟨Try.f56,Z8C,Try.func56,rfl,by kernel_rfl,by kernel_rfl,rfl,rfl⟩
theorem bk_57:bk 57=some Zkj:=by kernel_rfl
theorem ok_57:Z0C P 57 Zkj:=⟨Try.f57,ZmH,Try.func57,rfl,by kernel_rfl,by kernel_rfl,rfl,rfl⟩
theorem bk_58:bk 58=some Zkh:=by kernel_rfl
theorem ok_58:Z0C P 58 Zkh:=⟨Try.f58,Zfx,Try.func58,rfl,by kernel_rfl,by kernel_rfl,rfl,rfl⟩
theorem bk_59:bk 59=some Zkf:=by kernel_rfl
theorem ok_59:Z0C P 59 Zkf:=⟨Try.f59,Z4Y,Try.func59,rfl,by kernel_rfl,by kernel_rfl,rfl,rfl⟩
theorem bk_60:bk 60=some ZcD:=by kernel_rfl
theorem ok_60:Z0C P 60 ZcD:=⟨Try.f60,Z5M,Try.func60,rfl,by kernel_rfl,by kernel_rfl,rfl,rfl⟩
theorem bk_61:bk 61=some ZcC:=by kernel_rfl
theorem ok_61:Z0C P 61 ZcC:=⟨Try.f61,Z8X,Try.func61,rfl,by kernel_rfl,by kernel_rfl,rfl,rfl⟩
theorem bk_62:bk 62=some Zfw:=by kernel_rfl
theorem ok_62:Z0C P 62 Zfw:=⟨Try.f62,Z0Z,Try.func62,rfl,by kernel_rfl,by kernel_rfl,rfl,rfl⟩
theorem bk_63:bk 63=some ZcB:=by kernel_rfl
theorem ok_63:Z0C P 63 ZcB:=⟨Try.f63,ZmD,Try.func63,rfl,by kernel_rfl,by kernel_rfl,rfl,rfl⟩
theorem bk_64:bk 64=some ZcA:=by kernel_rfl
theorem ok_64:Z0C P 64 ZcA:=⟨Try.f64,ZaP,Try.func64,rfl,by kernel_rfl,by kernel_rfl,rfl,rfl⟩
theorem bk_65:bk 65=some Zfq:=by kernel_rfl
theorem ok_65:Z0C P 65 Zfq:=⟨Try.f65,Z3z,Try.func65,rfl,by kernel_rfl,by kernel_rfl,rfl,rfl⟩
theorem bk_66:bk 66=some Zcz:=by kernel_rfl
theorem ok_66:Z0C P 66 Zcz:=⟨Try.f66,ZaM,Try.func66,rfl,by kernel_rfl,by kernel_rfl,rfl,rfl⟩
theorem bk_67:bk 67=some Zcy:=by kernel_rfl
theorem ok_67:Z0C P 67 Zcy:=⟨Try.f67,ZmB,Try.func67,rfl,by kernel_rfl,by kernel_rfl,rfl,rfl⟩
theorem bk_68:bk 68=some Zcx:=by kernel_rfl
theorem ok_68:Z0C P 68 Zcx:=⟨Try.f68,Zfl,Try.func68,rfl,by kernel_rfl,by kernel_rfl,rfl,rfl⟩
theorem bk_69:bk 69=some Zfk:=by kernel_rfl
theorem ok_69:Z0C P 69 Zfk:=⟨Try.f69,Zmz,Try.func69,rfl,by kernel_rfl,by kernel_rfl,rfl,rfl⟩
theorem bk_70:bk 70=some Zfj:=by kernel_rfl
theorem ok_70:Z0C P 70 Zfj:=⟨Try.f70,Zmx,Try.func70,rfl,by kernel_rfl,by kernel_rfl,rfl,rfl⟩
theorem bk_71:bk 71=some Zfi:=by kernel_rfl
theorem ok_71:Z0C P 71 Zfi:=⟨Try.f71,Zmv,Try.func71,rfl,by kernel_rfl,by kernel_rfl,rfl,rfl⟩
theorem bk_72:bk 72=some Zfh:=by kernel_rfl
theorem ok_72:Z0C P 72 Zfh:=⟨Try.f72,Zmt,Try.func72,rfl,by kernel_rfl,by kernel_rfl,rfl,rfl⟩
theorem bk_78:bk 78=some Zk7:=by kernel_rfl
theorem ok_78:Z0C P 78 Zk7:=⟨Try.f78,ZbL,Try.func78,rfl,by kernel_rfl,by kernel_rfl,rfl,rfl⟩
theorem bk_79:bk 79=some Zk5:=by kernel_rfl
theorem ok_79:Z0C P 79 Zk5:=⟨Try.f79,Zhc,Try.func79,rfl,by kernel_rfl,by kernel_rfl,rfl,rfl⟩
theorem bk_80:bk 80=some Zk3:=by kernel_rfl
theorem ok_80:Z0C P 80 Zk3:=⟨Try.f80,ZaL,Try.func80,rfl,by kernel_rfl,by kernel_rfl,rfl,rfl⟩
theorem bk_81:bk 81=some Zk0:=by kernel_rfl
theorem ok_81:Z0C P 81 Zk0:=⟨Try.f81,Zfg,Try.func81,rfl,by kernel_rfl,by kernel_rfl,rfl,rfl⟩
theorem bk_82:bk 82=some ZjY:=by kernel_rfl
theorem ok_82:Z0C P 82 ZjY:=⟨Try.f82,Z63,Try.func82,rfl,by kernel_rfl,by kernel_rfl,rfl,rfl⟩
theorem bk_83:bk 83=some Zff:=by kernel_rfl
theorem ok_83:Z0C P 83 Zff:=⟨Try.f83,Z62,Try.func83,rfl,by kernel_rfl,by kernel_rfl,rfl,rfl⟩
theorem bk_84:bk 84=some Zfd:=by kernel_rfl
theorem ok_84:Z0C P 84 Zfd:=⟨Try.f84,Z7M,Try.func84,rfl,by kernel_rfl,by kernel_rfl,rfl,rfl⟩
theorem bk_85:bk 85=some Zcw:=by kernel_rfl
theorem ok_85:Z0C P 85 Zcw:=⟨Try.f85,Z8W,Try.func85,rfl,by kernel_rfl,by kernel_rfl,rfl,rfl⟩
theorem bk_86:bk 86=some Zf8:=by kernel_rfl
theorem ok_86:Z0C P 86 Zf8:=⟨Try.f86,Z2i,Try.func86,rfl,by kernel_rfl,by kernel_rfl,rfl,rfl⟩
theorem bk_87:bk 87=some ZjT:=by kernel_rfl
theorem ok_87:Z0C P 87 ZjT:=⟨Try.f87,Zhb,Try.func87,rfl,by kernel_rfl,by kernel_rfl,rfl,rfl⟩
theorem bk_90:bk 90=some ZjR:=by kernel_rfl
theorem ok_90:Z0C P 90 ZjR:=⟨Try.f90,Zmi,Try.func90,rfl,by kernel_rfl,by kernel_rfl,rfl,rfl⟩
theorem bk_91:bk 91=some Zf4:=by kernel_rfl
theorem ok_91:Z0C P 91 Zf4:=⟨Try.f91,Zha,Try.func91,rfl,by kernel_rfl,by kernel_rfl,rfl,rfl⟩
theorem bk_92:bk 92=some Zf3:=by kernel_rfl
theorem ok_92:Z0C P 92 Zf3:=⟨Try.f92,Z61,Try.func92,rfl,by kernel_rfl,by kernel_rfl,rfl,rfl⟩
theorem bk_ok:Z6o P bk:=fun f a e=>BT.look_all (Q:=Z0C P) (t:=bkT) (ai ok_59 (ai (ai ok_38 (ai (ai ok_27 (ai (ai ok_13 (ai (ai ok_10 (ai (ai ok_8 (ai tt tt)) (ai ok_11 (ai tt tt)))) (ai ok_16 (ai (ai ok_14 (ai tt tt)) tt)))) (ai ok_34 (ai (ai ok_32 (ai (ai ok_29 (ai tt tt)) (ai ok_33 (ai tt tt)))) (ai ok_37 (ai (ai ok_35 (ai tt tt)) tt)))))) (ai ok_45 (ai (ai ok_42 (ai (ai ok_40 (ai (ai ok_39 (ai tt tt)) (ai ok_41 (ai tt tt)))) (ai ok_44 (ai (ai ok_43 (ai tt tt)) tt)))) (ai ok_56 (ai (ai ok_54 (ai (ai ok_47 (ai tt tt)) tt)) (ai ok_58 (ai (ai ok_57 (ai tt tt)) tt)))))))) (ai ok_78 (ai (ai ok_66 (ai (ai ok_63 (ai (ai ok_61 (ai (ai ok_60 (ai tt tt)) (ai ok_62 (ai tt tt)))) (ai ok_65 (ai (ai ok_64 (ai tt tt)) tt)))) (ai ok_70 (ai (ai ok_68 (ai (ai ok_67 (ai tt tt)) (ai ok_69 (ai tt tt)))) (ai ok_72 (ai (ai ok_71 (ai tt tt)) tt)))))) (ai ok_85 (ai (ai ok_82 (ai (ai ok_80 (ai (ai ok_79 (ai tt tt)) (ai ok_81 (ai tt tt)))) (ai ok_84 (ai (ai ok_83 (ai tt tt)) tt)))) (ai ok_90 (ai (ai ok_87 (ai (ai ok_86 (ai tt tt)) tt)) (ai ok_92 (ai (ai ok_91 (ai tt tt)) tt)))))))))) e
theorem mixed:P.follows .mixedOrders=true:=by kernel_rfl
def selF:List Nat:=[63,85,57,78,11,35,29,39,40,41,60,66,21,33,34,51,59,73,74,75,80,82,88,15,18,19,20,30,62,83,17,37]
def selL:List Nat:=[14000,14001,15000,15002,16000,17002,17003,18000,18001,19000,19001,24000,24001,26000,26001,26002,26003,27000,3000,3001,3002,3003,31000,31001,32000,34001,34002,36000,39001,4000,40000,40001,40002,40003,4001,4002,4003,41000,42000,42001,42002,42003,44000,45000,46000,47000,49000,49001,50000,51001,51002,52000,52001,55000,56000,59000,59001,59002,61000,62001,62002,64000,65000,65001,66000,68000,7000,7001,73000,73001,73002,74000,74001,75000,75001,75002,75003,75004,77000,77001,8000,80000,82000,84000,87000,88000,89000,89001,89002,89003,89004,89005,92000,92001]
def Zni (x:Nat):List Nat->Bool
 | []=>false
 | y::ys=>cond (Nat.beq x y) true (Zni x ys)
def sel:Key->Bool
 | .fn f=>!(Zni f selF)
 | .lp j _ _ _ _ _=>Zni j selL
 | .rnd ..=>false
noncomputable def ext:Fo FH:=fun f args h c=>match args with
 | []=>cond (Zni f [10]) (some { e:=.ret,vs:=[.bool true],h:=h,c:=c,df:=[] }) none
 | _=>none
noncomputable abbrev G:Orc FH:=Z6z P bk sel ext
end Go.Proofs.Ytdodippbpdechaa
