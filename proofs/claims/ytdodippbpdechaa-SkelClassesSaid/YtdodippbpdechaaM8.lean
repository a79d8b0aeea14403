/- Parts of a proof: K. Conditions: none. -/
import Derived.Test.YtdodippbpdechaaChecked
import Derived.KernelRfl
import Derived.Test.YtdodippbpdechaaM5
import Derived.Test.YtdodippbpdechaaM6
import Derived.Test.YtdodippbpdechaaM7
set_option linter.all false
set_option maxRecDepth 100000
set_option maxHeartbeats 4000000
namespace Go.Proofs.Ytdodippbpdechaa
open Go Go.Ab Go.Proofs
variable {H:Type} [HeapC H]
noncomputable abbrev P:=Try.prog
noncomputable def ZhR:Code:=Z0o Try.f6
noncomputable def f6_c:ACode:=(.seq (rg 0 ZhR 2 false) (.seq (.seq (rg 1 ZhR 9 false) (.cond (.tmp 26) (.seq (rg 2 ZhR 37 false) .ret) .skip)) (.seq (rg 3 ZhR 11 false) (.seq (rg 4 ZhR 23 false) (.seq (rg 5 ZhR 47 false) (.seq (rg 6 ZhR 95 false) (.seq (rg 7 ZhR 191 false) (.seq (rg 8 ZhR 383 false) (.seq (rg 9 ZhR 767 false) (.seq (rg 10 ZhR 1535 false) (.seq (rg 11 ZhR 3071 false) .ret)))))))))))
noncomputable def f6_f:AFun:={ code:=f6_c,nt:=118,res:=Try.f6.results.toList,fr:=[] }
noncomputable def Zk3:Code:=Z0o Try.f10
noncomputable def f10_c:ACode:=(.seq (rg 0 Zk3 2 false) (.seq (rg 1 Zk3 5 false) (.seq (rg 2 Zk3 11 false) (.seq (rg 3 Zk3 23 false) .ret))))
noncomputable def Zid:AFun:={ code:=f10_c,nt:=31,res:=Try.f10.results.toList,fr:=[] }
noncomputable def Zk2:Code:=Z0o Try.f11
noncomputable def f11_c:ACode:=(.seq (rg 0 Zk2 2 false) (.seq (.seq (rg 1 Zk2 9 false) (.cond (.tmp 6) (.seq (rg 2 Zk2 37 false) .ret) .skip)) (.seq (rg 3 Zk2 11 false) .ret)))
noncomputable def Zf1:AFun:={ code:=f11_c,nt:=10,res:=Try.f11.results.toList,fr:=[] }
noncomputable def Zd4:Code:=Z0o Try.f12
noncomputable def f12_c:ACode:=(.seq (rg 0 Zd4 2 false) (.seq (.seq (rg 1 Zd4 9 false) (.cond (.tmp 13) (.seq (rg 2 Zd4 37 false) .ret) .skip)) (.seq (rg 3 Zd4 11 false) (.seq (rg 4 Zd4 23 false) (.seq (rg 5 Zd4 47 false) (.seq (rg 6 Zd4 95 false) (.seq (rg 7 Zd4 191 false) .ret)))))))
noncomputable def ZnJ:AFun:={ code:=f12_c,nt:=49,res:=Try.f12.results.toList,fr:=[] }
noncomputable def Z9C:Code:=Z0o Try.f13
noncomputable def Z3T:ACode:=(.seq (rg 5 Z9C 279 false) (.seq (.cond (.tmp 14) .skip (.exit 0)) (.seq (.block 1 (.seq (rg 6 Z9C 4503 false) (.seq (rg 7 Z9C 10647 false) (.cond (.tmp 19) (.seq (rg 8 Z9C 39319 false) .ret) .skip)))) (rg 9 Z9C 1943 false))))
noncomputable def Z4J (rd:Option Nat):Key:=.lp 13000 [2,3,4,12,13] [] Z3T 23 rd
noncomputable def f13_c:ACode:=(.seq (rg 0 Z9C 2 false) (.seq (.seq (rg 1 Z9C 9 false) (.cond (.tmp 9) (.seq (rg 2 Z9C 37 false) .ret) .skip)) (.seq (rg 3 Z9C 11 false) (.seq (.seq (rg 4 Z9C 39 false) (.block 0 (.loop 13000 [2,3,4,12,13] [] [(.exit 0),.ret] Z3T))) (.seq (rg 10 Z9C 47 false) .ret)))))
noncomputable def Zf0:AFun:={ code:=f13_c,nt:=23,res:=Try.f13.results.toList,fr:=[] }
noncomputable def Z5C:Code:=Z0o Try.f14
noncomputable def Z3R:ACode:=(.seq (.seq (rg 8 Z5C 33943 false) (.cond (.tmp 18) .skip (.exit 2))) (.seq (.join [(.normal,[1,2,3,4,5]),(.ret,[1,2,3,4,5])] (.block 3 (.seq (rg 10 Z5C 140439 false) (.seq (.seq (rg 11 Z5C 599191 false) (.cond (.tmp 36) (.exit 3) .skip)) (.seq (.seq (rg 12 Z5C 1254551 false) (.cond (.tmp 65) (.seq (rg 13 Z5C 4924567 false) .ret) .skip)) (.seq (rg 14 Z5C 1516695 true) (.cond (.tmp 82) (.seq (rg 15 Z5C 5186711 false) .ret) .skip))))))) (rg 9 Z5C 58519 false)))
noncomputable def Z3P (rd:Option Nat):Key:=.lp 14001 [1,2,3,4,5] [] Z3R 83 rd
noncomputable def Z3S:ACode:=(.seq (.seq (rg 5 Z5C 535 false) (.cond (.tmp 14) .skip (.exit 0))) (.seq (.block 1 (.seq (rg 7 Z5C 2199 false) (.block 2 (.loop 14001 [1,2,3,4,5] [] [(.exit 2),.ret] Z3R)))) (rg 6 Z5C 919 false)))
noncomputable def Z3Q (rd:Option Nat):Key:=.lp 14000 [1,2,3,4] [] Z3S 83 rd
noncomputable def f14_c:ACode:=(.seq (rg 0 Z5C 2 false) (.seq (rg 1 Z5C 5 false) (.seq (.seq (rg 2 Z5C 19 false) (.cond (.tmp 11) (.seq (rg 3 Z5C 75 false) .ret) .skip)) (.seq (.seq (rg 4 Z5C 39 false) (.block 0 (.loop 14000 [1,2,3,4] [] [(.exit 0),.ret] Z3S))) (.seq (rg 16 Z5C 47 false) .ret)))))
noncomputable def ZeZ:AFun:={ code:=f14_c,nt:=83,res:=Try.f14.results.toList,fr:=[] }
noncomputable def ZaK:Code:=Z0o Try.f16
noncomputable def Z3O:ACode:=(.seq (.seq (rg 4 ZaK 267 false) (.cond (.tmp 14) .skip (.exit 0))) (.seq (.block 1 (.seq (rg 6 ZaK 1099 true) (.cond (.tmp 25) (.seq (rg 7 ZaK 4683 false) .ret) .skip))) (rg 5 ZaK 459 false)))
noncomputable def Zcg (rd:Option Nat):Key:=.lp 16000 [0,1,4,5] [] Z3O 26 rd
noncomputable def f16_c:ACode:=(.seq (rg 0 ZaK 2 false) (.seq (.seq (rg 1 ZaK 9 false) (.cond (.tmp 10) (.seq (rg 2 ZaK 37 false) .ret) .skip)) (.seq (.seq (rg 3 ZaK 19 false) (.block 0 (.loop 16000 [0,1,4,5] [] [(.exit 0),.ret] Z3O))) (.seq (rg 8 ZaK 23 false) .ret))))
noncomputable def ZeY:AFun:={ code:=f16_c,nt:=26,res:=Try.f16.results.toList,fr:=[] }
noncomputable def Zib:Code:=Z0o Try.f21
noncomputable def f21_c:ACode:=(.seq (rg 0 Zib 2 false) (.seq (.seq (rg 1 Zib 9 false) (.seq (rg 2 Zib 21 false) (.cond (.tmp 8) (.seq (rg 3 Zib 77 false) .ret) .skip))) (.seq (rg 4 Zib 11 false) .ret)))
noncomputable def ZnG:AFun:={ code:=f21_c,nt:=13,res:=Try.f21.results.toList,fr:=[] }
noncomputable def Zia:Code:=Z0o Try.f22
noncomputable def f22_c:ACode:=(.seq (rg 0 Zia 2 false) (.seq (.seq (rg 1 Zia 9 false) (.seq (rg 2 Zia 21 false) (.cond (.tmp 8) (.seq (rg 3 Zia 77 false) .ret) .skip))) (.seq (rg 4 Zia 11 false) .ret)))
noncomputable def ZnE:AFun:={ code:=f22_c,nt:=12,res:=Try.f22.results.toList,fr:=[] }
noncomputable def Zi9:Code:=Z0o Try.f23
noncomputable def f23_c:ACode:=(.seq (rg 0 Zi9 2 false) (.seq (.seq (rg 1 Zi9 9 false) (.seq (rg 2 Zi9 21 false) (.cond (.tmp 8) (.seq (rg 3 Zi9 77 false) .ret) .skip))) (.seq (rg 4 Zi9 11 false) .ret)))
noncomputable def ZnC:AFun:={ code:=f23_c,nt:=12,res:=Try.f23.results.toList,fr:=[] }
noncomputable def Zao:Code:=Z0o Try.f24
noncomputable def Z9a:ACode:=(.seq (.seq (rg 5 Zao 8485 false) (.cond (.tmp 13) .skip (.exit 2))) (.seq (.block 3 (.seq (rg 7 Zao 35109 false) (.cond (.tmp 20) (.seq (rg 8 Zao 149797 false) .ret) .skip))) (rg 6 Zao 14629 false)))
noncomputable def Zce (rd:Option Nat):Key:=.lp 24001 [0,2,3,4,5] [] Z9a 23 rd
noncomputable def Z9b:ACode:=(.seq (.seq (rg 2 Zao 133 false) (.cond (.tmp 7) .skip (.exit 0))) (.seq (.block 1 (.seq (rg 4 Zao 549 false) (.block 2 (.loop 24001 [0,2,3,4,5] [] [(.exit 2),.ret] Z9a)))) (rg 3 Zao 229 false)))
noncomputable def Zcf (rd:Option Nat):Key:=.lp 24000 [0,2,3,4] [] Z9b 23 rd
noncomputable def f24_c:ACode:=(.seq (rg 0 Zao 2 false) (.seq (.seq (rg 1 Zao 9 false) (.block 0 (.loop 24000 [0,2,3,4] [] [(.exit 0),.ret] Z9b))) (.seq (rg 9 Zao 11 false) .ret)))
noncomputable def ZnA:AFun:={ code:=f24_c,nt:=23,res:=Try.f24.results.toList,fr:=[] }
noncomputable def Zi8:Code:=Z0o Try.f25
noncomputable def f25_c:ACode:=(.seq (rg 0 Zi8 2 false) (.seq (.seq (rg 1 Zi8 9 false) (.cond (.tmp 10) (.seq (rg 2 Zi8 37 false) .ret) .skip)) (.seq (rg 3 Zi8 11 false) (.seq (rg 4 Zi8 23 true) .ret))))
noncomputable def Zny:AFun:={ code:=f25_c,nt:=18,res:=Try.f25.results.toList,fr:=[] }
noncomputable def Z2d:Code:=Z0o Try.f26
noncomputable def Z95:ACode:=(.seq (rg 4 Z2d 139 false) (.seq (.cond (.tmp 63) .skip (.exit 0)) (.seq (.block 1 (.seq (rg 5 Z2d 2251 false) (.seq (rg 6 Z2d 5323 true) (.cond (.tmp 75) (.seq (rg 7 Z2d 19659 false) .ret) .skip)))) (rg 8 Z2d 971 false))))
noncomputable def Zcd (rd:Option Nat):Key:=.lp 26000 [2,3,4,61,62] [] Z95 131 rd
noncomputable def Z94:ACode:=(.seq (rg 10 Z2d 279 false) (.seq (.cond (.tmp 81) .skip (.exit 2)) (.seq (.block 3 (.seq (rg 11 Z2d 4503 false) (.seq (rg 12 Z2d 10647 true) (.cond (.tmp 93) (.seq (rg 13 Z2d 39319 false) .ret) .skip)))) (rg 14 Z2d 1943 false))))
noncomputable def Zcc (rd:Option Nat):Key:=.lp 26001 [2,3,4,79,80] [] Z94 131 rd
noncomputable def Z93:ACode:=(.seq (rg 16 Z2d 559 false) (.seq (.cond (.tmp 99) .skip (.exit 4)) (.seq (.block 5 (.seq (rg 17 Z2d 9007 false) (.seq (rg 18 Z2d 21295 true) (.cond (.tmp 111) (.seq (rg 19 Z2d 78639 false) .ret) .skip)))) (rg 20 Z2d 3887 false))))
noncomputable def Zcb (rd:Option Nat):Key:=.lp 26002 [2,3,4,97,98] [] Z93 131 rd
noncomputable def Z92:ACode:=(.seq (rg 22 Z2d 1119 false) (.seq (.cond (.tmp 117) .skip (.exit 6)) (.seq (.block 7 (.seq (rg 23 Z2d 18015 false) (.seq (rg 24 Z2d 42591 true) (.cond (.tmp 129) (.seq (rg 25 Z2d 157279 false) .ret) .skip)))) (rg 26 Z2d 7775 false))))
noncomputable def Zca (rd:Option Nat):Key:=.lp 26003 [2,3,4,115,116] [] Z92 131 rd
noncomputable def f26_c:ACode:=(.seq (rg 0 Z2d 2 false) (.seq (.seq (rg 1 Z2d 9 false) (.cond (.tmp 58) (.seq (rg 2 Z2d 37 false) .ret) .skip)) (.seq (.seq (rg 3 Z2d 19 false) (.block 0 (.loop 26000 [2,3,4,61,62] [] [(.exit 0),.ret] Z95))) (.seq (.seq (rg 9 Z2d 39 false) (.block 2 (.loop 26001 [2,3,4,79,80] [] [(.exit 2),.ret] Z94))) (.seq (.seq (rg 15 Z2d 79 false) (.block 4 (.loop 26002 [2,3,4,97,98] [] [(.exit 4),.ret] Z93))) (.seq (.seq (rg 21 Z2d 159 false) (.block 6 (.loop 26003 [2,3,4,115,116] [] [(.exit 6),.ret] Z92))) (.seq (rg 27 Z2d 191 false) .ret)))))))
noncomputable def Znw:AFun:={ code:=f26_c,nt:=131,res:=Try.f26.results.toList,fr:=[] }
noncomputable def Zd3:Code:=Z0o Try.f27
noncomputable def Z3N:ACode:=(.seq (rg 2 Zd3 69 false) (.seq (.cond (.tmp 9) .skip (.exit 0)) (.seq (.block 1 (.seq (rg 3 Zd3 1125 false) (.seq (rg 4 Zd3 2661 false) (.cond (.tmp 23) (.seq (rg 5 Zd3 9829 false) .ret) .skip)))) (rg 6 Zd3 485 false))))
noncomputable def Zc9 (rd:Option Nat):Key:=.lp 27000 [0,1,4,7,8] [] Z3N 26 rd
noncomputable def f27_c:ACode:=(.seq (rg 0 Zd3 2 false) (.seq (.seq (rg 1 Zd3 9 false) (.block 0 (.loop 27000 [0,1,4,7,8] [] [(.exit 0),.ret] Z3N))) (.seq (rg 7 Zd3 11 false) .ret)))
noncomputable def ZeX:AFun:={ code:=f27_c,nt:=26,res:=Try.f27.results.toList,fr:=[] }
noncomputable def Z9B:Code:=Z0o Try.f28
noncomputable def f28_c:ACode:=(.seq (rg 0 Z9B 2 false) (.seq (.seq (rg 1 Z9B 9 false) (.cond (.tmp 23) (.seq (rg 2 Z9B 37 false) .ret) .skip)) (.seq (.seq (rg 3 Z9B 19 false) (.cond (.tmp 26) (.seq (rg 4 Z9B 75 false) .ret) .skip)) (.seq (.seq (rg 5 Z9B 39 false) (.block 0 (.seq (rg 6 Z9B 151 false) (.cond (.tmp 31) (.seq (rg 7 Z9B 599 false) .ret) (.seq (rg 8 Z9B 727 false) (.cond (.tmp 35) (.seq (rg 9 Z9B 2519 false) .ret) .skip)))))) (.seq (rg 10 Z9B 47 false) .ret)))))
noncomputable def Znu:AFun:={ code:=f28_c,nt:=39,res:=Try.f28.results.toList,fr:=[] }
noncomputable def Zns:Code:=Z0o Try.f37
noncomputable def f37_c:ACode:=(.seq (rg 0 Zns 2 false) (.seq (rg 1 Zns 5 false) (.seq (rg 2 Zns 11 false) .ret)))
noncomputable def Zi7:AFun:={ code:=f37_c,nt:=8,res:=Try.f37.results.toList,fr:=[] }
noncomputable def Z7r:Code:=Z0o Try.f38
noncomputable def Z1C:ACode:=(.seq (rg 5 Z7r 279 false) (rg 6 Z7r 407 false))
noncomputable def Z1B:ACode:=(.join [(.normal,[]),(.ret,[])] (.block 1 (.seq (.seq (rg 7 Z7r 1111 false) (.cond (.tmp 17) (.exit 1) .skip)) (.seq (.seq (rg 8 Z7r 2391 true) (.cond (.tmp 51) (.seq (rg 9 Z7r 9559 false) .ret) .skip)) (.seq (rg 10 Z7r 2903 true) (.cond (.tmp 70) (.seq (rg 11 Z7r 10071 false) .ret) .skip))))))
noncomputable def f38_c:ACode:=(.seq (rg 0 Z7r 2 false) (.seq (.seq (rg 1 Z7r 9 false) (.cond (.tmp 9) (.seq (rg 2 Z7r 37 false) .ret) .skip)) (.seq (rg 3 Z7r 11 false) (.seq (.seq (rg 4 Z7r 39 false) (.block 0 (.rangeFunc 38000 [1,2,3] [] [.normal,.ret] (.tmp 12) #[13,14] Z1C Z1B))) (.seq (rg 12 Z7r 47 false) .ret)))))
noncomputable def ZeW:AFun:={ code:=f38_c,nt:=71,res:=Try.f38.results.toList,fr:=[] }
noncomputable def Z2c:Code:=Z0o Try.f39
noncomputable def Z3J:ACode:=(.seq (rg 14 Z2c 9410943 false) (.seq (.cond (.tmp 107) .skip (.exit 2)) (.seq (.block 3 (.seq (rg 15 Z2c 147822975 false) (.seq (rg 16 Z2c 349149567 false) (.seq (rg 17 Z2c 751802751 false) (.seq (rg 18 Z2c 1557109119 true) (.join [(.normal,[2,3,4,5,6,8,10,12,13,59,60,105,106])] (.cond (.tmp 148) (rg 19 Z2c 3167721855 false) .skip))))))) (rg 20 Z2c 63936895 false))))
noncomputable def Zc7 (rd:Option Nat):Key:=.lp 39001 [2,3,4,5,6,8,10,12,13,59,60,105,106] [] Z3J 172 rd
noncomputable def Z3K:ACode:=(.seq (rg 8 Z2c 4479 false) (.seq (.cond (.tmp 61) .skip (.exit 0)) (.seq (.block 1 (.seq (rg 9 Z2c 72063 false) (.seq (rg 10 Z2c 170367 true) (.seq (rg 11 Z2c 366975 true) (.seq (rg 12 Z2c 760191 true) (.seq (rg 13 Z2c 1546623 false) (.block 2 (.loop 39001 [2,3,4,5,6,8,10,12,13,59,60,105,106] [] [(.exit 2)] Z3J)))))))) (rg 21 Z2c 31103 false))))
noncomputable def Zc8 (rd:Option Nat):Key:=.lp 39000 [2,3,4,5,6,8,10,12,59,60] [] Z3K 172 rd
noncomputable def Z3I:ACode:=(.seq (rg 23 Z2c 8959 false) (.seq (.cond (.tmp 157) .skip (.exit 4)) (.seq (.block 5 (.seq (rg 24 Z2c 144127 false) (rg 25 Z2c 209663 true))) (rg 26 Z2c 62207 false))))
noncomputable def Zc6 (rd:Option Nat):Key:=.lp 39002 [2,3,4,6,12,155,156] [] Z3I 172 rd
noncomputable def f39_c:ACode:=(.seq (rg 0 Z2c 2 false) (.seq (rg 1 Z2c 5 false) (.seq (rg 2 Z2c 11 false) (.seq (rg 3 Z2c 23 false) (.seq (rg 4 Z2c 47 false) (.seq (rg 5 Z2c 95 false) (.seq (rg 6 Z2c 191 true) (.seq (.seq (rg 7 Z2c 639 false) (.block 0 (.loop 39000 [2,3,4,5,6,8,10,12,59,60] [] [(.exit 0)] Z3K))) (.seq (.seq (rg 22 Z2c 1279 false) (.block 4 (.loop 39002 [2,3,4,6,12,155,156] [] [(.exit 4)] Z3I))) (.seq (rg 27 Z2c 1535 false) .ret))))))))))
noncomputable def ZeV:AFun:={ code:=f39_c,nt:=172,res:=Try.f39.results.toList,fr:=[] }
noncomputable def Z2b:Code:=Z0o Try.f40
noncomputable def Z3B:ACode:=(.seq (rg 18 Z2b 153762765207 false) (.seq (.cond (.tmp 91) .skip (.exit 6)) (.seq (.block 7 (.seq (rg 19 Z2b 2421505497495 false) (.seq (rg 20 Z2b 5720040380823 false) (.join [(.normal,[4,5,7,8,9,10,35,36,37,42,43,68,90])] (.cond (.tmp 100) (.seq (rg 21 Z2b 21113203169687 true) (rg 22 Z2b 29909296191895 true)) .skip))))) (rg 23 Z2b 1047115962775 false))))
noncomputable def Zc2 (rd:Option Nat):Key:=.lp 40003 [4,5,7,8,9,10,35,36,37,42,43,68,90] [] Z3B 152 rd
noncomputable def Z3C:ACode:=(.seq (rg 13 Z2b 150575511 false) (.seq (.cond (.tmp 69) .skip (.exit 4)) (.seq (.join [(.normal,[4,5,7,8,9,35,36,37,42,43,68])] (.block 5 (.seq (rg 14 Z2b 2365168023 false) (.seq (.seq (rg 15 Z2b 9881360791 false) (.cond (.tmp 73) (.exit 5) .skip)) (.seq (rg 16 Z2b 12028844439 true) (.seq (rg 17 Z2b 24913746327 false) (.block 6 (.loop 40003 [4,5,7,8,9,10,35,36,37,42,43,68,90] [] [(.exit 6)] Z3B)))))))) (rg 24 Z2b 1022990743 false))))
noncomputable def Zc3 (rd:Option Nat):Key:=.lp 40002 [4,5,7,8,9,35,36,37,42,43,68] [] Z3C 152 rd
noncomputable def Z3D:ACode:=(.seq (rg 7 Z2b 72087 false) (.seq (.cond (.tmp 44) .skip (.exit 2)) (.seq (.join [(.normal,[4,5,35,36,37,42,43])] (.block 3 (.seq (rg 8 Z2b 1153431 false) (.seq (.seq (rg 9 Z2b 4823447 false) (.cond (.tmp 49) (.exit 3) .skip)) (.seq (rg 10 Z2b 5872023 false) (.seq (rg 11 Z2b 12163479 true) (.seq (rg 12 Z2b 24746391 false) (.block 4 (.loop 40002 [4,5,7,8,9,35,36,37,42,43,68] [] [(.exit 4)] Z3C))))))))) (rg 25 Z2b 498071 false))))
noncomputable def Zc4 (rd:Option Nat):Key:=.lp 40001 [4,5,35,36,37,42,43] [] Z3D 152 rd
noncomputable def Z3E:ACode:=(.seq (rg 4 Z2b 279 false) (.seq (.cond (.tmp 38) .skip (.exit 0)) (.seq (.block 1 (.seq (rg 5 Z2b 4503 false) (.seq (rg 6 Z2b 10647 false) (.block 2 (.loop 40001 [4,5,35,36,37,42,43] [] [(.exit 2)] Z3D))))) (rg 26 Z2b 1943 false))))
noncomputable def Zc5 (rd:Option Nat):Key:=.lp 40000 [4,35,36,37] [] Z3E 152 rd
noncomputable def f40_c:ACode:=(.seq (rg 0 Z2b 2 false) (.seq (rg 1 Z2b 5 false) (.seq (rg 2 Z2b 11 true) (.seq (.seq (rg 3 Z2b 39 false) (.block 0 (.loop 40000 [4,35,36,37] [] [(.exit 0)] Z3E))) (.seq (rg 27 Z2b 47 false) .ret)))))
noncomputable def ZeU:AFun:={ code:=f40_c,nt:=152,res:=Try.f40.results.toList,fr:=[] }
noncomputable def Z7q:Code:=Z0o Try.f41
noncomputable def Z3A:ACode:=(.seq (rg 4 Z7q 279 false) (.seq (.cond (.tmp 17) .skip (.exit 0)) (.seq (.block 1 (.seq (rg 5 Z7q 4503 false) (.seq (rg 6 Z7q 10647 false) (.seq (rg 7 Z7q 22935 false) (.join [(.normal,[0,4,5,15,16])] (.cond (.tmp 24) (.seq (rg 8 Z7q 80279 false) (rg 9 Z7q 113047 false)) (rg 10 Z7q 63895 false))))))) (rg 11 Z7q 1943 false))))
noncomputable def Zc1 (rd:Option Nat):Key:=.lp 41000 [0,4,5,15,16] [] Z3A 41 rd
noncomputable def f41_c:ACode:=(.seq (rg 0 Z7q 2 false) (.seq (rg 1 Z7q 5 false) (.seq (rg 2 Z7q 11 false) (.seq (.seq (rg 3 Z7q 39 false) (.block 0 (.loop 41000 [0,4,5,15,16] [] [(.exit 0)] Z3A))) (.seq (rg 12 Z7q 47 false) .ret)))))
noncomputable def ZeT:AFun:={ code:=f41_c,nt:=41,res:=Try.f41.results.toList,fr:=[] }
noncomputable def Z2F:Code:=Z0o Try.f42
noncomputable def Z3y:ACode:=(.seq (rg 7 Z2F 72087 false) (.seq (.cond (.tmp 26) .skip (.exit 2)) (.seq (.block 3 (.seq (rg 8 Z2F 1153431 false) (rg 9 Z2F 1677719 false))) (rg 10 Z2F 498071 false))))
noncomputable def ZbZ (rd:Option Nat):Key:=.lp 42001 [2,3,4,18,19,20,24,25] [] Z3y 90 rd
noncomputable def Z3z:ACode:=(.seq (rg 4 Z2F 279 false) (.seq (.cond (.tmp 21) .skip (.exit 0)) (.seq (.block 1 (.seq (rg 5 Z2F 4503 false) (.seq (rg 6 Z2F 10647 false) (.block 2 (.loop 42001 [2,3,4,18,19,20,24,25] [] [(.exit 2)] Z3y))))) (rg 11 Z2F 1943 false))))
noncomputable def Zc0 (rd:Option Nat):Key:=.lp 42000 [2,3,4,18,19,20] [] Z3z 90 rd
noncomputable def Z3x:ACode:=(.seq (rg 13 Z2F 559 false) (.seq (.cond (.tmp 42) .skip (.exit 4)) (.seq (.block 5 (.seq (rg 14 Z2F 9007 false) (rg 15 Z2F 13103 false))) (rg 16 Z2F 3887 false))))
noncomputable def ZbY (rd:Option Nat):Key:=.lp 42002 [2,3,4,39,40,41] [] Z3x 90 rd
noncomputable def Z3w:ACode:=(.seq (rg 18 Z2F 1119 false) (.seq (.cond (.tmp 56) .skip (.exit 6)) (.seq (.block 7 (.seq (rg 19 Z2F 18015 false) (.seq (rg 20 Z2F 42591 false) (.seq (rg 21 Z2F 91743 false) (rg 22 Z2F 124511 false))))) (rg 23 Z2F 7775 false))))
noncomputable def Z91 (rd:Option Nat):Key:=.lp 42003 [2,4,53,54,55] [] Z3w 90 rd
noncomputable def f42_c:ACode:=(.seq (rg 0 Z2F 2 false) (.seq (rg 1 Z2F 5 false) (.seq (rg 2 Z2F 11 false) (.seq (.seq (rg 3 Z2F 39 false) (.block 0 (.loop 42000 [2,3,4,18,19,20] [] [(.exit 0)] Z3z))) (.seq (.seq (rg 12 Z2F 79 false) (.block 4 (.loop 42002 [2,3,4,39,40,41] [] [(.exit 4)] Z3x))) (.seq (.seq (rg 17 Z2F 159 false) (.block 6 (.loop 42003 [2,4,53,54,55] [] [(.exit 6)] Z3w))) (.seq (rg 24 Z2F 191 false) .ret)))))))
noncomputable def ZeS:AFun:={ code:=f42_c,nt:=90,res:=Try.f42.results.toList,fr:=[] }
noncomputable def Zq5:Code:=Z0o Try.f43
noncomputable def f43_c:ACode:=(.seq (rg 0 Zq5 2 false) (.seq (rg 1 Zq5 5 false) .ret))
noncomputable def ZeR:AFun:={ code:=f43_c,nt:=6,res:=Try.f43.results.toList,fr:=[] }
noncomputable def ZaJ:Code:=Z0o Try.f44
noncomputable def Z3v:ACode:=(.seq (.seq (rg 3 ZaJ 267 false) (.cond (.tmp 6) .skip (.exit 0))) (.seq (.block 1 (.seq (.seq (rg 5 ZaJ 2123 false) (.cond (.tmp 25) (.seq (rg 6 ZaJ 9291 false) .ret) .skip)) (rg 7 ZaJ 1611 false))) (rg 4 ZaJ 459 false)))
noncomputable def Z4z (rd:Option Nat):Key:=.lp 44000 [1,2,3,4] [] Z3v 30 rd
noncomputable def f44_c:ACode:=(.seq (rg 0 ZaJ 2 false) (.seq (rg 1 ZaJ 5 false) (.seq (.seq (rg 2 ZaJ 19 false) (.block 0 (.loop 44000 [1,2,3,4] [] [(.exit 0),.ret] Z3v))) (.seq (rg 8 ZaJ 23 false) .ret))))
noncomputable def ZeQ:AFun:={ code:=f44_c,nt:=30,res:=Try.f44.results.toList,fr:=[] }
noncomputable def ZaI:Code:=Z0o Try.f45
noncomputable def Z3u:ACode:=(.seq (.seq (rg 5 ZaI 535 false) (.cond (.tmp 10) .skip (.exit 0))) (.seq (.block 1 (rg 7 ZaI 1175 false)) (rg 6 ZaI 919 false)))
noncomputable def Z4y (rd:Option Nat):Key:=.lp 45000 [1,2,3,4] [] Z3u 19 rd
noncomputable def f45_c:ACode:=(.seq (rg 0 ZaI 2 false) (.seq (rg 1 ZaI 5 false) (.seq (.seq (rg 2 ZaI 19 false) (.cond (.tmp 7) (.seq (rg 3 ZaI 75 false) .ret) .skip)) (.seq (.seq (rg 4 ZaI 39 false) (.block 0 (.loop 45000 [1,2,3,4] [] [(.exit 0)] Z3u))) (.seq (rg 8 ZaI 47 false) .ret)))))
noncomputable def ZeP:AFun:={ code:=f45_c,nt:=19,res:=Try.f45.results.toList,fr:=[] }
noncomputable def Z7n:Code:=Z0o Try.f49
noncomputable def Z8X:ACode:=(.seq (.seq (rg 8 Z7n 33943 false) (.cond (.tmp 15) .skip (.exit 2))) (.seq (.block 3 (.seq (rg 10 Z7n 140439 true) (.join [(.normal,[1,3,4,5])] (.cond (.tmp 24) (rg 11 Z7n 337047 false) .skip)))) (rg 9 Z7n 58519 false)))
noncomputable def ZbW (rd:Option Nat):Key:=.lp 49001 [1,3,4,5] [] Z8X 28 rd
noncomputable def Z8Y:ACode:=(.seq (.seq (rg 5 Z7n 535 false) (.cond (.tmp 10) .skip (.exit 0))) (.seq (.block 1 (.seq (rg 7 Z7n 2199 false) (.block 2 (.loop 49001 [1,3,4,5] [] [(.exit 2)] Z8X)))) (rg 6 Z7n 919 false)))
noncomputable def ZbX (rd:Option Nat):Key:=.lp 49000 [1,3,4] [] Z8Y 28 rd
noncomputable def f49_c:ACode:=(.seq (rg 0 Z7n 2 false) (.seq (.seq (rg 1 Z7n 9 false) (.cond (.tmp 8) (.seq (rg 2 Z7n 37 false) .ret) .skip)) (.seq (rg 3 Z7n 11 false) (.seq (.seq (rg 4 Z7n 39 false) (.block 0 (.loop 49000 [1,3,4] [] [(.exit 0)] Z8Y))) (.seq (rg 12 Z7n 47 false) .ret)))))
noncomputable def Znq:AFun:={ code:=f49_c,nt:=28,res:=Try.f49.results.toList,fr:=[] }
noncomputable def Z1t:Code:=Z0o Try.f51
noncomputable def Z8S:ACode:=(.seq (.seq (rg 14 Z1t 35074815 false) (.cond (.tmp 50) .skip (.exit 2))) (.seq (.block 3 (.seq (rg 16 Z1t 144126719 false) (rg 17 Z1t 211235583 false))) (rg 15 Z1t 60240639 false)))
noncomputable def ZbU (rd:Option Nat):Key:=.lp 51001 [1,2,3,4,5,6,8,10,11,12,13,14,15,45,46] [] Z8S 160 rd
noncomputable def Z8R:ACode:=(.seq (.seq (rg 19 Z1t 70202111 false) (.cond (.tmp 72) .skip (.exit 4))) (.seq (.block 5 (.seq (rg 21 Z1t 288305919 false) (.seq (rg 22 Z1t 690959103 false) (.seq (rg 23 Z1t 1496265471 true) (.seq (rg 24 Z1t 3106878207 true) (.join [(.normal,[1,2,3,4,5,6,8,10,11,12,13,14,16,45,46])] (.cond (.tmp 118) (rg 25 Z1t 6328103679 true) .skip))))))) (rg 20 Z1t 120533759 false)))
noncomputable def ZbT (rd:Option Nat):Key:=.lp 51002 [1,2,3,4,5,6,8,10,11,12,13,14,16,45,46] [] Z8R 160 rd
noncomputable def Z8T:ACode:=(.seq (rg 9 Z1t 8959 false) (.seq (.cond (.tmp 47) .skip (.exit 0)) (.seq (.block 1 (.seq (rg 10 Z1t 144127 false) (.seq (rg 11 Z1t 340735 false) (.seq (rg 12 Z1t 733951 false) (.seq (.seq (rg 13 Z1t 2568959 false) (.block 2 (.loop 51001 [1,2,3,4,5,6,8,10,11,12,13,14,15,45,46] [] [(.exit 2)] Z8S))) (.seq (.seq (rg 18 Z1t 5190399 false) (.block 4 (.loop 51002 [1,2,3,4,5,6,8,10,11,12,13,14,16,45,46] [] [(.exit 4)] Z8R))) (.seq (rg 26 Z1t 6238975 false) (.seq (rg 27 Z1t 12530431 false) (rg 28 Z1t 16724735 false))))))))) (rg 29 Z1t 62207 false))))
noncomputable def ZbV (rd:Option Nat):Key:=.lp 51000 [1,2,3,4,5,6,8,10,45,46] [] Z8T 160 rd
noncomputable def Z8Q:ACode:=(.seq (.seq (rg 31 Z1t 34303 false) (.cond (.tmp 146) .skip (.exit 6))) (.seq (.block 7 (rg 33 Z1t 75263 true)) (rg 32 Z1t 58879 false)))
noncomputable def ZbS (rd:Option Nat):Key:=.lp 51003 [1,2,3,4,5,10,19] [] Z8Q 160 rd
noncomputable def f51_c:ACode:=(.seq (rg 0 Z1t 2 false) (.seq (rg 1 Z1t 5 false) (.seq (rg 2 Z1t 11 false) (.seq (rg 3 Z1t 23 false) (.seq (rg 4 Z1t 47 false) (.seq (rg 5 Z1t 95 false) (.seq (rg 6 Z1t 191 false) (.seq (rg 7 Z1t 383 false) (.seq (.seq (rg 8 Z1t 1279 false) (.block 0 (.loop 51000 [1,2,3,4,5,6,8,10,45,46] [] [(.exit 0)] Z8T))) (.seq (.seq (rg 30 Z1t 2559 false) (.block 6 (.loop 51003 [1,2,3,4,5,10,19] [] [(.exit 6)] Z8Q))) (.seq (rg 34 Z1t 3071 false) .ret)))))))))))
noncomputable def Zno:AFun:={ code:=f51_c,nt:=160,res:=Try.f51.results.toList,fr:=[] }
noncomputable def Z2M:Code:=Z0o Try.f52
noncomputable def Z8O:ACode:=(.seq (rg 4 Z2M 279 false) (.seq (.cond (.tmp 18) .skip (.exit 0)) (.seq (.block 1 (.seq (rg 5 Z2M 4503 false) (.seq (rg 6 Z2M 10647 false) (.seq (rg 7 Z2M 22935 false) (rg 8 Z2M 31127 false))))) (rg 9 Z2M 1943 false))))
noncomputable def Z8M (rd:Option Nat):Key:=.lp 52000 [1,2,3,4,5,15,16,17] [] Z8O 70 rd
noncomputable def Z8N:ACode:=(.seq (rg 11 Z2M 559 false) (.seq (.cond (.tmp 51) .skip (.exit 2)) (.seq (.block 3 (.seq (rg 12 Z2M 9007 false) (.seq (rg 13 Z2M 21295 false) (.cond (.tmp 54) (.seq (rg 14 Z2M 78639 false) .ret) .skip)))) (rg 15 Z2M 3887 false))))
noncomputable def ZbR (rd:Option Nat):Key:=.lp 52001 [1,2,4,5,48,49,50] [] Z8N 70 rd
noncomputable def f52_c:ACode:=(.seq (rg 0 Z2M 2 false) (.seq (rg 1 Z2M 5 false) (.seq (rg 2 Z2M 11 false) (.seq (.seq (rg 3 Z2M 39 false) (.block 0 (.loop 52000 [1,2,3,4,5,15,16,17] [] [(.exit 0)] Z8O))) (.seq (.seq (rg 10 Z2M 79 false) (.block 2 (.loop 52001 [1,2,4,5,48,49,50] [] [(.exit 2),.ret] Z8N))) (.seq (rg 16 Z2M 95 false) (.seq (.block 4 (.seq (rg 17 Z2M 575 false) (.cond (.tmp 59) (.seq (rg 18 Z2M 2367 false) .ret) (.seq (rg 19 Z2M 2879 false) (.cond (.tmp 65) (.seq (rg 20 Z2M 10047 false) .ret) (.seq (rg 21 Z2M 12095 false) (.cond (.tmp 68) (.seq (rg 22 Z2M 40767 false) .ret) .skip))))))) (.seq (rg 23 Z2M 383 false) .ret))))))))
noncomputable def Znm:AFun:={ code:=f52_c,nt:=70,res:=Try.f52.results.toList,fr:=[] }
noncomputable def Zi2:Code:=Z0o Try.f53
noncomputable def f53_c:ACode:=(.seq (rg 0 Zi2 2 false) (.seq (rg 1 Zi2 5 false) (.seq (rg 2 Zi2 11 false) (.seq (rg 3 Zi2 23 false) (.seq (rg 4 Zi2 47 false) .ret)))))
noncomputable def Znk:AFun:={ code:=f53_c,nt:=33,res:=Try.f53.results.toList,fr:=[] }
noncomputable def Zq0:Code:=Z0o Try.f54
noncomputable def f54_c:ACode:=(.seq (rg 0 Zq0 2 false) (.seq (rg 1 Zq0 5 false) .ret))
noncomputable def ZeO:AFun:={ code:=f54_c,nt:=8,res:=Try.f54.results.toList,fr:=[] }
noncomputable def Zan:Code:=Z0o Try.f55
noncomputable def Z8K:ACode:=(.seq (rg 4 Zan 139 false) (.seq (.cond (.tmp 14) .skip (.exit 0)) (.seq (.block 1 (.seq (rg 5 Zan 2251 false) (.seq (rg 6 Zan 5323 true) (.cond (.tmp 24) (.seq (rg 7 Zan 19659 false) .ret) .skip)))) (rg 8 Zan 971 false))))
noncomputable def ZbQ (rd:Option Nat):Key:=.lp 55000 [0,1,4,12,13] [] Z8K 26 rd
noncomputable def f55_c:ACode:=(.seq (rg 0 Zan 2 false) (.seq (.seq (rg 1 Zan 9 false) (.cond (.tmp 10) (.seq (rg 2 Zan 37 false) .ret) .skip)) (.seq (.seq (rg 3 Zan 19 false) (.block 0 (.loop 55000 [0,1,4,12,13] [] [(.exit 0),.ret] Z8K))) (.seq (rg 9 Zan 23 false) .ret))))
noncomputable def Zni:AFun:={ code:=f55_c,nt:=26,res:=Try.f55.results.toList,fr:=[] }
noncomputable def Zam:Code:=Z0o Try.f56
noncomputable def Z3t:ACode:=(.seq (rg 3 Zam 139 false) (.seq (.cond (.tmp 8) .skip (.exit 0)) (.seq (.block 1 (.seq (rg 4 Zam 2251 false) (.seq (.seq (rg 5 Zam 9419 false) (.cond (.tmp 15) (.seq (rg 6 Zam 38091 false) .ret) .skip)) (rg 7 Zam 7371 false)))) (rg 8 Zam 971 false))))
noncomputable def Z4w (rd:Option Nat):Key:=.lp 56000 [2,3,6,7] [] Z3t 23 rd
noncomputable def f56_c:ACode:=(.seq (rg 0 Zam 2 false) (.seq (rg 1 Zam 5 false) (.seq (.seq (rg 2 Zam 19 false) (.block 0 (.loop 56000 [2,3,6,7] [] [(.exit 0),.ret] Z3t))) (.seq (rg 9 Zam 23 false) .ret))))
noncomputable def ZeN:AFun:={ code:=f56_c,nt:=23,res:=Try.f56.results.toList,fr:=[] }
noncomputable def Z5M:Code:=Z0o Try.f59
noncomputable def Z8F:ACode:=(.seq (.seq (rg 9 Z5M 17616075 false) (.cond (.tmp 34) .skip (.exit 4))) (.seq (.block 5 (.seq (rg 11 Z5M 72142027 false) (.join [(.normal,[4,5,7,8,9,16,17,18,23,24])] (.cond (.tmp 39) (rg 12 Z5M 172805323 true) .skip)))) (rg 10 Z5M 30198987 false)))
noncomputable def ZbM (rd:Option Nat):Key:=.lp 59002 [4,5,7,8,9,16,17,18,23,24] [] Z8F 60 rd
noncomputable def Z8G:ACode:=(.seq (rg 6 Z5M 36043 false) (.seq (.cond (.tmp 25) .skip (.exit 2)) (.seq (.block 3 (.seq (rg 7 Z5M 576715 false) (.seq (rg 8 Z5M 1363147 false) (.block 4 (.loop 59002 [4,5,7,8,9,16,17,18,23,24] [] [(.exit 4)] Z8F))))) (rg 13 Z5M 249035 false))))
noncomputable def ZbN (rd:Option Nat):Key:=.lp 59001 [4,5,16,17,18,23,24] [] Z8G 60 rd
noncomputable def Z8H:ACode:=(.seq (rg 3 Z5M 139 false) (.seq (.cond (.tmp 19) .skip (.exit 0)) (.seq (.block 1 (.seq (rg 4 Z5M 2251 false) (.seq (rg 5 Z5M 5323 false) (.block 2 (.loop 59001 [4,5,16,17,18,23,24] [] [(.exit 2)] Z8G))))) (rg 14 Z5M 971 false))))
noncomputable def ZbO (rd:Option Nat):Key:=.lp 59000 [4,16,17,18] [] Z8H 60 rd
noncomputable def f59_c:ACode:=(.seq (rg 0 Z5M 2 false) (.seq (rg 1 Z5M 5 false) (.seq (.seq (rg 2 Z5M 19 false) (.block 0 (.loop 59000 [4,16,17,18] [] [(.exit 0)] Z8H))) (.seq (rg 15 Z5M 23 false) .ret))))
noncomputable def Zng:AFun:={ code:=f59_c,nt:=60,res:=Try.f59.results.toList,fr:=[] }
noncomputable def Z6y:Code:=Z0o Try.f60
noncomputable def Z3r:ACode:=(.seq (rg 6 Z6y 36043 false) (.seq (.cond (.tmp 27) .skip (.exit 2)) (.seq (.block 3 (.seq (rg 7 Z6y 576715 false) (.seq (rg 8 Z6y 1363147 false) (.join [(.normal,[1,2,7,8,22,23,26])] (.cond (.tmp 37) (.seq (rg 9 Z6y 5033163 true) (rg 10 Z6y 7130315 false)) .skip))))) (rg 11 Z6y 249035 false))))
noncomputable def ZbK (rd:Option Nat):Key:=.lp 60001 [1,2,7,8,22,23,26] [] Z3r 65 rd
noncomputable def Z3s:ACode:=(.seq (rg 3 Z6y 139 false) (.seq (.cond (.tmp 24) .skip (.exit 0)) (.seq (.block 1 (.seq (rg 4 Z6y 2251 false) (.seq (rg 5 Z6y 5323 false) (.block 2 (.loop 60001 [1,2,7,8,22,23,26] [] [(.exit 2)] Z3r))))) (rg 12 Z6y 971 false))))
noncomputable def ZbL (rd:Option Nat):Key:=.lp 60000 [1,2,7,22,23] [] Z3s 65 rd
noncomputable def f60_c:ACode:=(.seq (rg 0 Z6y 2 false) (.seq (rg 1 Z6y 5 false) (.seq (.seq (rg 2 Z6y 19 false) (.block 0 (.loop 60000 [1,2,7,22,23] [] [(.exit 0)] Z3s))) (.seq (rg 13 Z6y 23 false) .ret))))
noncomputable def ZeM:AFun:={ code:=f60_c,nt:=65,res:=Try.f60.results.toList,fr:=[] }
noncomputable def ZaH:Code:=Z0o Try.f61
noncomputable def Z3p:ACode:=(.seq (rg 3 ZaH 139 false) (.seq (.cond (.tmp 19) .skip (.exit 0)) (.seq (.block 1 (.seq (rg 4 ZaH 2251 false) (.seq (rg 5 ZaH 5323 false) (.join [(.normal,[0,3,4,5,17,18])] (.cond (.tmp 30) (rg 6 ZaH 11467 true) .skip))))) (rg 7 ZaH 971 false))))
noncomputable def ZbJ (rd:Option Nat):Key:=.lp 61000 [0,3,4,5,17,18] [] Z3p 48 rd
noncomputable def f61_c:ACode:=(.seq (rg 0 ZaH 2 false) (.seq (rg 1 ZaH 5 false) (.seq (.seq (rg 2 ZaH 19 true) (.block 0 (.loop 61000 [0,3,4,5,17,18] [] [(.exit 0)] Z3p))) (.seq (rg 8 ZaH 23 false) .ret))))
noncomputable def ZeL:AFun:={ code:=f61_c,nt:=48,res:=Try.f61.results.toList,fr:=[] }
noncomputable def Z1c:Code:=Z0o Try.f62
noncomputable def Z3m:ACode:=(.seq (.seq (rg 28 Z1c 17978004223 false) (.cond (.tmp 92) .skip (.exit 4))) (.seq (.block 5 (.seq (rg 30 Z1c 73812579071 false) (.seq (.seq (rg 31 Z1c 314330747647 false) (.cond (.tmp 107) (.seq (rg 32 Z1c 1276403421951 false) .ret) .skip)) (rg 33 Z1c 245611270911 false)))) (rg 29 Z1c 30862906111 false)))
noncomputable def ZhX (rd:Option Nat):Key:=.lp 62002 [2,3,4,5,7,8,9,10,11,14] [] Z3m 135 rd
noncomputable def Z3n:ACode:=(.seq (.seq (rg 16 Z1c 4363007 false) (.cond (.tmp 42) .skip (.exit 2))) (.seq (.join [(.ret,[2,3,4,5,7,8,9,10,11]),(.normal,[2,3,4,5,7,8,9,10,11])] (.block 3 (.seq (.seq (rg 18 Z1c 34771711 false) (.cond (.tmp 48) (.seq (rg 19 Z1c 152212223 false) .ret) .skip)) (.seq (.seq (rg 20 Z1c 76714751 false) (.cond (.tmp 54) (.seq (rg 21 Z1c 311595775 false) (.seq (rg 22 Z1c 714248959 false) (.exit 3))) .skip)) (.seq (rg 23 Z1c 93491967 false) (.seq (.seq (rg 24 Z1c 328372991 false) (.cond (.tmp 85) (.seq (rg 25 Z1c 1267897087 false) .ret) .skip)) (.seq (rg 26 Z1c 395481855 false) (.seq (.seq (rg 27 Z1c 1335005951 false) (.block 4 (.loop 62002 [2,3,4,5,7,8,9,10,11,14] [] [(.exit 4),.ret] Z3m))) (rg 34 Z1c 1066570495 false))))))))) (rg 17 Z1c 7508735 false)))
noncomputable def ZhY (rd:Option Nat):Key:=.lp 62001 [2,3,4,5,7,8,9,10,11] [] Z3n 135 rd
noncomputable def Z3o:ACode:=(.seq (.seq (rg 12 Z1c 17151 false) (.cond (.tmp 38) .skip (.exit 0))) (.seq (.block 1 (.seq (rg 14 Z1c 70399 false) (.seq (.seq (rg 15 Z1c 299775 false) (.block 2 (.loop 62001 [2,3,4,5,7,8,9,10,11] [] [(.exit 2),.ret] Z3n))) (rg 35 Z1c 234239 false)))) (rg 13 Z1c 29439 false)))
noncomputable def ZhZ (rd:Option Nat):Key:=.lp 62000 [2,3,4,5,7,8,9] [] Z3o 135 rd
noncomputable def f62_c:ACode:=(.seq (rg 0 Z1c 2 false) (.seq (.seq (rg 1 Z1c 9 false) (.cond (.tmp 18) (.seq (rg 2 Z1c 37 false) .ret) .skip)) (.seq (rg 3 Z1c 11 false) (.seq (.seq (rg 4 Z1c 39 false) (.cond (.tmp 24) (.seq (rg 5 Z1c 151 false) .ret) .skip)) (.seq (rg 6 Z1c 47 false) (.seq (.seq (rg 7 Z1c 159 false) (.cond (.tmp 34) (.seq (rg 8 Z1c 607 false) .ret) .skip)) (.seq (rg 9 Z1c 191 false) (.seq (rg 10 Z1c 383 false) (.seq (.seq (rg 11 Z1c 1279 false) (.block 0 (.loop 62000 [2,3,4,5,7,8,9] [] [(.exit 0),.ret] Z3o))) (.seq (.seq (rg 36 Z1c 2559 false) (.cond (.tmp 128) (.seq (rg 37 Z1c 9727 false) .ret) .skip)) (.seq (.seq (rg 38 Z1c 5119 false) (.cond (.tmp 132) (.seq (rg 39 Z1c 19455 false) .ret) .skip)) (.seq (rg 40 Z1c 6143 false) .ret))))))))))))
noncomputable def Zi0:AFun:={ code:=f62_c,nt:=135,res:=Try.f62.results.toList,fr:=[] }
noncomputable def ZpW:Code:=Z0o Try.f63
noncomputable def f63_c:ACode:=(.seq (rg 0 ZpW 2 false) (.seq (rg 1 ZpW 5 false) .ret))
noncomputable def ZeK:AFun:={ code:=f63_c,nt:=4,res:=Try.f63.results.toList,fr:=[] }
noncomputable def ZcZ:Code:=Z0o Try.f64
noncomputable def Z3l:ACode:=(.seq (rg 3 ZcZ 139 false) (.seq (.cond (.tmp 8) .skip (.exit 0)) (.seq (.block 1 (.seq (rg 4 ZcZ 2251 false) (rg 5 ZcZ 3275 false))) (rg 6 ZcZ 971 false))))
noncomputable def Z4s (rd:Option Nat):Key:=.lp 64000 [2,3,6,7] [] Z3l 16 rd
noncomputable def f64_c:ACode:=(.seq (rg 0 ZcZ 2 false) (.seq (rg 1 ZcZ 5 false) (.seq (.seq (rg 2 ZcZ 19 false) (.block 0 (.loop 64000 [2,3,6,7] [] [(.exit 0)] Z3l))) (.seq (rg 7 ZcZ 23 false) .ret))))
noncomputable def ZeJ:AFun:={ code:=f64_c,nt:=16,res:=Try.f64.results.toList,fr:=[] }
noncomputable def Z42:Code:=Z0o Try.f65
noncomputable def Z3j:ACode:=(.seq (rg 8 Z42 144175 false) (.seq (.cond (.tmp 30) .skip (.exit 2)) (.seq (.join [(.normal,[0,1,4,5,6,7,9,23,24,25,29])] (.block 3 (.seq (rg 9 Z42 2306863 false) (.seq (.seq (rg 10 Z42 9646895 false) (.cond (.tmp 35) (.exit 3) .skip)) (.seq (rg 11 Z42 11744047 false) (.seq (rg 12 Z42 24326959 true) (.join [(.normal,[0,1,4,5,6,7,9,23,24,25,29])] (.cond (.tmp 61) (.seq (rg 13 Z42 83047215 false) (rg 14 Z42 116601647 false)) (rg 15 Z42 66269999 false))))))))) (rg 16 Z42 996143 false))))
noncomputable def ZbH (rd:Option Nat):Key:=.lp 65001 [0,1,4,5,6,7,9,23,24,25,29] [] Z3j 90 rd
noncomputable def Z3k:ACode:=(.seq (rg 5 Z42 559 false) (.seq (.cond (.tmp 26) .skip (.exit 0)) (.seq (.block 1 (.seq (rg 6 Z42 9007 false) (.seq (rg 7 Z42 21295 false) (.block 2 (.loop 65001 [0,1,4,5,6,7,9,23,24,25,29] [] [(.exit 2)] Z3j))))) (rg 17 Z42 3887 false))))
noncomputable def ZbI (rd:Option Nat):Key:=.lp 65000 [0,1,4,5,6,7,23,24,25] [] Z3k 90 rd
noncomputable def f65_c:ACode:=(.seq (rg 0 Z42 2 false) (.seq (rg 1 Z42 5 true) (.seq (rg 2 Z42 11 false) (.seq (rg 3 Z42 23 false) (.seq (.seq (rg 4 Z42 79 false) (.block 0 (.loop 65000 [0,1,4,5,6,7,23,24,25] [] [(.exit 0)] Z3k))) (.seq (rg 18 Z42 95 false) (.seq (rg 19 Z42 191 false) (.seq (rg 20 Z42 383 false) (.seq (rg 21 Z42 767 false) .ret)))))))))
noncomputable def ZeI:AFun:={ code:=f65_c,nt:=90,res:=Try.f65.results.toList,fr:=[] }
noncomputable def ZcY:Code:=Z0o Try.f66
noncomputable def Z3i:ACode:=(.seq (rg 3 ZcY 139 false) (.seq (.cond (.tmp 12) .skip (.exit 0)) (.seq (.block 1 (.seq (rg 4 ZcY 2251 false) (rg 5 ZcY 3275 false))) (rg 6 ZcY 971 false))))
noncomputable def ZbG (rd:Option Nat):Key:=.lp 66000 [2,3,10,11] [] Z3i 21 rd
noncomputable def f66_c:ACode:=(.seq (rg 0 ZcY 2 false) (.seq (rg 1 ZcY 5 false) (.seq (.seq (rg 2 ZcY 19 false) (.block 0 (.loop 66000 [2,3,10,11] [] [(.exit 0)] Z3i))) (.seq (rg 7 ZcY 23 false) .ret))))
noncomputable def ZeH:AFun:={ code:=f66_c,nt:=21,res:=Try.f66.results.toList,fr:=[] }
noncomputable def ZpV:Code:=Z0o Try.f67
noncomputable def f67_c:ACode:=(.seq (rg 0 ZpV 2 false) (rg 1 ZpV 3 false))
noncomputable def ZeG:AFun:={ code:=f67_c,nt:=23,res:=Try.f67.results.toList,fr:=[] }
noncomputable def ZhS:Code:=Z0o Try.f68
noncomputable def Z3h:ACode:=(.seq (.seq (rg 1 ZhS 65 false) (.cond (.tmp 13) .skip (.exit 0))) (.block 1 (.seq (rg 2 ZhS 145 true) (rg 3 ZhS 209 false))))
noncomputable def ZbF (rd:Option Nat):Key:=.lp 68000 [0,1] [] Z3h 41 rd
noncomputable def f68_c:ACode:=(.seq (rg 0 ZhS 2 false) (.seq (.block 0 (.loop 68000 [0,1] [] [(.exit 0)] Z3h)) (.seq (rg 4 ZhS 11 false) .ret)))
noncomputable def ZeF:AFun:={ code:=f68_c,nt:=41,res:=Try.f68.results.toList,fr:=[] }
noncomputable def ZpU:Code:=Z0o Try.f69
noncomputable def f69_c:ACode:=(.seq (rg 0 ZpU 2 false) (.seq (rg 1 ZpU 5 false) .ret))
noncomputable def ZeE:AFun:={ code:=f69_c,nt:=5,res:=Try.f69.results.toList,fr:=[] }
noncomputable def ZpS:Code:=Z0o Try.f70
noncomputable def f70_c:ACode:=(.seq (rg 0 ZpS 2 false) (.seq (rg 1 ZpS 5 false) .ret))
noncomputable def ZeD:AFun:={ code:=f70_c,nt:=10,res:=Try.f70.results.toList,fr:=[] }
noncomputable def ZpR:Code:=Z0o Try.f71
noncomputable def f71_c:ACode:=(.seq (rg 0 ZpR 2 false) (.seq (rg 1 ZpR 5 false) .ret))
noncomputable def ZeC:AFun:={ code:=f71_c,nt:=6,res:=Try.f71.results.toList,fr:=[] }
noncomputable def ZpQ:Code:=Z0o Try.f72
noncomputable def f72_c:ACode:=(.seq (rg 0 ZpQ 2 false) (.seq (rg 1 ZpQ 5 false) .ret))
noncomputable def ZeB:AFun:={ code:=f72_c,nt:=5,res:=Try.f72.results.toList,fr:=[] }
noncomputable def Z5B:Code:=Z0o Try.f73
noncomputable def Z8x:ACode:=(.seq (.seq (rg 9 Z5B 17616075 false) (.cond (.tmp 36) .skip (.exit 4))) (.seq (.block 5 (.seq (rg 11 Z5B 72142027 false) (.seq (rg 12 Z5B 172805323 false) (.join [(.normal,[4,5,7,8,9,18,19,20,25,26])] (.cond (.tmp 51) (rg 13 Z5B 374131915 true) .skip))))) (rg 10 Z5B 30198987 false)))
noncomputable def ZbC (rd:Option Nat):Key:=.lp 73002 [4,5,7,8,9,18,19,20,25,26] [] Z8x 77 rd
noncomputable def Z8y:ACode:=(.seq (rg 6 Z5B 36043 false) (.seq (.cond (.tmp 27) .skip (.exit 2)) (.seq (.block 3 (.seq (rg 7 Z5B 576715 false) (.seq (rg 8 Z5B 1363147 false) (.block 4 (.loop 73002 [4,5,7,8,9,18,19,20,25,26] [] [(.exit 4)] Z8x))))) (rg 14 Z5B 249035 false))))
noncomputable def ZbD (rd:Option Nat):Key:=.lp 73001 [4,5,18,19,20,25,26] [] Z8y 77 rd
noncomputable def Z8z:ACode:=(.seq (rg 3 Z5B 139 false) (.seq (.cond (.tmp 21) .skip (.exit 0)) (.seq (.block 1 (.seq (rg 4 Z5B 2251 false) (.seq (rg 5 Z5B 5323 false) (.block 2 (.loop 73001 [4,5,18,19,20,25,26] [] [(.exit 2)] Z8y))))) (rg 15 Z5B 971 false))))
noncomputable def ZbE (rd:Option Nat):Key:=.lp 73000 [4,18,19,20] [] Z8z 77 rd
noncomputable def f73_c:ACode:=(.seq (rg 0 Z5B 2 false) (.seq (rg 1 Z5B 5 false) (.seq (.seq (rg 2 Z5B 19 false) (.block 0 (.loop 73000 [4,18,19,20] [] [(.exit 0)] Z8z))) (.seq (rg 16 Z5B 23 false) .ret))))
noncomputable def Znd:AFun:={ code:=f73_c,nt:=77,res:=Try.f73.results.toList,fr:=[] }
noncomputable def Z7b:Code:=Z0o Try.f74
noncomputable def Z8u:ACode:=(.seq (rg 6 Z7b 36043 false) (.seq (.cond (.tmp 24) .skip (.exit 2)) (.seq (.block 3 (.seq (rg 7 Z7b 576715 false) (.seq (rg 8 Z7b 1363147 false) (.join [(.normal,[4,5,15,16,17,22,23])] (.cond (.tmp 29) (rg 9 Z7b 2936011 true) .skip))))) (rg 10 Z7b 249035 false))))
noncomputable def ZbA (rd:Option Nat):Key:=.lp 74001 [4,5,15,16,17,22,23] [] Z8u 50 rd
noncomputable def Z8v:ACode:=(.seq (rg 3 Z7b 139 false) (.seq (.cond (.tmp 18) .skip (.exit 0)) (.seq (.block 1 (.seq (rg 4 Z7b 2251 false) (.seq (rg 5 Z7b 5323 false) (.block 2 (.loop 74001 [4,5,15,16,17,22,23] [] [(.exit 2)] Z8u))))) (rg 11 Z7b 971 false))))
noncomputable def ZbB (rd:Option Nat):Key:=.lp 74000 [4,15,16,17] [] Z8v 50 rd
noncomputable def f74_c:ACode:=(.seq (rg 0 Z7b 2 false) (.seq (rg 1 Z7b 5 false) (.seq (.seq (rg 2 Z7b 19 false) (.block 0 (.loop 74000 [4,15,16,17] [] [(.exit 0)] Z8v))) (.seq (rg 12 Z7b 23 false) .ret))))
noncomputable def Znb:AFun:={ code:=f74_c,nt:=50,res:=Try.f74.results.toList,fr:=[] }
noncomputable def Z2r:Code:=Z0o Try.f75
noncomputable def Z8n:ACode:=(.seq (.seq (rg 13 Z2r 2224868555 false) (.cond (.tmp 38) .skip (.exit 6))) (.seq (.block 7 (.seq (rg 15 Z2r 9204190411 false) (.join [(.normal,[3,4,6,7,8,9,18,19,20,25,26])] (.cond (.tmp 53) (rg 16 Z2r 22089092299 true) .skip)))) (rg 14 Z2r 3835481291 false)))
noncomputable def Zbw (rd:Option Nat):Key:=.lp 75003 [3,4,6,7,8,9,18,19,20,25,26] [] Z8n 95 rd
noncomputable def Z8o:ACode:=(.seq (.seq (rg 10 Z2r 35441867 false) (.cond (.tmp 34) .skip (.exit 4))) (.seq (.block 5 (.seq (rg 12 Z2r 144493771 false) (.block 6 (.loop 75003 [3,4,6,7,8,9,18,19,20,25,26] [] [(.exit 6)] Z8n)))) (rg 11 Z2r 60607691 false)))
noncomputable def Zbx (rd:Option Nat):Key:=.lp 75002 [3,4,6,7,8,18,19,20,25,26] [] Z8o 95 rd
noncomputable def Z8p:ACode:=(.seq (rg 6 Z2r 36043 false) (.seq (.cond (.tmp 27) .skip (.exit 2)) (.seq (.join [(.normal,[3,4,18,19,20,25,26])] (.block 3 (.seq (rg 7 Z2r 576715 false) (.seq (.seq (rg 8 Z2r 2411723 false) (.cond (.tmp 32) (.exit 3) .skip)) (.seq (rg 9 Z2r 2936011 false) (.block 4 (.loop 75002 [3,4,6,7,8,18,19,20,25,26] [] [(.exit 4)] Z8o))))))) (rg 17 Z2r 249035 false))))
noncomputable def Zby (rd:Option Nat):Key:=.lp 75001 [3,4,18,19,20,25,26] [] Z8p 95 rd
noncomputable def Z8q:ACode:=(.seq (rg 3 Z2r 139 false) (.seq (.cond (.tmp 21) .skip (.exit 0)) (.seq (.block 1 (.seq (rg 4 Z2r 2251 false) (.seq (rg 5 Z2r 5323 false) (.block 2 (.loop 75001 [3,4,18,19,20,25,26] [] [(.exit 2)] Z8p))))) (rg 18 Z2r 971 false))))
noncomputable def Zbz (rd:Option Nat):Key:=.lp 75000 [3,18,19,20] [] Z8q 95 rd
noncomputable def Z8m:ACode:=(.seq (rg 21 Z2r 559 false) (.seq (.cond (.tmp 85) .skip (.exit 8)) (.seq (.block 9 (.seq (rg 22 Z2r 9007 false) (rg 23 Z2r 13103 false))) (rg 24 Z2r 3887 false))))
noncomputable def Zbv (rd:Option Nat):Key:=.lp 75004 [3,10,83,84] [] Z8m 95 rd
noncomputable def f75_c:ACode:=(.seq (rg 0 Z2r 2 false) (.seq (rg 1 Z2r 5 false) (.seq (.seq (rg 2 Z2r 19 false) (.block 0 (.loop 75000 [3,18,19,20] [] [(.exit 0)] Z8q))) (.seq (rg 19 Z2r 23 false) (.seq (.seq (rg 20 Z2r 79 false) (.block 8 (.loop 75004 [3,10,83,84] [] [(.exit 8)] Z8m))) (.seq (rg 25 Z2r 95 false) .ret))))))
noncomputable def Zn9:AFun:={ code:=f75_c,nt:=95,res:=Try.f75.results.toList,fr:=[] }
noncomputable def Z2f:Code:=Z0o Try.f76
noncomputable def Z8i:ACode:=(.seq (.seq (rg 13 Z2f 70857519 false) (.cond (.tmp 44) .skip (.exit 4))) (.seq (.join [(.normal,[1,2,3,4,8,9,10,11,12,13,14,15,16,19,20,21])] (.block 5 (.seq (.seq (rg 15 Z2f 557396783 false) (.cond (.tmp 49) (.exit 5) .skip)) (.seq (rg 16 Z2f 691614511 false) (.seq (rg 17 Z2f 1496920879 false) (.join [(.normal,[1,2,3,4,8,9,10,11,12,13,14,15,16,19,20,21])] (.cond (.tmp 66) (rg 18 Z2f 3107533615 false) (rg 19 Z2f 4181275439 false)))))))) (rg 14 Z2f 121189167 false)))
noncomputable def Zbs (rd:Option Nat):Key:=.lp 76002 [1,2,3,4,8,9,10,11,12,13,14,15,16,19,20,21] [] Z8i 98 rd
noncomputable def Z8j:ACode:=(.seq (.seq (rg 8 Z2f 275247 false) (.cond (.tmp 27) .skip (.exit 2))) (.seq (.join [(.normal,[1,2,3,4,8,9,10,11,12,13,14,15,19,20,21])] (.block 3 (.seq (.seq (rg 10 Z2f 2175791 false) (.cond (.tmp 38) (.exit 3) .skip)) (.seq (rg 11 Z2f 2700079 false) (.seq (rg 12 Z2f 5845807 false) (.block 4 (.loop 76002 [1,2,3,4,8,9,10,11,12,13,14,15,16,19,20,21] [] [(.exit 4)] Z8i))))))) (rg 9 Z2f 471855 false)))
noncomputable def Zbt (rd:Option Nat):Key:=.lp 76001 [1,2,3,4,8,9,10,11,12,13,14,15,19,20,21] [] Z8j 98 rd
noncomputable def Z8k:ACode:=(.seq (rg 5 Z2f 559 false) (.seq (.cond (.tmp 22) .skip (.exit 0)) (.seq (.block 1 (.seq (rg 6 Z2f 9007 false) (.seq (rg 7 Z2f 21295 false) (.block 2 (.loop 76001 [1,2,3,4,8,9,10,11,12,13,14,15,19,20,21] [] [(.exit 2)] Z8j))))) (rg 20 Z2f 3887 false))))
noncomputable def Zbu (rd:Option Nat):Key:=.lp 76000 [1,2,3,4,8,9,10,11,12,19,20,21] [] Z8k 98 rd
noncomputable def f76_c:ACode:=(.seq (rg 0 Z2f 2 false) (.seq (rg 1 Z2f 5 false) (.seq (rg 2 Z2f 11 false) (.seq (rg 3 Z2f 23 false) (.seq (.seq (rg 4 Z2f 79 false) (.block 0 (.loop 76000 [1,2,3,4,8,9,10,11,12,19,20,21] [] [(.exit 0)] Z8k))) (.seq (rg 21 Z2f 95 false) (.seq (rg 22 Z2f 191 false) (.seq (rg 23 Z2f 383 false) (.seq (rg 24 Z2f 767 false) (.seq (rg 25 Z2f 1535 false) (.seq (rg 26 Z2f 3071 false) .ret)))))))))))
noncomputable def Zn7:AFun:={ code:=f76_c,nt:=98,res:=Try.f76.results.toList,fr:=[] }
noncomputable def Z74:Code:=Z0o Try.f77
noncomputable def Z8e:ACode:=(.seq (rg 6 Z74 36043 false) (.seq (.cond (.tmp 17) .skip (.exit 2)) (.seq (.block 3 (.seq (rg 7 Z74 576715 false) (.seq (rg 8 Z74 1363147 false) (.join [(.normal,[3,9,10,11,15,16])] (.cond (.tmp 21) (rg 9 Z74 2936011 false) .skip))))) (rg 10 Z74 249035 false))))
noncomputable def Zbq (rd:Option Nat):Key:=.lp 77001 [3,9,10,11,15,16] [] Z8e 27 rd
noncomputable def Z8f:ACode:=(.seq (rg 3 Z74 139 false) (.seq (.cond (.tmp 12) .skip (.exit 0)) (.seq (.block 1 (.seq (rg 4 Z74 2251 false) (.seq (rg 5 Z74 5323 false) (.block 2 (.loop 77001 [3,9,10,11,15,16] [] [(.exit 2)] Z8e))))) (rg 11 Z74 971 false))))
noncomputable def Zbr (rd:Option Nat):Key:=.lp 77000 [3,9,10,11] [] Z8f 27 rd
noncomputable def f77_c:ACode:=(.seq (rg 0 Z74 2 false) (.seq (rg 1 Z74 5 false) (.seq (.seq (rg 2 Z74 19 false) (.block 0 (.loop 77000 [3,9,10,11] [] [(.exit 0)] Z8f))) (.seq (rg 12 Z74 23 false) .ret))))
noncomputable def Zn5:AFun:={ code:=f77_c,nt:=27,res:=Try.f77.results.toList,fr:=[] }
noncomputable def ZcX:Code:=Z0o Try.f80
noncomputable def Z8c:ACode:=(.seq (rg 3 ZcX 139 false) (.seq (.cond (.tmp 10) .skip (.exit 0)) (.seq (.block 1 (.seq (rg 4 ZcX 2251 false) (rg 5 ZcX 3275 false))) (rg 6 ZcX 971 false))))
noncomputable def Zbp (rd:Option Nat):Key:=.lp 80000 [3,8,9] [] Z8c 18 rd
noncomputable def f80_c:ACode:=(.seq (rg 0 ZcX 2 false) (.seq (rg 1 ZcX 5 false) (.seq (.seq (rg 2 ZcX 19 false) (.block 0 (.loop 80000 [3,8,9] [] [(.exit 0)] Z8c))) (.seq (rg 7 ZcX 23 false) .ret))))
noncomputable def Zn3:AFun:={ code:=f80_c,nt:=18,res:=Try.f80.results.toList,fr:=[] }
noncomputable def ZhQ:Code:=Z0o Try.f81
noncomputable def f81_c:ACode:=(.seq (rg 0 ZhQ 2 false) (.seq (rg 1 ZhQ 5 false) (.seq (rg 2 ZhQ 11 false) (.join [(.normal,[])] (.cond (.tmp 14) (rg 3 ZhQ 23 false) (rg 4 ZhQ 31 false))))))
noncomputable def Zn0:AFun:={ code:=f81_c,nt:=23,res:=Try.f81.results.toList,fr:=[] }
noncomputable def Z71:Code:=Z0o Try.f82
noncomputable def Z8a:ACode:=(.seq (rg 4 Z71 279 false) (.seq (.cond (.tmp 14) .skip (.exit 0)) (.seq (.block 1 (.seq (rg 5 Z71 4503 false) (.seq (rg 6 Z71 10647 false) (.seq (rg 7 Z71 22935 false) (.join [(.normal,[0,4,5,12,13])] (.cond (.tmp 21) (.seq (rg 8 Z71 80279 false) (rg 9 Z71 113047 false)) (rg 10 Z71 63895 false))))))) (rg 11 Z71 1943 false))))
noncomputable def Zbo (rd:Option Nat):Key:=.lp 82000 [0,4,5,12,13] [] Z8a 38 rd
noncomputable def f82_c:ACode:=(.seq (rg 0 Z71 2 false) (.seq (rg 1 Z71 5 false) (.seq (rg 2 Z71 11 false) (.seq (.seq (rg 3 Z71 39 false) (.block 0 (.loop 82000 [0,4,5,12,13] [] [(.exit 0)] Z8a))) (.seq (rg 12 Z71 47 false) .ret)))))
noncomputable def ZmY:AFun:={ code:=f82_c,nt:=38,res:=Try.f82.results.toList,fr:=[] }
noncomputable def Z70:Code:=Z0o Try.f83
noncomputable def Z3f:ACode:=(.seq (.seq (rg 4 Z70 535 false) (.cond (.tmp 10) .skip (.exit 0))) (.seq (.block 1 (.seq (rg 6 Z70 2199 false) (.seq (.seq (rg 7 Z70 9367 false) (.join [(.normal,[0,3,4,5,6])] (.cond (.tmp 28) (rg 8 Z70 21655 false) .skip))) (.seq (rg 9 Z70 11415 false) (.join [(.normal,[0,3,4,5])] (.cond (.tmp 34) (.seq (rg 10 Z70 40087 false) (rg 11 Z70 56471 false)) .skip)))))) (rg 5 Z70 919 false)))
noncomputable def ZhO (rd:Option Nat):Key:=.lp 83000 [0,3,4,5] [] Z3f 43 rd
noncomputable def f83_c:ACode:=(.seq (rg 0 Z70 2 false) (.seq (rg 1 Z70 5 false) (.seq (rg 2 Z70 11 false) (.seq (.seq (rg 3 Z70 39 false) (.block 0 (.loop 83000 [0,3,4,5] [] [(.exit 0)] Z3f))) (.seq (rg 12 Z70 47 false) .ret)))))
noncomputable def ZhP:AFun:={ code:=f83_c,nt:=43,res:=Try.f83.results.toList,fr:=[] }
noncomputable def Z9A:Code:=Z0o Try.f84
noncomputable def Z3e:ACode:=(.seq (.seq (rg 5 Z9A 535 false) (.cond (.tmp 27) .skip (.exit 0))) (.seq (.block 1 (.seq (.seq (rg 7 Z9A 4247 false) (.cond (.tmp 39) (.seq (rg 8 Z9A 18583 false) .ret) .skip)) (rg 9 Z9A 3223 false))) (rg 6 Z9A 919 false)))
noncomputable def ZhM (rd:Option Nat):Key:=.lp 84000 [0,2,3,4,5] [] Z3e 51 rd
noncomputable def f84_c:ACode:=(.seq (rg 0 Z9A 2 false) (.seq (.seq (rg 1 Z9A 9 false) (.cond (.tmp 23) (.seq (rg 2 Z9A 37 false) .ret) .skip)) (.seq (rg 3 Z9A 11 false) (.seq (.seq (rg 4 Z9A 39 false) (.block 0 (.loop 84000 [0,2,3,4,5] [] [(.exit 0),.ret] Z3e))) (.seq (rg 10 Z9A 47 false) .ret)))))
noncomputable def ZhN:AFun:={ code:=f84_c,nt:=51,res:=Try.f84.results.toList,fr:=[] }
noncomputable def ZaG:Code:=Z0o Try.f85
noncomputable def Z3c:ACode:=(.seq (rg 4 ZaG 4505 false) (.seq (.cond (.tmp 18) .skip (.exit 2)) (.seq (.block 3 (.seq (rg 5 ZaG 72089 false) (.seq (rg 6 ZaG 170393 false) (.cond (.tmp 27) .ret .skip)))) (rg 7 ZaG 31129 false))))
noncomputable def Z4m (rd:Option Nat):Key:=.lp 85001 [0,1,3,8,9,16,17] [] Z3c 30 rd
noncomputable def Z3d:ACode:=(.seq (rg 1 ZaG 17 false) (.seq (.cond (.tmp 10) .skip (.exit 0)) (.seq (.block 1 (.seq (rg 2 ZaG 281 false) (.seq (rg 3 ZaG 665 false) (.block 2 (.loop 85001 [0,1,3,8,9,16,17] [] [(.exit 2),.ret] Z3c))))) (rg 8 ZaG 121 false))))
noncomputable def Z4n (rd:Option Nat):Key:=.lp 85000 [0,1,8,9] [] Z3d 30 rd
noncomputable def f85_c:ACode:=(.seq (rg 0 ZaG 2 false) (.block 0 (.loop 85000 [0,1,8,9] [] [(.exit 0),.ret] Z3d)))
noncomputable def ZeA:AFun:={ code:=f85_c,nt:=30,res:=Try.f85.results.toList,fr:=[] }
noncomputable def Z2E:Code:=Z0o Try.f86
noncomputable def Z38:ACode:=(.seq (rg 13 Z2E 36863179 false) (.seq (.cond (.tmp 52) .skip (.exit 4)) (.seq (.join [(.normal,[0,2,3,5,6,7,18,19,50,51]),(.ret,[0,2,3,5,6,7,18,19,50,51])] (.block 5 (.seq (rg 14 Z2E 590511307 false) (.seq (.seq (rg 15 Z2E 2469559499 false) (.cond (.tmp 56) (.exit 5) .skip)) (.seq (rg 16 Z2E 3006430411 true) (.seq (rg 17 Z2E 6227655883 false) (.join [(.normal,[0,2,3,5,6,7,18,19,50,51]),(.ret,[0,2,3,5,6,7,18,19,50,51])] (.cond (.tmp 83) (.seq (rg 18 Z2E 21260041419 false) (rg 19 Z2E 29849976011 false)) (.seq (rg 20 Z2E 25555008715 false) (.cond (.tmp 97) (.seq (rg 21 Z2E 85684550859 false) .ret) .skip)))))))))) (rg 22 Z2E 254966987 false))))
noncomputable def Zbj (rd:Option Nat):Key:=.lp 86002 [0,2,3,5,6,7,18,19,50,51] [] Z38 100 rd
noncomputable def Z39:ACode:=(.seq (.seq (rg 9 Z2E 556235 false) (.cond (.tmp 35) .skip (.exit 2))) (.seq (.block 3 (.seq (rg 11 Z2E 2260171 true) (.seq (rg 12 Z2E 5405899 false) (.block 4 (.loop 86002 [0,2,3,5,6,7,18,19,50,51] [] [(.exit 4),.ret] Z38))))) (rg 10 Z2E 949451 false)))
noncomputable def Zbk (rd:Option Nat):Key:=.lp 86001 [0,2,3,5,6,18,19] [] Z39 100 rd
noncomputable def Z3a:ACode:=(.seq (rg 3 Z2E 139 false) (.seq (.cond (.tmp 20) .skip (.exit 0)) (.seq (.join [(.normal,[0,2,3,18,19]),(.ret,[0,2,3,18,19])] (.block 1 (.seq (rg 4 Z2E 2251 false) (.seq (.seq (rg 5 Z2E 9419 false) (.cond (.tmp 26) (.exit 1) .skip)) (.seq (rg 6 Z2E 11467 false) (.seq (rg 7 Z2E 23755 false) (.seq (rg 8 Z2E 48331 false) (.block 2 (.loop 86001 [0,2,3,5,6,18,19] [] [(.exit 2),.ret] Z39))))))))) (rg 23 Z2E 971 false))))
noncomputable def Zbl (rd:Option Nat):Key:=.lp 86000 [0,2,3,18,19] [] Z3a 100 rd
noncomputable def f86_c:ACode:=(.seq (rg 0 Z2E 2 false) (.seq (rg 1 Z2E 5 false) (.seq (.seq (rg 2 Z2E 19 false) (.block 0 (.loop 86000 [0,2,3,18,19] [] [(.exit 0),.ret] Z3a))) (.seq (rg 24 Z2E 23 false) .ret))))
noncomputable def Zez:AFun:={ code:=f86_c,nt:=100,res:=Try.f86.results.toList,fr:=[] }
noncomputable def ZjA:Code:=Z0o Try.f87
noncomputable def Z87:ACode:=(.seq (.seq (rg 1 ZjA 65 false) (.cond (.tmp 10) .skip (.exit 0))) (.block 1 (rg 2 ZjA 81 false)))
noncomputable def Zbh (rd:Option Nat):Key:=.lp 87000 [0,1] [] Z87 16 rd
noncomputable def f87_c:ACode:=(.seq (rg 0 ZjA 2 false) (.seq (.block 0 (.loop 87000 [0,1] [] [(.exit 0)] Z87)) (.seq (rg 3 ZjA 11 false) .ret)))
noncomputable def ZmU:AFun:={ code:=f87_c,nt:=16,res:=Try.f87.results.toList,fr:=[] }
noncomputable def ZcT:Code:=Z0o Try.f88
noncomputable def Z86:ACode:=(.seq (rg 2 ZcT 69 false) (.seq (.cond (.tmp 10) .skip (.exit 0)) (.seq (.block 1 (.seq (rg 3 ZcT 1125 false) (.seq (rg 4 ZcT 2661 false) (.cond (.tmp 15) (.seq (rg 5 ZcT 9829 false) .ret) .skip)))) (rg 6 ZcT 485 false))))
noncomputable def Zbg (rd:Option Nat):Key:=.lp 88000 [0,1,4,7,8,9] [] Z86 22 rd
noncomputable def f88_c:ACode:=(.seq (rg 0 ZcT 2 false) (.seq (.seq (rg 1 ZcT 9 false) (.block 0 (.loop 88000 [0,1,4,7,8,9] [] [(.exit 0),.ret] Z86))) (.seq (rg 7 ZcT 11 false) .ret)))
noncomputable def ZmS:AFun:={ code:=f88_c,nt:=22,res:=Try.f88.results.toList,fr:=[] }
noncomputable def Z1H:Code:=Z0o Try.f89
noncomputable def Z7Y:ACode:=(.seq (.seq (rg 16 Z1H 9113324747 false) (.cond (.tmp 63) .skip (.exit 6))) (.seq (.block 7 (rg 18 Z1H 19850742987 true)) (rg 17 Z1H 15555775691 false)))
noncomputable def Z7V (rd:Option Nat):Key:=.lp 89003 [1,2,3,6,7,8,9,10,12,13,14,23,24,25,34,35] [] Z7Y 118 rd
noncomputable def Z7Z:ACode:=(.seq (rg 9 Z1H 2247883 false) (.seq (.cond (.tmp 36) .skip (.exit 4)) (.seq (.join [(.normal,[1,2,3,6,7,8,9,10,23,24,25,34,35])] (.block 5 (.seq (rg 10 Z1H 36850891 false) (.seq (.seq (rg 11 Z1H 154291403 false) (.cond (.tmp 57) (.exit 5) .skip)) (.seq (rg 12 Z1H 187845835 false) (.seq (.seq (rg 13 Z1H 657607883 false) (.join [(.normal,[1,2,3,6,7,8,9,10,12,13,23,24,25,34,35])] (.cond (.tmp 61) (rg 14 Z1H 1462914251 false) .skip))) (.seq (rg 15 Z1H 791825611 false) (.block 6 (.loop 89003 [1,2,3,6,7,8,9,10,12,13,14,23,24,25,34,35] [] [(.exit 6)] Z7Y))))))))) (rg 19 Z1H 15879371 false))))
noncomputable def Zbd (rd:Option Nat):Key:=.lp 89002 [1,2,3,6,7,8,9,10,23,24,25,34,35] [] Z7Z 118 rd
noncomputable def Z80:ACode:=(.seq (.seq (rg 6 Z1H 68811 false) (.cond (.tmp 31) .skip (.exit 2))) (.seq (.block 3 (.seq (rg 8 Z1H 281803 false) (.block 4 (.loop 89002 [1,2,3,6,7,8,9,10,23,24,25,34,35] [] [(.exit 4)] Z7Z)))) (rg 7 Z1H 117963 false)))
noncomputable def Zbe (rd:Option Nat):Key:=.lp 89001 [1,2,3,6,7,8,9,10,23,24,25] [] Z80 118 rd
noncomputable def Z81:ACode:=(.seq (rg 3 Z1H 139 false) (.seq (.cond (.tmp 26) .skip (.exit 0)) (.seq (.block 1 (.seq (rg 4 Z1H 2251 false) (.seq (rg 5 Z1H 5323 false) (.block 2 (.loop 89001 [1,2,3,6,7,8,9,10,23,24,25] [] [(.exit 2)] Z80))))) (rg 20 Z1H 971 false))))
noncomputable def Zbf (rd:Option Nat):Key:=.lp 89000 [1,2,3,6,7,23,24,25] [] Z81 118 rd
noncomputable def Z7W:ACode:=(.seq (.seq (rg 25 Z1H 137623 false) (.cond (.tmp 98) .skip (.exit 10))) (.seq (.block 11 (.seq (rg 27 Z1H 563607 false) (.cond (.tmp 116) (.seq (rg 28 Z1H 2398615 false) .ret) .skip))) (rg 26 Z1H 235927 false)))
noncomputable def Zbb (rd:Option Nat):Key:=.lp 89005 [6,7,15,16,93,94] [] Z7W 118 rd
noncomputable def Z7X:ACode:=(.seq (rg 22 Z1H 279 false) (.seq (.cond (.tmp 95) .skip (.exit 8)) (.seq (.block 9 (.seq (rg 23 Z1H 4503 false) (.seq (rg 24 Z1H 10647 false) (.block 10 (.loop 89005 [6,7,15,16,93,94] [] [(.exit 10),.ret] Z7W))))) (rg 29 Z1H 1943 false))))
noncomputable def Zbc (rd:Option Nat):Key:=.lp 89004 [6,7,93,94] [] Z7X 118 rd
noncomputable def f89_c:ACode:=(.seq (rg 0 Z1H 2 false) (.seq (rg 1 Z1H 5 false) (.seq (.seq (rg 2 Z1H 19 false) (.block 0 (.loop 89000 [1,2,3,6,7,23,24,25] [] [(.exit 0)] Z81))) (.seq (.seq (rg 21 Z1H 39 false) (.block 8 (.loop 89004 [6,7,93,94] [] [(.exit 8),.ret] Z7X))) (.seq (rg 30 Z1H 47 false) .ret)))))
noncomputable def ZmQ:AFun:={ code:=f89_c,nt:=118,res:=Try.f89.results.toList,fr:=[] }
noncomputable def Zjy:Code:=Z0o Try.f91
noncomputable def f91_c:ACode:=(.seq (rg 0 Zjy 2 false) (.seq (.seq (rg 1 Zjy 9 false) (.cond (.tmp 5) (.seq (rg 2 Zjy 37 false) .ret) .skip)) (.seq (rg 3 Zjy 11 false) .ret)))
noncomputable def Zey:AFun:={ code:=f91_c,nt:=8,res:=Try.f91.results.toList,fr:=[] }
noncomputable def Z6V:Code:=Z0o Try.f92
noncomputable def Z36:ACode:=(.seq (rg 6 Z6V 36043 false) (.seq (.cond (.tmp 11) .skip (.exit 2)) (.seq (.block 3 (.seq (rg 7 Z6V 576715 false) (.seq (rg 8 Z6V 1363147 true) (.join [(.normal,[1,3,4,6,9,10])] (.cond (.tmp 19) (rg 9 Z6V 2936011 false) .skip))))) (rg 10 Z6V 249035 false))))
noncomputable def Zb9 (rd:Option Nat):Key:=.lp 92001 [1,3,4,6,9,10] [] Z36 25 rd
noncomputable def Z37:ACode:=(.seq (rg 3 Z6V 139 false) (.seq (.cond (.tmp 7) .skip (.exit 0)) (.seq (.block 1 (.seq (rg 4 Z6V 2251 false) (.seq (rg 5 Z6V 5323 false) (.block 2 (.loop 92001 [1,3,4,6,9,10] [] [(.exit 2)] Z36))))) (rg 11 Z6V 971 false))))
noncomputable def Zba (rd:Option Nat):Key:=.lp 92000 [1,3,6] [] Z37 25 rd
noncomputable def f92_c:ACode:=(.seq (rg 0 Z6V 2 false) (.seq (rg 1 Z6V 5 false) (.seq (.seq (rg 2 Z6V 19 false) (.block 0 (.loop 92000 [1,3,6] [] [(.exit 0)] Z37))) (.seq (rg 12 Z6V 23 false) .ret))))
noncomputable def Zex:AFun:={ code:=f92_c,nt:=25,res:=Try.f92.results.toList,fr:=[] }
noncomputable def bkT:BT AFun:=(.node 59 Zng (.node 37 Zi7 (.node 21 ZnG (.node 12 ZnJ (.node 10 Zid (.node 6 f6_f .leaf .leaf) (.node 11 Zf1 .leaf .leaf)) (.node 14 ZeZ (.node 13 Zf0 .leaf .leaf) (.node 16 ZeY .leaf .leaf))) (.node 25 Zny (.node 23 ZnC (.node 22 ZnE .leaf .leaf) (.node 24 ZnA .leaf .leaf)) (.node 27 ZeX (.node 26 Znw .leaf .leaf) (.node 28 Znu .leaf .leaf)))) (.node 45 ZeP (.node 41 ZeT (.node 39 ZeV (.node 38 ZeW .leaf .leaf) (.node 40 ZeU .leaf .leaf)) (.node 43 ZeR (.node 42 ZeS .leaf .leaf) (.node 44 ZeQ .leaf .leaf))) (.node 53 Znk (.node 51 Zno (.node 49 Znq .leaf .leaf) (.node 52 Znm .leaf .leaf)) (.node 55 Zni (.node 54 ZeO .leaf .leaf) (.node 56 ZeN .leaf .leaf))))) (.node 75 Zn9 (.node 67 ZeG (.node 63 ZeK (.node 61 ZeL (.node 60 ZeM .leaf .leaf) (.node 62 Zi0 .leaf .leaf)) (.node 65 ZeI (.node 64 ZeJ .leaf .leaf) (.node 66 ZeH .leaf .leaf))) (.node 71 ZeC (.node 69 ZeE (.node 68 ZeF .leaf .leaf) (.node 70 ZeD .leaf .leaf)) (.node 73 Znd (.node 72 ZeB .leaf .leaf) (.node 74 Znb .leaf .leaf)))) (.node 85 ZeA (.node 81 Zn0 (.node 77 Zn5 (.node 76 Zn7 .leaf .leaf) (.node 80 Zn3 .leaf .leaf)) (.node 83 ZhP (.node 82 ZmY .leaf .leaf) (.node 84 ZhN .leaf .leaf))) (.node 89 ZmQ (.node 87 ZmU (.node 86 Zez .leaf .leaf) (.node 88 ZmS .leaf .leaf)) (.node 92 Zex (.node 91 Zey .leaf .leaf) .leaf)))))
noncomputable def bk (f:FuncId):Option AFun:=bkT.look f
theorem bk_6:bk 6=some f6_f:=by kernel_rfl
theorem ok_6:Z0F P 6 f6_f:=⟨Try.f6,ZhR,Try.func6,rfl,by kernel_rfl,by kernel_rfl,rfl,rfl⟩
theorem bk_10:bk 10=some Zid:=by kernel_rfl
theorem ok_10:Z0F P 10 Zid:=⟨Try.f10,Zk3,Try.func10,rfl,by kernel_rfl,by kernel_rfl,rfl,rfl⟩
theorem bk_11:bk 11=some Zf1:=by kernel_rfl
theorem ok_11:Z0F P 11 Zf1:=⟨Try.f11,Zk2,Try.func11,rfl,by kernel_rfl,by kernel_rfl,rfl,rfl⟩
theorem bk_12:bk 12=some ZnJ:=by kernel_rfl
theorem ok_12:Z0F P 12 ZnJ:=⟨Try.f12,Zd4,Try.func12,rfl,by kernel_rfl,by kernel_rfl,rfl,rfl⟩
theorem bk_13:bk 13=some Zf0:=by kernel_rfl
theorem ok_13:Z0F P 13 Zf0:=⟨Try.f13,Z9C,Try.func13,rfl,by kernel_rfl,by kernel_rfl,rfl,rfl⟩
theorem bk_14:bk 14=some ZeZ:=by kernel_rfl
theorem ok_14:Z0F P 14 ZeZ:=⟨Try.f14,Z5C,Try.func14,rfl,by kernel_rfl,by kernel_rfl,rfl,rfl⟩
theorem bk_16:bk 16=some ZeY:=by kernel_rfl
theorem ok_16:Z0F P 16 ZeY:=⟨Try.f16,ZaK,Try.func16,rfl,by kernel_rfl,by kernel_rfl,rfl,rfl⟩
theorem bk_21:bk 21=some ZnG:=by kernel_rfl
theorem ok_21:Z0F P 21 ZnG:=⟨Try.f21,Zib,Try.func21,rfl,by kernel_rfl,by kernel_rfl,rfl,rfl⟩
theorem bk_22:bk 22=some ZnE:=by kernel_rfl
theorem ok_22:Z0F P 22 ZnE:=⟨Try.f22,Zia,Try.func22,rfl,by kernel_rfl,by kernel_rfl,rfl,rfl⟩
theorem bk_23:bk 23=some ZnC:=by kernel_rfl
theorem ok_23:Z0F P 23 ZnC:=⟨Try.f23,Zi9,Try.func23,rfl,by kernel_rfl,by kernel_rfl,rfl,rfl⟩
theorem bk_24:bk 24=some ZnA:=by kernel_rfl
theorem ok_24:Z0F P 24 ZnA:=⟨Try.f24,Zao,Try.func24,rfl,by kernel_rfl,by kernel_rfl,rfl,rfl⟩
theorem bk_25:bk 25=some Zny:=by kernel_rfl
theorem ok_25:Z0F P 25 Zny:=⟨Try.f25,Zi8,Try.func25,rfl,by kernel_rfl,by kernel_rfl,rfl,rfl⟩
theorem bk_26:bk 26=some Znw:=by kernel_rfl
theorem ok_26:Z0F P 26 Znw:=⟨Try.f26,Z2d,Try.func26,rfl,by kernel_rfl,by kernel_rfl,rfl,rfl⟩
theorem bk_27:bk 27=some ZeX:=by kernel_rfl
theorem ok_27:Z0F P 27 ZeX:=⟨Try.f27,Zd3,Try.func27,rfl,by kernel_rfl,by kernel_rfl,rfl,rfl⟩
theorem bk_28:bk 28=some Znu:=by kernel_rfl
theorem ok_28:Z0F P 28 Znu:=⟨Try.f28,Z9B,Try.func28,rfl,by kernel_rfl,by kernel_rfl,rfl,rfl⟩
theorem bk_37:bk 37=some Zi7:=by kernel_rfl
theorem ok_37:Z0F P 37 Zi7:=⟨Try.f37,Zns,Try.func37,rfl,by kernel_rfl,by kernel_rfl,rfl,rfl⟩
theorem bk_38:bk 38=some ZeW:=by kernel_rfl
theorem ok_38:Z0F P 38 ZeW:=⟨Try.f38,Z7r,Try.func38,rfl,by kernel_rfl,by kernel_rfl,rfl,rfl⟩
theorem bk_39:bk 39=some ZeV:=by kernel_rfl
theorem ok_39:Z0F P 39 ZeV:=⟨Try.f39,Z2c,Try.func39,rfl,by kernel_rfl,by kernel_rfl,rfl,rfl⟩
theorem bk_40:bk 40=some ZeU:=by kernel_rfl
theorem ok_40:Z0F P 40 ZeU:=⟨Try.f40,Z2b,Try.func40,rfl,by kernel_rfl,by kernel_rfl,rfl,rfl⟩
theorem bk_41:bk 41=some ZeT:=by kernel_rfl
theorem ok_41:Z0F P 41 ZeT:=⟨Try.f41,Z7q,Try.func41,rfl,by kernel_rfl,by kernel_rfl,rfl,rfl⟩
theorem bk_42:bk 42=some ZeS:=by kernel_rfl
theorem ok_42:Z0F P 42 ZeS:=⟨Try.f42,Z2F,Try.func42,rfl,by kernel_rfl,by kernel_rfl,rfl,rfl⟩
theorem bk_43:bk 43=some ZeR:=by kernel_rfl
theorem ok_43:Z0F P 43 ZeR:=⟨Try.f43,Zq5,Try.func43,rfl,by kernel_rfl,by kernel_rfl,rfl,rfl⟩
theorem bk_44:bk 44=some ZeQ:=by kernel_rfl
theorem ok_44:Z0F P 44 ZeQ:=⟨Try.f44,ZaJ,Try.func44,rfl,by kernel_rfl,by kernel_rfl,rfl,rfl⟩
theorem bk_45:bk 45=some ZeP:=by kernel_rfl
theorem ok_45:Z0F P 45 ZeP:=⟨Try.f45,ZaI,Try.func45,rfl,by kernel_rfl,by kernel_rfl,rfl,rfl⟩
theorem bk_49:bk 49=some Znq:=by kernel_rfl
theorem ok_49:Z0F P 49 Znq:=⟨Try.f49,Z7n,Try.func49,rfl,by kernel_rfl,by kernel_rfl,rfl,rfl⟩
theorem bk_51:bk 51=some Zno:=by kernel_rfl
theorem ok_51:Z0F P 51 Zno:=⟨Try.f51,Z1t,Try.func51,rfl,by kernel_rfl,by kernel_rfl,rfl,rfl⟩
theorem bk_52:bk 52=some Znm:=by kernel_rfl
theorem ok_52:Z0F P 52 Znm:=⟨Try.f52,Z2M,Try.func52,rfl,by kernel_rfl,by kernel_rfl,rfl,rfl⟩
theorem bk_53:bk 53=some Znk:=by kernel_rfl
theorem ok_53:Z0F P 53 Znk:=⟨Try.f53,Zi2,Try.func53,rfl,by kernel_rfl,by kernel_rfl,rfl,rfl⟩
theorem bk_54:bk 54=some ZeO:=by kernel_rfl
theorem ok_54:Z0F P 54 ZeO:=⟨Try.f54,Zq0,Try.func54,rfl,by kernel_rfl,by kernel_rfl,rfl,rfl⟩
theorem bk_55:bk 55=some Zni:=by kernel_rfl
theorem ok_55:Z0F P 55 Zni:=⟨Try.f55,Zan,Try.func55,rfl,by kernel_rfl,by kernel_rfl,rfl,rfl⟩
theorem bk_56:bk 56=some ZeN:=by kernel_rfl
theorem ok_56:Z0F P 56 ZeN:=⟨Try.f56,Zam,Try.func56,rfl,by kernel_rfl,by kernel_rfl,rfl,rfl⟩
theorem bk_59:bk 59=some Zng:=by kernel_rfl
theorem ok_59:Z0F P 59 Zng:=⟨Try.f59,Z5M,Try.func59,rfl,by kernel_rfl,by kernel_rfl,rfl,rfl⟩
theorem bk_60:bk 60=some ZeM:=by kernel_rfl
theorem ok_60:Z0F P 60 ZeM:=⟨Try.f60,Z6y,Try.func60,rfl,by kernel_rfl,by kernel_rfl,rfl,rfl⟩
theorem bk_61:bk 61=some ZeL:=by kernel_rfl
theorem ok_61:Z0F P 61 ZeL:=⟨Try.f61,ZaH,Try.func61,rfl,by kernel_rfl,by kernel_rfl,rfl,rfl⟩
theorem bk_62:bk 62=some Zi0:=by kernel_rfl
theorem ok_62:Z0F P 62 Zi0:=⟨Try.f62,Z1c,Try.func62,rfl,by kernel_rfl,by kernel_rfl,rfl,rfl⟩
theorem bk_63:bk 63=some ZeK:=by kernel_rfl
theorem ok_63:Z0F P 63 ZeK:=⟨Try.f63,ZpW,Try.func63,rfl,by kernel_rfl,by kernel_rfl,rfl,rfl⟩
theorem bk_64:bk 64=some ZeJ:=by kernel_rfl
theorem ok_64:Z0F P 64 ZeJ:=⟨Try.f64,ZcZ,Try.func64,rfl,by kernel_rfl,by kernel_rfl,rfl,rfl⟩
theorem bk_65:bk 65=some ZeI:=by kernel_rfl
theorem ok_65:Z0F P 65 ZeI:=⟨Try.f65,Z42,Try.func65,rfl,by kernel_rfl,by kernel_rfl,rfl,rfl⟩
theorem bk_66:bk 66=some ZeH:=by kernel_rfl
theorem ok_66:Z0F P 66 ZeH:=⟨Try.f66,ZcY,Try.func66,rfl,by kernel_rfl,by kernel_rfl,rfl,rfl⟩
theorem bk_67:bk 67=some ZeG:=by kernel_rfl
theorem ok_67:Z0F P 67 ZeG:=⟨Try.f67,ZpV,Try.func67,rfl,by kernel_rfl,by kernel_rfl,rfl,rfl⟩
theorem bk_68:bk 68=some ZeF:=by kernel_rfl
theorem ok_68:Z0F P 68 ZeF:=⟨Try.f68,ZhS,Try.func68,rfl,by kernel_rfl,by kernel_rfl,rfl,rfl⟩
theorem bk_69:bk 69=some ZeE:=by kernel_rfl
theorem ok_69:Z0F P 69 ZeE:=⟨Try.f69,ZpU,Try.func69,rfl,by kernel_rfl,by kernel_rfl,rfl,rfl⟩
theorem bk_70:bk 70=some ZeD:=by kernel_rfl
theorem ok_70:Z0F P 70 ZeD:=⟨Try.f70,ZpS,Try.func70,rfl,by kernel_rfl,by kernel_rfl,rfl,rfl⟩
theorem bk_71:bk 71=some ZeC:=by kernel_rfl
theorem ok_71:Z0F P 71 ZeC:=⟨Try.f71,ZpR,Try.func71,rfl,by kernel_rfl,by kernel_rfl,rfl,rfl⟩
theorem bk_72:bk 72=some ZeB:=by kernel_rfl
theorem ok_72:Z0F P 72 ZeB:=⟨Try.f72,ZpQ,Try.func72,rfl,by kernel_rfl,by kernel_rfl,rfl,rfl⟩
theorem bk_73:bk 73=some Znd:=by kernel_rfl
theorem ok_73:Z0F P 73 Znd:=⟨Try.f73,Z5B,Try.func73,rfl,by kernel_rfl,by kernel_rfl,rfl,rfl⟩
theorem bk_74:bk 74=some Znb:=by kernel_rfl
theorem ok_74:Z0F P 74 Znb:=⟨Try.f74,Z7b,Try.func74,rfl,by kernel_rfl,by kernel_rfl,rfl,rfl⟩
theorem bk_75:bk 75=some Zn9:=by kernel_rfl
theorem ok_75:Z0F P 75 Zn9:=⟨Try.f75,Z2r,Try.func75,rfl,by kernel_rfl,by kernel_rfl,rfl,rfl⟩
theorem bk_76:bk 76=some Zn7:=by kernel_rfl
theorem ok_76:Z0F P 76 Zn7:=⟨Try.f76,Z2f,Try.func76,rfl,by kernel_rfl,by kernel_rfl,rfl,rfl⟩
theorem bk_77:bk 77=some Zn5:=by kernel_rfl
theorem ok_77:Z0F P 77 Zn5:=⟨Try.f77,Z74,Try.func77,rfl,by kernel_rfl,by kernel_rfl,rfl,rfl⟩
theorem bk_80:bk 80=some Zn3:=by kernel_rfl
theorem ok_80:Z0F P 80 Zn3:=⟨Try.f80,ZcX,Try.func80,rfl,by kernel_rfl,by kernel_rfl,rfl,rfl⟩
theorem bk_81:bk 81=some Zn0:=by kernel_rfl
theorem ok_81:Z0F P 81 Zn0:=⟨Try.f81,ZhQ,Try.func81,rfl,by kernel_rfl,by kernel_rfl,rfl,rfl⟩
theorem bk_82:bk 82=some ZmY:=by kernel_rfl
theorem ok_82:Z0F P 82 ZmY:=⟨Try.f82,Z71,Try.func82,rfl,by kernel_rfl,by kernel_rfl,rfl,rfl⟩
theorem bk_83:bk 83=some ZhP:=by kernel_rfl
theorem ok_83:Z0F P 83 ZhP:=⟨Try.f83,Z70,Try.func83,rfl,by kernel_rfl,by kernel_rfl,rfl,rfl⟩
theorem bk_84:bk 84=some ZhN:=by kernel_rfl
theorem ok_84:Z0F P 84 ZhN:=⟨Try.f84,Z9A,Try.func84,rfl,by kernel_rfl,by kernel_rfl,rfl,rfl⟩
theorem bk_85:bk 85=some ZeA:=by kernel_rfl
theorem ok_85:Z0F P 85 ZeA:=⟨Try.f85,ZaG,Try.func85,rfl,by kernel_rfl,by kernel_rfl,rfl,rfl⟩
theorem bk_86:bk 86=some Zez:=by kernel_rfl
theorem ok_86:Z0F P 86 Zez:=⟨Try.f86,Z2E,Try.func86,rfl,by kernel_rfl,by kernel_rfl,rfl,rfl⟩
theorem bk_87:bk 87=some ZmU:=by kernel_rfl
theorem ok_87:Z0F P 87 ZmU:=⟨Try.f87,ZjA,Try.func87,rfl,by kernel_rfl,by kernel_rfl,rfl,rfl⟩
theorem bk_88:bk 88=some ZmS:=by kernel_rfl
theorem ok_88:Z0F P 88 ZmS:=⟨Try.f88,ZcT,Try.func88,rfl,by kernel_rfl,by kernel_rfl,rfl,rfl⟩
theorem bk_89:bk 89=some ZmQ:=by kernel_rfl
theorem ok_89:Z0F P 89 ZmQ:=⟨Try.f89,Z1H,Try.func89,rfl,by kernel_rfl,by kernel_rfl,rfl,rfl⟩
theorem bk_91:bk 91=some Zey:=by kernel_rfl
theorem ok_91:Z0F P 91 Zey:=⟨Try.f91,Zjy,Try.func91,rfl,by kernel_rfl,by kernel_rfl,rfl,rfl⟩
theorem bk_92:bk 92=some Zex:=by kernel_rfl
theorem ok_92:Z0F P 92 Zex:=⟨Try.f92,Z6V,Try.func92,rfl,by kernel_rfl,by kernel_rfl,rfl,rfl⟩
theorem bk_ok:Z7E P bk:=fun f a e=>BT.look_all (Q:=Z0F P) (t:=bkT) (ai ok_59 (ai (ai ok_37 (ai (ai ok_21 (ai (ai ok_12 (ai (ai ok_10 (ai (ai ok_6 (ai tt tt)) (ai ok_11 (ai tt tt)))) (ai ok_14 (ai (ai ok_13 (ai tt tt)) (ai ok_16 (ai tt tt)))))) (ai ok_25 (ai (ai ok_23 (ai (ai ok_22 (ai tt tt)) (ai ok_24 (ai tt tt)))) (ai ok_27 (ai (ai ok_26 (ai tt tt)) (ai ok_28 (ai tt tt)))))))) (ai ok_45 (ai (ai ok_41 (ai (ai ok_39 (ai (ai ok_38 (ai tt tt)) (ai ok_40 (ai tt tt)))) (ai ok_43 (ai (ai ok_42 (ai tt tt)) (ai ok_44 (ai tt tt)))))) (ai ok_53 (ai (ai ok_51 (ai (ai ok_49 (ai tt tt)) (ai ok_52 (ai tt tt)))) (ai ok_55 (ai (ai ok_54 (ai tt tt)) (ai ok_56 (ai tt tt)))))))))) (ai ok_75 (ai (ai ok_67 (ai (ai ok_63 (ai (ai ok_61 (ai (ai ok_60 (ai tt tt)) (ai ok_62 (ai tt tt)))) (ai ok_65 (ai (ai ok_64 (ai tt tt)) (ai ok_66 (ai tt tt)))))) (ai ok_71 (ai (ai ok_69 (ai (ai ok_68 (ai tt tt)) (ai ok_70 (ai tt tt)))) (ai ok_73 (ai (ai ok_72 (ai tt tt)) (ai ok_74 (ai tt tt)))))))) (ai ok_85 (ai (ai ok_81 (ai (ai ok_77 (ai (ai ok_76 (ai tt tt)) (ai ok_80 (ai tt tt)))) (ai ok_83 (ai (ai ok_82 (ai tt tt)) (ai ok_84 (ai tt tt)))))) (ai ok_89 (ai (ai ok_87 (ai (ai ok_86 (ai tt tt)) (ai ok_88 (ai tt tt)))) (ai ok_92 (ai (ai ok_91 (ai tt tt)) tt)))))))))) e
theorem mixed:P.follows .mixedOrders=true:=by kernel_rfl
def selF:List Nat:=[63,85,57,78,11,35,29,39,40,41,60,66,21,33,34,51,59,73,74,75,80,82,88,15,18,19,20,30,62,83,17,37]
def selL:List Nat:=[14000,14001,15000,15002,16000,17002,17003,18000,18001,19000,19001,24000,24001,26000,26001,26002,26003,27000,3000,3001,3002,3003,31000,31001,32000,34001,34002,36000,39001,4000,40000,40001,40002,40003,4001,4002,4003,41000,42000,42001,42002,42003,44000,45000,46000,47000,49000,49001,50000,51001,51002,52000,52001,55000,56000,59000,59001,59002,61000,62001,62002,64000,65000,65001,66000,68000,7000,7001,73000,73001,73002,74000,74001,75000,75001,75002,75003,75004,77000,77001,8000,80000,82000,84000,87000,88000,89000,89001,89002,89003,89004,89005,92000,92001]
def ZqD (x:Nat):List Nat->Bool
 | []=>false
 | y::ys=>cond (Nat.beq x y) true (ZqD x ys)
def sel:Key->Bool
 | .fn f=>!(ZqD f selF)
 | .lp j _ _ _ _ _=>ZqD j selL
 | .rnd ..=>false
noncomputable def ext:Fo FH:=fun f args h c=>match args with
 | []=>cond (ZqD f [10]) (some { e:=.ret,vs:=[.bool true],h:=h,c:=c,df:=[] }) none
 | _=>none
noncomputable abbrev G:Orc FH:=Z7N P bk sel ext
end Go.Proofs.Ytdodippbpdechaa
