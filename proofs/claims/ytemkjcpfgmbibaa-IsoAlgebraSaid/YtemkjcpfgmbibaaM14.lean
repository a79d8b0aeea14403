/- Parts of a proof: E C1 C2. Conditions: none. -/
import Derived.Test.YtemkjcpfgmbibaaM10
import Derived.Test.YtemkjcpfgmbibaaM11
import Derived.Test.YtemkjcpfgmbibaaM12
import Derived.Test.YtemkjcpfgmbibaaM13
import Derived.Test.YtemkjcpfgmbibaaM7
set_option linter.all false
set_option maxRecDepth 100000
namespace Go.Proofs.Ytemkjcpfgmbibaa
open Go Go.Ab Go.Proofs
variable {H:Type} [HeapC H]
noncomputable def K:LB:={ loop:=fun j=>BT.look ((.node 60000 ([2,3,6,7],Z1c,23) (.node 42000 ([1,2,3,4,23,24,25],Z34,55) (.node 33000 ([0,3,4],Z3a,25) (.node 22001 ([7,24,25,26,30,31],Z3g,46) (.node 22000 ([7,24,25,26],Z3h,46) (.node 10000 ([2,3,9,46,47],Z3j,67) .leaf .leaf) .leaf) (.node 31000 ([2,6,7,8],Z3b,18) (.node 26000 ([0,1,4,5],Z3c,26) .leaf .leaf) .leaf)) (.node 40000 ([1,2,3,6,7,9,10,11,49,50,51],Z37,139) (.node 35001 ([4,5,8,9,10,11,12,13,14,15,53,54],Z38,157) (.node 35000 ([4,5,8,9,10,11,12,13,14],Z39,157) .leaf .leaf) .leaf) (.node 40002 ([2,3,6,10,14,15,16,17,78,79,80,85],Z35,139) (.node 40001 ([2,3,6,10,14,78,79,80],Z36,139) .leaf .leaf) .leaf))) (.node 49002 ([2,3,4,5,7,8,10,13,14,15,25,26,27,31],Z2Y,76) (.node 46000 ([1,2,3,16,17,18],Z31,40) (.node 43000 ([2,3,4,5,9,10,11],Z32,44) (.node 42001 ([2,45,46,47],Z33,55) .leaf .leaf) .leaf) (.node 49001 ([2,3,4,5,7,8,13,14,15,25,26,27],Z2Z,76) (.node 49000 ([2,3,4,5,13,14,15],Z30,76) .leaf .leaf) .leaf)) (.node 58002 ([1,4,6,8,9,26,27],Z2U,85) (.node 58001 ([1,4,6,26,27],Z2V,85) (.node 58000 ([1,4,17,18],Z2W,85) .leaf .leaf) .leaf) (.node 59000 ([0,4],Z2S,27) (.node 58003 ([1,4,6,8,9,26,27,54,55],Z2T,85) .leaf .leaf) .leaf)))) (.node 81000 ([0,1,2,6,7,8],Z2F,63) (.node 76000 ([0,1,2,6,11,12,13],Z2L,39) (.node 68000 ([1,5,15,16,17],Z2P,49) (.node 67000 ([0,1,4,12,13],Z2R,26) (.node 66000 ([2,3,6,7],Z1b,16) .leaf .leaf) .leaf) (.node 73000 ([3,8,9,10,11],Z2M,67) (.node 72000 ([0,1,4,7,8],Z2N,19) .leaf .leaf) .leaf)) (.node 78000 ([0,1,8,9],Z2I,30) (.node 77001 ([2,3,4,5,10,31],Z2J,62) (.node 77000 ([2,3,4,10],Z2K,62) .leaf .leaf) .leaf) (.node 80000 ([0,1,4,5,12],Z2G,99) (.node 78001 ([0,1,3,8,9,16,17],Z2H,30) .leaf .leaf) .leaf))) (.node 83001 ([0,10,13],Z2z,220) (.node 82000 ([0,1,2,3,8],Z2C,53) (.node 81002 ([0,1,2,6,7,8],Z2D,63) (.node 81001 ([0,1,2,6],Z2E,63) .leaf .leaf) .leaf) (.node 83000 ([0,1,4,10,11],Z2A,220) (.node 82001 ([0,1,2,3,8,9],Z2B,53) .leaf .leaf) .leaf)) (.node 83004 ([0,1,2,3,4,18,19,20,21,22],Z2w,220) (.node 83003 ([0,14,17],Z2x,220) (.node 83002 ([0,2,4,14,15],Z2y,220) .leaf .leaf) .leaf) (.node 85000 ([0,1,2,3,10],Z2u,38) (.node 84000 ([0,2,4,10,11],Z2v,58) .leaf .leaf) .leaf))))):BT (List Nat × ACode × Nat)) j,rng:=fun nt ps=>Zhg nt ps [(67,[51],([2,3,9,10],Z3k,Z3i)),(71,[13,14],([1,2,3],Z1p,Z1o)),(49,[30],([1,5,6,7],Z2Q,Z2O))] }
theorem Zer:K.loop 10000=some ([2,3,9,46,47],Z3j,67):=by kernel_rfl
theorem Zeq:K.loop 22000=some ([7,24,25,26],Z3h,46):=by kernel_rfl
theorem Zep:K.loop 22001=some ([7,24,25,26,30,31],Z3g,46):=by kernel_rfl
theorem Zeo:K.loop 26000=some ([0,1,4,5],Z3c,26):=by kernel_rfl
theorem Zen:K.loop 31000=some ([2,6,7,8],Z3b,18):=by kernel_rfl
theorem Zem:K.loop 33000=some ([0,3,4],Z3a,25):=by kernel_rfl
theorem Zel:K.loop 35000=some ([4,5,8,9,10,11,12,13,14],Z39,157):=by kernel_rfl
theorem Zek:K.loop 35001=some ([4,5,8,9,10,11,12,13,14,15,53,54],Z38,157):=by kernel_rfl
theorem Zej:K.loop 40000=some ([1,2,3,6,7,9,10,11,49,50,51],Z37,139):=by kernel_rfl
theorem Zei:K.loop 40001=some ([2,3,6,10,14,78,79,80],Z36,139):=by kernel_rfl
theorem Zeh:K.loop 40002=some ([2,3,6,10,14,15,16,17,78,79,80,85],Z35,139):=by kernel_rfl
theorem Zeg:K.loop 42000=some ([1,2,3,4,23,24,25],Z34,55):=by kernel_rfl
theorem Zef:K.loop 42001=some ([2,45,46,47],Z33,55):=by kernel_rfl
theorem Zee:K.loop 43000=some ([2,3,4,5,9,10,11],Z32,44):=by kernel_rfl
theorem Zed:K.loop 46000=some ([1,2,3,16,17,18],Z31,40):=by kernel_rfl
theorem Zec:K.loop 49000=some ([2,3,4,5,13,14,15],Z30,76):=by kernel_rfl
theorem Zeb:K.loop 49001=some ([2,3,4,5,7,8,13,14,15,25,26,27],Z2Z,76):=by kernel_rfl
theorem Zea:K.loop 49002=some ([2,3,4,5,7,8,10,13,14,15,25,26,27,31],Z2Y,76):=by kernel_rfl
theorem Ze9:K.loop 58000=some ([1,4,17,18],Z2W,85):=by kernel_rfl
theorem Ze8:K.loop 58001=some ([1,4,6,26,27],Z2V,85):=by kernel_rfl
theorem Ze7:K.loop 58002=some ([1,4,6,8,9,26,27],Z2U,85):=by kernel_rfl
theorem Ze6:K.loop 58003=some ([1,4,6,8,9,26,27,54,55],Z2T,85):=by kernel_rfl
theorem Ze5:K.loop 59000=some ([0,4],Z2S,27):=by kernel_rfl
theorem Ze4:K.loop 60000=some ([2,3,6,7],Z1c,23):=by kernel_rfl
theorem Ze3:K.loop 66000=some ([2,3,6,7],Z1b,16):=by kernel_rfl
theorem Ze2:K.loop 67000=some ([0,1,4,12,13],Z2R,26):=by kernel_rfl
theorem Ze1:K.loop 68000=some ([1,5,15,16,17],Z2P,49):=by kernel_rfl
theorem Ze0:K.loop 72000=some ([0,1,4,7,8],Z2N,19):=by kernel_rfl
theorem ZdZ:K.loop 73000=some ([3,8,9,10,11],Z2M,67):=by kernel_rfl
theorem ZdY:K.loop 76000=some ([0,1,2,6,11,12,13],Z2L,39):=by kernel_rfl
theorem ZdX:K.loop 77000=some ([2,3,4,10],Z2K,62):=by kernel_rfl
theorem ZdW:K.loop 77001=some ([2,3,4,5,10,31],Z2J,62):=by kernel_rfl
theorem ZdV:K.loop 78000=some ([0,1,8,9],Z2I,30):=by kernel_rfl
theorem ZdU:K.loop 78001=some ([0,1,3,8,9,16,17],Z2H,30):=by kernel_rfl
theorem ZdT:K.loop 80000=some ([0,1,4,5,12],Z2G,99):=by kernel_rfl
theorem ZdS:K.loop 81000=some ([0,1,2,6,7,8],Z2F,63):=by kernel_rfl
theorem ZdR:K.loop 81001=some ([0,1,2,6],Z2E,63):=by kernel_rfl
theorem ZdQ:K.loop 81002=some ([0,1,2,6,7,8],Z2D,63):=by kernel_rfl
theorem ZdP:K.loop 82000=some ([0,1,2,3,8],Z2C,53):=by kernel_rfl
theorem ZdO:K.loop 82001=some ([0,1,2,3,8,9],Z2B,53):=by kernel_rfl
theorem ZdN:K.loop 83000=some ([0,1,4,10,11],Z2A,220):=by kernel_rfl
theorem ZdM:K.loop 83001=some ([0,10,13],Z2z,220):=by kernel_rfl
theorem ZdL:K.loop 83002=some ([0,2,4,14,15],Z2y,220):=by kernel_rfl
theorem ZdK:K.loop 83003=some ([0,14,17],Z2x,220):=by kernel_rfl
theorem ZdJ:K.loop 83004=some ([0,1,2,3,4,18,19,20,21,22],Z2w,220):=by kernel_rfl
theorem ZdI:K.loop 84000=some ([0,2,4,10,11],Z2v,58):=by kernel_rfl
theorem ZdH:K.loop 85000=some ([0,1,2,3,10],Z2u,38):=by kernel_rfl
theorem ZdG:K.rng 67 [51]=some ([2,3,9,10],Z3k,Z3i):=by kernel_rfl
theorem ZdE:K.rng 49 [30]=some ([1,5,6,7],Z2Q,Z2O):=by kernel_rfl
theorem ZdF:K.rng 71 [13,14]=some ([1,2,3],Z1p,Z1o):=by kernel_rfl
theorem Zku:Z05 K 67 Z3j:=(ai tt (ai (ai tt tt) (ai (ai tt (ai tt (ai rfl ZdG))) tt)))
theorem ZjG:LE (H:=H) P K 10000 (fun o rd vs h c df=>match vs with | [t2,t3,t9,t46,t47]=>Z7o o rd t2 t3 t9 t46 t47 h c df | _=>none):=by
 intro lin b nt hk
 rw [Zer] at hk
 cases hk
 refine ⟨Zku,fun o rd vs h c df q e=>?_⟩
 dsimp only at e
 split at e
 · exact (Zbe o rd _ _ _ _ _ h c df).trans e
 · cases e
theorem Zkx:Z05 K 67 Z3k:=tt
theorem Zkt:Z05 K 67 Z3i:=(ai tt (ai tt (ai tt tt)))
theorem ZiN:RE (H:=H) P K 67 [51] (fun o l vs h c=>match vs with | [t51,t2,t3,t9,t10]=>Z7n o l t51 t2 t3 t9 t10 h c | _=>none):=by
 intro lin a b hk
 rw [ZdG] at hk
 cases hk
 refine ⟨Zkx,Zkt,fun o l vs h c r e=>?_⟩
 dsimp only at e
 split at e
 · exact (Zbd o l _ _ _ _ _ h c).trans e
 · cases e
theorem ck_10:Z05 K Zgp.nt Zgp.code:=(ai tt (ai (ai tt (ai tt (ai (ai tt tt) tt))) (ai tt (ai (ai tt (ai (ai tt tt) tt)) (ai (ai tt (ai (ai tt tt) tt)) (ai (ai tt (ai (ai tt tt) tt)) (ai tt (ai (ai tt (ai rfl Zer)) (ai tt tt)))))))))
theorem fe_10:FE (H:=H) P bk K 10 (fun o vs h c=>match vs with | [t0,t1]=>ZnC o t0 t1 h c | _=>none):=by
 refine ⟨Zgp,bk_10,rfl,ck_10,fun o vs h c r e=>?_⟩
 dsimp only at e
 split at e
 · exact ⟨rfl,(Zlo o _ _ h c).trans e⟩
 · cases e
theorem ck_13:Z05 K Zgn.nt Zgn.code:=(ai tt (ai tt (ai tt (ai tt (ai tt (ai tt (ai tt (ai tt tt))))))))
theorem fe_13:FE (H:=H) P bk K 13 (fun o vs h c=>match vs with | []=>ZnA o h c | _=>none):=by
 refine ⟨Zgn,bk_13,rfl,ck_13,fun o vs h c r e=>?_⟩
 dsimp only at e
 split at e
 · exact ⟨rfl,(Zll o h c).trans e⟩
 · cases e
theorem ck_14:Z05 K Zd2.nt Zd2.code:=(ai tt (ai (ai tt (ai tt (ai (ai tt tt) tt))) (ai tt (ai (ai tt (ai (ai tt tt) tt)) (ai tt tt)))))
theorem fe_14:FE (H:=H) P bk K 14 (fun o vs h c=>match vs with | [t0,t1,t2]=>Zi2 o t0 t1 t2 h c | _=>none):=by
 refine ⟨Zd2,bk_14,rfl,ck_14,fun o vs h c r e=>?_⟩
 dsimp only at e
 split at e
 · exact ⟨rfl,(ZeQ o _ _ _ h c).trans e⟩
 · cases e
theorem ck_16:Z05 K Zd1.nt Zd1.code:=(ai tt (ai (ai tt (ai (ai tt tt) tt)) (ai tt tt)))
theorem fe_16:FE (H:=H) P bk K 16 (fun o vs h c=>match vs with | [t0,t1]=>Zi1 o t0 t1 h c | _=>none):=by
 refine ⟨Zd1,bk_16,rfl,ck_16,fun o vs h c r e=>?_⟩
 dsimp only at e
 split at e
 · exact ⟨rfl,(ZeP o _ _ h c).trans e⟩
 · cases e
theorem Zkr:Z05 K 46 Z3g:=(ai tt (ai (ai tt tt) (ai (ai tt (ai tt tt)) tt)))
theorem ZjE:LE (H:=H) P K 22001 (fun o rd vs h c df=>match vs with | [t7,t24,t25,t26,t30,t31]=>Z79 o rd t7 t24 t25 t26 t30 t31 h c df | _=>none):=by
 intro lin b nt hk
 rw [Zep] at hk
 cases hk
 refine ⟨Zkr,fun o rd vs h c df q e=>?_⟩
 dsimp only at e
 split at e
 · exact (Zb9 o rd _ _ _ _ _ _ h c df).trans e
 · cases e
theorem Zks:Z05 K 46 Z3h:=(ai tt (ai (ai tt tt) (ai (ai tt (ai tt (ai rfl Zep))) tt)))
theorem ZjF:LE (H:=H) P K 22000 (fun o rd vs h c df=>match vs with | [t7,t24,t25,t26]=>Z7a o rd t7 t24 t25 t26 h c df | _=>none):=by
 intro lin b nt hk
 rw [Zeq] at hk
 cases hk
 refine ⟨Zks,fun o rd vs h c df q e=>?_⟩
 dsimp only at e
 split at e
 · exact (Zba o rd _ _ _ _ h c df).trans e
 · cases e
theorem ck_22:Z05 K Zgm.nt Zgm.code:=(ai tt (ai (ai tt (ai tt (ai (ai tt tt) tt))) (ai tt (ai tt (ai (ai tt (ai rfl Zeq)) (ai tt tt))))))
theorem fe_22:FE (H:=H) P bk K 22 (fun o vs h c=>match vs with | [t0]=>Znv o t0 h c | _=>none):=by
 refine ⟨Zgm,bk_22,rfl,ck_22,fun o vs h c r e=>?_⟩
 dsimp only at e
 split at e
 · exact ⟨rfl,(Zlc o _ h c).trans e⟩
 · cases e
theorem Zkq:Z05 K 26 Z3c:=(ai (ai tt (ai tt tt)) (ai (ai tt (ai (ai tt tt) tt)) tt))
theorem ZjD:LE (H:=H) P K 26000 (fun o rd vs h c df=>match vs with | [t0,t1,t4,t5]=>Z44 o rd t0 t1 t4 t5 h c df | _=>none):=by
 intro lin b nt hk
 rw [Zeo] at hk
 cases hk
 refine ⟨Zkq,fun o rd vs h c df q e=>?_⟩
 dsimp only at e
 split at e
 · exact (Z4r o rd _ _ _ _ h c df).trans e
 · cases e
theorem ck_26:Z05 K Zd0.nt Zd0.code:=(ai tt (ai (ai tt (ai (ai tt tt) tt)) (ai (ai tt (ai rfl Zeo)) (ai tt tt))))
theorem fe_26:FE (H:=H) P bk K 26 (fun o vs h c=>match vs with | [t0,t1]=>ZhY o t0 t1 h c | _=>none):=by
 refine ⟨Zd0,bk_26,rfl,ck_26,fun o vs h c r e=>?_⟩
 dsimp only at e
 split at e
 · exact ⟨rfl,(ZeO o _ _ h c).trans e⟩
 · cases e
theorem ck_28:Z05 K Zgj.nt Zgj.code:=(ai tt (ai (ai tt (ai tt (ai (ai tt tt) tt))) (ai tt (ai tt (ai (ai tt (ai (ai tt tt) tt)) (ai tt tt))))))
theorem fe_28:FE (H:=H) P bk K 28 (fun o vs h c=>match vs with | [t0,t1]=>Znt o t0 t1 h c | _=>none):=by
 refine ⟨Zgj,bk_28,rfl,ck_28,fun o vs h c r e=>?_⟩
 dsimp only at e
 split at e
 · exact ⟨rfl,(Zl9 o _ _ h c).trans e⟩
 · cases e
theorem Zkp:Z05 K 18 Z3b:=(ai tt (ai (ai tt tt) (ai (ai tt (ai tt (ai tt (ai (ai tt tt) tt)))) tt)))
theorem ZjC:LE (H:=H) P K 31000 (fun o rd vs h c df=>match vs with | [t2,t6,t7,t8]=>Z43 o rd t2 t6 t7 t8 h c df | _=>none):=by
 intro lin b nt hk
 rw [Zen] at hk
 cases hk
 refine ⟨Zkp,fun o rd vs h c df q e=>?_⟩
 dsimp only at e
 split at e
 · exact (Z4q o rd _ _ _ _ h c df).trans e
 · cases e
theorem ck_31:Z05 K ZcZ.nt ZcZ.code:=(ai tt (ai (ai tt (ai rfl Zen)) (ai tt tt)))
theorem fe_31:FE (H:=H) P bk K 31 (fun o vs h c=>match vs with | [t0]=>ZhX o t0 h c | _=>none):=by
 refine ⟨ZcZ,bk_31,rfl,ck_31,fun o vs h c r e=>?_⟩
 dsimp only at e
 split at e
 · exact ⟨rfl,(ZeN o _ h c).trans e⟩
 · cases e
theorem ck_32:Z05 K Zgi.nt Zgi.code:=(ai tt (ai (ai tt (ai tt (ai (ai tt tt) tt))) (ai tt (ai tt tt))))
theorem fe_32:FE (H:=H) P bk K 32 (fun o vs h c=>match vs with | [t0]=>Zns o t0 h c | _=>none):=by
 refine ⟨Zgi,bk_32,rfl,ck_32,fun o vs h c r e=>?_⟩
 dsimp only at e
 split at e
 · exact ⟨rfl,(Zl8 o _ h c).trans e⟩
 · cases e
theorem Zko:Z05 K 25 Z3a:=(ai (ai tt (ai tt tt)) (ai tt tt))
theorem ZjB:LE (H:=H) P K 33000 (fun o rd vs h c df=>match vs with | [t0,t3,t4]=>Z76 o rd t0 t3 t4 h c df | _=>none):=by
 intro lin b nt hk
 rw [Zem] at hk
 cases hk
 refine ⟨Zko,fun o rd vs h c df q e=>?_⟩
 dsimp only at e
 split at e
 · exact (Zb8 o rd _ _ _ h c df).trans e
 · cases e
theorem ck_33:Z05 K Zgh.nt Zgh.code:=(ai tt (ai (ai tt (ai tt tt)) (ai tt (ai (ai tt (ai rfl Zem)) (ai tt tt)))))
theorem fe_33:FE (H:=H) P bk K 33 (fun o vs h c=>match vs with | [t0]=>Znr o t0 h c | _=>none):=by
 refine ⟨Zgh,bk_33,rfl,ck_33,fun o vs h c r e=>?_⟩
 dsimp only at e
 split at e
 · exact ⟨rfl,(Zl7 o _ h c).trans e⟩
 · cases e
theorem ck_34:Z05 K Zgf.nt Zgf.code:=(ai tt (ai tt tt))
theorem fe_34:FE (H:=H) P bk K 34 (fun o vs h c=>match vs with | []=>Znq o h c | _=>none):=by
 refine ⟨Zgf,bk_34,rfl,ck_34,fun o vs h c r e=>?_⟩
 dsimp only at e
 split at e
 · exact ⟨rfl,(Zl6 o h c).trans e⟩
 · cases e
theorem Zkm:Z05 K 157 Z38:=(ai tt (ai (ai tt tt) (ai (ai tt (ai tt (ai (ai tt (ai (ai tt tt) tt)) (ai (ai tt (ai tt tt)) (ai tt (ai (ai tt (ai (ai tt (ai tt tt)) tt)) (ai tt (ai (ai tt tt) tt)))))))) tt)))
theorem Zjz:LE (H:=H) P K 35001 (fun o rd vs h c df=>match vs with | [t4,t5,t8,t9,t10,t11,t12,t13,t14,t15,t53,t54]=>Z74 o rd t4 t5 t8 t9 t10 t11 t12 t13 t14 t15 t53 t54 h c df | _=>none):=by
 intro lin b nt hk
 rw [Zek] at hk
 cases hk
 refine ⟨Zkm,fun o rd vs h c df q e=>?_⟩
 dsimp only at e
 split at e
 · exact (Zb6 o rd _ _ _ _ _ _ _ _ _ _ _ _ h c df).trans e
 · cases e
theorem Zkn:Z05 K 157 Z39:=(ai (ai tt (ai tt tt)) (ai (ai tt (ai tt (ai rfl Zek))) tt))
theorem ZjA:LE (H:=H) P K 35000 (fun o rd vs h c df=>match vs with | [t4,t5,t8,t9,t10,t11,t12,t13,t14]=>Z75 o rd t4 t5 t8 t9 t10 t11 t12 t13 t14 h c df | _=>none):=by
 intro lin b nt hk
 rw [Zel] at hk
 cases hk
 refine ⟨Zkn,fun o rd vs h c df q e=>?_⟩
 dsimp only at e
 split at e
 · exact (Zb7 o rd _ _ _ _ _ _ _ _ _ h c df).trans e
 · cases e
theorem ck_35:Z05 K Zge.nt Zge.code:=(ai tt (ai tt (ai tt (ai tt (ai tt (ai tt (ai (ai tt (ai rfl Zel)) (ai tt tt))))))))
theorem fe_35:FE (H:=H) P bk K 35 (fun o vs h c=>match vs with | [t0,t1,t2,t3]=>Zno o t0 t1 t2 t3 h c | _=>none):=by
 refine ⟨Zge,bk_35,rfl,ck_35,fun o vs h c r e=>?_⟩
 dsimp only at e
 split at e
 · exact ⟨rfl,(Zl5 o _ _ _ _ h c).trans e⟩
 · cases e
theorem ck_39:Z05 K Zgb.nt Zgb.code:=(ai tt (ai tt tt))
theorem fe_39:FE (H:=H) P bk K 39 (fun o vs h c=>match vs with | []=>Znn o h c | _=>none):=by
 refine ⟨Zgb,bk_39,rfl,ck_39,fun o vs h c r e=>?_⟩
 dsimp only at e
 split at e
 · exact ⟨rfl,(Zl4 o h c).trans e⟩
 · cases e
theorem Zkl:Z05 K 139 Z37:=(ai tt (ai (ai tt tt) (ai (ai tt (ai (ai tt (ai (ai tt tt) tt)) tt)) tt)))
theorem Zjy:LE (H:=H) P K 40000 (fun o rd vs h c df=>match vs with | [t1,t2,t3,t6,t7,t9,t10,t11,t49,t50,t51]=>Z1r o rd t1 t2 t3 t6 t7 t9 t10 t11 t49 t50 t51 h c df | _=>none):=by
 intro lin b nt hk
 rw [Zej] at hk
 cases hk
 refine ⟨Zkl,fun o rd vs h c df q e=>?_⟩
 dsimp only at e
 split at e
 · exact (Z2o o rd _ _ _ _ _ _ _ _ _ _ _ h c df).trans e
 · cases e
theorem Zkj:Z05 K 139 Z35:=(ai tt (ai (ai tt tt) (ai (ai tt (ai tt (ai tt (ai tt (ai (ai tt tt) tt))))) tt)))
theorem Zjw:LE (H:=H) P K 40002 (fun o rd vs h c df=>match vs with | [t2,t3,t6,t10,t14,t15,t16,t17,t78,t79,t80,t85]=>Z41 o rd t2 t3 t6 t10 t14 t15 t16 t17 t78 t79 t80 t85 h c df | _=>none):=by
 intro lin b nt hk
 rw [Zeh] at hk
 cases hk
 refine ⟨Zkj,fun o rd vs h c df q e=>?_⟩
 dsimp only at e
 split at e
 · exact (Z4o o rd _ _ _ _ _ _ _ _ _ _ _ _ h c df).trans e
 · cases e
theorem Zkk:Z05 K 139 Z36:=(ai tt (ai (ai tt tt) (ai (ai tt (ai tt (ai (ai tt (ai rfl Zeh)) tt))) tt)))
theorem Zjx:LE (H:=H) P K 40001 (fun o rd vs h c df=>match vs with | [t2,t3,t6,t10,t14,t78,t79,t80]=>Z42 o rd t2 t3 t6 t10 t14 t78 t79 t80 h c df | _=>none):=by
 intro lin b nt hk
 rw [Zei] at hk
 cases hk
 refine ⟨Zkk,fun o rd vs h c df q e=>?_⟩
 dsimp only at e
 split at e
 · exact (Z4p o rd _ _ _ _ _ _ _ _ h c df).trans e
 · cases e
theorem ck_40:Z05 K ZcX.nt ZcX.code:=(ai tt (ai (ai tt (ai tt (ai (ai tt tt) tt))) (ai tt (ai tt (ai tt (ai (ai tt (ai (ai tt tt) tt)) (ai (ai tt (ai rfl Zej)) (ai tt (ai (ai tt (ai rfl Zei)) (ai tt tt))))))))))
theorem fe_40:FE (H:=H) P bk K 40 (fun o vs h c=>match vs with | [t0,t1,t2]=>ZhW o t0 t1 t2 h c | _=>none):=by
 refine ⟨ZcX,bk_40,rfl,ck_40,fun o vs h c r e=>?_⟩
 dsimp only at e
 split at e
 · exact ⟨rfl,(ZeM o _ _ _ h c).trans e⟩
 · cases e
theorem ck_41:Z05 K ZcW.nt ZcW.code:=(ai tt (ai tt tt))
theorem fe_41:FE (H:=H) P bk K 41 (fun o vs h c=>match vs with | [t0,t1]=>ZhV o t0 t1 h c | _=>none):=by
 refine ⟨ZcW,bk_41,rfl,ck_41,fun o vs h c r e=>?_⟩
 dsimp only at e
 split at e
 · exact ⟨rfl,(ZeL o _ _ h c).trans e⟩
 · cases e
theorem Zki:Z05 K 55 Z34:=(ai tt (ai (ai tt tt) (ai (ai tt (ai (ai tt (ai (ai tt tt) tt)) tt)) tt)))
theorem Zjv:LE (H:=H) P K 42000 (fun o rd vs h c df=>match vs with | [t1,t2,t3,t4,t23,t24,t25]=>Z40 o rd t1 t2 t3 t4 t23 t24 t25 h c df | _=>none):=by
 intro lin b nt hk
 rw [Zeg] at hk
 cases hk
 refine ⟨Zki,fun o rd vs h c df q e=>?_⟩
 dsimp only at e
 split at e
 · exact (Z4n o rd _ _ _ _ _ _ _ h c df).trans e
 · cases e
theorem Zkh:Z05 K 55 Z33:=(ai tt (ai (ai tt tt) (ai (ai tt (ai tt (ai (ai tt tt) tt))) tt)))
theorem Zju:LE (H:=H) P K 42001 (fun o rd vs h c df=>match vs with | [t2,t45,t46,t47]=>Z3Z o rd t2 t45 t46 t47 h c df | _=>none):=by
 intro lin b nt hk
 rw [Zef] at hk
 cases hk
 refine ⟨Zkh,fun o rd vs h c df q e=>?_⟩
 dsimp only at e
 split at e
 · exact (Z4m o rd _ _ _ _ h c df).trans e
 · cases e
theorem ck_42:Z05 K ZcV.nt ZcV.code:=(ai tt (ai tt (ai (ai tt (ai (ai tt tt) tt)) (ai tt (ai (ai tt (ai rfl Zeg)) (ai (ai tt (ai rfl Zef)) (ai tt tt)))))))
theorem fe_42:FE (H:=H) P bk K 42 (fun o vs h c=>match vs with | [t0]=>ZhU o t0 h c | _=>none):=by
 refine ⟨ZcV,bk_42,rfl,ck_42,fun o vs h c r e=>?_⟩
 dsimp only at e
 split at e
 · exact ⟨rfl,(ZeK o _ h c).trans e⟩
 · cases e
theorem Zkg:Z05 K 44 Z32:=(ai tt (ai (ai tt tt) (ai (ai tt (ai tt tt)) tt)))
theorem Zjt:LE (H:=H) P K 43000 (fun o rd vs h c df=>match vs with | [t2,t3,t4,t5,t9,t10,t11]=>Z3X o rd t2 t3 t4 t5 t9 t10 t11 h c df | _=>none):=by
 intro lin b nt hk
 rw [Zee] at hk
 cases hk
 refine ⟨Zkg,fun o rd vs h c df q e=>?_⟩
 dsimp only at e
 split at e
 · exact (Z4l o rd _ _ _ _ _ _ _ h c df).trans e
 · cases e
theorem ck_43:Z05 K ZcU.nt ZcU.code:=(ai tt (ai tt (ai (ai tt (ai rfl Zee)) (ai tt tt))))
theorem fe_43:FE (H:=H) P bk K 43 (fun o vs h c=>match vs with | [t0,t1]=>ZhT o t0 t1 h c | _=>none):=by
 refine ⟨ZcU,bk_43,rfl,ck_43,fun o vs h c r e=>?_⟩
 dsimp only at e
 split at e
 · exact ⟨rfl,(ZeJ o _ _ h c).trans e⟩
 · cases e
theorem Zkf:Z05 K 40 Z31:=(ai tt (ai (ai tt tt) (ai (ai tt tt) tt)))
theorem Zjs:LE (H:=H) P K 46000 (fun o rd vs h c df=>match vs with | [t1,t2,t3,t16,t17,t18]=>Z3U o rd t1 t2 t3 t16 t17 t18 h c df | _=>none):=by
 intro lin b nt hk
 rw [Zed] at hk
 cases hk
 refine ⟨Zkf,fun o rd vs h c df q e=>?_⟩
 dsimp only at e
 split at e
 · exact (Z4k o rd _ _ _ _ _ _ h c df).trans e
 · cases e
theorem ck_46:Z05 K ZcT.nt ZcT.code:=(ai tt (ai tt (ai (ai tt (ai rfl Zed)) (ai tt tt))))
theorem fe_46:FE (H:=H) P bk K 46 (fun o vs h c=>match vs with | [t0]=>ZhS o t0 h c | _=>none):=by
 refine ⟨ZcT,bk_46,rfl,ck_46,fun o vs h c r e=>?_⟩
 dsimp only at e
 split at e
 · exact ⟨rfl,(ZeI o _ h c).trans e⟩
 · cases e
theorem Zkc:Z05 K 76 Z2Y:=(ai tt (ai (ai tt tt) (ai (ai tt (ai tt (ai tt tt))) tt)))
theorem Zjp:LE (H:=H) P K 49002 (fun o rd vs h c df=>match vs with | [t2,t3,t4,t5,t7,t8,t10,t13,t14,t15,t25,t26,t27,t31]=>Z6W o rd t2 t3 t4 t5 t7 t8 t10 t13 t14 t15 t25 t26 t27 t31 h c df | _=>none):=by
 intro lin b nt hk
 rw [Zea] at hk
 cases hk
 refine ⟨Zkc,fun o rd vs h c df q e=>?_⟩
 dsimp only at e
 split at e
 · exact (Zb2 o rd _ _ _ _ _ _ _ _ _ _ _ _ _ _ h c df).trans e
 · cases e
theorem Zkd:Z05 K 76 Z2Z:=(ai tt (ai (ai tt tt) (ai (ai tt (ai (ai tt (ai rfl Zea)) tt)) tt)))
theorem Zjq:LE (H:=H) P K 49001 (fun o rd vs h c df=>match vs with | [t2,t3,t4,t5,t7,t8,t13,t14,t15,t25,t26,t27]=>Z6X o rd t2 t3 t4 t5 t7 t8 t13 t14 t15 t25 t26 t27 h c df | _=>none):=by
 intro lin b nt hk
 rw [Zeb] at hk
 cases hk
 refine ⟨Zkd,fun o rd vs h c df q e=>?_⟩
 dsimp only at e
 split at e
 · exact (Zb3 o rd _ _ _ _ _ _ _ _ _ _ _ _ h c df).trans e
 · cases e
theorem Zke:Z05 K 76 Z30:=(ai tt (ai (ai tt tt) (ai (ai tt (ai tt (ai (ai tt (ai rfl Zeb)) (ai tt tt)))) tt)))
theorem Zjr:LE (H:=H) P K 49000 (fun o rd vs h c df=>match vs with | [t2,t3,t4,t5,t13,t14,t15]=>Z6Y o rd t2 t3 t4 t5 t13 t14 t15 h c df | _=>none):=by
 intro lin b nt hk
 rw [Zec] at hk
 cases hk
 refine ⟨Zke,fun o rd vs h c df q e=>?_⟩
 dsimp only at e
 split at e
 · exact (Zb4 o rd _ _ _ _ _ _ _ h c df).trans e
 · cases e
theorem ck_49:Z05 K Zg6.nt Zg6.code:=(ai tt (ai tt (ai tt (ai (ai tt (ai rfl Zec)) (ai tt tt)))))
theorem fe_49:FE (H:=H) P bk K 49 (fun o vs h c=>match vs with | [t0]=>Znf o t0 h c | _=>none):=by
 refine ⟨Zg6,bk_49,rfl,ck_49,fun o vs h c r e=>?_⟩
 dsimp only at e
 split at e
 · exact ⟨rfl,(ZkV o _ h c).trans e⟩
 · cases e
theorem Zkw:Z05 K 71 Z1p:=(ai tt tt)
theorem Zkb:Z05 K 71 Z1o:=(ai (ai tt (ai tt tt)) (ai (ai tt (ai (ai tt tt) tt)) (ai tt (ai (ai tt tt) tt))))
theorem ZiM:RE (H:=H) P K 71 [13,14] (fun o l vs h c=>match vs with | [t13,t14,t1,t2,t3]=>Z2X o l t13 t14 t1 t2 t3 h c | _=>none):=by
 intro lin a b hk
 rw [ZdF] at hk
 cases hk
 refine ⟨Zkw,Zkb,fun o l vs h c r e=>?_⟩
 dsimp only at e
 split at e
 · exact (Z5Q o l _ _ _ _ _ h c).trans e
 · cases e
theorem ck_57:Z05 K ZcS.nt ZcS.code:=(ai tt (ai (ai tt (ai (ai tt tt) tt)) (ai tt (ai (ai tt (ai rfl ZdF)) (ai tt tt)))))
theorem fe_57:FE (H:=H) P bk K 57 (fun o vs h c=>match vs with | [t0]=>ZhR o t0 h c | _=>none):=by
 refine ⟨ZcS,bk_57,rfl,ck_57,fun o vs h c r e=>?_⟩
 dsimp only at e
 split at e
 · exact ⟨rfl,(ZeH o _ h c).trans e⟩
 · cases e
theorem Zka:Z05 K 85 Z2W:=(ai tt (ai (ai tt tt) (ai (ai tt tt) tt)))
theorem Zjo:LE (H:=H) P K 58000 (fun o rd vs h c df=>match vs with | [t1,t4,t17,t18]=>Z6U o rd t1 t4 t17 t18 h c df | _=>none):=by
 intro lin b nt hk
 rw [Ze9] at hk
 cases hk
 refine ⟨Zka,fun o rd vs h c df q e=>?_⟩
 dsimp only at e
 split at e
 · exact (Zb1 o rd _ _ _ _ h c df).trans e
 · cases e
theorem Zk7:Z05 K 85 Z2T:=(ai tt (ai (ai tt tt) (ai (ai tt (ai tt (ai (ai tt tt) tt))) tt)))
theorem Zjl:LE (H:=H) P K 58003 (fun o rd vs h c df=>match vs with | [t1,t4,t6,t8,t9,t26,t27,t54,t55]=>Z6R o rd t1 t4 t6 t8 t9 t26 t27 t54 t55 h c df | _=>none):=by
 intro lin b nt hk
 rw [Ze6] at hk
 cases hk
 refine ⟨Zk7,fun o rd vs h c df q e=>?_⟩
 dsimp only at e
 split at e
 · exact (ZaY o rd _ _ _ _ _ _ _ _ _ h c df).trans e
 · cases e
theorem Zk8:Z05 K 85 Z2U:=(ai (ai tt (ai tt tt)) (ai (ai tt (ai rfl Ze6)) tt))
theorem Zjm:LE (H:=H) P K 58002 (fun o rd vs h c df=>match vs with | [t1,t4,t6,t8,t9,t26,t27]=>Z6S o rd t1 t4 t6 t8 t9 t26 t27 h c df | _=>none):=by
 intro lin b nt hk
 rw [Ze7] at hk
 cases hk
 refine ⟨Zk8,fun o rd vs h c df q e=>?_⟩
 dsimp only at e
 split at e
 · exact (ZaZ o rd _ _ _ _ _ _ _ h c df).trans e
 · cases e
theorem Zk9:Z05 K 85 Z2V:=(ai tt (ai (ai tt tt) (ai (ai tt (ai (ai tt (ai tt tt)) (ai tt (ai tt (ai (ai tt (ai rfl Ze7)) tt))))) tt)))
theorem Zjn:LE (H:=H) P K 58001 (fun o rd vs h c df=>match vs with | [t1,t4,t6,t26,t27]=>Z6T o rd t1 t4 t6 t26 t27 h c df | _=>none):=by
 intro lin b nt hk
 rw [Ze8] at hk
 cases hk
 refine ⟨Zk9,fun o rd vs h c df q e=>?_⟩
 dsimp only at e
 split at e
 · exact (Zb0 o rd _ _ _ _ _ h c df).trans e
 · cases e
theorem ck_58:Z05 K Zg0.nt Zg0.code:=(ai tt (ai tt (ai (ai tt (ai rfl Ze9)) (ai tt (ai (ai tt (ai rfl Ze8)) (ai tt tt))))))
theorem fe_58:FE (H:=H) P bk K 58 (fun o vs h c=>match vs with | [t0]=>Znd o t0 h c | _=>none):=by
 refine ⟨Zg0,bk_58,rfl,ck_58,fun o vs h c r e=>?_⟩
 dsimp only at e
 split at e
 · exact ⟨rfl,(ZkS o _ h c).trans e⟩
 · cases e
theorem Zk6:Z05 K 27 Z2S:=(ai tt (ai (ai tt tt) (ai (ai tt (ai tt (ai tt (ai tt tt)))) tt)))
theorem Zjk:LE (H:=H) P K 59000 (fun o rd vs h c df=>match vs with | [t0,t4]=>Z6Q o rd t0 t4 h c df | _=>none):=by
 intro lin b nt hk
 rw [Ze5] at hk
 cases hk
 refine ⟨Zk6,fun o rd vs h c df q e=>?_⟩
 dsimp only at e
 split at e
 · exact (ZaX o rd _ _ h c df).trans e
 · cases e
theorem ck_59:Z05 K ZfV.nt ZfV.code:=(ai tt (ai rfl Ze5))
theorem fe_59:FE (H:=H) P bk K 59 (fun o vs h c=>match vs with | [t0]=>Znc o t0 h c | _=>none):=by
 refine ⟨ZfV,bk_59,rfl,ck_59,fun o vs h c r e=>?_⟩
 dsimp only at e
 split at e
 · exact ⟨rfl,(ZkR o _ h c).trans e⟩
 · cases e
theorem Zk5:Z05 K 23 Z1c:=(ai tt (ai (ai tt tt) (ai (ai tt (ai (ai tt (ai (ai tt tt) tt)) tt)) tt)))
theorem Zjj:LE (H:=H) P K 60000 (fun o rd vs h c df=>match vs with | [t2,t3,t6,t7]=>Z0E o rd t2 t3 t6 t7 h c df | _=>none):=by
 intro lin b nt hk
 rw [Ze4] at hk
 cases hk
 refine ⟨Zk5,fun o rd vs h c df q e=>?_⟩
 dsimp only at e
 split at e
 · exact (Z1n o rd _ _ _ _ h c df).trans e
 · cases e
theorem ck_60:Z05 K Z7M.nt Z7M.code:=(ai tt (ai tt (ai (ai tt (ai rfl Ze4)) (ai tt tt))))
theorem fe_60:FE (H:=H) P bk K 60 (fun o vs h c=>match vs with | [t0]=>ZaW o t0 h c | _=>none):=by
 refine ⟨Z7M,ZlD,rfl,ck_60,fun o vs h c r e=>?_⟩
 dsimp only at e
 split at e
 · exact ⟨rfl,(Z7X o _ h c).trans e⟩
 · cases e
theorem ck_61:Z05 K ZcQ.nt ZcQ.code:=(ai tt (ai (ai tt (ai (ai tt tt) tt)) (ai tt tt)))
theorem fe_61:FE (H:=H) P bk K 61 (fun o vs h c=>match vs with | [t0,t1]=>ZhO o t0 t1 h c | _=>none):=by
 refine ⟨ZcQ,bk_61,rfl,ck_61,fun o vs h c r e=>?_⟩
 dsimp only at e
 split at e
 · exact ⟨rfl,(ZeG o _ _ h c).trans e⟩
 · cases e
theorem ck_62:Z05 K ZcP.nt ZcP.code:=(ai tt (ai (ai tt (ai (ai tt tt) tt)) (ai tt tt)))
theorem fe_62:FE (H:=H) P bk K 62 (fun o vs h c=>match vs with | [t0]=>ZhM o t0 h c | _=>none):=by
 refine ⟨ZcP,bk_62,rfl,ck_62,fun o vs h c r e=>?_⟩
 dsimp only at e
 split at e
 · exact ⟨rfl,(ZeF o _ h c).trans e⟩
 · cases e
theorem ck_63:Z05 K ZcO.nt ZcO.code:=(ai tt (ai tt tt))
theorem fe_63:FE (H:=H) P bk K 63 (fun o vs h c=>match vs with | [t0,t1]=>ZhK o t0 t1 h c | _=>none):=by
 refine ⟨ZcO,bk_63,rfl,ck_63,fun o vs h c r e=>?_⟩
 dsimp only at e
 split at e
 · exact ⟨rfl,(ZeE o _ _ h c).trans e⟩
 · cases e
theorem ck_64:Z05 K ZcN.nt ZcN.code:=(ai tt (ai tt tt))
theorem fe_64:FE (H:=H) P bk K 64 (fun o vs h c=>match vs with | [t0]=>ZhJ o t0 h c | _=>none):=by
 refine ⟨ZcN,bk_64,rfl,ck_64,fun o vs h c r e=>?_⟩
 dsimp only at e
 split at e
 · exact ⟨rfl,(ZeD o _ h c).trans e⟩
 · cases e
theorem ck_65:Z05 K Z7L.nt Z7L.code:=(ai tt (ai tt tt))
theorem fe_65:FE (H:=H) P bk K 65 (fun o vs h c=>match vs with | [t0,t1]=>ZaV o t0 t1 h c | _=>none):=by
 refine ⟨Z7L,ZlC,rfl,ck_65,fun o vs h c r e=>?_⟩
 dsimp only at e
 split at e
 · exact ⟨rfl,(Z7W o _ _ h c).trans e⟩
 · cases e
theorem Zk4:Z05 K 16 Z1b:=(ai tt (ai (ai tt tt) (ai (ai tt tt) tt)))
theorem Zji:LE (H:=H) P K 66000 (fun o rd vs h c df=>match vs with | [t2,t3,t6,t7]=>Z0L o rd t2 t3 t6 t7 h c df | _=>none):=by
 intro lin b nt hk
 rw [Ze3] at hk
 cases hk
 refine ⟨Zk4,fun o rd vs h c df q e=>?_⟩
 dsimp only at e
 split at e
 · exact (Z1m o rd _ _ _ _ h c df).trans e
 · cases e
theorem ck_66:Z05 K Z7K.nt Z7K.code:=(ai tt (ai tt (ai (ai tt (ai rfl Ze3)) (ai tt tt))))
theorem fe_66:FE (H:=H) P bk K 66 (fun o vs h c=>match vs with | [t0]=>ZaU o t0 h c | _=>none):=by
 refine ⟨Z7K,ZlB,rfl,ck_66,fun o vs h c r e=>?_⟩
 dsimp only at e
 split at e
 · exact ⟨rfl,(Z7V o _ h c).trans e⟩
 · cases e
theorem Zk3:Z05 K 26 Z2R:=(ai tt (ai (ai tt tt) (ai (ai tt (ai tt (ai (ai tt tt) tt))) tt)))
theorem Zjh:LE (H:=H) P K 67000 (fun o rd vs h c df=>match vs with | [t0,t1,t4,t12,t13]=>Z3P o rd t0 t1 t4 t12 t13 h c df | _=>none):=by
 intro lin b nt hk
 rw [Ze2] at hk
 cases hk
 refine ⟨Zk3,fun o rd vs h c df q e=>?_⟩
 dsimp only at e
 split at e
 · exact (Z4i o rd _ _ _ _ _ h c df).trans e
 · cases e
theorem ck_67:Z05 K ZcL.nt ZcL.code:=(ai tt (ai (ai tt (ai (ai tt tt) tt)) (ai (ai tt (ai rfl Ze2)) (ai tt tt))))
theorem fe_67:FE (H:=H) P bk K 67 (fun o vs h c=>match vs with | [t0,t1]=>ZhE o t0 t1 h c | _=>none):=by
 refine ⟨ZcL,bk_67,rfl,ck_67,fun o vs h c r e=>?_⟩
 dsimp only at e
 split at e
 · exact ⟨rfl,(ZeC o _ _ h c).trans e⟩
 · cases e
theorem Zk2:Z05 K 49 Z2P:=(ai tt (ai (ai tt tt) (ai (ai tt (ai (ai tt (ai tt tt)) (ai tt (ai rfl ZdE)))) tt)))
theorem Zjg:LE (H:=H) P K 68000 (fun o rd vs h c df=>match vs with | [t1,t5,t15,t16,t17]=>Z6M o rd t1 t5 t15 t16 t17 h c df | _=>none):=by
 intro lin b nt hk
 rw [Ze1] at hk
 cases hk
 refine ⟨Zk2,fun o rd vs h c df q e=>?_⟩
 dsimp only at e
 split at e
 · exact (ZaT o rd _ _ _ _ _ h c df).trans e
 · cases e
theorem Zkv:Z05 K 49 Z2Q:=tt
theorem Zk1:Z05 K 49 Z2O:=(ai tt (ai tt (ai tt tt)))
theorem ZiL:RE (H:=H) P K 49 [30] (fun o l vs h c=>match vs with | [t30,t1,t5,t6,t7]=>Z6L o l t30 t1 t5 t6 t7 h c | _=>none):=by
 intro lin a b hk
 rw [ZdE] at hk
 cases hk
 refine ⟨Zkv,Zk1,fun o l vs h c r e=>?_⟩
 dsimp only at e
 split at e
 · exact (ZaS o l _ _ _ _ _ h c).trans e
 · cases e
theorem ck_68:Z05 K ZfT.nt ZfT.code:=(ai tt (ai tt (ai tt (ai (ai tt (ai rfl Ze1)) (ai tt (ai tt tt))))))
theorem fe_68:FE (H:=H) P bk K 68 (fun o vs h c=>match vs with | [t0]=>Zn8 o t0 h c | _=>none):=by
 refine ⟨ZfT,bk_68,rfl,ck_68,fun o vs h c r e=>?_⟩
 dsimp only at e
 split at e
 · exact ⟨rfl,(ZkQ o _ h c).trans e⟩
 · cases e
theorem ck_71:Z05 K ZcK.nt ZcK.code:=(ai tt (ai tt tt))
theorem fe_71:FE (H:=H) P bk K 71 (fun o vs h c=>match vs with | [t0]=>ZhD o t0 h c | _=>none):=by
 refine ⟨ZcK,bk_71,rfl,ck_71,fun o vs h c r e=>?_⟩
 dsimp only at e
 split at e
 · exact ⟨rfl,(ZeB o _ h c).trans e⟩
 · cases e
theorem Zk0:Z05 K 19 Z2N:=(ai tt (ai (ai tt tt) (ai (ai tt (ai tt (ai (ai tt tt) tt))) tt)))
theorem Zjf:LE (H:=H) P K 72000 (fun o rd vs h c df=>match vs with | [t0,t1,t4,t7,t8]=>Z3O o rd t0 t1 t4 t7 t8 h c df | _=>none):=by
 intro lin b nt hk
 rw [Ze0] at hk
 cases hk
 refine ⟨Zk0,fun o rd vs h c df q e=>?_⟩
 dsimp only at e
 split at e
 · exact (Z4h o rd _ _ _ _ _ h c df).trans e
 · cases e
theorem ck_72:Z05 K ZcJ.nt ZcJ.code:=(ai tt (ai (ai tt (ai rfl Ze0)) (ai tt tt)))
theorem fe_72:FE (H:=H) P bk K 72 (fun o vs h c=>match vs with | [t0,t1]=>ZfR o t0 t1 h c | _=>none):=by
 refine ⟨ZcJ,bk_72,rfl,ck_72,fun o vs h c r e=>?_⟩
 dsimp only at e
 split at e
 · exact ⟨rfl,(ZeA o _ _ h c).trans e⟩
 · cases e
theorem ZjZ:Z05 K 67 Z2M:=(ai (ai tt (ai tt tt)) (ai (ai tt (ai (ai tt (ai (ai tt (ai tt (ai (ai tt tt) (ai tt (ai tt tt))))) tt)) tt)) tt))
theorem Zje:LE (H:=H) P K 73000 (fun o rd vs h c df=>match vs with | [t3,t8,t9,t10,t11]=>Z6K o rd t3 t8 t9 t10 t11 h c df | _=>none):=by
 intro lin b nt hk
 rw [ZdZ] at hk
 cases hk
 refine ⟨ZjZ,fun o rd vs h c df q e=>?_⟩
 dsimp only at e
 split at e
 · exact (ZaQ o rd _ _ _ _ _ h c df).trans e
 · cases e
theorem ck_73:Z05 K ZfQ.nt ZfQ.code:=(ai tt (ai tt (ai tt (ai tt (ai (ai tt (ai rfl ZdZ)) (ai (ai tt (ai (ai tt tt) tt)) (ai tt tt)))))))
theorem fe_73:FE (H:=H) P bk K 73 (fun o vs h c=>match vs with | [t0,t1,t2,t3]=>Zn6 o t0 t1 t2 t3 h c | _=>none):=by
 refine ⟨ZfQ,bk_73,rfl,ck_73,fun o vs h c r e=>?_⟩
 dsimp only at e
 split at e
 · exact ⟨rfl,(ZkP o _ _ _ _ h c).trans e⟩
 · cases e
theorem ck_74:Z05 K ZfO.nt ZfO.code:=tt
theorem fe_74:FE (H:=H) P bk K 74 (fun o vs h c=>match vs with | [t0,t1]=>Zn5 o t0 t1 h c | _=>none):=by
 refine ⟨ZfO,bk_74,rfl,ck_74,fun o vs h c r e=>?_⟩
 dsimp only at e
 split at e
 · exact ⟨rfl,(ZkO o _ _ h c).trans e⟩
 · cases e
theorem ck_75:Z05 K ZfN.nt ZfN.code:=(ai tt (ai (ai tt (ai (ai tt tt) tt)) (ai tt tt)))
theorem fe_75:FE (H:=H) P bk K 75 (fun o vs h c=>match vs with | [t0,t1]=>Zn4 o t0 t1 h c | _=>none):=by
 refine ⟨ZfN,bk_75,rfl,ck_75,fun o vs h c r e=>?_⟩
 dsimp only at e
 split at e
 · exact ⟨rfl,(ZkN o _ _ h c).trans e⟩
 · cases e
theorem ZjY:Z05 K 39 Z2L:=(ai tt (ai (ai tt tt) (ai (ai tt (ai (ai tt (ai (ai tt tt) tt)) (ai tt (ai tt (ai tt (ai (ai tt tt) tt)))))) tt)))
theorem Zjd:LE (H:=H) P K 76000 (fun o rd vs h c df=>match vs with | [t0,t1,t2,t6,t11,t12,t13]=>Z6J o rd t0 t1 t2 t6 t11 t12 t13 h c df | _=>none):=by
 intro lin b nt hk
 rw [ZdY] at hk
 cases hk
 refine ⟨ZjY,fun o rd vs h c df q e=>?_⟩
 dsimp only at e
 split at e
 · exact (ZaP o rd _ _ _ _ _ _ _ h c df).trans e
 · cases e
theorem ck_76:Z05 K ZfM.nt ZfM.code:=(ai tt (ai (ai tt (ai rfl ZdY)) (ai (ai tt (ai (ai tt tt) tt)) (ai tt tt))))
theorem fe_76:FE (H:=H) P bk K 76 (fun o vs h c=>match vs with | [t0,t1,t2]=>Zn3 o t0 t1 t2 h c | _=>none):=by
 refine ⟨ZfM,bk_76,rfl,ck_76,fun o vs h c r e=>?_⟩
 dsimp only at e
 split at e
 · exact ⟨rfl,(ZkM o _ _ _ h c).trans e⟩
 · cases e
theorem ZjW:Z05 K 62 Z2J:=(ai tt (ai (ai tt tt) (ai (ai tt (ai tt (ai (ai tt tt) tt))) tt)))
theorem Zjb:LE (H:=H) P K 77001 (fun o rd vs h c df=>match vs with | [t2,t3,t4,t5,t10,t31]=>Z6H o rd t2 t3 t4 t5 t10 t31 h c df | _=>none):=by
 intro lin b nt hk
 rw [ZdW] at hk
 cases hk
 refine ⟨ZjW,fun o rd vs h c df q e=>?_⟩
 dsimp only at e
 split at e
 · exact (ZaN o rd _ _ _ _ _ _ h c df).trans e
 · cases e
theorem ZjX:Z05 K 62 Z2K:=(ai tt (ai (ai tt tt) (ai (ai tt (ai (ai tt (ai (ai tt tt) tt)) (ai tt (ai rfl ZdW)))) tt)))
theorem Zjc:LE (H:=H) P K 77000 (fun o rd vs h c df=>match vs with | [t2,t3,t4,t10]=>Z6I o rd t2 t3 t4 t10 h c df | _=>none):=by
 intro lin b nt hk
 rw [ZdX] at hk
 cases hk
 refine ⟨ZjX,fun o rd vs h c df q e=>?_⟩
 dsimp only at e
 split at e
 · exact (ZaO o rd _ _ _ _ h c df).trans e
 · cases e
theorem ck_77:Z05 K ZfK.nt ZfK.code:=(ai tt (ai (ai tt (ai (ai tt tt) tt)) (ai (ai tt (ai rfl ZdX)) (ai tt tt))))
theorem fe_77:FE (H:=H) P bk K 77 (fun o vs h c=>match vs with | [t0,t1]=>Zn2 o t0 t1 h c | _=>none):=by
 refine ⟨ZfK,bk_77,rfl,ck_77,fun o vs h c r e=>?_⟩
 dsimp only at e
 split at e
 · exact ⟨rfl,(ZkL o _ _ h c).trans e⟩
 · cases e
theorem ZjU:Z05 K 30 Z2H:=(ai tt (ai (ai tt tt) (ai (ai tt (ai tt (ai tt tt))) tt)))
theorem Zj9:LE (H:=H) P K 78001 (fun o rd vs h c df=>match vs with | [t0,t1,t3,t8,t9,t16,t17]=>Z1I o rd t0 t1 t3 t8 t9 t16 t17 h c df | _=>none):=by
 intro lin b nt hk
 rw [ZdU] at hk
 cases hk
 refine ⟨ZjU,fun o rd vs h c df q e=>?_⟩
 dsimp only at e
 split at e
 · exact (Z4e o rd _ _ _ _ _ _ _ h c df).trans e
 · cases e
theorem ZjV:Z05 K 30 Z2I:=(ai tt (ai (ai tt tt) (ai (ai tt (ai tt (ai rfl ZdU))) tt)))
theorem Zja:LE (H:=H) P K 78000 (fun o rd vs h c df=>match vs with | [t0,t1,t8,t9]=>Z1J o rd t0 t1 t8 t9 h c df | _=>none):=by
 intro lin b nt hk
 rw [ZdV] at hk
 cases hk
 refine ⟨ZjV,fun o rd vs h c df q e=>?_⟩
 dsimp only at e
 split at e
 · exact (Z4f o rd _ _ _ _ h c df).trans e
 · cases e
theorem ck_78:Z05 K ZcI.nt ZcI.code:=(ai tt (ai rfl ZdV))
theorem fe_78:FE (H:=H) P bk K 78 (fun o vs h c=>match vs with | [t0,t1]=>ZfF o t0 t1 h c | _=>none):=by
 refine ⟨ZcI,bk_78,rfl,ck_78,fun o vs h c r e=>?_⟩
 dsimp only at e
 split at e
 · exact ⟨rfl,(Zez o _ _ h c).trans e⟩
 · cases e
theorem ck_79:Z05 K ZfE.nt ZfE.code:=(ai tt (ai tt (ai tt tt)))
theorem fe_79:FE (H:=H) P bk K 79 (fun o vs h c=>match vs with | [t0,t1,t2]=>Zn1 o t0 t1 t2 h c | _=>none):=by
 refine ⟨ZfE,bk_79,rfl,ck_79,fun o vs h c r e=>?_⟩
 dsimp only at e
 split at e
 · exact ⟨rfl,(ZkK o _ _ _ h c).trans e⟩
 · cases e
theorem ZjT:Z05 K 99 Z2G:=(ai tt (ai (ai tt tt) (ai (ai tt (ai tt (ai (ai tt (ai (ai tt tt) tt)) (ai tt (ai (ai tt (ai tt (ai tt tt))) (ai tt tt)))))) tt)))
theorem Zj8:LE (H:=H) P K 80000 (fun o rd vs h c df=>match vs with | [t0,t1,t4,t5,t12]=>Z6G o rd t0 t1 t4 t5 t12 h c df | _=>none):=by
 intro lin b nt hk
 rw [ZdT] at hk
 cases hk
 refine ⟨ZjT,fun o rd vs h c df q e=>?_⟩
 dsimp only at e
 split at e
 · exact (ZaM o rd _ _ _ _ _ h c df).trans e
 · cases e
theorem ck_80:Z05 K ZfD.nt ZfD.code:=(ai tt (ai tt (ai (ai tt (ai rfl ZdT)) (ai tt tt))))
theorem fe_80:FE (H:=H) P bk K 80 (fun o vs h c=>match vs with | [t0,t1]=>Zn0 o t0 t1 h c | _=>none):=by
 refine ⟨ZfD,bk_80,rfl,ck_80,fun o vs h c r e=>?_⟩
 dsimp only at e
 split at e
 · exact ⟨rfl,(ZkJ o _ _ h c).trans e⟩
 · cases e
theorem ZjS:Z05 K 63 Z2F:=(ai (ai tt (ai tt tt)) (ai tt (ai tt tt)))
theorem Zj7:LE (H:=H) P K 81000 (fun o rd vs h c df=>match vs with | [t0,t1,t2,t6,t7,t8]=>Z6F o rd t0 t1 t2 t6 t7 t8 h c df | _=>none):=by
 intro lin b nt hk
 rw [ZdS] at hk
 cases hk
 refine ⟨ZjS,fun o rd vs h c df q e=>?_⟩
 dsimp only at e
 split at e
 · exact (ZaL o rd _ _ _ _ _ _ h c df).trans e
 · cases e
theorem ZjQ:Z05 K 63 Z2D:=(ai (ai tt (ai tt tt)) (ai tt (ai tt tt)))
theorem Zj5:LE (H:=H) P K 81002 (fun o rd vs h c df=>match vs with | [t0,t1,t2,t6,t7,t8]=>Z6D o rd t0 t1 t2 t6 t7 t8 h c df | _=>none):=by
 intro lin b nt hk
 rw [ZdQ] at hk
 cases hk
 refine ⟨ZjQ,fun o rd vs h c df q e=>?_⟩
 dsimp only at e
 split at e
 · exact (ZaJ o rd _ _ _ _ _ _ h c df).trans e
 · cases e
theorem ZjR:Z05 K 63 Z2E:=(ai (ai tt (ai tt tt)) (ai tt (ai (ai rfl ZdQ) (ai (ai tt (ai tt (ai tt tt))) tt))))
theorem Zj6:LE (H:=H) P K 81001 (fun o rd vs h c df=>match vs with | [t0,t1,t2,t6]=>Z6E o rd t0 t1 t2 t6 h c df | _=>none):=by
 intro lin b nt hk
 rw [ZdR] at hk
 cases hk
 refine ⟨ZjR,fun o rd vs h c df q e=>?_⟩
 dsimp only at e
 split at e
 · exact (ZaK o rd _ _ _ _ h c df).trans e
 · cases e
theorem ck_81:Z05 K ZfB.nt ZfB.code:=(ai tt (ai tt (ai (ai rfl ZdS) (ai tt (ai rfl ZdR)))))
theorem fe_81:FE (H:=H) P bk K 81 (fun o vs h c=>match vs with | [t0,t1,t2]=>ZmZ o t0 t1 t2 h c | _=>none):=by
 refine ⟨ZfB,bk_81,rfl,ck_81,fun o vs h c r e=>?_⟩
 dsimp only at e
 split at e
 · exact ⟨rfl,(ZkI o _ _ _ h c).trans e⟩
 · cases e
theorem ZjO:Z05 K 53 Z2B:=(ai (ai tt (ai tt tt)) (ai tt tt))
theorem Zj3:LE (H:=H) P K 82001 (fun o rd vs h c df=>match vs with | [t0,t1,t2,t3,t8,t9]=>Z6B o rd t0 t1 t2 t3 t8 t9 h c df | _=>none):=by
 intro lin b nt hk
 rw [ZdO] at hk
 cases hk
 refine ⟨ZjO,fun o rd vs h c df q e=>?_⟩
 dsimp only at e
 split at e
 · exact (ZaH o rd _ _ _ _ _ _ h c df).trans e
 · cases e
theorem ZjP:Z05 K 53 Z2C:=(ai (ai tt (ai tt tt)) (ai (ai tt (ai rfl ZdO)) tt))
theorem Zj4:LE (H:=H) P K 82000 (fun o rd vs h c df=>match vs with | [t0,t1,t2,t3,t8]=>Z6C o rd t0 t1 t2 t3 t8 h c df | _=>none):=by
 intro lin b nt hk
 rw [ZdP] at hk
 cases hk
 refine ⟨ZjP,fun o rd vs h c df q e=>?_⟩
 dsimp only at e
 split at e
 · exact (ZaI o rd _ _ _ _ _ h c df).trans e
 · cases e
theorem ck_82:Z05 K Zfx.nt Zfx.code:=(ai tt (ai rfl ZdP))
theorem fe_82:FE (H:=H) P bk K 82 (fun o vs h c=>match vs with | [t0,t1,t2,t3]=>ZmY o t0 t1 t2 t3 h c | _=>none):=by
 refine ⟨Zfx,bk_82,rfl,ck_82,fun o vs h c r e=>?_⟩
 dsimp only at e
 split at e
 · exact ⟨rfl,(ZkH o _ _ _ _ h c).trans e⟩
 · cases e
theorem ZjN:Z05 K 220 Z2A:=(ai (ai tt (ai tt tt)) (ai tt (ai tt (ai tt tt))))
theorem Zj2:LE (H:=H) P K 83000 (fun o rd vs h c df=>match vs with | [t0,t1,t4,t10,t11]=>Z6A o rd t0 t1 t4 t10 t11 h c df | _=>none):=by
 intro lin b nt hk
 rw [ZdN] at hk
 cases hk
 refine ⟨ZjN,fun o rd vs h c df q e=>?_⟩
 dsimp only at e
 split at e
 · exact (ZaG o rd _ _ _ _ _ h c df).trans e
 · cases e
theorem ZjM:Z05 K 220 Z2z:=(ai (ai tt (ai tt tt)) (ai tt tt))
theorem Zj1:LE (H:=H) P K 83001 (fun o rd vs h c df=>match vs with | [t0,t10,t13]=>Z6z o rd t0 t10 t13 h c df | _=>none):=by
 intro lin b nt hk
 rw [ZdM] at hk
 cases hk
 refine ⟨ZjM,fun o rd vs h c df q e=>?_⟩
 dsimp only at e
 split at e
 · exact (ZaF o rd _ _ _ h c df).trans e
 · cases e
theorem ZjL:Z05 K 220 Z2y:=(ai (ai tt (ai tt tt)) (ai tt (ai tt (ai tt tt))))
theorem Zj0:LE (H:=H) P K 83002 (fun o rd vs h c df=>match vs with | [t0,t2,t4,t14,t15]=>Z6y o rd t0 t2 t4 t14 t15 h c df | _=>none):=by
 intro lin b nt hk
 rw [ZdL] at hk
 cases hk
 refine ⟨ZjL,fun o rd vs h c df q e=>?_⟩
 dsimp only at e
 split at e
 · exact (ZaE o rd _ _ _ _ _ h c df).trans e
 · cases e
theorem ZjK:Z05 K 220 Z2x:=(ai (ai tt (ai tt tt)) (ai tt tt))
theorem ZiZ:LE (H:=H) P K 83003 (fun o rd vs h c df=>match vs with | [t0,t14,t17]=>Z6x o rd t0 t14 t17 h c df | _=>none):=by
 intro lin b nt hk
 rw [ZdK] at hk
 cases hk
 refine ⟨ZjK,fun o rd vs h c df q e=>?_⟩
 dsimp only at e
 split at e
 · exact (ZaD o rd _ _ _ h c df).trans e
 · cases e
theorem ZjJ:Z05 K 220 Z2w:=(ai (ai tt (ai tt tt)) (ai tt (ai tt (ai tt tt))))
theorem ZiY:LE (H:=H) P K 83004 (fun o rd vs h c df=>match vs with | [t0,t1,t2,t3,t4,t18,t19,t20,t21,t22]=>Z6w o rd t0 t1 t2 t3 t4 t18 t19 t20 t21 t22 h c df | _=>none):=by
 intro lin b nt hk
 rw [ZdJ] at hk
 cases hk
 refine ⟨ZjJ,fun o rd vs h c df q e=>?_⟩
 dsimp only at e
 split at e
 · exact (ZaC o rd _ _ _ _ _ _ _ _ _ _ h c df).trans e
 · cases e
theorem ck_83:Z05 K Zfu.nt Zfu.code:=(ai (ai tt (ai (ai tt (ai tt (ai (ai rfl ZdN) (ai (ai tt (ai rfl ZdM)) tt)))) tt)) (ai (ai tt (ai (ai tt (ai tt (ai (ai rfl ZdL) (ai (ai tt (ai rfl ZdK)) tt)))) tt)) (ai tt (ai tt (ai tt (ai (ai tt (ai (ai tt tt) (ai tt tt))) (ai tt (ai (ai rfl ZdJ) (ai tt (ai (ai tt (ai tt tt)) (ai (ai tt (ai tt tt)) (ai tt (ai tt tt)))))))))))))
theorem fe_83:FE (H:=H) P bk K 83 (fun o vs h c=>match vs with | [t0,t1,t2,t3,t4]=>ZmX o t0 t1 t2 t3 t4 h c | _=>none):=by
 refine ⟨Zfu,bk_83,rfl,ck_83,fun o vs h c r e=>?_⟩
 dsimp only at e
 split at e
 · exact ⟨rfl,(ZkG o _ _ _ _ _ h c).trans e⟩
 · cases e
theorem ZjI:Z05 K 58 Z2v:=(ai (ai tt (ai tt tt)) (ai tt (ai (ai tt tt) (ai tt tt))))
theorem ZiX:LE (H:=H) P K 84000 (fun o rd vs h c df=>match vs with | [t0,t2,t4,t10,t11]=>Z6v o rd t0 t2 t4 t10 t11 h c df | _=>none):=by
 intro lin b nt hk
 rw [ZdI] at hk
 cases hk
 refine ⟨ZjI,fun o rd vs h c df q e=>?_⟩
 dsimp only at e
 split at e
 · exact (ZaB o rd _ _ _ _ _ h c df).trans e
 · cases e
theorem ck_84:Z05 K Zfo.nt Zfo.code:=(ai tt (ai tt (ai (ai rfl ZdI) tt)))
theorem fe_84:FE (H:=H) P bk K 84 (fun o vs h c=>match vs with | [t0,t1,t2,t3,t4]=>ZmW o t0 t1 t2 t3 t4 h c | _=>none):=by
 refine ⟨Zfo,bk_84,rfl,ck_84,fun o vs h c r e=>?_⟩
 dsimp only at e
 split at e
 · exact ⟨rfl,(ZkF o _ _ _ _ _ h c).trans e⟩
 · cases e
theorem ZjH:Z05 K 38 Z2u:=(ai (ai tt (ai tt tt)) (ai tt tt))
theorem ZiW:LE (H:=H) P K 85000 (fun o rd vs h c df=>match vs with | [t0,t1,t2,t3,t10]=>Z6u o rd t0 t1 t2 t3 t10 h c df | _=>none):=by
 intro lin b nt hk
 rw [ZdH] at hk
 cases hk
 refine ⟨ZjH,fun o rd vs h c df q e=>?_⟩
 dsimp only at e
 split at e
 · exact (ZaA o rd _ _ _ _ _ h c df).trans e
 · cases e
theorem ck_85:Z05 K Zfm.nt Zfm.code:=(ai tt (ai rfl ZdH))
theorem fe_85:FE (H:=H) P bk K 85 (fun o vs h c=>match vs with | [t0,t1,t2,t3,t4]=>ZmV o t0 t1 t2 t3 t4 h c | _=>none):=by
 refine ⟨Zfm,bk_85,rfl,ck_85,fun o vs h c r e=>?_⟩
 dsimp only at e
 split at e
 · exact ⟨rfl,(ZkE o _ _ _ _ _ h c).trans e⟩
 · cases e
noncomputable def tbF:BT (Orc H->List Value->H->Nat->Option (Rt H)):=(.node 61 (fun o vs h c=>match vs with | [t0,t1]=>ZhO o t0 t1 h c | _=>none) (.node 35 (fun o vs h c=>match vs with | [t0,t1,t2,t3]=>Zno o t0 t1 t2 t3 h c | _=>none) (.node 26 (fun o vs h c=>match vs with | [t0,t1]=>ZhY o t0 t1 h c | _=>none) (.node 14 (fun o vs h c=>match vs with | [t0,t1,t2]=>Zi2 o t0 t1 t2 h c | _=>none) (.node 13 (fun o vs h c=>match vs with | []=>ZnA o h c | _=>none) (.node 10 (fun o vs h c=>match vs with | [t0,t1]=>ZnC o t0 t1 h c | _=>none) .leaf .leaf) .leaf) (.node 22 (fun o vs h c=>match vs with | [t0]=>Znv o t0 h c | _=>none) (.node 16 (fun o vs h c=>match vs with | [t0,t1]=>Zi1 o t0 t1 h c | _=>none) .leaf .leaf) .leaf)) (.node 32 (fun o vs h c=>match vs with | [t0]=>Zns o t0 h c | _=>none) (.node 31 (fun o vs h c=>match vs with | [t0]=>ZhX o t0 h c | _=>none) (.node 28 (fun o vs h c=>match vs with | [t0,t1]=>Znt o t0 t1 h c | _=>none) .leaf .leaf) .leaf) (.node 34 (fun o vs h c=>match vs with | []=>Znq o h c | _=>none) (.node 33 (fun o vs h c=>match vs with | [t0]=>Znr o t0 h c | _=>none) .leaf .leaf) .leaf))) (.node 46 (fun o vs h c=>match vs with | [t0]=>ZhS o t0 h c | _=>none) (.node 41 (fun o vs h c=>match vs with | [t0,t1]=>ZhV o t0 t1 h c | _=>none) (.node 40 (fun o vs h c=>match vs with | [t0,t1,t2]=>ZhW o t0 t1 t2 h c | _=>none) (.node 39 (fun o vs h c=>match vs with | []=>Znn o h c | _=>none) .leaf .leaf) .leaf) (.node 43 (fun o vs h c=>match vs with | [t0,t1]=>ZhT o t0 t1 h c | _=>none) (.node 42 (fun o vs h c=>match vs with | [t0]=>ZhU o t0 h c | _=>none) .leaf .leaf) .leaf)) (.node 58 (fun o vs h c=>match vs with | [t0]=>Znd o t0 h c | _=>none) (.node 57 (fun o vs h c=>match vs with | [t0]=>ZhR o t0 h c | _=>none) (.node 49 (fun o vs h c=>match vs with | [t0]=>Znf o t0 h c | _=>none) .leaf .leaf) .leaf) (.node 60 (fun o vs h c=>match vs with | [t0]=>ZaW o t0 h c | _=>none) (.node 59 (fun o vs h c=>match vs with | [t0]=>Znc o t0 h c | _=>none) .leaf .leaf) .leaf)))) (.node 75 (fun o vs h c=>match vs with | [t0,t1]=>Zn4 o t0 t1 h c | _=>none) (.node 67 (fun o vs h c=>match vs with | [t0,t1]=>ZhE o t0 t1 h c | _=>none) (.node 64 (fun o vs h c=>match vs with | [t0]=>ZhJ o t0 h c | _=>none) (.node 63 (fun o vs h c=>match vs with | [t0,t1]=>ZhK o t0 t1 h c | _=>none) (.node 62 (fun o vs h c=>match vs with | [t0]=>ZhM o t0 h c | _=>none) .leaf .leaf) .leaf) (.node 66 (fun o vs h c=>match vs with | [t0]=>ZaU o t0 h c | _=>none) (.node 65 (fun o vs h c=>match vs with | [t0,t1]=>ZaV o t0 t1 h c | _=>none) .leaf .leaf) .leaf)) (.node 72 (fun o vs h c=>match vs with | [t0,t1]=>ZfR o t0 t1 h c | _=>none) (.node 71 (fun o vs h c=>match vs with | [t0]=>ZhD o t0 h c | _=>none) (.node 68 (fun o vs h c=>match vs with | [t0]=>Zn8 o t0 h c | _=>none) .leaf .leaf) .leaf) (.node 74 (fun o vs h c=>match vs with | [t0,t1]=>Zn5 o t0 t1 h c | _=>none) (.node 73 (fun o vs h c=>match vs with | [t0,t1,t2,t3]=>Zn6 o t0 t1 t2 t3 h c | _=>none) .leaf .leaf) .leaf))) (.node 81 (fun o vs h c=>match vs with | [t0,t1,t2]=>ZmZ o t0 t1 t2 h c | _=>none) (.node 78 (fun o vs h c=>match vs with | [t0,t1]=>ZfF o t0 t1 h c | _=>none) (.node 77 (fun o vs h c=>match vs with | [t0,t1]=>Zn2 o t0 t1 h c | _=>none) (.node 76 (fun o vs h c=>match vs with | [t0,t1,t2]=>Zn3 o t0 t1 t2 h c | _=>none) .leaf .leaf) .leaf) (.node 80 (fun o vs h c=>match vs with | [t0,t1]=>Zn0 o t0 t1 h c | _=>none) (.node 79 (fun o vs h c=>match vs with | [t0,t1,t2]=>Zn1 o t0 t1 t2 h c | _=>none) .leaf .leaf) .leaf)) (.node 84 (fun o vs h c=>match vs with | [t0,t1,t2,t3,t4]=>ZmW o t0 t1 t2 t3 t4 h c | _=>none) (.node 83 (fun o vs h c=>match vs with | [t0,t1,t2,t3,t4]=>ZmX o t0 t1 t2 t3 t4 h c | _=>none) (.node 82 (fun o vs h c=>match vs with | [t0,t1,t2,t3]=>ZmY o t0 t1 t2 t3 h c | _=>none) .leaf .leaf) .leaf) (.node 85 (fun o vs h c=>match vs with | [t0,t1,t2,t3,t4]=>ZmV o t0 t1 t2 t3 t4 h c | _=>none) .leaf .leaf)))))
noncomputable def tbL:BT (Orc H->Option Nat->List Value->H->Nat->List Nat->Option (Rt H)):=(.node 60000 (fun o rd vs h c df=>match vs with | [t2,t3,t6,t7]=>Z0E o rd t2 t3 t6 t7 h c df | _=>none) (.node 42000 (fun o rd vs h c df=>match vs with | [t1,t2,t3,t4,t23,t24,t25]=>Z40 o rd t1 t2 t3 t4 t23 t24 t25 h c df | _=>none) (.node 33000 (fun o rd vs h c df=>match vs with | [t0,t3,t4]=>Z76 o rd t0 t3 t4 h c df | _=>none) (.node 22001 (fun o rd vs h c df=>match vs with | [t7,t24,t25,t26,t30,t31]=>Z79 o rd t7 t24 t25 t26 t30 t31 h c df | _=>none) (.node 22000 (fun o rd vs h c df=>match vs with | [t7,t24,t25,t26]=>Z7a o rd t7 t24 t25 t26 h c df | _=>none) (.node 10000 (fun o rd vs h c df=>match vs with | [t2,t3,t9,t46,t47]=>Z7o o rd t2 t3 t9 t46 t47 h c df | _=>none) .leaf .leaf) .leaf) (.node 31000 (fun o rd vs h c df=>match vs with | [t2,t6,t7,t8]=>Z43 o rd t2 t6 t7 t8 h c df | _=>none) (.node 26000 (fun o rd vs h c df=>match vs with | [t0,t1,t4,t5]=>Z44 o rd t0 t1 t4 t5 h c df | _=>none) .leaf .leaf) .leaf)) (.node 40000 (fun o rd vs h c df=>match vs with | [t1,t2,t3,t6,t7,t9,t10,t11,t49,t50,t51]=>Z1r o rd t1 t2 t3 t6 t7 t9 t10 t11 t49 t50 t51 h c df | _=>none) (.node 35001 (fun o rd vs h c df=>match vs with | [t4,t5,t8,t9,t10,t11,t12,t13,t14,t15,t53,t54]=>Z74 o rd t4 t5 t8 t9 t10 t11 t12 t13 t14 t15 t53 t54 h c df | _=>none) (.node 35000 (fun o rd vs h c df=>match vs with | [t4,t5,t8,t9,t10,t11,t12,t13,t14]=>Z75 o rd t4 t5 t8 t9 t10 t11 t12 t13 t14 h c df | _=>none) .leaf .leaf) .leaf) (.node 40002 (fun o rd vs h c df=>match vs with | [t2,t3,t6,t10,t14,t15,t16,t17,t78,t79,t80,t85]=>Z41 o rd t2 t3 t6 t10 t14 t15 t16 t17 t78 t79 t80 t85 h c df | _=>none) (.node 40001 (fun o rd vs h c df=>match vs with | [t2,t3,t6,t10,t14,t78,t79,t80]=>Z42 o rd t2 t3 t6 t10 t14 t78 t79 t80 h c df | _=>none) .leaf .leaf) .leaf))) (.node 49002 (fun o rd vs h c df=>match vs with | [t2,t3,t4,t5,t7,t8,t10,t13,t14,t15,t25,t26,t27,t31]=>Z6W o rd t2 t3 t4 t5 t7 t8 t10 t13 t14 t15 t25 t26 t27 t31 h c df | _=>none) (.node 46000 (fun o rd vs h c df=>match vs with | [t1,t2,t3,t16,t17,t18]=>Z3U o rd t1 t2 t3 t16 t17 t18 h c df | _=>none) (.node 43000 (fun o rd vs h c df=>match vs with | [t2,t3,t4,t5,t9,t10,t11]=>Z3X o rd t2 t3 t4 t5 t9 t10 t11 h c df | _=>none) (.node 42001 (fun o rd vs h c df=>match vs with | [t2,t45,t46,t47]=>Z3Z o rd t2 t45 t46 t47 h c df | _=>none) .leaf .leaf) .leaf) (.node 49001 (fun o rd vs h c df=>match vs with | [t2,t3,t4,t5,t7,t8,t13,t14,t15,t25,t26,t27]=>Z6X o rd t2 t3 t4 t5 t7 t8 t13 t14 t15 t25 t26 t27 h c df | _=>none) (.node 49000 (fun o rd vs h c df=>match vs with | [t2,t3,t4,t5,t13,t14,t15]=>Z6Y o rd t2 t3 t4 t5 t13 t14 t15 h c df | _=>none) .leaf .leaf) .leaf)) (.node 58002 (fun o rd vs h c df=>match vs with | [t1,t4,t6,t8,t9,t26,t27]=>Z6S o rd t1 t4 t6 t8 t9 t26 t27 h c df | _=>none) (.node 58001 (fun o rd vs h c df=>match vs with | [t1,t4,t6,t26,t27]=>Z6T o rd t1 t4 t6 t26 t27 h c df | _=>none) (.node 58000 (fun o rd vs h c df=>match vs with | [t1,t4,t17,t18]=>Z6U o rd t1 t4 t17 t18 h c df | _=>none) .leaf .leaf) .leaf) (.node 59000 (fun o rd vs h c df=>match vs with | [t0,t4]=>Z6Q o rd t0 t4 h c df | _=>none) (.node 58003 (fun o rd vs h c df=>match vs with | [t1,t4,t6,t8,t9,t26,t27,t54,t55]=>Z6R o rd t1 t4 t6 t8 t9 t26 t27 t54 t55 h c df | _=>none) .leaf .leaf) .leaf)))) (.node 81000 (fun o rd vs h c df=>match vs with | [t0,t1,t2,t6,t7,t8]=>Z6F o rd t0 t1 t2 t6 t7 t8 h c df | _=>none) (.node 76000 (fun o rd vs h c df=>match vs with | [t0,t1,t2,t6,t11,t12,t13]=>Z6J o rd t0 t1 t2 t6 t11 t12 t13 h c df | _=>none) (.node 68000 (fun o rd vs h c df=>match vs with | [t1,t5,t15,t16,t17]=>Z6M o rd t1 t5 t15 t16 t17 h c df | _=>none) (.node 67000 (fun o rd vs h c df=>match vs with | [t0,t1,t4,t12,t13]=>Z3P o rd t0 t1 t4 t12 t13 h c df | _=>none) (.node 66000 (fun o rd vs h c df=>match vs with | [t2,t3,t6,t7]=>Z0L o rd t2 t3 t6 t7 h c df | _=>none) .leaf .leaf) .leaf) (.node 73000 (fun o rd vs h c df=>match vs with | [t3,t8,t9,t10,t11]=>Z6K o rd t3 t8 t9 t10 t11 h c df | _=>none) (.node 72000 (fun o rd vs h c df=>match vs with | [t0,t1,t4,t7,t8]=>Z3O o rd t0 t1 t4 t7 t8 h c df | _=>none) .leaf .leaf) .leaf)) (.node 78000 (fun o rd vs h c df=>match vs with | [t0,t1,t8,t9]=>Z1J o rd t0 t1 t8 t9 h c df | _=>none) (.node 77001 (fun o rd vs h c df=>match vs with | [t2,t3,t4,t5,t10,t31]=>Z6H o rd t2 t3 t4 t5 t10 t31 h c df | _=>none) (.node 77000 (fun o rd vs h c df=>match vs with | [t2,t3,t4,t10]=>Z6I o rd t2 t3 t4 t10 h c df | _=>none) .leaf .leaf) .leaf) (.node 80000 (fun o rd vs h c df=>match vs with | [t0,t1,t4,t5,t12]=>Z6G o rd t0 t1 t4 t5 t12 h c df | _=>none) (.node 78001 (fun o rd vs h c df=>match vs with | [t0,t1,t3,t8,t9,t16,t17]=>Z1I o rd t0 t1 t3 t8 t9 t16 t17 h c df | _=>none) .leaf .leaf) .leaf))) (.node 83001 (fun o rd vs h c df=>match vs with | [t0,t10,t13]=>Z6z o rd t0 t10 t13 h c df | _=>none) (.node 82000 (fun o rd vs h c df=>match vs with | [t0,t1,t2,t3,t8]=>Z6C o rd t0 t1 t2 t3 t8 h c df | _=>none) (.node 81002 (fun o rd vs h c df=>match vs with | [t0,t1,t2,t6,t7,t8]=>Z6D o rd t0 t1 t2 t6 t7 t8 h c df | _=>none) (.node 81001 (fun o rd vs h c df=>match vs with | [t0,t1,t2,t6]=>Z6E o rd t0 t1 t2 t6 h c df | _=>none) .leaf .leaf) .leaf) (.node 83000 (fun o rd vs h c df=>match vs with | [t0,t1,t4,t10,t11]=>Z6A o rd t0 t1 t4 t10 t11 h c df | _=>none) (.node 82001 (fun o rd vs h c df=>match vs with | [t0,t1,t2,t3,t8,t9]=>Z6B o rd t0 t1 t2 t3 t8 t9 h c df | _=>none) .leaf .leaf) .leaf)) (.node 83004 (fun o rd vs h c df=>match vs with | [t0,t1,t2,t3,t4,t18,t19,t20,t21,t22]=>Z6w o rd t0 t1 t2 t3 t4 t18 t19 t20 t21 t22 h c df | _=>none) (.node 83003 (fun o rd vs h c df=>match vs with | [t0,t14,t17]=>Z6x o rd t0 t14 t17 h c df | _=>none) (.node 83002 (fun o rd vs h c df=>match vs with | [t0,t2,t4,t14,t15]=>Z6y o rd t0 t2 t4 t14 t15 h c df | _=>none) .leaf .leaf) .leaf) (.node 85000 (fun o rd vs h c df=>match vs with | [t0,t1,t2,t3,t10]=>Z6u o rd t0 t1 t2 t3 t10 h c df | _=>none) (.node 84000 (fun o rd vs h c df=>match vs with | [t0,t2,t4,t10,t11]=>Z6v o rd t0 t2 t4 t10 t11 h c df | _=>none) .leaf .leaf) .leaf)))))
noncomputable def tbR:List (Nat × List Nat × (Orc H->Nat->List Value->H->Nat->Option (Rt H))):=[(67,[51],(fun o l vs h c=>match vs with | [t51,t2,t3,t9,t10]=>Z7n o l t51 t2 t3 t9 t10 h c | _=>none)),(71,[13,14],(fun o l vs h c=>match vs with | [t13,t14,t1,t2,t3]=>Z2X o l t13 t14 t1 t2 t3 h c | _=>none)),(49,[30],(fun o l vs h c=>match vs with | [t30,t1,t5,t6,t7]=>Z6L o l t30 t1 t5 t6 t7 h c | _=>none))]
noncomputable def tab:Tab H:={ F:=fun f=>tbF.look f,L:=fun j=>tbL.look j,R:=fun nt ps=>Zhg nt ps tbR }
theorem ZgO:TabOK (H:=H) P bk K tab:=⟨fun f F e=>BT.look_all (Q:=FE P bk K) (t:=tbF) (ai fe_61 (ai (ai fe_35 (ai (ai fe_26 (ai (ai fe_14 (ai (ai fe_13 (ai (ai fe_10 (ai tt tt)) tt)) (ai fe_22 (ai (ai fe_16 (ai tt tt)) tt)))) (ai fe_32 (ai (ai fe_31 (ai (ai fe_28 (ai tt tt)) tt)) (ai fe_34 (ai (ai fe_33 (ai tt tt)) tt)))))) (ai fe_46 (ai (ai fe_41 (ai (ai fe_40 (ai (ai fe_39 (ai tt tt)) tt)) (ai fe_43 (ai (ai fe_42 (ai tt tt)) tt)))) (ai fe_58 (ai (ai fe_57 (ai (ai fe_49 (ai tt tt)) tt)) (ai fe_60 (ai (ai fe_59 (ai tt tt)) tt)))))))) (ai fe_75 (ai (ai fe_67 (ai (ai fe_64 (ai (ai fe_63 (ai (ai fe_62 (ai tt tt)) tt)) (ai fe_66 (ai (ai fe_65 (ai tt tt)) tt)))) (ai fe_72 (ai (ai fe_71 (ai (ai fe_68 (ai tt tt)) tt)) (ai fe_74 (ai (ai fe_73 (ai tt tt)) tt)))))) (ai fe_81 (ai (ai fe_78 (ai (ai fe_77 (ai (ai fe_76 (ai tt tt)) tt)) (ai fe_80 (ai (ai fe_79 (ai tt tt)) tt)))) (ai fe_84 (ai (ai fe_83 (ai (ai fe_82 (ai tt tt)) tt)) (ai fe_85 (ai tt tt)))))))))) e,
 fun j B lin b nt e hk=>BT.look_all (Q:=LE P K) (t:=tbL) (ai Zjj (ai (ai Zjv (ai (ai ZjB (ai (ai ZjE (ai (ai ZjF (ai (ai ZjG (ai tt tt)) tt)) (ai ZjC (ai (ai ZjD (ai tt tt)) tt)))) (ai Zjy (ai (ai Zjz (ai (ai ZjA (ai tt tt)) tt)) (ai Zjw (ai (ai Zjx (ai tt tt)) tt)))))) (ai Zjp (ai (ai Zjs (ai (ai Zjt (ai (ai Zju (ai tt tt)) tt)) (ai Zjq (ai (ai Zjr (ai tt tt)) tt)))) (ai Zjm (ai (ai Zjn (ai (ai Zjo (ai tt tt)) tt)) (ai Zjk (ai (ai Zjl (ai tt tt)) tt)))))))) (ai Zj7 (ai (ai Zjd (ai (ai Zjg (ai (ai Zjh (ai (ai Zji (ai tt tt)) tt)) (ai Zje (ai (ai Zjf (ai tt tt)) tt)))) (ai Zja (ai (ai Zjb (ai (ai Zjc (ai tt tt)) tt)) (ai Zj8 (ai (ai Zj9 (ai tt tt)) tt)))))) (ai Zj1 (ai (ai Zj4 (ai (ai Zj5 (ai (ai Zj6 (ai tt tt)) tt)) (ai Zj2 (ai (ai Zj3 (ai tt tt)) tt)))) (ai ZiY (ai (ai ZiZ (ai (ai Zj0 (ai tt tt)) tt)) (ai ZiW (ai (ai ZiX (ai tt tt)) tt)))))))))) e lin b nt hk,
 fun nt ps D lin a b e hk=>ZbN (Q:=RE P K) (l:=tbR) (ai ZiN (ai ZiM (ai ZiL tt))) e lin a b hk⟩

theorem Z8Y (t:TypeId) (a b:Int):Z00 P .or t (.int .i64 a) (.int .i64 b)=some (.int .i64 (orB a b)):=by rw [Z0u]; simp [Z0H,Z1z,orB]; rfl
theorem Z5H (t:TypeId) (x:Int) (h:0<=x):Z00 P .shl t (.int .i64 1) (.int .i64 x)=some (.int .i64 (shB x)):=by
 rw [Z0u]
 have:¬ x<0:=by omega
 simp [Z0H,Z4a,shB,this]; rfl
theorem Z6k (p:List Int) (hp:p.length=4) (h:FH) (c:Nat) (df:List Nat):∀ (k i:Nat) (m:Int),i+k=4 →
 Ans (G (Z13 none) [.bool false,.int .i64 m,av p,.int .i64 i] h c df) fun r=>r.h=h/\r.c=c/\r.df=df ∧
  (match Z3y (p.drop i) m with
   | some m'=>r.e = .exit 0/\r.v 1 = .int .i64 m'
   | none=>r.e = .ret/\r.v 0 = .bool false):=by
 intro k
 induction k with
 | zero =>
  intro i m hi
  obtain rfl:i=4:=by omega
  rw [List.drop_of_length_le qO]
  have e1:¬ ((4:Nat):Int)<4:=by omega
  refine .intro (Z3Q (q:=⟨.exit 0,[.bool false,.int .i64 m,av p,.int .i64 (4:Nat)],h,c+1,df⟩) (by unfold Z0E; simp [e1]) (by simp)) ?_
  rw [Z0P (by simp)]
  simp [Z3y]
 | succ k ih =>
  intro i m hi
  have hlt:i<p.length:=by omega
  have e0:(i:Int)<4:=by omega
  rw [List.drop_eq_getElem_cons hlt]
  have hx:p.getD i 0=p[i]:=by simp [List.getD,List.getElem?_eq_getElem hlt]
  by_cases hc:p[i]<0 ∨ 3<p[i]
  · simp only [Z3y,hc,if_true]
    refine .intro (Z3Q (q:=⟨.ret,[.bool false,.int .i64 m,av p,.int .i64 i],h,_,df⟩) (by
     unfold Z0E
     by_cases h1:p[i]<0
     · simp (disch:=omega) [e0,Z7D,hx,h1,-List.getD_eq_getElem?_getD]; rfl
     · have h2:3<p[i]:=by omega
       simp (disch:=omega) [e0,Z7D,hx,h1,h2,-List.getD_eq_getElem?_getD] <;> rfl) (by simp)) ?_
    rw [Z0P (by simp)]
    simp
  · have h1:¬ p[i]<0:=by omega
    have h2:¬ 3<p[i]:=by omega
    simp only [Z3y,hc,if_false]
    obtain ⟨r,hr,hq⟩:=ih (i+1) (orB m (shB p[i])) qO
    refine .intro (Z6P (q:=⟨.normal,[.bool false,.int .i64 (orB m (shB p[i])),av p,.int .i64 (i+1:Nat)],h,c+1+1+1+1+1,df⟩) (by
     unfold Z0E
     simp (disch:=omega) [e0,Z7D,hx,h1,h2,Z5H _ p[i] qO,Z8Y,-List.getD_eq_getElem?_getD]) rfl ?_) hq
    rw [Z0P (by simp)]
    exact hr
theorem Zae (p:List Int) (hp:p.length=4) (h:FH) (c:Nat) (df:List Nat) :
 G (.fn 60) [av p] h c df=some ⟨.ret,[.bool (Z0n p)],h,c,[]⟩:=by
 refine Z1P (fun r e=>ZhP e) (by simp) ?_
 obtain ⟨⟨re,rv,rh,rc,rd⟩,hr,h1,h2,h3,h4⟩:=Z6k p hp (newB h (256*c) (ints p)) (c+1+1+1) [] 4 0 0 rfl
 simp only at h1 h2 h3
 subst h1 h2 h3
 unfold ZaW
 simp only [List.drop_zero] at h4
 have e1:p.take 4=p:=List.take_of_length_le qO
 simp only [Int.ofNat_eq_natCast,Int.cast_ofNat_Int] at hr
 unfold Z0n
 cases hv:Z3y p 0 with
 | none =>
  rw [hv] at h4
  obtain ⟨rfl,h5⟩:=h4
  simp [hr,e1,hp,h5]
 | some m =>
  rw [hv] at h4
  obtain ⟨rfl,h5⟩:=h4
  simp [hr,e1,hp,h5]
theorem Z4P (p:List Int) (hp:p.length=4) (hr:InR p) (h:FH) (b1 b3 c:Nat) (hb1:b1<256*c) (hb:b3<256*c) (df:List Nat):∀ (k i:Nat) (out:List Int),i+k=4->out.length=4 →
 G (Z12 none) [ptrTo b1,ptrTo b3,av p,.int .i64 i] (newB h b3 (ints out)) c df =
  some ⟨.exit 0,[ptrTo b1,ptrTo b3,av p,.int .i64 4],newB h b3 (ints (ZbR (p.drop i) i out)),c,df⟩:=by
 intro k
 induction k with
 | zero =>
  intro i out hi ho
  obtain rfl:i=4:=by omega
  rw [List.drop_of_length_le qO]
  refine (Z6N (q:=⟨.exit 0,[ptrTo b1,ptrTo b3,av p,.int .i64 4],newB h b3 (ints out),c+1,df⟩) (by unfold Z0L; simp) (by simp)).trans ?_
  rw [Z0P (by simp [hb1,hb])]
  rfl
 | succ k ih =>
  intro i out hi ho
  have hlt:i<p.length:=by omega
  have e0:(i:Int)<4:=by omega
  rw [List.drop_eq_getElem_cons hlt]
  have hx:p.getD i 0=p[i]:=by simp [List.getD,List.getElem?_eq_getElem hlt]
  have hxr:=hr p[i] (List.getElem_mem hlt)
  refine Z6O (q:=⟨.normal,[ptrTo b1,ptrTo b3,av p,.int .i64 (i+1:Nat)],newB h b3 (ints (out.set p[i].toNat i)),c+1+1+1+1,df⟩) ?_ rfl ?_
  · unfold Z0L
    simp (disch:=(first | omega | (simp <;> omega) | fail)) [e0,Z7D,hx,hxr,ho,-List.getD_eq_getElem?_getD]
  · rw [Z8D hb (by simp [hb1,hb]) (by simp)]
    exact ih (i+1) _ qO (by simpa using ho)
theorem Z6q (p:List Int) (hp:p.length=4) (hr:InR p) (h:FH) (c:Nat) (df:List Nat) :
 G (.fn 66) [av p] h c df=some ⟨.ret,[av (inv p)],h,c,[]⟩:=by
 refine Z1P (fun r e=>ZhF e) (by simp) ?_
 have e1:p.take 4=p:=List.take_of_length_le qO
 have hl:=Z4P p hp hr (newB (newB h (256*c) (ints p)) (256*c+1) (ints [0,0,0,0])) (256*c+1) (256*(c+1)) (c+1+1+1) qO qO [] 4 0 [0,0,0,0] rfl rfl
 have hl2:(ZbR p 0 [0,0,0,0]).length=4:=Z24 p 0 [0,0,0,0]
 have e2:(ZbR p 0 [0,0,0,0]).take 4=ZbR p 0 [0,0,0,0]:=List.take_of_length_le qO
 unfold ZaU
 simp only [Z8z,Zav,Int.ofNat_eq_natCast,Int.cast_ofNat_Int,List.drop_zero] at hl
 simp (disch:=(first | omega | (simp <;> omega) | fail)) [hl,e1,e2,hp,hl2,inv]
theorem Z7p (p q:List Int) (hp:p.length=4) (hq:q.length=4) (hr:InR q) (h:FH) (c:Nat) (df:List Nat) :
 G (.fn 65) [av p,av q] h c df=some ⟨.ret,[av (comp p q)],h,c,[]⟩:=by
 refine Z1P (fun r e=>ZhH e) (by simp) ?_
 have g:∀ i,i<4->0<=q.getD i 0/\q.getD i 0<4:=fun i hi=>by
  have:i<q.length:=by omega
  have:=hr q[i] (List.getElem_mem this)
  simpa [List.getD,List.getElem?_eq_getElem (by omega:i<q.length)] using this
 have g0:=g 0 qO
 have g1:=g 1 qO
 have g2:=g 2 qO
 have g3:=g 3 qO
 have e1:comp p q=[p.getD (q.getD 0 0).toNat 0,p.getD (q.getD 1 0).toNat 0,p.getD (q.getD 2 0).toNat 0,p.getD (q.getD 3 0).toNat 0]:=by
  match q,hq with
  | [a,b,d,e],_=>rfl
 rw [e1]
 unfold ZaV
 simp (disch:=(first | omega | (simp <;> omega) | fail)) [hp,hq,ZdD,bld4,g0,g1,g2,g3,-List.getD_eq_getElem?_getD,-ld1_newB_same]

theorem Zlr (a0 a1 a2 a3 a4 b0 b1 b2 b3 b4:Int):Z0H P .eql 72 (av [a0,a1,a2,a3,a4]) (av [b0,b1,b2,b3,b4]) =
 (cond (a0 == b0) ((cond (a1 == b1) (cond (a2 == b2) (cond (a3 == b3) (cond (a4 == b4) (some true) (some false)) (some false)) (some false)) (some false)).bind fun r=>cond r (some true) (some false)) (some false)).bind fun b=>some (.bool b):=by kernel_rfl
theorem Z3H (x y:List Int) (hx:x.length=5) (hy:y.length=5):Z00 P .eql 72 (av x) (av y)=some (.bool (decide (x=y))):=by
 match x,hx,y,hy with
 | [a0,a1,a2,a3,a4],_,[b0,b1,b2,b3,b4],_ =>
  rw [Z0u,Zlr]
  by_cases h0:a0=b0 <;> by_cases h1:a1=b1 <;> by_cases h2:a2=b2 <;> by_cases h3:a3=b3 <;> by_cases h4:a4=b4 <;> simp [h0,h1,h2,h3,h4,Bool.cond_eq_ite]
theorem Z56 (x y:List Int) (hx:x.length=5) (hy:y.length=5):Z00 P .neq 72 (av x) (av y)=some (.bool (!decide (x=y))):=by
 have h:=Z3H x y hx hy
 rw [Z0u] at h ⊢
 have e1:Z0H P .eql 72 (av x) (av y)=cond (Z5D P 72 (av x)) ((aEq P Z1k 72 (av x) (av y)).bind fun b=>some (.bool b)) none:=rfl
 have e2:Z0H P .neq 72 (av x) (av y)=cond (Z5D P 72 (av x)) ((aEq P Z1k 72 (av x) (av y)).bind fun b=>some (.bool (!b))) none:=rfl
 rw [e1] at h
 rw [e2]
 cases hg:Z5D P 72 (av x) with
 | false=>rw [hg] at h; cases h
 | true =>
  rw [hg] at h
  simp only [cond_true] at h ⊢
  cases hq:aEq P Z1k 72 (av x) (av y) with
  | none=>rw [hq] at h; cases h
  | some b=>rw [hq] at h; simp only [Option.bind_some,Option.some.injEq,Value.bool.injEq] at h ⊢; rw [h]
structure FacesI (y:Value) (s:Value) (n:Nat) (Gl:List Int) (gb:Nat) (I:Nat->FH->Nat->Prop) (J:FH->Nat->Prop):Prop where
 stab:∀ k h c h' c',I k h c->c<=c'->Z0q c h h'->I k h' c'
 jstab:∀ h c h' c',J h c->c<=c'->Z0q c h h'->J h' c'
 read:∀ k h c,I k h c->Z0a h gb [s]/\SlI h c s 20 n Gl
 step:∀ t f h c,t<n->f<4->I (4*t+f) h c →
  Ans (Z1S G h c y [av [(t:Int),(f:Int)],av (Z06 Gl t f)]) (fun q=>c<=q.2.2/\((q.1 = .bool true/\I (4*t+f+1) q.2.1 q.2.2) ∨ (q.1 = .bool false/\J q.2.1 q.2.2)))
theorem ZkC {y s:Value} {n:Nat} {Gl:List Int} {gb:Nat} {I:Nat->FH->Nat->Prop} {J:FH->Nat->Prop} (hI:FacesI y s n Gl gb I J) (hG:Gl.length=n*20) (t:Nat) (ht:t<n) (df:List Nat) :
 ∀ (k f:Nat) (h:FH) (c:Nat),f+k=4->I (4*t+f) h c →
 Ans (G (Z3M none) [y,ptrTo gb,.int .i64 t,.int .i64 n,.int .i64 t,av (Z91 Gl t),.int .i64 f] h c df) fun r=>c<=r.c/\r.df=df ∧
  ((r.e = .exit 2/\r.vs=[y,ptrTo gb,.int .i64 t,.int .i64 n,.int .i64 t,av (Z91 Gl t),.int .i64 4]/\I (4*t+4) r.h r.c) ∨ (r.e = .ret/\r.vs.length=7/\J r.h r.c)):=by
 intro k
 induction k with
 | zero =>
  intro f h c hf hi
  obtain rfl:f=4:=by omega
  refine .intro (Z9G (q:=⟨.exit 2,_,h,c+1,df⟩) (by unfold Z1I; simp; rfl) (by simp)) ?_
  exact ⟨by simp,rfl,.inl ⟨rfl,rfl,hI.stab _ _ _ _ _ hi (by simp) (Z0q.refl _ _)⟩⟩
 | succ k ih =>
  intro f h c hf hi
  have hf4:f<4:=by omega
  have e0:(f:Int)<4:=by omega
  have hl:=Z0G hG ht hf4
  have hrl:=Z5C hG ht
  have hb:∀ cs,Z0q c h (newB h (256*(c+1)+2) cs):=fun cs=>(Z0q.refl _ _).newB qO
  obtain ⟨q,hq,hcq,hcase⟩:=hI.step t f (newB h (256*(c+1)+2) (ints (Z06 Gl t f))) (c+1+1+1) ht hf4 (hI.stab _ _ _ _ _ hi qO (hb _))
  have e1:(Z06 Gl t f).take 5=Z06 Gl t f:=List.take_of_length_le qO
  have body:Z1I G none y (ptrTo gb) (.int .i64 t) (.int .i64 n) (.int .i64 t) (av (Z91 Gl t)) (.int .i64 f) h c df =
   (Z10 .not q.1).bind fun t27=>Z09 t27 (some ⟨.ret,[y,ptrTo gb,.int .i64 t,.int .i64 n,.int .i64 t,av (Z91 Gl t),.int .i64 f],q.2.1,q.2.2,df⟩)
    (some ⟨.normal,[y,ptrTo gb,.int .i64 t,.int .i64 n,.int .i64 t,av (Z91 Gl t),.int .i64 (f+1:Nat)],q.2.1,q.2.2+1,df⟩):=by
   unfold Z1I
   simp (disch:=(first | omega | (simp <;> omega) | fail)) [e0,ZmJ,hrl,ZiG hf4,hl,e1,bld2,hq]
  rcases hcase with ⟨hv,hi2⟩ | ⟨hv,hj⟩
  · rw [hv] at body
    simp only [aUnOp_not,Option.bind_some,boolK_bool,Bool.not_true,cond_false] at body
    refine (ih (f+1) q.2.1 (q.2.2+1) qO (hI.stab _ _ _ _ _ hi2 qO (Z0q.refl _ _))).elim fun r ⟨hr,h1,h2⟩=>?_
    exact .intro (ZfG body rfl hr) ⟨by omega,h2⟩
  · rw [hv] at body
    simp only [aUnOp_not,Option.bind_some,boolK_bool,Bool.not_false,cond_true] at body
    exact .intro (Z9G body (by simp)) ⟨by simp; omega,rfl,.inr ⟨rfl,rfl,hj⟩⟩
theorem Zhy {y s:Value} {n:Nat} {Gl:List Int} {gb:Nat} {I:Nat->FH->Nat->Prop} {J:FH->Nat->Prop} (hI:FacesI y s n Gl gb I J) (hG:Gl.length=n*20) (hn:n<=9223372036854775807) (df:List Nat) :
 ∀ (k t:Nat) (h:FH) (c:Nat),t+k=n->I (4*t) h c →
 Ans (G (Z3N none) [y,ptrTo gb,.int .i64 n,.int .i64 t] h c df) fun r=>c<=r.c/\r.df=df ∧
  ((r.e = .exit 0/\I (4*n) r.h r.c) ∨ (r.e = .ret/\J r.h r.c)):=by
 intro k
 induction k with
 | zero =>
  intro t h c ht hi
  obtain rfl:t=n:=by omega
  refine .intro (Z9H (q:=⟨.exit 0,_,h,c+1,df⟩) (by unfold Z1J; simp; rfl) (by simp)) ?_
  exact ⟨by simp,rfl,.inl ⟨rfl,hI.stab _ _ _ _ _ hi (by simp) (Z0q.refl _ _)⟩⟩
 | succ k ih =>
  intro t h c ht hi
  have htn:t<n:=by omega
  have e0:(t:Int)<n:=by omega
  obtain ⟨hgb,hs⟩:=hI.read _ _ _ hi
  obtain ⟨b,o,cs,e1,hb,hh,hw⟩:=hs.ix .i64 t qO e0
  have e2:ld1 h (.pointer (some ⟨gb,0,none⟩))=some s:=by rw [Z03 hgb]; rfl
  have e3:ldN h 20 (.pointer (some ⟨b,o+t*20,none⟩))=some (av (Z91 Gl t)):=by
   have:=Zas hh hw (j:=t*20) (q:=20) qO qO
   rw [this]; unfold Z91; rw [Nat.mul_comm]
  simp only [Int.toNat_natCast] at e1
  obtain ⟨r,hr,hcr,hdf,hcase⟩:=ZkC hI hG t htn df 4 0 h (c+1+1+1) rfl (hI.stab _ _ _ _ _ hi qO (Z0q.refl _ _))
  have body:Z1J G none y (ptrTo gb) (.int .i64 n) (.int .i64 t) h c df =
   cond (Z0t r.e (.exit 2)) ((Z00 P .add 3 (r.v 4) (.int .i64 1)).bind fun t29=>some ⟨.normal,[(r.v 0),(r.v 1),(r.v 3),t29],r.h,(r.c+1),r.df⟩)
    (cond (Z0t r.e .ret) (some ⟨.ret,[(r.v 0),(r.v 1),(r.v 3),(r.v 4)],r.h,r.c,r.df⟩) none):=by
   unfold Z1J
   simp only [Int.ofNat_eq_natCast,Int.cast_ofNat_Int] at hr
   simp (disch:=(first | omega | (simp <;> omega) | fail)) [e0,e2,e1,e3,hr]
  obtain ⟨re,rv,rh,rc,rd⟩:=r
  simp only at hcase hcr hdf
  subst hdf
  rcases hcase with ⟨rfl,rfl,hi2⟩ | ⟨rfl,hl,hj⟩
  · simp (disch:=omega) at body
    refine (ih (t+1) rh (rc+1) qO (hI.stab _ _ _ _ _ hi2 qO (Z0q.refl _ _))).elim fun r ⟨hr2,h1,h2⟩=>?_
    exact .intro (ZfH body rfl (by simpa using hr2)) ⟨by omega,h2⟩
  · simp at body
    exact .intro (Z9H body (by simp)) ⟨by simp; omega,rfl,.inr ⟨rfl,hj⟩⟩
theorem ZkB {y s:Value} {n:Nat} {Gl:List Int} {gb:Nat} {I:Nat->FH->Nat->Prop} {J:FH->Nat->Prop} (hI:FacesI y s n Gl gb I J) {h:FH} {c:Nat} (hi:I 0 h c) (df:List Nat) :
 Ans (G (.fn 78) [y,ptrTo gb] h c df) fun r=>r.e = .ret/\r.vs=[.tuple #[]]/\r.df=[]/\c<=r.c/\(I (4*n) r.h r.c ∨ J r.h r.c):=by
 obtain ⟨hgb,hs⟩:=hI.read _ _ _ hi
 obtain ⟨r,hr,hcr,hdf,hcase⟩:=Zhy hI hs.1 hs.2.1 [] n 0 h (c+1) qO (hI.stab _ _ _ _ _ hi qO (Z0q.refl _ _))
 have e2:ld1 h (.pointer (some ⟨gb,0,none⟩))=some s:=by rw [Z03 hgb]; rfl
 obtain ⟨re,rv,rh,rc,rd⟩:=r
 simp only at hcase hcr hdf
 subst hdf
 simp only [Int.ofNat_eq_natCast,Int.cast_ofNat_Int] at hr
 rcases hcase with ⟨rfl,hi2⟩ | ⟨rfl,hj⟩
 · refine .intro (Zm0 (r:=⟨.ret,[.tuple #[]],rh,rc,[]⟩) (by unfold ZfF; simp [e2,hs.len,hr])) ?_
   exact ⟨rfl,rfl,rfl,by simp; omega,.inl hi2⟩
 · refine .intro (Zm0 (r:=⟨.ret,[.tuple #[]],rh,rc,[]⟩) (by unfold ZfF; simp [e2,hs.len,hr])) ?_
   exact ⟨rfl,rfl,rfl,by simp; omega,.inr hj⟩
end Go.Proofs.Ytemkjcpfgmbibaa
