/- Parts of a proof: E AbGo AbPm AbRn. Conditions: none. -/
import Derived.Test.YtdodippbpdechaaM9
import Derived.Test.YtdodippbpdechaaM10
import Derived.Test.YtdodippbpdechaaM11
import Derived.Test.YtdodippbpdechaaM12
import Derived.Test.YtdodippbpdechaaM8
set_option linter.all false
set_option maxRecDepth 100000
namespace Go.Proofs.Ytdodippbpdechaa
open Go Go.Ab Go.Proofs
variable {H:Type} [HeapC H]
noncomputable def K:LB:={ loop:=fun j=>BT.look ((.node 60000 ([1,2,7,22,23],Z3f,65) (.node 40002 ([4,5,7,8,9,35,36,37,42,43,68],Z3p,152) (.node 39000 ([2,3,4,5,6,8,10,12,59,60],Z3x,172) (.node 14001 ([1,2,3,4,5],Z3F,83) (.node 14000 ([1,2,3,4],Z3G,83) (.node 13000 ([2,3,4,12,13],Z3H,23) .leaf .leaf) .leaf) (.node 27000 ([0,1,4,7,8],Z3B,26) (.node 16000 ([0,1,4,5],Z3C,26) .leaf .leaf) .leaf)) (.node 40000 ([4,35,36,37],Z3r,152) (.node 39002 ([2,3,4,6,12,155,156],Z3v,172) (.node 39001 ([2,3,4,5,6,8,10,12,13,59,60,105,106],Z3w,172) .leaf .leaf) .leaf) (.node 40001 ([4,5,35,36,37,42,43],Z3q,152) .leaf .leaf))) (.node 42002 ([2,3,4,39,40,41],Z3k,90) (.node 42000 ([2,3,4,18,19,20],Z3m,90) (.node 41000 ([0,4,5,15,16],Z3n,41) (.node 40003 ([4,5,7,8,9,10,35,36,37,42,43,68,90],Z3o,152) .leaf .leaf) .leaf) (.node 42001 ([2,3,4,18,19,20,24,25],Z3l,90) .leaf .leaf)) (.node 45000 ([1,2,3,4],Z3h,19) (.node 44000 ([1,2,3,4],Z3i,30) (.node 42003 ([2,4,53,54,55],Z3j,90) .leaf .leaf) .leaf) (.node 56000 ([2,3,6,7],Z3g,23) .leaf .leaf)))) (.node 68000 ([0,1],Z34,41) (.node 62002 ([2,3,4,5,7,8,9,10,11,14],Z39,135) (.node 62000 ([2,3,4,5,7,8,9],Z3b,135) (.node 61000 ([0,3,4,5,17,18],Z3c,48) (.node 60001 ([1,2,7,8,22,23,26],Z3e,65) .leaf .leaf) .leaf) (.node 62001 ([2,3,4,5,7,8,9,10,11],Z3a,135) .leaf .leaf)) (.node 65001 ([0,1,4,5,6,7,9,23,24,25,29],Z36,90) (.node 65000 ([0,1,4,5,6,7,23,24,25],Z37,90) (.node 64000 ([2,3,6,7],Z38,16) .leaf .leaf) .leaf) (.node 66000 ([2,3,10,11],Z35,21) .leaf .leaf))) (.node 86000 ([0,2,3,18,19],Z2Y,100) (.node 85000 ([0,1,8,9],Z31,30) (.node 84000 ([0,2,3,4,5],Z32,51) (.node 83000 ([0,3,4,5],Z33,43) .leaf .leaf) .leaf) (.node 85001 ([0,1,3,8,9,16,17],Z30,30) .leaf .leaf)) (.node 92000 ([1,3,6],Z2V,25) (.node 86002 ([0,2,3,5,6,7,18,19,50,51],Z2W,100) (.node 86001 ([0,2,3,5,6,18,19],Z2X,100) .leaf .leaf) .leaf) (.node 92001 ([1,3,4,6,9,10],Z2U,25) .leaf .leaf))))):BT (List Nat × ACode × Nat)) j,rng:=fun nt ps=>Zh3 nt ps [(71,[13,14],([1,2,3],Z1w,Z1v))] }
theorem Zed:K.loop 13000=some ([2,3,4,12,13],Z3H,23):=by kernel_rfl
theorem Zec:K.loop 14000=some ([1,2,3,4],Z3G,83):=by kernel_rfl
theorem Zeb:K.loop 14001=some ([1,2,3,4,5],Z3F,83):=by kernel_rfl
theorem Zea:K.loop 16000=some ([0,1,4,5],Z3C,26):=by kernel_rfl
theorem Ze9:K.loop 27000=some ([0,1,4,7,8],Z3B,26):=by kernel_rfl
theorem Ze8:K.loop 39000=some ([2,3,4,5,6,8,10,12,59,60],Z3x,172):=by kernel_rfl
theorem Ze7:K.loop 39001=some ([2,3,4,5,6,8,10,12,13,59,60,105,106],Z3w,172):=by kernel_rfl
theorem Ze6:K.loop 39002=some ([2,3,4,6,12,155,156],Z3v,172):=by kernel_rfl
theorem Ze5:K.loop 40000=some ([4,35,36,37],Z3r,152):=by kernel_rfl
theorem Ze4:K.loop 40001=some ([4,5,35,36,37,42,43],Z3q,152):=by kernel_rfl
theorem Ze3:K.loop 40002=some ([4,5,7,8,9,35,36,37,42,43,68],Z3p,152):=by kernel_rfl
theorem Ze2:K.loop 40003=some ([4,5,7,8,9,10,35,36,37,42,43,68,90],Z3o,152):=by kernel_rfl
theorem Ze1:K.loop 41000=some ([0,4,5,15,16],Z3n,41):=by kernel_rfl
theorem Ze0:K.loop 42000=some ([2,3,4,18,19,20],Z3m,90):=by kernel_rfl
theorem ZdZ:K.loop 42001=some ([2,3,4,18,19,20,24,25],Z3l,90):=by kernel_rfl
theorem ZdY:K.loop 42002=some ([2,3,4,39,40,41],Z3k,90):=by kernel_rfl
theorem ZdX:K.loop 42003=some ([2,4,53,54,55],Z3j,90):=by kernel_rfl
theorem ZdW:K.loop 44000=some ([1,2,3,4],Z3i,30):=by kernel_rfl
theorem ZdV:K.loop 45000=some ([1,2,3,4],Z3h,19):=by kernel_rfl
theorem ZdU:K.loop 56000=some ([2,3,6,7],Z3g,23):=by kernel_rfl
theorem ZdT:K.loop 60000=some ([1,2,7,22,23],Z3f,65):=by kernel_rfl
theorem ZdS:K.loop 60001=some ([1,2,7,8,22,23,26],Z3e,65):=by kernel_rfl
theorem ZdR:K.loop 61000=some ([0,3,4,5,17,18],Z3c,48):=by kernel_rfl
theorem ZdQ:K.loop 62000=some ([2,3,4,5,7,8,9],Z3b,135):=by kernel_rfl
theorem ZdP:K.loop 62001=some ([2,3,4,5,7,8,9,10,11],Z3a,135):=by kernel_rfl
theorem ZdO:K.loop 62002=some ([2,3,4,5,7,8,9,10,11,14],Z39,135):=by kernel_rfl
theorem ZdN:K.loop 64000=some ([2,3,6,7],Z38,16):=by kernel_rfl
theorem ZdM:K.loop 65000=some ([0,1,4,5,6,7,23,24,25],Z37,90):=by kernel_rfl
theorem ZdL:K.loop 65001=some ([0,1,4,5,6,7,9,23,24,25,29],Z36,90):=by kernel_rfl
theorem ZdK:K.loop 66000=some ([2,3,10,11],Z35,21):=by kernel_rfl
theorem ZdJ:K.loop 68000=some ([0,1],Z34,41):=by kernel_rfl
theorem ZdI:K.loop 83000=some ([0,3,4,5],Z33,43):=by kernel_rfl
theorem ZdH:K.loop 84000=some ([0,2,3,4,5],Z32,51):=by kernel_rfl
theorem ZdG:K.loop 85000=some ([0,1,8,9],Z31,30):=by kernel_rfl
theorem ZdF:K.loop 85001=some ([0,1,3,8,9,16,17],Z30,30):=by kernel_rfl
theorem ZdE:K.loop 86000=some ([0,2,3,18,19],Z2Y,100):=by kernel_rfl
theorem ZdD:K.loop 86001=some ([0,2,3,5,6,18,19],Z2X,100):=by kernel_rfl
theorem ZdC:K.loop 86002=some ([0,2,3,5,6,7,18,19,50,51],Z2W,100):=by kernel_rfl
theorem ZdB:K.loop 92000=some ([1,3,6],Z2V,25):=by kernel_rfl
theorem ZdA:K.loop 92001=some ([1,3,4,6,9,10],Z2U,25):=by kernel_rfl
theorem Zdz:K.rng 71 [13,14]=some ([1,2,3],Z1w,Z1v):=by kernel_rfl
theorem ck_10:Z0a K Zg1.nt Zg1.code:=(ai tt (ai tt (ai tt (ai tt tt))))
theorem fe_10:FE (H:=H) P bk K 10 (fun o vs h c=>match vs with | []=>Znu o h c | _=>none):=by
 refine ⟨Zg1,bk_10,rfl,ck_10,fun o vs h c r e=>?_⟩
 dsimp only at e
 split at e
 · exact ⟨rfl,(Zl8 o h c).trans e⟩
 · cases e
theorem ck_11:Z0a K Zd0.nt Zd0.code:=(ai tt (ai (ai tt (ai (ai tt tt) tt)) (ai tt tt)))
theorem fe_11:FE (H:=H) P bk K 11 (fun o vs h c=>match vs with | [t0]=>Zg0 o t0 h c | _=>none):=by
 refine ⟨Zd0,bk_11,rfl,ck_11,fun o vs h c r e=>?_⟩
 dsimp only at e
 split at e
 · exact ⟨rfl,(ZeN o _ h c).trans e⟩
 · cases e
theorem Zkp:Z0a K 23 Z3H:=(ai tt (ai (ai tt tt) (ai (ai tt (ai tt (ai (ai tt tt) tt))) tt)))
theorem ZjK:LE (H:=H) P K 13000 (fun o rd vs h c df=>match vs with | [t2,t3,t4,t12,t13]=>Z7n o rd t2 t3 t4 t12 t13 h c df | _=>none):=by
 intro lin b nt hk
 rw [Zed] at hk
 cases hk
 refine ⟨Zkp,fun o rd vs h c df q e=>?_⟩
 dsimp only at e
 split at e
 · exact (Zbd o rd _ _ _ _ _ h c df).trans e
 · cases e
theorem ck_13:Z0a K ZfZ.nt ZfZ.code:=(ai tt (ai (ai tt (ai (ai tt tt) tt)) (ai tt (ai (ai tt (ai rfl Zed)) (ai tt tt)))))
theorem fe_13:FE (H:=H) P bk K 13 (fun o vs h c=>match vs with | [t0]=>Znt o t0 h c | _=>none):=by
 refine ⟨ZfZ,bk_13,rfl,ck_13,fun o vs h c r e=>?_⟩
 dsimp only at e
 split at e
 · exact ⟨rfl,(Zl7 o _ h c).trans e⟩
 · cases e
theorem Zkn:Z0a K 83 Z3F:=(ai (ai tt (ai tt tt)) (ai (ai tt (ai (ai tt (ai tt tt)) (ai (ai tt (ai (ai tt tt) tt)) (ai tt (ai (ai tt tt) tt))))) tt))
theorem ZjI:LE (H:=H) P K 14001 (fun o rd vs h c df=>match vs with | [t1,t2,t3,t4,t5]=>Z1U o rd t1 t2 t3 t4 t5 h c df | _=>none):=by
 intro lin b nt hk
 rw [Zeb] at hk
 cases hk
 refine ⟨Zkn,fun o rd vs h c df q e=>?_⟩
 dsimp only at e
 split at e
 · exact (Z57 o rd _ _ _ _ _ h c df).trans e
 · cases e
theorem Zko:Z0a K 83 Z3G:=(ai (ai tt (ai tt tt)) (ai (ai tt (ai rfl Zeb)) tt))
theorem ZjJ:LE (H:=H) P K 14000 (fun o rd vs h c df=>match vs with | [t1,t2,t3,t4]=>Z1j o rd t1 t2 t3 t4 h c df | _=>none):=by
 intro lin b nt hk
 rw [Zec] at hk
 cases hk
 refine ⟨Zko,fun o rd vs h c df q e=>?_⟩
 dsimp only at e
 split at e
 · exact (Z58 o rd _ _ _ _ h c df).trans e
 · cases e
theorem ck_14:Z0a K ZcZ.nt ZcZ.code:=(ai tt (ai tt (ai (ai tt (ai (ai tt tt) tt)) (ai (ai tt (ai rfl Zec)) (ai tt tt)))))
theorem fe_14:FE (H:=H) P bk K 14 (fun o vs h c=>match vs with | [t0]=>ZhN o t0 h c | _=>none):=by
 refine ⟨ZcZ,bk_14,rfl,ck_14,fun o vs h c r e=>?_⟩
 dsimp only at e
 split at e
 · exact ⟨rfl,(ZeM o _ h c).trans e⟩
 · cases e
theorem Zkm:Z0a K 26 Z3C:=(ai (ai tt (ai tt tt)) (ai (ai tt (ai (ai tt tt) tt)) tt))
theorem ZjH:LE (H:=H) P K 16000 (fun o rd vs h c df=>match vs with | [t0,t1,t4,t5]=>Z7m o rd t0 t1 t4 t5 h c df | _=>none):=by
 intro lin b nt hk
 rw [Zea] at hk
 cases hk
 refine ⟨Zkm,fun o rd vs h c df q e=>?_⟩
 dsimp only at e
 split at e
 · exact (Zbc o rd _ _ _ _ h c df).trans e
 · cases e
theorem ck_16:Z0a K ZfX.nt ZfX.code:=(ai tt (ai (ai tt (ai (ai tt tt) tt)) (ai (ai tt (ai rfl Zea)) (ai tt tt))))
theorem fe_16:FE (H:=H) P bk K 16 (fun o vs h c=>match vs with | [t0,t1]=>Zns o t0 t1 h c | _=>none):=by
 refine ⟨ZfX,bk_16,rfl,ck_16,fun o vs h c r e=>?_⟩
 dsimp only at e
 split at e
 · exact ⟨rfl,(Zl6 o _ _ h c).trans e⟩
 · cases e
theorem Zkl:Z0a K 26 Z3B:=(ai tt (ai (ai tt tt) (ai (ai tt (ai tt (ai (ai tt tt) tt))) tt)))
theorem ZjG:LE (H:=H) P K 27000 (fun o rd vs h c df=>match vs with | [t0,t1,t4,t7,t8]=>Z4w o rd t0 t1 t4 t7 t8 h c df | _=>none):=by
 intro lin b nt hk
 rw [Ze9] at hk
 cases hk
 refine ⟨Zkl,fun o rd vs h c df q e=>?_⟩
 dsimp only at e
 split at e
 · exact (Z56 o rd _ _ _ _ _ h c df).trans e
 · cases e
theorem ck_27:Z0a K ZcY.nt ZcY.code:=(ai tt (ai (ai tt (ai rfl Ze9)) (ai tt tt)))
theorem fe_27:FE (H:=H) P bk K 27 (fun o vs h c=>match vs with | [t0,t1]=>ZhM o t0 t1 h c | _=>none):=by
 refine ⟨ZcY,bk_27,rfl,ck_27,fun o vs h c r e=>?_⟩
 dsimp only at e
 split at e
 · exact ⟨rfl,(ZeL o _ _ h c).trans e⟩
 · cases e
theorem ck_37:Z0a K ZfS.nt ZfS.code:=(ai tt (ai tt (ai tt tt)))
theorem fe_37:FE (H:=H) P bk K 37 (fun o vs h c=>match vs with | []=>Znn o h c | _=>none):=by
 refine ⟨ZfS,bk_37,rfl,ck_37,fun o vs h c r e=>?_⟩
 dsimp only at e
 split at e
 · exact ⟨rfl,(ZkU o h c).trans e⟩
 · cases e
theorem Zkq:Z0a K 71 Z1w:=(ai tt tt)
theorem Zkk:Z0a K 71 Z1v:=(ai (ai tt (ai tt tt)) (ai (ai tt (ai (ai tt tt) tt)) (ai tt (ai (ai tt tt) tt))))
theorem ZiO:RE (H:=H) P K 71 [13,14] (fun o l vs h c=>match vs with | [t13,t14,t1,t2,t3]=>Z3z o l t13 t14 t1 t2 t3 h c | _=>none):=by
 intro lin a b hk
 rw [Zdz] at hk
 cases hk
 refine ⟨Zkq,Zkk,fun o l vs h c r e=>?_⟩
 dsimp only at e
 split at e
 · exact (Z6A o l _ _ _ _ _ h c).trans e
 · cases e
theorem ck_38:Z0a K ZcX.nt ZcX.code:=(ai tt (ai (ai tt (ai (ai tt tt) tt)) (ai tt (ai (ai tt (ai rfl Zdz)) (ai tt tt)))))
theorem fe_38:FE (H:=H) P bk K 38 (fun o vs h c=>match vs with | [t0]=>ZhL o t0 h c | _=>none):=by
 refine ⟨ZcX,bk_38,rfl,ck_38,fun o vs h c r e=>?_⟩
 dsimp only at e
 split at e
 · exact ⟨rfl,(ZeK o _ h c).trans e⟩
 · cases e
theorem Zki:Z0a K 172 Z3w:=(ai tt (ai (ai tt tt) (ai (ai tt (ai tt (ai tt (ai tt (ai tt tt))))) tt)))
theorem ZjE:LE (H:=H) P K 39001 (fun o rd vs h c df=>match vs with | [t2,t3,t4,t5,t6,t8,t10,t12,t13,t59,t60,t105,t106]=>Z3y o rd t2 t3 t4 t5 t6 t8 t10 t12 t13 t59 t60 t105 t106 h c df | _=>none):=by
 intro lin b nt hk
 rw [Ze7] at hk
 cases hk
 refine ⟨Zki,fun o rd vs h c df q e=>?_⟩
 dsimp only at e
 split at e
 · exact (Z2O o rd _ _ _ _ _ _ _ _ _ _ _ _ _ h c df).trans e
 · cases e
theorem Zkj:Z0a K 172 Z3x:=(ai tt (ai (ai tt tt) (ai (ai tt (ai tt (ai tt (ai tt (ai tt (ai rfl Ze7)))))) tt)))
theorem ZjF:LE (H:=H) P K 39000 (fun o rd vs h c df=>match vs with | [t2,t3,t4,t5,t6,t8,t10,t12,t59,t60]=>Z4u o rd t2 t3 t4 t5 t6 t8 t10 t12 t59 t60 h c df | _=>none):=by
 intro lin b nt hk
 rw [Ze8] at hk
 cases hk
 refine ⟨Zkj,fun o rd vs h c df q e=>?_⟩
 dsimp only at e
 split at e
 · exact (Z53 o rd _ _ _ _ _ _ _ _ _ _ h c df).trans e
 · cases e
theorem Zkh:Z0a K 172 Z3v:=(ai tt (ai (ai tt tt) (ai (ai tt tt) tt)))
theorem ZjD:LE (H:=H) P K 39002 (fun o rd vs h c df=>match vs with | [t2,t3,t4,t6,t12,t155,t156]=>Z4t o rd t2 t3 t4 t6 t12 t155 t156 h c df | _=>none):=by
 intro lin b nt hk
 rw [Ze6] at hk
 cases hk
 refine ⟨Zkh,fun o rd vs h c df q e=>?_⟩
 dsimp only at e
 split at e
 · exact (Z52 o rd _ _ _ _ _ _ _ h c df).trans e
 · cases e
theorem ck_39:Z0a K ZcW.nt ZcW.code:=(ai tt (ai tt (ai tt (ai tt (ai tt (ai tt (ai tt (ai (ai tt (ai rfl Ze8)) (ai (ai tt (ai rfl Ze6)) (ai tt tt))))))))))
theorem fe_39:FE (H:=H) P bk K 39 (fun o vs h c=>match vs with | [t0]=>ZhK o t0 h c | _=>none):=by
 refine ⟨ZcW,bk_39,rfl,ck_39,fun o vs h c r e=>?_⟩
 dsimp only at e
 split at e
 · exact ⟨rfl,(ZeJ o _ h c).trans e⟩
 · cases e
theorem Zkd:Z0a K 152 Z3o:=(ai tt (ai (ai tt tt) (ai (ai tt (ai tt (ai (ai tt tt) tt))) tt)))
theorem Zjz:LE (H:=H) P K 40003 (fun o rd vs h c df=>match vs with | [t4,t5,t7,t8,t9,t10,t35,t36,t37,t42,t43,t68,t90]=>Z3s o rd t4 t5 t7 t8 t9 t10 t35 t36 t37 t42 t43 t68 t90 h c df | _=>none):=by
 intro lin b nt hk
 rw [Ze2] at hk
 cases hk
 refine ⟨Zkd,fun o rd vs h c df q e=>?_⟩
 dsimp only at e
 split at e
 · exact (Z2L o rd _ _ _ _ _ _ _ _ _ _ _ _ _ h c df).trans e
 · cases e
theorem Zke:Z0a K 152 Z3p:=(ai tt (ai (ai tt tt) (ai (ai tt (ai (ai tt (ai tt tt)) (ai tt (ai tt (ai rfl Ze2))))) tt)))
theorem ZjA:LE (H:=H) P K 40002 (fun o rd vs h c df=>match vs with | [t4,t5,t7,t8,t9,t35,t36,t37,t42,t43,t68]=>Z3t o rd t4 t5 t7 t8 t9 t35 t36 t37 t42 t43 t68 h c df | _=>none):=by
 intro lin b nt hk
 rw [Ze3] at hk
 cases hk
 refine ⟨Zke,fun o rd vs h c df q e=>?_⟩
 dsimp only at e
 split at e
 · exact (Z2M o rd _ _ _ _ _ _ _ _ _ _ _ h c df).trans e
 · cases e
theorem Zkf:Z0a K 152 Z3q:=(ai tt (ai (ai tt tt) (ai (ai tt (ai (ai tt (ai tt tt)) (ai tt (ai tt (ai tt (ai rfl Ze3)))))) tt)))
theorem ZjB:LE (H:=H) P K 40001 (fun o rd vs h c df=>match vs with | [t4,t5,t35,t36,t37,t42,t43]=>Z3u o rd t4 t5 t35 t36 t37 t42 t43 h c df | _=>none):=by
 intro lin b nt hk
 rw [Ze4] at hk
 cases hk
 refine ⟨Zkf,fun o rd vs h c df q e=>?_⟩
 dsimp only at e
 split at e
 · exact (Z2N o rd _ _ _ _ _ _ _ h c df).trans e
 · cases e
theorem Zkg:Z0a K 152 Z3r:=(ai tt (ai (ai tt tt) (ai (ai tt (ai tt (ai rfl Ze4))) tt)))
theorem ZjC:LE (H:=H) P K 40000 (fun o rd vs h c df=>match vs with | [t4,t35,t36,t37]=>Z4s o rd t4 t35 t36 t37 h c df | _=>none):=by
 intro lin b nt hk
 rw [Ze5] at hk
 cases hk
 refine ⟨Zkg,fun o rd vs h c df q e=>?_⟩
 dsimp only at e
 split at e
 · exact (Z51 o rd _ _ _ _ h c df).trans e
 · cases e
theorem ck_40:Z0a K ZcV.nt ZcV.code:=(ai tt (ai tt (ai tt (ai (ai tt (ai rfl Ze5)) (ai tt tt)))))
theorem fe_40:FE (H:=H) P bk K 40 (fun o vs h c=>match vs with | [t0]=>ZhJ o t0 h c | _=>none):=by
 refine ⟨ZcV,bk_40,rfl,ck_40,fun o vs h c r e=>?_⟩
 dsimp only at e
 split at e
 · exact ⟨rfl,(ZeI o _ h c).trans e⟩
 · cases e
theorem Zkc:Z0a K 41 Z3n:=(ai tt (ai (ai tt tt) (ai (ai tt (ai tt (ai tt (ai (ai tt tt) tt)))) tt)))
theorem Zjy:LE (H:=H) P K 41000 (fun o rd vs h c df=>match vs with | [t0,t4,t5,t15,t16]=>Z4r o rd t0 t4 t5 t15 t16 h c df | _=>none):=by
 intro lin b nt hk
 rw [Ze1] at hk
 cases hk
 refine ⟨Zkc,fun o rd vs h c df q e=>?_⟩
 dsimp only at e
 split at e
 · exact (Z50 o rd _ _ _ _ _ h c df).trans e
 · cases e
theorem ck_41:Z0a K ZcU.nt ZcU.code:=(ai tt (ai tt (ai tt (ai (ai tt (ai rfl Ze1)) (ai tt tt)))))
theorem fe_41:FE (H:=H) P bk K 41 (fun o vs h c=>match vs with | [t0]=>ZhI o t0 h c | _=>none):=by
 refine ⟨ZcU,bk_41,rfl,ck_41,fun o vs h c r e=>?_⟩
 dsimp only at e
 split at e
 · exact ⟨rfl,(ZeH o _ h c).trans e⟩
 · cases e
theorem Zka:Z0a K 90 Z3l:=(ai tt (ai (ai tt tt) (ai (ai tt tt) tt)))
theorem Zjw:LE (H:=H) P K 42001 (fun o rd vs h c df=>match vs with | [t2,t3,t4,t18,t19,t20,t24,t25]=>Z7c o rd t2 t3 t4 t18 t19 t20 t24 t25 h c df | _=>none):=by
 intro lin b nt hk
 rw [ZdZ] at hk
 cases hk
 refine ⟨Zka,fun o rd vs h c df q e=>?_⟩
 dsimp only at e
 split at e
 · exact (Zb6 o rd _ _ _ _ _ _ _ _ h c df).trans e
 · cases e
theorem Zkb:Z0a K 90 Z3m:=(ai tt (ai (ai tt tt) (ai (ai tt (ai tt (ai rfl ZdZ))) tt)))
theorem Zjx:LE (H:=H) P K 42000 (fun o rd vs h c df=>match vs with | [t2,t3,t4,t18,t19,t20]=>Z7d o rd t2 t3 t4 t18 t19 t20 h c df | _=>none):=by
 intro lin b nt hk
 rw [Ze0] at hk
 cases hk
 refine ⟨Zkb,fun o rd vs h c df q e=>?_⟩
 dsimp only at e
 split at e
 · exact (Zb7 o rd _ _ _ _ _ _ h c df).trans e
 · cases e
theorem Zk9:Z0a K 90 Z3k:=(ai tt (ai (ai tt tt) (ai (ai tt tt) tt)))
theorem Zjv:LE (H:=H) P K 42002 (fun o rd vs h c df=>match vs with | [t2,t3,t4,t39,t40,t41]=>Z7b o rd t2 t3 t4 t39 t40 t41 h c df | _=>none):=by
 intro lin b nt hk
 rw [ZdY] at hk
 cases hk
 refine ⟨Zk9,fun o rd vs h c df q e=>?_⟩
 dsimp only at e
 split at e
 · exact (Zb5 o rd _ _ _ _ _ _ h c df).trans e
 · cases e
theorem Zk8:Z0a K 90 Z3j:=(ai tt (ai (ai tt tt) (ai (ai tt (ai tt (ai tt tt))) tt)))
theorem Zju:LE (H:=H) P K 42003 (fun o rd vs h c df=>match vs with | [t2,t4,t53,t54,t55]=>Z7a o rd t2 t4 t53 t54 t55 h c df | _=>none):=by
 intro lin b nt hk
 rw [ZdX] at hk
 cases hk
 refine ⟨Zk8,fun o rd vs h c df q e=>?_⟩
 dsimp only at e
 split at e
 · exact (Zb4 o rd _ _ _ _ _ h c df).trans e
 · cases e
theorem ck_42:Z0a K ZfQ.nt ZfQ.code:=(ai tt (ai tt (ai tt (ai (ai tt (ai rfl Ze0)) (ai (ai tt (ai rfl ZdY)) (ai (ai tt (ai rfl ZdX)) (ai tt tt)))))))
theorem fe_42:FE (H:=H) P bk K 42 (fun o vs h c=>match vs with | [t0]=>Znm o t0 h c | _=>none):=by
 refine ⟨ZfQ,bk_42,rfl,ck_42,fun o vs h c r e=>?_⟩
 dsimp only at e
 split at e
 · exact ⟨rfl,(ZkS o _ h c).trans e⟩
 · cases e
theorem ck_43:Z0a K ZfL.nt ZfL.code:=(ai tt (ai tt tt))
theorem fe_43:FE (H:=H) P bk K 43 (fun o vs h c=>match vs with | []=>Znl o h c | _=>none):=by
 refine ⟨ZfL,bk_43,rfl,ck_43,fun o vs h c r e=>?_⟩
 dsimp only at e
 split at e
 · exact ⟨rfl,(ZkR o h c).trans e⟩
 · cases e
theorem Zk7:Z0a K 30 Z3i:=(ai (ai tt (ai tt tt)) (ai (ai (ai tt (ai (ai tt tt) tt)) tt) tt))
theorem Zjt:LE (H:=H) P K 44000 (fun o rd vs h c df=>match vs with | [t1,t2,t3,t4]=>Z1i o rd t1 t2 t3 t4 h c df | _=>none):=by
 intro lin b nt hk
 rw [ZdW] at hk
 cases hk
 refine ⟨Zk7,fun o rd vs h c df q e=>?_⟩
 dsimp only at e
 split at e
 · exact (Z4Z o rd _ _ _ _ h c df).trans e
 · cases e
theorem ck_44:Z0a K ZcT.nt ZcT.code:=(ai tt (ai tt (ai (ai tt (ai rfl ZdW)) (ai tt tt))))
theorem fe_44:FE (H:=H) P bk K 44 (fun o vs h c=>match vs with | [t0]=>ZhH o t0 h c | _=>none):=by
 refine ⟨ZcT,bk_44,rfl,ck_44,fun o vs h c r e=>?_⟩
 dsimp only at e
 split at e
 · exact ⟨rfl,(ZeG o _ h c).trans e⟩
 · cases e
theorem Zk6:Z0a K 19 Z3h:=(ai (ai tt (ai tt tt)) (ai tt tt))
theorem Zjs:LE (H:=H) P K 45000 (fun o rd vs h c df=>match vs with | [t1,t2,t3,t4]=>Z2h o rd t1 t2 t3 t4 h c df | _=>none):=by
 intro lin b nt hk
 rw [ZdV] at hk
 cases hk
 refine ⟨Zk6,fun o rd vs h c df q e=>?_⟩
 dsimp only at e
 split at e
 · exact (Z4Y o rd _ _ _ _ h c df).trans e
 · cases e
theorem ck_45:Z0a K ZcS.nt ZcS.code:=(ai tt (ai tt (ai (ai tt (ai (ai tt tt) tt)) (ai (ai tt (ai rfl ZdV)) (ai tt tt)))))
theorem fe_45:FE (H:=H) P bk K 45 (fun o vs h c=>match vs with | [t0]=>ZhG o t0 h c | _=>none):=by
 refine ⟨ZcS,bk_45,rfl,ck_45,fun o vs h c r e=>?_⟩
 dsimp only at e
 split at e
 · exact ⟨rfl,(ZeF o _ h c).trans e⟩
 · cases e
theorem ck_54:Z0a K ZcR.nt ZcR.code:=(ai tt (ai tt tt))
theorem fe_54:FE (H:=H) P bk K 54 (fun o vs h c=>match vs with | []=>ZhF o h c | _=>none):=by
 refine ⟨ZcR,bk_54,rfl,ck_54,fun o vs h c r e=>?_⟩
 dsimp only at e
 split at e
 · exact ⟨rfl,(ZeE o h c).trans e⟩
 · cases e
theorem Zk5:Z0a K 23 Z3g:=(ai tt (ai (ai tt tt) (ai (ai tt (ai (ai tt (ai (ai tt tt) tt)) tt)) tt)))
theorem Zjr:LE (H:=H) P K 56000 (fun o rd vs h c df=>match vs with | [t2,t3,t6,t7]=>Z1T o rd t2 t3 t6 t7 h c df | _=>none):=by
 intro lin b nt hk
 rw [ZdU] at hk
 cases hk
 refine ⟨Zk5,fun o rd vs h c df q e=>?_⟩
 dsimp only at e
 split at e
 · exact (Z4X o rd _ _ _ _ h c df).trans e
 · cases e
theorem ck_56:Z0a K ZcQ.nt ZcQ.code:=(ai tt (ai tt (ai (ai tt (ai rfl ZdU)) (ai tt tt))))
theorem fe_56:FE (H:=H) P bk K 56 (fun o vs h c=>match vs with | [t0]=>ZhE o t0 h c | _=>none):=by
 refine ⟨ZcQ,bk_56,rfl,ck_56,fun o vs h c r e=>?_⟩
 dsimp only at e
 split at e
 · exact ⟨rfl,(ZeD o _ h c).trans e⟩
 · cases e
theorem Zk3:Z0a K 65 Z3e:=(ai tt (ai (ai tt tt) (ai (ai tt (ai tt (ai (ai tt tt) tt))) tt)))
theorem Zjp:LE (H:=H) P K 60001 (fun o rd vs h c df=>match vs with | [t1,t2,t7,t8,t22,t23,t26]=>Z4m o rd t1 t2 t7 t8 t22 t23 t26 h c df | _=>none):=by
 intro lin b nt hk
 rw [ZdS] at hk
 cases hk
 refine ⟨Zk3,fun o rd vs h c df q e=>?_⟩
 dsimp only at e
 split at e
 · exact (Z4V o rd _ _ _ _ _ _ _ h c df).trans e
 · cases e
theorem Zk4:Z0a K 65 Z3f:=(ai tt (ai (ai tt tt) (ai (ai tt (ai tt (ai rfl ZdS))) tt)))
theorem Zjq:LE (H:=H) P K 60000 (fun o rd vs h c df=>match vs with | [t1,t2,t7,t22,t23]=>Z4n o rd t1 t2 t7 t22 t23 h c df | _=>none):=by
 intro lin b nt hk
 rw [ZdT] at hk
 cases hk
 refine ⟨Zk4,fun o rd vs h c df q e=>?_⟩
 dsimp only at e
 split at e
 · exact (Z4W o rd _ _ _ _ _ h c df).trans e
 · cases e
theorem ck_60:Z0a K ZcP.nt ZcP.code:=(ai tt (ai tt (ai (ai tt (ai rfl ZdT)) (ai tt tt))))
theorem fe_60:FE (H:=H) P bk K 60 (fun o vs h c=>match vs with | [t0,t1,t2]=>ZhD o t0 t1 t2 h c | _=>none):=by
 refine ⟨ZcP,bk_60,rfl,ck_60,fun o vs h c r e=>?_⟩
 dsimp only at e
 split at e
 · exact ⟨rfl,(ZeC o _ _ _ h c).trans e⟩
 · cases e
theorem Zk2:Z0a K 48 Z3c:=(ai tt (ai (ai tt tt) (ai (ai tt (ai tt (ai tt tt))) tt)))
theorem Zjo:LE (H:=H) P K 61000 (fun o rd vs h c df=>match vs with | [t0,t3,t4,t5,t17,t18]=>Z3d o rd t0 t3 t4 t5 t17 t18 h c df | _=>none):=by
 intro lin b nt hk
 rw [ZdR] at hk
 cases hk
 refine ⟨Zk2,fun o rd vs h c df q e=>?_⟩
 dsimp only at e
 split at e
 · exact (Z2K o rd _ _ _ _ _ _ h c df).trans e
 · cases e
theorem ck_61:Z0a K ZcO.nt ZcO.code:=(ai tt (ai tt (ai (ai tt (ai rfl ZdR)) (ai tt tt))))
theorem fe_61:FE (H:=H) P bk K 61 (fun o vs h c=>match vs with | [t0,t1]=>ZhC o t0 t1 h c | _=>none):=by
 refine ⟨ZcO,bk_61,rfl,ck_61,fun o vs h c r e=>?_⟩
 dsimp only at e
 split at e
 · exact ⟨rfl,(ZeB o _ _ h c).trans e⟩
 · cases e
theorem ZjZ:Z0a K 135 Z39:=(ai (ai tt (ai tt tt)) (ai (ai tt (ai (ai tt (ai (ai tt tt) tt)) tt)) tt))
theorem Zjl:LE (H:=H) P K 62002 (fun o rd vs h c df=>match vs with | [t2,t3,t4,t5,t7,t8,t9,t10,t11,t14]=>Z73 o rd t2 t3 t4 t5 t7 t8 t9 t10 t11 t14 h c df | _=>none):=by
 intro lin b nt hk
 rw [ZdO] at hk
 cases hk
 refine ⟨ZjZ,fun o rd vs h c df q e=>?_⟩
 dsimp only at e
 split at e
 · exact (Zb1 o rd _ _ _ _ _ _ _ _ _ _ h c df).trans e
 · cases e
theorem Zk0:Z0a K 135 Z3a:=(ai (ai tt (ai tt tt)) (ai (ai (ai tt (ai (ai tt tt) tt)) (ai (ai tt (ai (ai tt (ai tt tt)) tt)) (ai tt (ai (ai tt (ai (ai tt tt) tt)) (ai tt (ai (ai tt (ai rfl ZdO)) tt)))))) tt))
theorem Zjm:LE (H:=H) P K 62001 (fun o rd vs h c df=>match vs with | [t2,t3,t4,t5,t7,t8,t9,t10,t11]=>Z74 o rd t2 t3 t4 t5 t7 t8 t9 t10 t11 h c df | _=>none):=by
 intro lin b nt hk
 rw [ZdP] at hk
 cases hk
 refine ⟨Zk0,fun o rd vs h c df q e=>?_⟩
 dsimp only at e
 split at e
 · exact (Zb2 o rd _ _ _ _ _ _ _ _ _ h c df).trans e
 · cases e
theorem Zk1:Z0a K 135 Z3b:=(ai (ai tt (ai tt tt)) (ai (ai tt (ai (ai tt (ai rfl ZdP)) tt)) tt))
theorem Zjn:LE (H:=H) P K 62000 (fun o rd vs h c df=>match vs with | [t2,t3,t4,t5,t7,t8,t9]=>Z75 o rd t2 t3 t4 t5 t7 t8 t9 h c df | _=>none):=by
 intro lin b nt hk
 rw [ZdQ] at hk
 cases hk
 refine ⟨Zk1,fun o rd vs h c df q e=>?_⟩
 dsimp only at e
 split at e
 · exact (Zb3 o rd _ _ _ _ _ _ _ h c df).trans e
 · cases e
theorem ck_62:Z0a K ZfG.nt ZfG.code:=(ai tt (ai (ai tt (ai (ai tt tt) tt)) (ai tt (ai (ai tt (ai (ai tt tt) tt)) (ai tt (ai (ai tt (ai (ai tt tt) tt)) (ai tt (ai tt (ai (ai tt (ai rfl ZdQ)) (ai (ai tt (ai (ai tt tt) tt)) (ai (ai tt (ai (ai tt tt) tt)) (ai tt tt))))))))))))
theorem fe_62:FE (H:=H) P bk K 62 (fun o vs h c=>match vs with | [t0]=>Znf o t0 h c | _=>none):=by
 refine ⟨ZfG,bk_62,rfl,ck_62,fun o vs h c r e=>?_⟩
 dsimp only at e
 split at e
 · exact ⟨rfl,(ZkM o _ h c).trans e⟩
 · cases e
theorem ck_63:Z0a K ZcN.nt ZcN.code:=(ai tt (ai tt tt))
theorem fe_63:FE (H:=H) P bk K 63 (fun o vs h c=>match vs with | [t0]=>ZhB o t0 h c | _=>none):=by
 refine ⟨ZcN,bk_63,rfl,ck_63,fun o vs h c r e=>?_⟩
 dsimp only at e
 split at e
 · exact ⟨rfl,(ZeA o _ h c).trans e⟩
 · cases e
theorem ZjY:Z0a K 16 Z38:=(ai tt (ai (ai tt tt) (ai (ai tt tt) tt)))
theorem Zjk:LE (H:=H) P K 64000 (fun o rd vs h c df=>match vs with | [t2,t3,t6,t7]=>Z2g o rd t2 t3 t6 t7 h c df | _=>none):=by
 intro lin b nt hk
 rw [ZdN] at hk
 cases hk
 refine ⟨ZjY,fun o rd vs h c df q e=>?_⟩
 dsimp only at e
 split at e
 · exact (Z4U o rd _ _ _ _ h c df).trans e
 · cases e
theorem ck_64:Z0a K ZcM.nt ZcM.code:=(ai tt (ai tt (ai (ai tt (ai rfl ZdN)) (ai tt tt))))
theorem fe_64:FE (H:=H) P bk K 64 (fun o vs h c=>match vs with | [t0]=>ZhA o t0 h c | _=>none):=by
 refine ⟨ZcM,bk_64,rfl,ck_64,fun o vs h c r e=>?_⟩
 dsimp only at e
 split at e
 · exact ⟨rfl,(Zez o _ h c).trans e⟩
 · cases e
theorem ZjW:Z0a K 90 Z36:=(ai tt (ai (ai tt tt) (ai (ai tt (ai (ai tt (ai tt tt)) (ai tt (ai tt (ai (ai tt tt) tt))))) tt)))
theorem Zji:LE (H:=H) P K 65001 (fun o rd vs h c df=>match vs with | [t0,t1,t4,t5,t6,t7,t9,t23,t24,t25,t29]=>Z2f o rd t0 t1 t4 t5 t6 t7 t9 t23 t24 t25 t29 h c df | _=>none):=by
 intro lin b nt hk
 rw [ZdL] at hk
 cases hk
 refine ⟨ZjW,fun o rd vs h c df q e=>?_⟩
 dsimp only at e
 split at e
 · exact (Z23 o rd _ _ _ _ _ _ _ _ _ _ _ h c df).trans e
 · cases e
theorem ZjX:Z0a K 90 Z37:=(ai tt (ai (ai tt tt) (ai (ai tt (ai tt (ai rfl ZdL))) tt)))
theorem Zjj:LE (H:=H) P K 65000 (fun o rd vs h c df=>match vs with | [t0,t1,t4,t5,t6,t7,t23,t24,t25]=>Z4k o rd t0 t1 t4 t5 t6 t7 t23 t24 t25 h c df | _=>none):=by
 intro lin b nt hk
 rw [ZdM] at hk
 cases hk
 refine ⟨ZjX,fun o rd vs h c df q e=>?_⟩
 dsimp only at e
 split at e
 · exact (Z4T o rd _ _ _ _ _ _ _ _ _ h c df).trans e
 · cases e
theorem ck_65:Z0a K ZcL.nt ZcL.code:=(ai tt (ai tt (ai tt (ai tt (ai (ai tt (ai rfl ZdM)) (ai tt (ai tt (ai tt (ai tt tt)))))))))
theorem fe_65:FE (H:=H) P bk K 65 (fun o vs h c=>match vs with | [t0,t1]=>Zhz o t0 t1 h c | _=>none):=by
 refine ⟨ZcL,bk_65,rfl,ck_65,fun o vs h c r e=>?_⟩
 dsimp only at e
 split at e
 · exact ⟨rfl,(Zey o _ _ h c).trans e⟩
 · cases e
theorem ZjV:Z0a K 21 Z35:=(ai tt (ai (ai tt tt) (ai (ai tt tt) tt)))
theorem Zjh:LE (H:=H) P K 66000 (fun o rd vs h c df=>match vs with | [t2,t3,t10,t11]=>Z4j o rd t2 t3 t10 t11 h c df | _=>none):=by
 intro lin b nt hk
 rw [ZdK] at hk
 cases hk
 refine ⟨ZjV,fun o rd vs h c df q e=>?_⟩
 dsimp only at e
 split at e
 · exact (Z4S o rd _ _ _ _ h c df).trans e
 · cases e
theorem ck_66:Z0a K ZcK.nt ZcK.code:=(ai tt (ai tt (ai (ai tt (ai rfl ZdK)) (ai tt tt))))
theorem fe_66:FE (H:=H) P bk K 66 (fun o vs h c=>match vs with | [t0]=>Zhy o t0 h c | _=>none):=by
 refine ⟨ZcK,bk_66,rfl,ck_66,fun o vs h c r e=>?_⟩
 dsimp only at e
 split at e
 · exact ⟨rfl,(Zex o _ h c).trans e⟩
 · cases e
theorem ck_67:Z0a K ZcJ.nt ZcJ.code:=(ai tt tt)
theorem fe_67:FE (H:=H) P bk K 67 (fun o vs h c=>match vs with | [t0,t1,t2]=>ZfA o t0 t1 t2 h c | _=>none):=by
 refine ⟨ZcJ,bk_67,rfl,ck_67,fun o vs h c r e=>?_⟩
 dsimp only at e
 split at e
 · exact ⟨rfl,(Zew o _ _ _ h c).trans e⟩
 · cases e
theorem ZjU:Z0a K 41 Z34:=(ai (ai tt (ai tt tt)) (ai tt tt))
theorem Zjg:LE (H:=H) P K 68000 (fun o rd vs h c df=>match vs with | [t0,t1]=>Z5D o rd t0 t1 h c df | _=>none):=by
 intro lin b nt hk
 rw [ZdJ] at hk
 cases hk
 refine ⟨ZjU,fun o rd vs h c df q e=>?_⟩
 dsimp only at e
 split at e
 · exact (Z6u o rd _ _ h c df).trans e
 · cases e
theorem ck_68:Z0a K ZcI.nt ZcI.code:=(ai tt (ai (ai rfl ZdJ) (ai tt tt)))
theorem fe_68:FE (H:=H) P bk K 68 (fun o vs h c=>match vs with | [t0,t1]=>Zfz o t0 t1 h c | _=>none):=by
 refine ⟨ZcI,bk_68,rfl,ck_68,fun o vs h c r e=>?_⟩
 dsimp only at e
 split at e
 · exact ⟨rfl,(Zev o _ _ h c).trans e⟩
 · cases e
theorem ck_69:Z0a K Zfx.nt Zfx.code:=(ai tt (ai tt tt))
theorem fe_69:FE (H:=H) P bk K 69 (fun o vs h c=>match vs with | [t0]=>Znc o t0 h c | _=>none):=by
 refine ⟨Zfx,bk_69,rfl,ck_69,fun o vs h c r e=>?_⟩
 dsimp only at e
 split at e
 · exact ⟨rfl,(ZkL o _ h c).trans e⟩
 · cases e
theorem ck_70:Z0a K Zfw.nt Zfw.code:=(ai tt (ai tt tt))
theorem fe_70:FE (H:=H) P bk K 70 (fun o vs h c=>match vs with | [t0]=>Zna o t0 h c | _=>none):=by
 refine ⟨Zfw,bk_70,rfl,ck_70,fun o vs h c r e=>?_⟩
 dsimp only at e
 split at e
 · exact ⟨rfl,(ZkK o _ h c).trans e⟩
 · cases e
theorem ck_71:Z0a K Zfv.nt Zfv.code:=(ai tt (ai tt tt))
theorem fe_71:FE (H:=H) P bk K 71 (fun o vs h c=>match vs with | [t0]=>Zn8 o t0 h c | _=>none):=by
 refine ⟨Zfv,bk_71,rfl,ck_71,fun o vs h c r e=>?_⟩
 dsimp only at e
 split at e
 · exact ⟨rfl,(ZkJ o _ h c).trans e⟩
 · cases e
theorem ck_72:Z0a K Zfu.nt Zfu.code:=(ai tt (ai tt tt))
theorem fe_72:FE (H:=H) P bk K 72 (fun o vs h c=>match vs with | [t0]=>Zn6 o t0 h c | _=>none):=by
 refine ⟨Zfu,bk_72,rfl,ck_72,fun o vs h c r e=>?_⟩
 dsimp only at e
 split at e
 · exact ⟨rfl,(ZkI o _ h c).trans e⟩
 · cases e
theorem ZjT:Z0a K 43 Z33:=(ai (ai tt (ai tt tt)) (ai (ai tt (ai (ai tt (ai tt tt)) (ai tt (ai (ai tt tt) tt)))) tt))
theorem Zjf:LE (H:=H) P K 83000 (fun o rd vs h c df=>match vs with | [t0,t3,t4,t5]=>Z71 o rd t0 t3 t4 t5 h c df | _=>none):=by
 intro lin b nt hk
 rw [ZdI] at hk
 cases hk
 refine ⟨ZjT,fun o rd vs h c df q e=>?_⟩
 dsimp only at e
 split at e
 · exact (ZaS o rd _ _ _ _ h c df).trans e
 · cases e
theorem ck_83:Z0a K Zft.nt Zft.code:=(ai tt (ai tt (ai tt (ai (ai tt (ai rfl ZdI)) (ai tt tt)))))
theorem fe_83:FE (H:=H) P bk K 83 (fun o vs h c=>match vs with | [t0]=>Zn1 o t0 h c | _=>none):=by
 refine ⟨Zft,bk_83,rfl,ck_83,fun o vs h c r e=>?_⟩
 dsimp only at e
 split at e
 · exact ⟨rfl,(ZkD o _ h c).trans e⟩
 · cases e
theorem ZjS:Z0a K 51 Z32:=(ai (ai tt (ai tt tt)) (ai (ai (ai tt (ai (ai tt tt) tt)) tt) tt))
theorem Zje:LE (H:=H) P K 84000 (fun o rd vs h c df=>match vs with | [t0,t2,t3,t4,t5]=>Z70 o rd t0 t2 t3 t4 t5 h c df | _=>none):=by
 intro lin b nt hk
 rw [ZdH] at hk
 cases hk
 refine ⟨ZjS,fun o rd vs h c df q e=>?_⟩
 dsimp only at e
 split at e
 · exact (ZaR o rd _ _ _ _ _ h c df).trans e
 · cases e
theorem ck_84:Z0a K Zfr.nt Zfr.code:=(ai tt (ai (ai tt (ai (ai tt tt) tt)) (ai tt (ai (ai tt (ai rfl ZdH)) (ai tt tt)))))
theorem fe_84:FE (H:=H) P bk K 84 (fun o vs h c=>match vs with | [t0]=>Zn0 o t0 h c | _=>none):=by
 refine ⟨Zfr,bk_84,rfl,ck_84,fun o vs h c r e=>?_⟩
 dsimp only at e
 split at e
 · exact ⟨rfl,(ZkC o _ h c).trans e⟩
 · cases e
theorem ZjQ:Z0a K 30 Z30:=(ai tt (ai (ai tt tt) (ai (ai tt (ai tt (ai tt tt))) tt)))
theorem Zjc:LE (H:=H) P K 85001 (fun o rd vs h c df=>match vs with | [t0,t1,t3,t8,t9,t16,t17]=>Z1R o rd t0 t1 t3 t8 t9 t16 t17 h c df | _=>none):=by
 intro lin b nt hk
 rw [ZdF] at hk
 cases hk
 refine ⟨ZjQ,fun o rd vs h c df q e=>?_⟩
 dsimp only at e
 split at e
 · exact (Z4P o rd _ _ _ _ _ _ _ h c df).trans e
 · cases e
theorem ZjR:Z0a K 30 Z31:=(ai tt (ai (ai tt tt) (ai (ai tt (ai tt (ai rfl ZdF))) tt)))
theorem Zjd:LE (H:=H) P K 85000 (fun o rd vs h c df=>match vs with | [t0,t1,t8,t9]=>Z1S o rd t0 t1 t8 t9 h c df | _=>none):=by
 intro lin b nt hk
 rw [ZdG] at hk
 cases hk
 refine ⟨ZjR,fun o rd vs h c df q e=>?_⟩
 dsimp only at e
 split at e
 · exact (Z4Q o rd _ _ _ _ h c df).trans e
 · cases e
theorem ck_85:Z0a K ZcH.nt ZcH.code:=(ai tt (ai rfl ZdG))
theorem fe_85:FE (H:=H) P bk K 85 (fun o vs h c=>match vs with | [t0,t1]=>Zfn o t0 t1 h c | _=>none):=by
 refine ⟨ZcH,bk_85,rfl,ck_85,fun o vs h c r e=>?_⟩
 dsimp only at e
 split at e
 · exact ⟨rfl,(Zeu o _ _ h c).trans e⟩
 · cases e
theorem ZjN:Z0a K 100 Z2W:=(ai tt (ai (ai tt tt) (ai (ai tt (ai (ai tt (ai tt tt)) (ai tt (ai tt (ai (ai tt tt) (ai tt (ai (ai tt tt) tt))))))) tt)))
theorem Zj9:LE (H:=H) P K 86002 (fun o rd vs h c df=>match vs with | [t0,t2,t3,t5,t6,t7,t18,t19,t50,t51]=>Z1Q o rd t0 t2 t3 t5 t6 t7 t18 t19 t50 t51 h c df | _=>none):=by
 intro lin b nt hk
 rw [ZdC] at hk
 cases hk
 refine ⟨ZjN,fun o rd vs h c df q e=>?_⟩
 dsimp only at e
 split at e
 · exact (Z1u o rd _ _ _ _ _ _ _ _ _ _ h c df).trans e
 · cases e
theorem ZjO:Z0a K 100 Z2X:=(ai (ai tt (ai tt tt)) (ai (ai tt (ai tt (ai rfl ZdC))) tt))
theorem Zja:LE (H:=H) P K 86001 (fun o rd vs h c df=>match vs with | [t0,t2,t3,t5,t6,t18,t19]=>Z2Z o rd t0 t2 t3 t5 t6 t18 t19 h c df | _=>none):=by
 intro lin b nt hk
 rw [ZdD] at hk
 cases hk
 refine ⟨ZjO,fun o rd vs h c df q e=>?_⟩
 dsimp only at e
 split at e
 · exact (Z2J o rd _ _ _ _ _ _ _ h c df).trans e
 · cases e
theorem ZjP:Z0a K 100 Z2Y:=(ai tt (ai (ai tt tt) (ai (ai tt (ai (ai tt (ai tt tt)) (ai tt (ai tt (ai tt (ai rfl ZdD)))))) tt)))
theorem Zjb:LE (H:=H) P K 86000 (fun o rd vs h c df=>match vs with | [t0,t2,t3,t18,t19]=>Z2e o rd t0 t2 t3 t18 t19 h c df | _=>none):=by
 intro lin b nt hk
 rw [ZdE] at hk
 cases hk
 refine ⟨ZjP,fun o rd vs h c df q e=>?_⟩
 dsimp only at e
 split at e
 · exact (Z22 o rd _ _ _ _ _ h c df).trans e
 · cases e
theorem ck_86:Z0a K ZcG.nt ZcG.code:=(ai tt (ai tt (ai (ai tt (ai rfl ZdE)) (ai tt tt))))
theorem fe_86:FE (H:=H) P bk K 86 (fun o vs h c=>match vs with | [t0]=>Zhw o t0 h c | _=>none):=by
 refine ⟨ZcG,bk_86,rfl,ck_86,fun o vs h c r e=>?_⟩
 dsimp only at e
 split at e
 · exact ⟨rfl,(Zet o _ h c).trans e⟩
 · cases e
theorem ck_91:Z0a K ZcF.nt ZcF.code:=(ai tt (ai (ai tt (ai (ai tt tt) tt)) (ai tt tt)))
theorem fe_91:FE (H:=H) P bk K 91 (fun o vs h c=>match vs with | [t0]=>Zhv o t0 h c | _=>none):=by
 refine ⟨ZcF,bk_91,rfl,ck_91,fun o vs h c r e=>?_⟩
 dsimp only at e
 split at e
 · exact ⟨rfl,(Zes o _ h c).trans e⟩
 · cases e
theorem ZjL:Z0a K 25 Z2U:=(ai tt (ai (ai tt tt) (ai (ai tt (ai tt (ai tt tt))) tt)))
theorem Zj7:LE (H:=H) P K 92001 (fun o rd vs h c df=>match vs with | [t1,t3,t4,t6,t9,t10]=>Z4f o rd t1 t3 t4 t6 t9 t10 h c df | _=>none):=by
 intro lin b nt hk
 rw [ZdA] at hk
 cases hk
 refine ⟨ZjL,fun o rd vs h c df q e=>?_⟩
 dsimp only at e
 split at e
 · exact (Z4N o rd _ _ _ _ _ _ h c df).trans e
 · cases e
theorem ZjM:Z0a K 25 Z2V:=(ai tt (ai (ai tt tt) (ai (ai tt (ai tt (ai rfl ZdA))) tt)))
theorem Zj8:LE (H:=H) P K 92000 (fun o rd vs h c df=>match vs with | [t1,t3,t6]=>Z4g o rd t1 t3 t6 h c df | _=>none):=by
 intro lin b nt hk
 rw [ZdB] at hk
 cases hk
 refine ⟨ZjM,fun o rd vs h c df q e=>?_⟩
 dsimp only at e
 split at e
 · exact (Z4O o rd _ _ _ h c df).trans e
 · cases e
theorem ck_92:Z0a K ZcE.nt ZcE.code:=(ai tt (ai tt (ai (ai tt (ai rfl ZdB)) (ai tt tt))))
theorem fe_92:FE (H:=H) P bk K 92 (fun o vs h c=>match vs with | [t0]=>Zht o t0 h c | _=>none):=by
 refine ⟨ZcE,bk_92,rfl,ck_92,fun o vs h c r e=>?_⟩
 dsimp only at e
 split at e
 · exact ⟨rfl,(Zer o _ h c).trans e⟩
 · cases e
noncomputable def tbF:BT (Orc H->List Value->H->Nat->Option (Rt H)):=(.node 61 (fun o vs h c=>match vs with | [t0,t1]=>ZhC o t0 t1 h c | _=>none) (.node 40 (fun o vs h c=>match vs with | [t0]=>ZhJ o t0 h c | _=>none) (.node 16 (fun o vs h c=>match vs with | [t0,t1]=>Zns o t0 t1 h c | _=>none) (.node 13 (fun o vs h c=>match vs with | [t0]=>Znt o t0 h c | _=>none) (.node 11 (fun o vs h c=>match vs with | [t0]=>Zg0 o t0 h c | _=>none) (.node 10 (fun o vs h c=>match vs with | []=>Znu o h c | _=>none) .leaf .leaf) .leaf) (.node 14 (fun o vs h c=>match vs with | [t0]=>ZhN o t0 h c | _=>none) .leaf .leaf)) (.node 38 (fun o vs h c=>match vs with | [t0]=>ZhL o t0 h c | _=>none) (.node 37 (fun o vs h c=>match vs with | []=>Znn o h c | _=>none) (.node 27 (fun o vs h c=>match vs with | [t0,t1]=>ZhM o t0 t1 h c | _=>none) .leaf .leaf) .leaf) (.node 39 (fun o vs h c=>match vs with | [t0]=>ZhK o t0 h c | _=>none) .leaf .leaf))) (.node 45 (fun o vs h c=>match vs with | [t0]=>ZhG o t0 h c | _=>none) (.node 43 (fun o vs h c=>match vs with | []=>Znl o h c | _=>none) (.node 42 (fun o vs h c=>match vs with | [t0]=>Znm o t0 h c | _=>none) (.node 41 (fun o vs h c=>match vs with | [t0]=>ZhI o t0 h c | _=>none) .leaf .leaf) .leaf) (.node 44 (fun o vs h c=>match vs with | [t0]=>ZhH o t0 h c | _=>none) .leaf .leaf)) (.node 56 (fun o vs h c=>match vs with | [t0]=>ZhE o t0 h c | _=>none) (.node 54 (fun o vs h c=>match vs with | []=>ZhF o h c | _=>none) .leaf .leaf) (.node 60 (fun o vs h c=>match vs with | [t0,t1,t2]=>ZhD o t0 t1 t2 h c | _=>none) .leaf .leaf)))) (.node 70 (fun o vs h c=>match vs with | [t0]=>Zna o t0 h c | _=>none) (.node 66 (fun o vs h c=>match vs with | [t0]=>Zhy o t0 h c | _=>none) (.node 64 (fun o vs h c=>match vs with | [t0]=>ZhA o t0 h c | _=>none) (.node 63 (fun o vs h c=>match vs with | [t0]=>ZhB o t0 h c | _=>none) (.node 62 (fun o vs h c=>match vs with | [t0]=>Znf o t0 h c | _=>none) .leaf .leaf) .leaf) (.node 65 (fun o vs h c=>match vs with | [t0,t1]=>Zhz o t0 t1 h c | _=>none) .leaf .leaf)) (.node 68 (fun o vs h c=>match vs with | [t0,t1]=>Zfz o t0 t1 h c | _=>none) (.node 67 (fun o vs h c=>match vs with | [t0,t1,t2]=>ZfA o t0 t1 t2 h c | _=>none) .leaf .leaf) (.node 69 (fun o vs h c=>match vs with | [t0]=>Znc o t0 h c | _=>none) .leaf .leaf))) (.node 85 (fun o vs h c=>match vs with | [t0,t1]=>Zfn o t0 t1 h c | _=>none) (.node 83 (fun o vs h c=>match vs with | [t0]=>Zn1 o t0 h c | _=>none) (.node 72 (fun o vs h c=>match vs with | [t0]=>Zn6 o t0 h c | _=>none) (.node 71 (fun o vs h c=>match vs with | [t0]=>Zn8 o t0 h c | _=>none) .leaf .leaf) .leaf) (.node 84 (fun o vs h c=>match vs with | [t0]=>Zn0 o t0 h c | _=>none) .leaf .leaf)) (.node 91 (fun o vs h c=>match vs with | [t0]=>Zhv o t0 h c | _=>none) (.node 86 (fun o vs h c=>match vs with | [t0]=>Zhw o t0 h c | _=>none) .leaf .leaf) (.node 92 (fun o vs h c=>match vs with | [t0]=>Zht o t0 h c | _=>none) .leaf .leaf)))))
noncomputable def tbL:BT (Orc H->Option Nat->List Value->H->Nat->List Nat->Option (Rt H)):=(.node 60000 (fun o rd vs h c df=>match vs with | [t1,t2,t7,t22,t23]=>Z4n o rd t1 t2 t7 t22 t23 h c df | _=>none) (.node 40002 (fun o rd vs h c df=>match vs with | [t4,t5,t7,t8,t9,t35,t36,t37,t42,t43,t68]=>Z3t o rd t4 t5 t7 t8 t9 t35 t36 t37 t42 t43 t68 h c df | _=>none) (.node 39000 (fun o rd vs h c df=>match vs with | [t2,t3,t4,t5,t6,t8,t10,t12,t59,t60]=>Z4u o rd t2 t3 t4 t5 t6 t8 t10 t12 t59 t60 h c df | _=>none) (.node 14001 (fun o rd vs h c df=>match vs with | [t1,t2,t3,t4,t5]=>Z1U o rd t1 t2 t3 t4 t5 h c df | _=>none) (.node 14000 (fun o rd vs h c df=>match vs with | [t1,t2,t3,t4]=>Z1j o rd t1 t2 t3 t4 h c df | _=>none) (.node 13000 (fun o rd vs h c df=>match vs with | [t2,t3,t4,t12,t13]=>Z7n o rd t2 t3 t4 t12 t13 h c df | _=>none) .leaf .leaf) .leaf) (.node 27000 (fun o rd vs h c df=>match vs with | [t0,t1,t4,t7,t8]=>Z4w o rd t0 t1 t4 t7 t8 h c df | _=>none) (.node 16000 (fun o rd vs h c df=>match vs with | [t0,t1,t4,t5]=>Z7m o rd t0 t1 t4 t5 h c df | _=>none) .leaf .leaf) .leaf)) (.node 40000 (fun o rd vs h c df=>match vs with | [t4,t35,t36,t37]=>Z4s o rd t4 t35 t36 t37 h c df | _=>none) (.node 39002 (fun o rd vs h c df=>match vs with | [t2,t3,t4,t6,t12,t155,t156]=>Z4t o rd t2 t3 t4 t6 t12 t155 t156 h c df | _=>none) (.node 39001 (fun o rd vs h c df=>match vs with | [t2,t3,t4,t5,t6,t8,t10,t12,t13,t59,t60,t105,t106]=>Z3y o rd t2 t3 t4 t5 t6 t8 t10 t12 t13 t59 t60 t105 t106 h c df | _=>none) .leaf .leaf) .leaf) (.node 40001 (fun o rd vs h c df=>match vs with | [t4,t5,t35,t36,t37,t42,t43]=>Z3u o rd t4 t5 t35 t36 t37 t42 t43 h c df | _=>none) .leaf .leaf))) (.node 42002 (fun o rd vs h c df=>match vs with | [t2,t3,t4,t39,t40,t41]=>Z7b o rd t2 t3 t4 t39 t40 t41 h c df | _=>none) (.node 42000 (fun o rd vs h c df=>match vs with | [t2,t3,t4,t18,t19,t20]=>Z7d o rd t2 t3 t4 t18 t19 t20 h c df | _=>none) (.node 41000 (fun o rd vs h c df=>match vs with | [t0,t4,t5,t15,t16]=>Z4r o rd t0 t4 t5 t15 t16 h c df | _=>none) (.node 40003 (fun o rd vs h c df=>match vs with | [t4,t5,t7,t8,t9,t10,t35,t36,t37,t42,t43,t68,t90]=>Z3s o rd t4 t5 t7 t8 t9 t10 t35 t36 t37 t42 t43 t68 t90 h c df | _=>none) .leaf .leaf) .leaf) (.node 42001 (fun o rd vs h c df=>match vs with | [t2,t3,t4,t18,t19,t20,t24,t25]=>Z7c o rd t2 t3 t4 t18 t19 t20 t24 t25 h c df | _=>none) .leaf .leaf)) (.node 45000 (fun o rd vs h c df=>match vs with | [t1,t2,t3,t4]=>Z2h o rd t1 t2 t3 t4 h c df | _=>none) (.node 44000 (fun o rd vs h c df=>match vs with | [t1,t2,t3,t4]=>Z1i o rd t1 t2 t3 t4 h c df | _=>none) (.node 42003 (fun o rd vs h c df=>match vs with | [t2,t4,t53,t54,t55]=>Z7a o rd t2 t4 t53 t54 t55 h c df | _=>none) .leaf .leaf) .leaf) (.node 56000 (fun o rd vs h c df=>match vs with | [t2,t3,t6,t7]=>Z1T o rd t2 t3 t6 t7 h c df | _=>none) .leaf .leaf)))) (.node 68000 (fun o rd vs h c df=>match vs with | [t0,t1]=>Z5D o rd t0 t1 h c df | _=>none) (.node 62002 (fun o rd vs h c df=>match vs with | [t2,t3,t4,t5,t7,t8,t9,t10,t11,t14]=>Z73 o rd t2 t3 t4 t5 t7 t8 t9 t10 t11 t14 h c df | _=>none) (.node 62000 (fun o rd vs h c df=>match vs with | [t2,t3,t4,t5,t7,t8,t9]=>Z75 o rd t2 t3 t4 t5 t7 t8 t9 h c df | _=>none) (.node 61000 (fun o rd vs h c df=>match vs with | [t0,t3,t4,t5,t17,t18]=>Z3d o rd t0 t3 t4 t5 t17 t18 h c df | _=>none) (.node 60001 (fun o rd vs h c df=>match vs with | [t1,t2,t7,t8,t22,t23,t26]=>Z4m o rd t1 t2 t7 t8 t22 t23 t26 h c df | _=>none) .leaf .leaf) .leaf) (.node 62001 (fun o rd vs h c df=>match vs with | [t2,t3,t4,t5,t7,t8,t9,t10,t11]=>Z74 o rd t2 t3 t4 t5 t7 t8 t9 t10 t11 h c df | _=>none) .leaf .leaf)) (.node 65001 (fun o rd vs h c df=>match vs with | [t0,t1,t4,t5,t6,t7,t9,t23,t24,t25,t29]=>Z2f o rd t0 t1 t4 t5 t6 t7 t9 t23 t24 t25 t29 h c df | _=>none) (.node 65000 (fun o rd vs h c df=>match vs with | [t0,t1,t4,t5,t6,t7,t23,t24,t25]=>Z4k o rd t0 t1 t4 t5 t6 t7 t23 t24 t25 h c df | _=>none) (.node 64000 (fun o rd vs h c df=>match vs with | [t2,t3,t6,t7]=>Z2g o rd t2 t3 t6 t7 h c df | _=>none) .leaf .leaf) .leaf) (.node 66000 (fun o rd vs h c df=>match vs with | [t2,t3,t10,t11]=>Z4j o rd t2 t3 t10 t11 h c df | _=>none) .leaf .leaf))) (.node 86000 (fun o rd vs h c df=>match vs with | [t0,t2,t3,t18,t19]=>Z2e o rd t0 t2 t3 t18 t19 h c df | _=>none) (.node 85000 (fun o rd vs h c df=>match vs with | [t0,t1,t8,t9]=>Z1S o rd t0 t1 t8 t9 h c df | _=>none) (.node 84000 (fun o rd vs h c df=>match vs with | [t0,t2,t3,t4,t5]=>Z70 o rd t0 t2 t3 t4 t5 h c df | _=>none) (.node 83000 (fun o rd vs h c df=>match vs with | [t0,t3,t4,t5]=>Z71 o rd t0 t3 t4 t5 h c df | _=>none) .leaf .leaf) .leaf) (.node 85001 (fun o rd vs h c df=>match vs with | [t0,t1,t3,t8,t9,t16,t17]=>Z1R o rd t0 t1 t3 t8 t9 t16 t17 h c df | _=>none) .leaf .leaf)) (.node 92000 (fun o rd vs h c df=>match vs with | [t1,t3,t6]=>Z4g o rd t1 t3 t6 h c df | _=>none) (.node 86002 (fun o rd vs h c df=>match vs with | [t0,t2,t3,t5,t6,t7,t18,t19,t50,t51]=>Z1Q o rd t0 t2 t3 t5 t6 t7 t18 t19 t50 t51 h c df | _=>none) (.node 86001 (fun o rd vs h c df=>match vs with | [t0,t2,t3,t5,t6,t18,t19]=>Z2Z o rd t0 t2 t3 t5 t6 t18 t19 h c df | _=>none) .leaf .leaf) .leaf) (.node 92001 (fun o rd vs h c df=>match vs with | [t1,t3,t4,t6,t9,t10]=>Z4f o rd t1 t3 t4 t6 t9 t10 h c df | _=>none) .leaf .leaf)))))
noncomputable def tbR:List (Nat × List Nat × (Orc H->Nat->List Value->H->Nat->Option (Rt H))):=[(71,[13,14],(fun o l vs h c=>match vs with | [t13,t14,t1,t2,t3]=>Z3z o l t13 t14 t1 t2 t3 h c | _=>none))]
noncomputable def tab:Tab H:={ F:=fun f=>tbF.look f,L:=fun j=>tbL.look j,R:=fun nt ps=>Zh3 nt ps tbR }
theorem tab_ok:TabOK (H:=H) P bk K tab:=⟨fun f F e=>BT.look_all (Q:=FE P bk K) (t:=tbF) (ai fe_61 (ai (ai fe_40 (ai (ai fe_16 (ai (ai fe_13 (ai (ai fe_11 (ai (ai fe_10 (ai tt tt)) tt)) (ai fe_14 (ai tt tt)))) (ai fe_38 (ai (ai fe_37 (ai (ai fe_27 (ai tt tt)) tt)) (ai fe_39 (ai tt tt)))))) (ai fe_45 (ai (ai fe_43 (ai (ai fe_42 (ai (ai fe_41 (ai tt tt)) tt)) (ai fe_44 (ai tt tt)))) (ai fe_56 (ai (ai fe_54 (ai tt tt)) (ai fe_60 (ai tt tt)))))))) (ai fe_70 (ai (ai fe_66 (ai (ai fe_64 (ai (ai fe_63 (ai (ai fe_62 (ai tt tt)) tt)) (ai fe_65 (ai tt tt)))) (ai fe_68 (ai (ai fe_67 (ai tt tt)) (ai fe_69 (ai tt tt)))))) (ai fe_85 (ai (ai fe_83 (ai (ai fe_72 (ai (ai fe_71 (ai tt tt)) tt)) (ai fe_84 (ai tt tt)))) (ai fe_91 (ai (ai fe_86 (ai tt tt)) (ai fe_92 (ai tt tt)))))))))) e,
 fun j B lin b nt e hk=>BT.look_all (Q:=LE P K) (t:=tbL) (ai Zjq (ai (ai ZjA (ai (ai ZjF (ai (ai ZjI (ai (ai ZjJ (ai (ai ZjK (ai tt tt)) tt)) (ai ZjG (ai (ai ZjH (ai tt tt)) tt)))) (ai ZjC (ai (ai ZjD (ai (ai ZjE (ai tt tt)) tt)) (ai ZjB (ai tt tt)))))) (ai Zjv (ai (ai Zjx (ai (ai Zjy (ai (ai Zjz (ai tt tt)) tt)) (ai Zjw (ai tt tt)))) (ai Zjs (ai (ai Zjt (ai (ai Zju (ai tt tt)) tt)) (ai Zjr (ai tt tt)))))))) (ai Zjg (ai (ai Zjl (ai (ai Zjn (ai (ai Zjo (ai (ai Zjp (ai tt tt)) tt)) (ai Zjm (ai tt tt)))) (ai Zji (ai (ai Zjj (ai (ai Zjk (ai tt tt)) tt)) (ai Zjh (ai tt tt)))))) (ai Zjb (ai (ai Zjd (ai (ai Zje (ai (ai Zjf (ai tt tt)) tt)) (ai Zjc (ai tt tt)))) (ai Zj8 (ai (ai Zj9 (ai (ai Zja (ai tt tt)) tt)) (ai Zj7 (ai tt tt)))))))))) e lin b nt hk,
 fun nt ps D lin a b e hk=>ZbK (Q:=RE P K) (l:=tbR) (ai ZiO tt) e lin a b hk⟩
theorem ev_run {n:Nat} {k:Key} {vs:List Value} {h:H} {c:Nat} {df:List Nat} {r:Rt H} (hk:KeyOK K k) (hi:Z6g K h) (e:evT tab n k vs h c df=some r):run P bk k vs h c df=some r:=(ZeP tab_ok n k vs h c df r hk hi e).1
end Go.Proofs.Ytdodippbpdechaa

namespace Go.Ab
open Go
structure Hid (q:Prop):Prop where
 h:q
theorem Ans.go {β:Type} {x:Option β} {Q:β->Prop} {q:Prop} (k:q) (h:Hid q->Ans x Q:=by
 intro kk
 repeat' (first | ((with_reducible first | refine Ans.bz ?_ | refine Ans.r1 ?_ | refine Ans.pkT ?_ | refine Ans.pkF ?_); try dsimp only [v_zero,v_succ]) | (with_reducible first | refine Ans.btL ?_ | refine Ans.bfL ?_ | refine Ans.gyT ?_ | refine Ans.gyF ?_ | refine Ans.gyG ?_ | refine Ans.bb ?_ | refine Ans.bc ?_ | refine Ans.ba ?_) | ((with_reducible first | refine Ans.lsT ?_ ?_ | refine Ans.leT ?_ ?_ | refine Ans.grT ?_ ?_ | refine Ans.geT ?_ ?_ | refine Ans.eqT ?_ ?_ | refine Ans.neT ?_ ?_); (focus omega)) | ((with_reducible first | refine Ans.lsF ?_ ?_ | refine Ans.leF ?_ ?_ | refine Ans.grF ?_ ?_ | refine Ans.geF ?_ ?_ | refine Ans.eqF ?_ ?_ | refine Ans.neF ?_ ?_); (focus omega)) | (with_reducible first | refine Ans.lsS (fun _=>?_) (fun _=>?_) | refine Ans.leS (fun _=>?_) (fun _=>?_) | refine Ans.grS (fun _=>?_) (fun _=>?_) | refine Ans.geS (fun _=>?_) (fun _=>?_) | refine Ans.eqS (fun _=>?_) (fun _=>?_) | refine Ans.neS (fun _=>?_) (fun _=>?_)) | ((with_reducible first | refine Ans.addN ?_ ?_ | refine Ans.add ?_ ?_ | refine Ans.sub ?_ ?_ | refine Ans.mul ?_ ?_); (focus omega)) | ((with_reducible first | refine Ans.ct ?_ ?_); (focus (simp (disch:=(first | omega | with_reducible assumption | (simp <;> omega) | fail)) [fx]; done))) | ((with_reducible first | refine Ans.cf ?_ ?_); (focus (simp (disch:=(first | omega | with_reducible assumption | (simp <;> omega) | fail)) [fx]; done))) | (refine Ans.step (by simp (disch:=(first | omega | with_reducible assumption | (simp <;> omega) | fail)) [fx,-List.getD_eq_getElem?_getD] <;> rfl) ?_; try dsimp only [v_zero,v_succ]) | fail)
 exact kk.h):Ans x Q:=h ⟨k⟩
theorem Ans.nx0 {o:Orc FH} {k:Key} {Q:Rt FH->Prop} {A h:FH} {c c':Nat} {vs:List Value} {df:List Nat} (e:Ans (o k vs A c df) Q) (h1:Z1F c vs:=by (simp (disch:=(first | omega | with_reducible assumption | (simp <;> omega) | fail)) [fx]; done)) (h2:Z0s c A h:=by (simp (disch:=(first | omega | with_reducible assumption | (simp <;> omega) | fail)) [fx]; done)) :
 Ans (some { e:=.normal,vs:=vs,h:=h,c:=c',df:=df }) (fun q=>Lk o k Q (gcR A c df q)):=Ans.next0 h1 h2 e
theorem Ans.ex0 {o:Orc FH} {k:Key} {Q:Rt FH->Prop} {A h:FH} {c c':Nat} {vs:List Value} {df:List Nat} {i:Nat} (e:Q { e:=.exit i,vs:=vs,h:=A,c:=c,df:=df }) (h1:Z1F c vs:=by (simp (disch:=(first | omega | with_reducible assumption | (simp <;> omega) | fail)) [fx]; done)) (h2:Z0s c A h:=by (simp (disch:=(first | omega | with_reducible assumption | (simp <;> omega) | fail)) [fx]; done)) :
 Ans (some { e:=.exit i,vs:=vs,h:=h,c:=c',df:=df }) (fun q=>Lk o k Q (gcR A c df q)):=Ans.exit0 h1 h2 e
theorem Ans.rt0 {o:Orc FH} {k:Key} {Q:Rt FH->Prop} {A h:FH} {c c':Nat} {vs:List Value} {df:List Nat} (e:Q { e:=.ret,vs:=vs,h:=A,c:=c,df:=df }) (h1:Z1F c vs:=by (simp (disch:=(first | omega | with_reducible assumption | (simp <;> omega) | fail)) [fx]; done)) (h2:Z0s c A h:=by (simp (disch:=(first | omega | with_reducible assumption | (simp <;> omega) | fail)) [fx]; done)) :
 Ans (some { e:=.ret,vs:=vs,h:=h,c:=c',df:=df }) (fun q=>Lk o k Q (gcR A c df q)):=Ans.ret0 h1 h2 e
theorem Ans.nxB {o:Orc FH} {k:Key} {Q:Rt FH->Prop} {A B h:FH} {c c':Nat} {vs:List Value} {df:List Nat} (h3:Z42 c A B) (e:Ans (o k vs B c df) Q) (h1:Z1F c vs:=by (simp (disch:=(first | omega | with_reducible assumption | (simp <;> omega) | fail)) [fx]; done)) (h2:Z0s c B h:=by (simp (disch:=(first | omega | with_reducible assumption | (simp <;> omega) | fail)) [fx]; done)) :
 Ans (some { e:=.normal,vs:=vs,h:=h,c:=c',df:=df }) (fun q=>Lk o k Q (gcR A c df q)):=Ans.nextB e h1 h2 h3
theorem Ans.pu {h h':FH} {c c':Nat} {v w:Value} (hv:w=v:=by first | rfl | (simp (disch:=(first | omega | with_reducible assumption | (simp <;> omega) | fail)) [fx]; done)) (hs:Z0s c h h':=by first | with_reducible assumption | (simp (disch:=(first | omega | with_reducible assumption | (simp <;> omega) | fail)) [fx]; done)) :
 Ans (some { e:=.ret,vs:=[w],h:=h',c:=c',df:=[] }) (ZnP h c v):=Ans.pure hv hs
end Go.Ab

namespace Go.Ab
open Go
def p24:List (List Int):=[[0,1,2,3],[0,1,3,2],[0,2,1,3],[0,2,3,1],[0,3,1,2],[0,3,2,1],[1,0,2,3],[1,0,3,2],[1,2,0,3],[1,2,3,0],[1,3,0,2],[1,3,2,0],[2,0,1,3],[2,0,3,1],[2,1,0,3],[2,1,3,0],[2,3,0,1],[2,3,1,0],[3,0,1,2],[3,0,2,1],[3,1,0,2],[3,1,2,0],[3,2,0,1],[3,2,1,0]]
theorem Z9b {p:List Int} (hp:p.length=4) (h:Z0N p=true):p ∈ p24:=by
 have hr:=Z2v h
 match p,hp with
 | [a,b,c,d],_ =>
  have ha:=hr a (by simp)
  have hb:=hr b (by simp)
  have hc:=hr c (by simp)
  have hd:=hr d (by simp)
  have:=Zm1 (Q:=fun a b c d=>!Z0N [(a:Int),(b:Int),(c:Int),(d:Int)] || p24.contains [(a:Int),(b:Int),(c:Int),(d:Int)]) (by kernel_rfl)
   (a:=a.toNat) (b:=b.toNat) (c:=c.toNat) (d:=d.toNat) qO qO qO qO
  have ea:((a.toNat:Nat):Int)=a:=by omega
  have eb:((b.toNat:Nat):Int)=b:=by omega
  have ec:((c.toNat:Nat):Int)=c:=by omega
  have ed:((d.toNat:Nat):Int)=d:=by omega
  rw [ea,eb,ec,ed,h] at this
  simpa using this
theorem ZbU {Q:List Int->Bool} (h:p24.all Q=true) {p:List Int} (hp:p ∈ p24):Q p=true:=List.all_eq_true.1 h p hp
theorem Zm2 {Q:List Int->List Int->Bool} (h:(p24.all fun p=>p24.all fun q=>Q p q)=true) {p q:List Int} (hp:p ∈ p24) (hq:q ∈ p24):Q p q=true:=List.all_eq_true.1 (List.all_eq_true.1 h p hp) q hq
theorem Z84 {p:List Int} (hp:p ∈ p24):Z0N p=true:=ZbU (Q:=Z0N) (by kernel_rfl) hp
theorem Z44 {p:List Int} (hp:p ∈ p24):p.length=4:=by simpa using ZbU (Q:=fun p=>p.length == 4) (by kernel_rfl) hp
theorem inv24 {p:List Int} (hp:p ∈ p24):inv p ∈ p24:=by simpa using ZbU (Q:=fun p=>p24.contains (inv p)) (by kernel_rfl) hp
theorem Z4A {p q:List Int} (hp:p ∈ p24) (hq:q ∈ p24):Z0S p q ∈ p24:=by simpa using Zm2 (Q:=fun p q=>p24.contains (Z0S p q)) (by kernel_rfl) hp hq
theorem Zej {p:List Int} (hp:p ∈ p24):Z0S (inv p) p=[0,1,2,3]:=by simpa using ZbU (Q:=fun p=>Z0S (inv p) p == [0,1,2,3]) (by kernel_rfl) hp
theorem Zi0 {p:List Int} (hp:p ∈ p24):Z0S p [0,1,2,3]=p:=by simpa using ZbU (Q:=fun p=>Z0S p [0,1,2,3] == p) (by kernel_rfl) hp
theorem ZmP {p:List Int} (hp:p ∈ p24):Z0S [0,1,2,3] p=p:=by simpa using ZbU (Q:=fun p=>Z0S [0,1,2,3] p == p) (by kernel_rfl) hp
theorem Z2c {p:List Int} (hp:p ∈ p24) {i:Nat} (hi:i<4):0<=p.getD i 0/\p.getD i 0<4:=by
 have:=ZbU (Q:=fun p=>(List.range 4).all fun i=>decide (0<=p.getD i 0) && decide (p.getD i 0<4)) (by kernel_rfl) hp
 rw [List.all_eq_true] at this
 simpa using this i (by simpa using hi)
theorem Z1L {p q:List Int} (hq:q.length=4) {i:Nat} (hi:i<4):(Z0S p q).getD i 0=p.getD (q.getD i 0).toNat 0:=by
 simp only [Z0S,List.getD_eq_getElem?_getD,List.getElem?_map]
 rw [List.getElem?_eq_getElem (by omega:i<q.length)]
 simp
theorem Z15 (p q:List Int):(Z0S p q).length=q.length:=by simp [Z0S]
theorem Z2p {p q r:List Int} (hq:q ∈ p24) (hr:r ∈ p24):Z0S (Z0S p q) r=Z0S p (Z0S q r):=by
 have hl:=Z44 hr
 apply List.ext_getElem?
 intro i
 by_cases hi:i<4
 · have e1:=Z1L (p:=Z0S p q) hl hi
   have e2:=Z1L (p:=p) (q:=Z0S q r) (by rw [Z15,hl]) hi
   have e3:=Z1L (p:=q) hl hi
   have hg:=Z2c hr hi
   have e4:=Z1L (p:=p) (q:=q) (Z44 hq) (i:=(r.getD i 0).toNat) qO
   have:(Z0S (Z0S p q) r).getD i 0=(Z0S p (Z0S q r)).getD i 0:=by rw [e1,e4,e2,e3]
   rw [List.getElem?_eq_getElem (by rw [Z15]; omega),List.getElem?_eq_getElem (by rw [Z15,Z15]; omega)]
   simp only [List.getD_eq_getElem?_getD] at this
   rw [List.getElem?_eq_getElem (by rw [Z15]; omega),List.getElem?_eq_getElem (by rw [Z15,Z15]; omega)] at this
   simpa using this
 · rw [List.getElem?_eq_none (by rw [Z15]; omega),List.getElem?_eq_none (by rw [Z15,Z15]; omega)]
theorem Z0Y {Gl:List Int} {n t f:Nat} (h:Z0n Gl n t f=true) (ht:¬ Z0x (Z03 Gl t f)<0) :
 Z0x (Z03 Gl t f)<n/\Z0N (Z0d (Z03 Gl t f))=true /\ ¬ (Z0x (Z03 Gl t f)=t/\(Z0d (Z03 Gl t f)).getD f 0=f) ∧
  Z03 Gl (Z0x (Z03 Gl t f)).toNat ((Z0d (Z03 Gl t f)).getD f 0).toNat=(t:Int)::inv (Z0d (Z03 Gl t f)):=by
 unfold Z0n at h
 have h0:Z03 Gl t f ≠ Z6X:=fun e=>ht (by rw [e]; decide)
 simp only [h0,decide_false,Bool.false_or,Bool.and_eq_true,decide_eq_true_eq,Bool.not_eq_true'] at h
 obtain ⟨⟨⟨⟨h1,h2⟩,h3⟩,h4⟩,h5⟩:=h
 refine ⟨h2,h3,fun ⟨a,b⟩=>?_,h5⟩
 rw [decide_eq_true a,decide_eq_true b] at h4
 cases h4
theorem Z1s {Gl:List Int} {n t f:Nat} (h:Z0v Gl n=true) (ht:t<n) (hf:f<4):Z0n Gl n t f=true:=by
 have:=(Z5m Gl n).1 h (4*t+f) qO
 have e1:(4*t+f) / 4=t:=by omega
 have e2:(4*t+f) % 4=f:=by omega
 rwa [e1,e2] at this
def Zdf (c0:Nat) (h:FH) (c:Nat) (v:Value) (sz n:Nat) (L:List Int):Prop :=
 L.length=n*sz/\n<=9223372036854775807/\((v = .slice none 0 0/\n=0) ∨
  ∃ i,v = .slice (some ⟨i,0,none⟩) n n/\256*c0<=i/\i<256*c/\h.f i=some (.cells false (some sz) (ints L)))
theorem Zdf.nil (c0:Nat) (h:FH) (c sz:Nat):Zdf c0 h c (.slice none 0 0) sz 0 []:=⟨by simp,by omega,.inl ⟨rfl,rfl⟩⟩
theorem Zdf.flat {c0:Nat} {h:FH} {c:Nat} {v:Value} {sz n:Nat} {L:List Int} (ha:Zdf c0 h c v sz n L):Z07 v=true/\v.cells = #[v]:=by
 obtain ⟨_,_,⟨rfl,_⟩ | ⟨i,rfl,_⟩⟩:=ha <;> exact ⟨rfl,rfl⟩
theorem Zdf.sl {c0:Nat} {h:FH} {c:Nat} {v:Value} {sz n:Nat} {L:List Int} (ha:Zdf c0 h c v sz n L):SlI h c v sz n L:=by
 obtain ⟨h1,h2,⟨rfl,rfl⟩ | ⟨i,rfl,h3,h4,h5⟩⟩:=ha
 · exact ⟨h1,h2,none,0,rfl,.inl ⟨rfl,OkV.sl0 _ _ _⟩⟩
 · refine ⟨h1,h2,some ⟨i,0,none⟩,n,rfl,.inr ⟨i,0,ints L,rfl,h4,⟨false,some sz,h5⟩, ?_⟩⟩
   rw [List.drop_zero,List.take_of_length_le (by simp [h1])]
theorem Zdf.mono {c0:Nat} {h:FH} {c c':Nat} {v:Value} {sz n:Nat} {L:List Int} (hc:c<=c') (ha:Zdf c0 h c v sz n L):Zdf c0 h c' v sz n L:=by
 obtain ⟨h1,h2,h3 | ⟨i,rfl,h3,h4,h5⟩⟩:=ha
 · exact ⟨h1,h2,.inl h3⟩
 · exact ⟨h1,h2,.inr ⟨i,rfl,h3,by omega,h5⟩⟩
theorem Zdf.keep {c0:Nat} {h h':FH} {c:Nat} {v:Value} {sz n:Nat} {L:List Int} (hh:∀ i,256*c0<=i->i<256*c->h'.f i=h.f i) (ha:Zdf c0 h c v sz n L):Zdf c0 h' c v sz n L:=by
 obtain ⟨h1,h2,h3 | ⟨i,rfl,h3,h4,h5⟩⟩:=ha
 · exact ⟨h1,h2,.inl h3⟩
 · exact ⟨h1,h2,.inr ⟨i,rfl,h3,h4,by rw [hh i h3 h4,h5]⟩⟩
theorem Zdf.app {c0:Nat} {h:FH} {c c':Nat} {v:Value} {sz n:Nat} {L:List Int} (ha:Zdf c0 h c v sz n L) (X:List Int) (hX:X.length=sz) (hsz:0<sz) (by' b id:Nat) (hb:256*c<=b) (hid:256*c<=id) (hne:b ≠ id) (hc0:c0<=c)
 (hid':id<256*c') (hlim:(n+1)*(by'+1)<=17592186044416) :
 ∃ v' h',Z6e (newB h b (ints X)) id sz by' v (.slice (some ⟨b,0,none⟩) 1 1)=some (v',h')/\Zdf c0 h' c' v' sz (n+1) (L++X)/\Z0s c0 h h'/\v' = .slice (some ⟨id,0,none⟩) (n+1) (n+1):=by
 obtain ⟨h1,h2,h3⟩:=ha
 have hlim':Nat.ble ((n+1)*(by'+1)) 17592186044416=true:=Nat.ble_eq_true_of_le hlim
 have hsrc:Z0A (newB h b (ints X)) sz (.slice (some ⟨b,0,none⟩) 1 1)=some (ints X,1):=by
  have:Nat.ble (0+1*sz) (ints X).length=true:=Nat.ble_eq_true_of_le (by simp [hX])
  simp only [Z0A,Z0I,Z0k,get_newB_same,Option.bind_some,this,cond_true,List.drop_zero]
  rw [List.take_of_length_le (by simp [hX])]
 have hn1:n+1<=17592186044416:=by
  have:(n+1)*1<=(n+1)*(by'+1):=Nat.mul_le_mul_left _ qO
  omega
 have hcap:Nat.ble (n+1) n=false:=by rw [Bool.eq_false_iff]; intro hh; have:=Nat.le_of_ble_eq_true hh; omega
 rcases h3 with ⟨rfl,rfl⟩ | ⟨i,rfl,h3,h4,h5⟩
 · have hL:L=[]:=List.eq_nil_of_length_eq_zero (by simpa using h1)
   subst hL
   refine ⟨_,HeapC.set (newB h b (ints X)) id (.cells false (some sz) (ints X)), ?_,⟨by simp [hX],by omega,.inr ⟨id,rfl,by omega,hid', ?_⟩⟩, ?_,rfl⟩
   · simp only [Z6e,hsrc,Option.bind_some,appTo,hcap,cond_false,Z1M,hlim',Z0Q,Bool.and_self,cond_true,Nat.beq_refl,Nat.zero_add]
   · rw [Z0b,if_pos rfl]; rfl
   · intro j hj
     rw [Z0b,if_neg qO,Z01,if_neg qO]
 · have hbi:i ≠ b:=by omega
   have hg:HeapC.get (newB h b (ints X)) i=some (.cells false (some sz) (ints L)):=by rw [get_newB_ne _ _ _ _ hbi]; exact h5
   have hr:Nat.ble (0+n*sz) (ints L).length=true:=Nat.ble_eq_true_of_le (by simp [h1])
   refine ⟨_,HeapC.set (HeapC.set (newB h b (ints X)) i .dead) id (.cells false (some sz) (((ints L).drop 0).take (n*sz)++ints X)), ?_,⟨?_,by omega,.inr ⟨id,rfl,by omega,hid', ?_⟩⟩, ?_,rfl⟩
   · simp only [Z6e,hsrc,Option.bind_some,appTo,hcap,cond_false,Z1M,hlim',Z0Q,Bool.and_self,cond_true,Z0I,Z0k,hg,hr,Nat.beq_refl,Bool.not_false,Bool.and_true]
   · simp [h1,hX,Nat.succ_mul]
   · rw [Z0b,if_pos rfl,List.drop_zero,List.take_of_length_le (by simp [h1]),Z3S]
   · intro j hj
     rw [Z0b,if_neg qO,Z0b,if_neg qO,Z01,if_neg qO]
def rowTo (F:Nat->List Int):Nat->List Int
 | 0=>[]
 | f+1=>rowTo F f++F f
end Go.Ab

namespace Go.Ab
open Go
def ordF (Ord Pm:List Int) (n:Nat):Nat->Nat->List Bool->Bool
 | 0,_,_=>true
 | k+1,i,met=>if Ord.getD i 0<0 ∨ (n:Int)<=Ord.getD i 0 then false else if met.getD (Ord.getD i 0).toNat false=true then false else
  if Z0N (Z3Z Pm i)=false then false else ordF Ord Pm n k (i+1) (met.set (Ord.getD i 0).toNat true)
def ZnS (Ord Pm:List Int) (a b n:Nat):Bool:=decide (a=n) && decide (b=n) && ordF Ord Pm n n 0 (List.replicate n false)
theorem Z9w {Ord Pm:List Int} {n:Nat}:∀ {k i:Nat} {met:List Bool},ordF Ord Pm n k i met=true -> ∀ j,i<=j->j<i+k->0<=Ord.getD j 0/\Ord.getD j 0<n/\Z0N (Z3Z Pm j)=true
 | 0,i,met,h,j,h1,h2=>by omega
 | k+1,i,met,h,j,h1,h2=>by
  unfold ordF at h
  split at h
  · cases h
  split at h
  · cases h
  split at h
  · cases h
  rename_i q1 q2 q3
  by_cases hj:j=i
  · subst hj
    exact ⟨by omega,by omega,by simpa using q3⟩
  · exact Z9w h j qO qO
def backL (Ord:List Int):Nat->Nat->List Int->List Int
 | 0,_,l=>l
 | k+1,i,l=>backL Ord k (i+1) (l.set (Ord.getD i 0).toNat i)
def ZnX (Ord:List Int) (n:Nat):List Int:=backL Ord n 0 (List.replicate n 0)
def rnF (Gl Ord Pm Bk:List Int) (i f:Nat):List Int :=
 if Z0x (Z03 Gl (Ord.getD i 0).toNat ((Z3Z Pm i).getD f 0).toNat)<0 then Z6X else
  Bk.getD (Z0x (Z03 Gl (Ord.getD i 0).toNat ((Z3Z Pm i).getD f 0).toNat)).toNat 0 ::
   Z0S (inv (Z3Z Pm (Bk.getD (Z0x (Z03 Gl (Ord.getD i 0).toNat ((Z3Z Pm i).getD f 0).toNat)).toNat 0).toNat))
    (Z0S (Z0d (Z03 Gl (Ord.getD i 0).toNat ((Z3Z Pm i).getD f 0).toNat)) (Z3Z Pm i))
def rnL (Gl Ord Pm Bk:List Int):Nat->List Int
 | 0=>[]
 | i+1=>rnL Gl Ord Pm Bk i++rowTo (rnF Gl Ord Pm Bk i) 4
structure RnOk (Gl Ord Pm:List Int) (n:Nat):Prop where
 gl:Gl.length=n*20
 ol:Ord.length=n
 pl:Pm.length=n*4
 ok:Z0v Gl n=true
 rng:∀ j,j<n->0<=Ord.getD j 0/\Ord.getD j 0<n/\Z0N (Z3Z Pm j)=true
theorem RnOk.p24 {Gl Ord Pm:List Int} {n:Nat} (h:RnOk Gl Ord Pm n) {j:Nat} (hj:j<n):Z3Z Pm j ∈ Ab.p24:=Z9b (ZaB h.pl hj) (h.rng j hj).2.2
def rnE (Gl Ord Pm:List Int) (n a b:Nat):Int:=if n<=1000/\Z0v Gl n=true then (if ZnS Ord Pm a b n=true then 0 else 1) else 7
def rnN (Gl Ord Pm:List Int) (n a b:Nat):Nat:=if n<=1000/\Z0v Gl n=true/\ZnS Ord Pm a b n=true then n else 0
def rnR (Gl Ord Pm:List Int) (n a b:Nat):List Int:=if n<=1000/\Z0v Gl n=true/\ZnS Ord Pm a b n=true then rnL Gl Ord Pm (ZnX Ord n) n else []
theorem ZiQ {Ord Pm:List Int} {a b n:Nat}:ZnS Ord Pm a b n=true ↔ a=n/\b=n/\ordF Ord Pm n n 0 (List.replicate n false)=true:=by
 simp [ZnS,and_assoc]
theorem RnOk.of {Gl Ord Pm:List Int} {n a b:Nat} (hG:Gl.length=n*20) (hO:Ord.length=a) (hP:Pm.length=b*4) (h2:Z0v Gl n=true) (h3:ZnS Ord Pm a b n=true):RnOk Gl Ord Pm n:=by
 obtain ⟨rfl,rfl,h4⟩:=ZiQ.1 h3
 exact ⟨hG,hO,hP,h2,fun j hj=>Z9w h4 j qO qO⟩
@[simp] theorem st1_agg (h:FH) (i o:Nat) (cs:List Value) (v:Value) (ho:o<cs.length) (hv:Z07 v=true):stN (newB h i cs) 1 (.pointer (some ⟨i,o,none⟩)) (.agg #[v])=some (newB h i (cs.set o v)):=by
 rw [Z0z h 1 i o cs (.agg #[v]) rfl qO (by simp [Value.cells,hv])]
 show some (newB h i (Z0W cs o [v]))=_
 rw [Z4b cs o _ ho]
@[simp] theorem st1_sl (h:FH) (i o:Nat) (cs:List Value) (a:Option Addr) (n k:Nat) (ho:o<cs.length):stN (newB h i cs) 1 (.pointer (some ⟨i,o,none⟩)) (.slice a n k)=some (newB h i (cs.set o (.slice a n k))):=by
 rw [Z0z h 1 i o cs (.slice a n k) rfl qO rfl]
 show some (newB h i (Z0W cs o [.slice a n k]))=_
 rw [Z4b cs o _ ho]
theorem Z1m {h:FH} {b:Nat} {cs:List Value} {v:Value} (hg:Z0f h b (v::cs)):ldN h 1 (.pointer (some ⟨b,0,none⟩))=some (.agg #[v]):=by
 rw [ldN_holds hg (by simp)]; simp
def Zm3 (h:FH) (c:Nat) (Gl Ord Pm:List Int) (n a b:Nat) (r:Rt FH):Prop :=
 r.e = .ret/\r.df=[]/\c<=r.c/\Z0s c h r.h /\ ∃ v,r.vs=[.tuple #[.agg #[v],.int .i64 (rnE Gl Ord Pm n a b)]]/\SlI r.h r.c v 20 (rnN Gl Ord Pm n a b) (rnR Gl Ord Pm n a b)/\(0<rnN Gl Ord Pm n a b->256*c<=Z0q v)
theorem Zm3.callF {o:Orc FH} {g:FuncId} {args:List Value} {h:FH} {c:Nat} {Gl Ord Pm:List Int} {n a b:Nat} (e:Ans (o (.fn g) args h c []) (Zm3 h c Gl Ord Pm n a b)) :
 ∃ v h' c',callF o g args h c=some (.tuple #[.agg #[v],.int .i64 (rnE Gl Ord Pm n a b)],h',c')/\c<=c'/\Z0s c h h'/\SlI h' c' v 20 (rnN Gl Ord Pm n a b) (rnR Gl Ord Pm n a b)/\(0<rnN Gl Ord Pm n a b->256*c<=Z0q v):=by
 obtain ⟨r,e1,r1,r2,r3,r4,v,r5,r6,r7⟩:=e
 refine ⟨v,r.h,r.c, ?_,r3,r4,r6,r7⟩
 simp only [Ab.callF,e1,Option.bind_some,r5]
end Go.Ab
