/- Parts of a proof: E AbGo AbPm AbRn. Conditions: none. -/
import Derived.Test.YtdodippbpdechaaM9
import Derived.Test.YtdodippbpdechaaM10
import Derived.Test.YtdodippbpdechaaM11
import Derived.Test.YtdodippbpdechaaM8
set_option linter.all false
set_option maxRecDepth 100000
namespace Go.Proofs.Ytdodippbpdechaa
open Go Go.Ab Go.Proofs
variable {H:Type} [HeapC H]
noncomputable def K:LB:={ loop:=fun j=>BT.look ((.node 60000 ([1,2,7,22,23],Z2T,65) (.node 40002 ([4,5,7,8,9,35,36,37,42,43,68],Z33,152) (.node 39000 ([2,3,4,5,6,8,10,12,59,60],Z3b,172) (.node 14001 ([1,2,3,4,5],Z3g,83) (.node 14000 ([1,2,3,4],Z3h,83) (.node 13000 ([2,3,4,12,13],Z3i,23) .leaf .leaf) .leaf) (.node 27000 ([0,1,4,7,8],Z3e,26) (.node 16000 ([0,1,4,5],Z3f,26) .leaf .leaf) .leaf)) (.node 40000 ([4,35,36,37],Z35,152) (.node 39002 ([2,3,4,6,12,155,156],Z39,172) (.node 39001 ([2,3,4,5,6,8,10,12,13,59,60,105,106],Z3a,172) .leaf .leaf) .leaf) (.node 40001 ([4,5,35,36,37,42,43],Z34,152) .leaf .leaf))) (.node 42002 ([2,3,4,39,40,41],Z2Y,90) (.node 42000 ([2,3,4,18,19,20],Z30,90) (.node 41000 ([0,4,5,15,16],Z31,41) (.node 40003 ([4,5,7,8,9,10,35,36,37,42,43,68,90],Z32,152) .leaf .leaf) .leaf) (.node 42001 ([2,3,4,18,19,20,24,25],Z2Z,90) .leaf .leaf)) (.node 45000 ([1,2,3,4],Z2V,19) (.node 44000 ([1,2,3,4],Z2W,30) (.node 42003 ([2,4,53,54,55],Z2X,90) .leaf .leaf) .leaf) (.node 56000 ([2,3,6,7],Z2U,23) .leaf .leaf)))) (.node 68000 ([0,1],Z2I,41) (.node 62002 ([2,3,4,5,7,8,9,10,11,14],Z2N,135) (.node 62000 ([2,3,4,5,7,8,9],Z2P,135) (.node 61000 ([0,3,4,5,17,18],Z2Q,48) (.node 60001 ([1,2,7,8,22,23,26],Z2S,65) .leaf .leaf) .leaf) (.node 62001 ([2,3,4,5,7,8,9,10,11],Z2O,135) .leaf .leaf)) (.node 65001 ([0,1,4,5,6,7,9,23,24,25,29],Z2K,90) (.node 65000 ([0,1,4,5,6,7,23,24,25],Z2L,90) (.node 64000 ([2,3,6,7],Z2M,16) .leaf .leaf) .leaf) (.node 66000 ([2,3,10,11],Z2J,21) .leaf .leaf))) (.node 86000 ([0,2,3,18,19],Z2C,100) (.node 85000 ([0,1,8,9],Z2F,30) (.node 84000 ([0,2,3,4,5],Z2G,51) (.node 83000 ([0,3,4,5],Z2H,43) .leaf .leaf) .leaf) (.node 85001 ([0,1,3,8,9,16,17],Z2E,30) .leaf .leaf)) (.node 92000 ([1,3,6],Z2z,25) (.node 86002 ([0,2,3,5,6,7,18,19,50,51],Z2A,100) (.node 86001 ([0,2,3,5,6,18,19],Z2B,100) .leaf .leaf) .leaf) (.node 92001 ([1,3,4,6,9,10],Z2y,25) .leaf .leaf))))):BT (List Nat × ACode × Nat)) j,rng:=fun nt ps=>Zfk nt ps [(71,[13,14],([1,2,3],Z1g,Z1f))] }
theorem ZcP:K.loop 13000=some ([2,3,4,12,13],Z3i,23):=by kernel_rfl
theorem ZcO:K.loop 14000=some ([1,2,3,4],Z3h,83):=by kernel_rfl
theorem ZcN:K.loop 14001=some ([1,2,3,4,5],Z3g,83):=by kernel_rfl
theorem ZcM:K.loop 16000=some ([0,1,4,5],Z3f,26):=by kernel_rfl
theorem ZcL:K.loop 27000=some ([0,1,4,7,8],Z3e,26):=by kernel_rfl
theorem ZcK:K.loop 39000=some ([2,3,4,5,6,8,10,12,59,60],Z3b,172):=by kernel_rfl
theorem ZcJ:K.loop 39001=some ([2,3,4,5,6,8,10,12,13,59,60,105,106],Z3a,172):=by kernel_rfl
theorem ZcI:K.loop 39002=some ([2,3,4,6,12,155,156],Z39,172):=by kernel_rfl
theorem ZcH:K.loop 40000=some ([4,35,36,37],Z35,152):=by kernel_rfl
theorem ZcG:K.loop 40001=some ([4,5,35,36,37,42,43],Z34,152):=by kernel_rfl
theorem ZcF:K.loop 40002=some ([4,5,7,8,9,35,36,37,42,43,68],Z33,152):=by kernel_rfl
theorem ZcE:K.loop 40003=some ([4,5,7,8,9,10,35,36,37,42,43,68,90],Z32,152):=by kernel_rfl
theorem ZcD:K.loop 41000=some ([0,4,5,15,16],Z31,41):=by kernel_rfl
theorem ZcC:K.loop 42000=some ([2,3,4,18,19,20],Z30,90):=by kernel_rfl
theorem ZcB:K.loop 42001=some ([2,3,4,18,19,20,24,25],Z2Z,90):=by kernel_rfl
theorem ZcA:K.loop 42002=some ([2,3,4,39,40,41],Z2Y,90):=by kernel_rfl
theorem Zcz:K.loop 42003=some ([2,4,53,54,55],Z2X,90):=by kernel_rfl
theorem Zcy:K.loop 44000=some ([1,2,3,4],Z2W,30):=by kernel_rfl
theorem Zcx:K.loop 45000=some ([1,2,3,4],Z2V,19):=by kernel_rfl
theorem Zcw:K.loop 56000=some ([2,3,6,7],Z2U,23):=by kernel_rfl
theorem Zcv:K.loop 60000=some ([1,2,7,22,23],Z2T,65):=by kernel_rfl
theorem Zcu:K.loop 60001=some ([1,2,7,8,22,23,26],Z2S,65):=by kernel_rfl
theorem Zct:K.loop 61000=some ([0,3,4,5,17,18],Z2Q,48):=by kernel_rfl
theorem Zcs:K.loop 62000=some ([2,3,4,5,7,8,9],Z2P,135):=by kernel_rfl
theorem Zcr:K.loop 62001=some ([2,3,4,5,7,8,9,10,11],Z2O,135):=by kernel_rfl
theorem Zcq:K.loop 62002=some ([2,3,4,5,7,8,9,10,11,14],Z2N,135):=by kernel_rfl
theorem Zcp:K.loop 64000=some ([2,3,6,7],Z2M,16):=by kernel_rfl
theorem Zco:K.loop 65000=some ([0,1,4,5,6,7,23,24,25],Z2L,90):=by kernel_rfl
theorem Zcn:K.loop 65001=some ([0,1,4,5,6,7,9,23,24,25,29],Z2K,90):=by kernel_rfl
theorem Zcm:K.loop 66000=some ([2,3,10,11],Z2J,21):=by kernel_rfl
theorem Zcl:K.loop 68000=some ([0,1],Z2I,41):=by kernel_rfl
theorem Zck:K.loop 83000=some ([0,3,4,5],Z2H,43):=by kernel_rfl
theorem Zcj:K.loop 84000=some ([0,2,3,4,5],Z2G,51):=by kernel_rfl
theorem Zci:K.loop 85000=some ([0,1,8,9],Z2F,30):=by kernel_rfl
theorem Zch:K.loop 85001=some ([0,1,3,8,9,16,17],Z2E,30):=by kernel_rfl
theorem Zcg:K.loop 86000=some ([0,2,3,18,19],Z2C,100):=by kernel_rfl
theorem Zcf:K.loop 86001=some ([0,2,3,5,6,18,19],Z2B,100):=by kernel_rfl
theorem Zce:K.loop 86002=some ([0,2,3,5,6,7,18,19,50,51],Z2A,100):=by kernel_rfl
theorem Zcd:K.loop 92000=some ([1,3,6],Z2z,25):=by kernel_rfl
theorem Zcc:K.loop 92001=some ([1,3,4,6,9,10],Z2y,25):=by kernel_rfl
theorem Zcb:K.rng 71 [13,14]=some ([1,2,3],Z1g,Z1f):=by kernel_rfl
theorem ck_10:Z08 K Zep.nt Zep.code:=(ai tt (ai tt (ai tt (ai tt tt))))
theorem fe_10:FE (H:=H) P bk K 10 (fun o vs h c=>match vs with | []=>Zl4 o h c | _=>none):=by
 refine ⟨Zep,bk_10,rfl,ck_10,fun o vs h c r e=>?_⟩
 dsimp only at e
 split at e
 · exact ⟨rfl,(Zj4 o h c).trans e⟩
 · cases e
theorem ck_11:Z08 K ZbH.nt ZbH.code:=(ai tt (ai (ai tt (ai (ai tt tt) tt)) (ai tt tt)))
theorem fe_11:FE (H:=H) P bk K 11 (fun o vs h c=>match vs with | [t0]=>Zeo o t0 h c | _=>none):=by
 refine ⟨ZbH,bk_11,rfl,ck_11,fun o vs h c r e=>?_⟩
 dsimp only at e
 split at e
 · exact ⟨rfl,(Zdn o _ h c).trans e⟩
 · cases e
theorem Ziq:Z08 K 23 Z3i:=(ai tt (ai (ai tt tt) (ai (ai tt (ai tt (ai (ai tt tt) tt))) tt)))
theorem ZhK:LE (H:=H) P K 13000 (fun o rd vs h c df=>match vs with | [t2,t3,t4,t12,t13]=>Z40 o rd t2 t3 t4 t12 t13 h c df | _=>none):=by
 intro lin b nt hk
 rw [ZcP] at hk
 cases hk
 refine ⟨Ziq,fun o rd vs h c df q e=>?_⟩
 dsimp only at e
 split at e
 · exact (Z4y o rd _ _ _ _ _ h c df).trans e
 · cases e
theorem ck_13:Z08 K ZbG.nt ZbG.code:=(ai tt (ai (ai tt (ai (ai tt tt) tt)) (ai tt (ai (ai tt (ai rfl ZcP)) (ai tt tt)))))
theorem fe_13:FE (H:=H) P bk K 13 (fun o vs h c=>match vs with | [t0]=>Zg4 o t0 h c | _=>none):=by
 refine ⟨ZbG,bk_13,rfl,ck_13,fun o vs h c r e=>?_⟩
 dsimp only at e
 split at e
 · exact ⟨rfl,(Zdm o _ h c).trans e⟩
 · cases e
theorem Zio:Z08 K 83 Z3g:=(ai (ai tt (ai tt tt)) (ai (ai tt (ai (ai tt (ai tt tt)) (ai (ai tt (ai (ai tt tt) tt)) (ai tt (ai (ai tt tt) tt))))) tt))
theorem ZhI:LE (H:=H) P K 14001 (fun o rd vs h c df=>match vs with | [t1,t2,t3,t4,t5]=>Z6w o rd t1 t2 t3 t4 t5 h c df | _=>none):=by
 intro lin b nt hk
 rw [ZcN] at hk
 cases hk
 refine ⟨Zio,fun o rd vs h c df q e=>?_⟩
 dsimp only at e
 split at e
 · exact (Z9T o rd _ _ _ _ _ h c df).trans e
 · cases e
theorem Zip:Z08 K 83 Z3h:=(ai (ai tt (ai tt tt)) (ai (ai tt (ai rfl ZcN)) tt))
theorem ZhJ:LE (H:=H) P K 14000 (fun o rd vs h c df=>match vs with | [t1,t2,t3,t4]=>Z6x o rd t1 t2 t3 t4 h c df | _=>none):=by
 intro lin b nt hk
 rw [ZcO] at hk
 cases hk
 refine ⟨Zip,fun o rd vs h c df q e=>?_⟩
 dsimp only at e
 split at e
 · exact (Z9U o rd _ _ _ _ h c df).trans e
 · cases e
theorem ck_14:Z08 K Zen.nt Zen.code:=(ai tt (ai tt (ai (ai tt (ai (ai tt tt) tt)) (ai (ai tt (ai rfl ZcO)) (ai tt tt)))))
theorem fe_14:FE (H:=H) P bk K 14 (fun o vs h c=>match vs with | [t0]=>Zl2 o t0 h c | _=>none):=by
 refine ⟨Zen,bk_14,rfl,ck_14,fun o vs h c r e=>?_⟩
 dsimp only at e
 split at e
 · exact ⟨rfl,(Zj1 o _ h c).trans e⟩
 · cases e
theorem Zin:Z08 K 26 Z3f:=(ai (ai tt (ai tt tt)) (ai (ai tt (ai (ai tt tt) tt)) tt))
theorem ZhH:LE (H:=H) P K 16000 (fun o rd vs h c df=>match vs with | [t0,t1,t4,t5]=>Z6v o rd t0 t1 t4 t5 h c df | _=>none):=by
 intro lin b nt hk
 rw [ZcM] at hk
 cases hk
 refine ⟨Zin,fun o rd vs h c df q e=>?_⟩
 dsimp only at e
 split at e
 · exact (Z9S o rd _ _ _ _ h c df).trans e
 · cases e
theorem ck_16:Z08 K Zek.nt Zek.code:=(ai tt (ai (ai tt (ai (ai tt tt) tt)) (ai (ai tt (ai rfl ZcM)) (ai tt tt))))
theorem fe_16:FE (H:=H) P bk K 16 (fun o vs h c=>match vs with | [t0,t1]=>Zl1 o t0 t1 h c | _=>none):=by
 refine ⟨Zek,bk_16,rfl,ck_16,fun o vs h c r e=>?_⟩
 dsimp only at e
 split at e
 · exact ⟨rfl,(Zj0 o _ _ h c).trans e⟩
 · cases e
theorem Zim:Z08 K 26 Z3e:=(ai tt (ai (ai tt tt) (ai (ai tt (ai tt (ai (ai tt tt) tt))) tt)))
theorem ZhG:LE (H:=H) P K 27000 (fun o rd vs h c df=>match vs with | [t0,t1,t4,t7,t8]=>Z3Y o rd t0 t1 t4 t7 t8 h c df | _=>none):=by
 intro lin b nt hk
 rw [ZcL] at hk
 cases hk
 refine ⟨Zim,fun o rd vs h c df q e=>?_⟩
 dsimp only at e
 split at e
 · exact (Z4x o rd _ _ _ _ _ h c df).trans e
 · cases e
theorem ck_27:Z08 K ZbF.nt ZbF.code:=(ai tt (ai (ai tt (ai rfl ZcL)) (ai tt tt)))
theorem fe_27:FE (H:=H) P bk K 27 (fun o vs h c=>match vs with | [t0,t1]=>Zg3 o t0 t1 h c | _=>none):=by
 refine ⟨ZbF,bk_27,rfl,ck_27,fun o vs h c r e=>?_⟩
 dsimp only at e
 split at e
 · exact ⟨rfl,(Zdl o _ _ h c).trans e⟩
 · cases e
theorem ck_37:Z08 K Zef.nt Zef.code:=(ai tt (ai tt (ai tt tt)))
theorem fe_37:FE (H:=H) P bk K 37 (fun o vs h c=>match vs with | []=>ZkX o h c | _=>none):=by
 refine ⟨Zef,bk_37,rfl,ck_37,fun o vs h c r e=>?_⟩
 dsimp only at e
 split at e
 · exact ⟨rfl,(ZiT o h c).trans e⟩
 · cases e
theorem Zir:Z08 K 71 Z1g:=(ai tt tt)
theorem Zil:Z08 K 71 Z1f:=(ai (ai tt (ai tt tt)) (ai (ai tt (ai (ai tt tt) tt)) (ai tt (ai (ai tt tt) tt))))
theorem ZgR:RE (H:=H) P K 71 [13,14] (fun o l vs h c=>match vs with | [t13,t14,t1,t2,t3]=>Z3d o l t13 t14 t1 t2 t3 h c | _=>none):=by
 intro lin a b hk
 rw [Zcb] at hk
 cases hk
 refine ⟨Zir,Zil,fun o l vs h c r e=>?_⟩
 dsimp only at e
 split at e
 · exact (Z5S o l _ _ _ _ _ h c).trans e
 · cases e
theorem ck_38:Z08 K ZbE.nt ZbE.code:=(ai tt (ai (ai tt (ai (ai tt tt) tt)) (ai tt (ai (ai tt (ai rfl Zcb)) (ai tt tt)))))
theorem fe_38:FE (H:=H) P bk K 38 (fun o vs h c=>match vs with | [t0]=>Zg2 o t0 h c | _=>none):=by
 refine ⟨ZbE,bk_38,rfl,ck_38,fun o vs h c r e=>?_⟩
 dsimp only at e
 split at e
 · exact ⟨rfl,(Zdk o _ h c).trans e⟩
 · cases e
theorem Zij:Z08 K 172 Z3a:=(ai tt (ai (ai tt tt) (ai (ai tt (ai tt (ai tt (ai tt (ai tt tt))))) tt)))
theorem ZhE:LE (H:=H) P K 39001 (fun o rd vs h c df=>match vs with | [t2,t3,t4,t5,t6,t8,t10,t12,t13,t59,t60,t105,t106]=>Z3c o rd t2 t3 t4 t5 t6 t8 t10 t12 t13 t59 t60 t105 t106 h c df | _=>none):=by
 intro lin b nt hk
 rw [ZcJ] at hk
 cases hk
 refine ⟨Zij,fun o rd vs h c df q e=>?_⟩
 dsimp only at e
 split at e
 · exact (Z2s o rd _ _ _ _ _ _ _ _ _ _ _ _ _ h c df).trans e
 · cases e
theorem Zik:Z08 K 172 Z3b:=(ai tt (ai (ai tt tt) (ai (ai tt (ai tt (ai tt (ai tt (ai tt (ai rfl ZcJ)))))) tt)))
theorem ZhF:LE (H:=H) P K 39000 (fun o rd vs h c df=>match vs with | [t2,t3,t4,t5,t6,t8,t10,t12,t59,t60]=>Z3X o rd t2 t3 t4 t5 t6 t8 t10 t12 t59 t60 h c df | _=>none):=by
 intro lin b nt hk
 rw [ZcK] at hk
 cases hk
 refine ⟨Zik,fun o rd vs h c df q e=>?_⟩
 dsimp only at e
 split at e
 · exact (Z4w o rd _ _ _ _ _ _ _ _ _ _ h c df).trans e
 · cases e
theorem Zii:Z08 K 172 Z39:=(ai tt (ai (ai tt tt) (ai (ai tt tt) tt)))
theorem ZhD:LE (H:=H) P K 39002 (fun o rd vs h c df=>match vs with | [t2,t3,t4,t6,t12,t155,t156]=>Z3W o rd t2 t3 t4 t6 t12 t155 t156 h c df | _=>none):=by
 intro lin b nt hk
 rw [ZcI] at hk
 cases hk
 refine ⟨Zii,fun o rd vs h c df q e=>?_⟩
 dsimp only at e
 split at e
 · exact (Z4v o rd _ _ _ _ _ _ _ h c df).trans e
 · cases e
theorem ck_39:Z08 K ZbD.nt ZbD.code:=(ai tt (ai tt (ai tt (ai tt (ai tt (ai tt (ai tt (ai (ai tt (ai rfl ZcK)) (ai (ai tt (ai rfl ZcI)) (ai tt tt))))))))))
theorem fe_39:FE (H:=H) P bk K 39 (fun o vs h c=>match vs with | [t0]=>Zg1 o t0 h c | _=>none):=by
 refine ⟨ZbD,bk_39,rfl,ck_39,fun o vs h c r e=>?_⟩
 dsimp only at e
 split at e
 · exact ⟨rfl,(Zdj o _ h c).trans e⟩
 · cases e
theorem Zie:Z08 K 152 Z32:=(ai tt (ai (ai tt tt) (ai (ai tt (ai tt (ai (ai tt tt) tt))) tt)))
theorem Zhz:LE (H:=H) P K 40003 (fun o rd vs h c df=>match vs with | [t4,t5,t7,t8,t9,t10,t35,t36,t37,t42,t43,t68,t90]=>Z36 o rd t4 t5 t7 t8 t9 t10 t35 t36 t37 t42 t43 t68 t90 h c df | _=>none):=by
 intro lin b nt hk
 rw [ZcE] at hk
 cases hk
 refine ⟨Zie,fun o rd vs h c df q e=>?_⟩
 dsimp only at e
 split at e
 · exact (Z2p o rd _ _ _ _ _ _ _ _ _ _ _ _ _ h c df).trans e
 · cases e
theorem Zif:Z08 K 152 Z33:=(ai tt (ai (ai tt tt) (ai (ai tt (ai (ai tt (ai tt tt)) (ai tt (ai tt (ai rfl ZcE))))) tt)))
theorem ZhA:LE (H:=H) P K 40002 (fun o rd vs h c df=>match vs with | [t4,t5,t7,t8,t9,t35,t36,t37,t42,t43,t68]=>Z37 o rd t4 t5 t7 t8 t9 t35 t36 t37 t42 t43 t68 h c df | _=>none):=by
 intro lin b nt hk
 rw [ZcF] at hk
 cases hk
 refine ⟨Zif,fun o rd vs h c df q e=>?_⟩
 dsimp only at e
 split at e
 · exact (Z2q o rd _ _ _ _ _ _ _ _ _ _ _ h c df).trans e
 · cases e
theorem Zig:Z08 K 152 Z34:=(ai tt (ai (ai tt tt) (ai (ai tt (ai (ai tt (ai tt tt)) (ai tt (ai tt (ai tt (ai rfl ZcF)))))) tt)))
theorem ZhB:LE (H:=H) P K 40001 (fun o rd vs h c df=>match vs with | [t4,t5,t35,t36,t37,t42,t43]=>Z38 o rd t4 t5 t35 t36 t37 t42 t43 h c df | _=>none):=by
 intro lin b nt hk
 rw [ZcG] at hk
 cases hk
 refine ⟨Zig,fun o rd vs h c df q e=>?_⟩
 dsimp only at e
 split at e
 · exact (Z2r o rd _ _ _ _ _ _ _ h c df).trans e
 · cases e
theorem Zih:Z08 K 152 Z35:=(ai tt (ai (ai tt tt) (ai (ai tt (ai tt (ai rfl ZcG))) tt)))
theorem ZhC:LE (H:=H) P K 40000 (fun o rd vs h c df=>match vs with | [t4,t35,t36,t37]=>Z3V o rd t4 t35 t36 t37 h c df | _=>none):=by
 intro lin b nt hk
 rw [ZcH] at hk
 cases hk
 refine ⟨Zih,fun o rd vs h c df q e=>?_⟩
 dsimp only at e
 split at e
 · exact (Z4u o rd _ _ _ _ h c df).trans e
 · cases e
theorem ck_40:Z08 K ZbC.nt ZbC.code:=(ai tt (ai tt (ai tt (ai (ai tt (ai rfl ZcH)) (ai tt tt)))))
theorem fe_40:FE (H:=H) P bk K 40 (fun o vs h c=>match vs with | [t0]=>Zg0 o t0 h c | _=>none):=by
 refine ⟨ZbC,bk_40,rfl,ck_40,fun o vs h c r e=>?_⟩
 dsimp only at e
 split at e
 · exact ⟨rfl,(Zdi o _ h c).trans e⟩
 · cases e
theorem Zid:Z08 K 41 Z31:=(ai tt (ai (ai tt tt) (ai (ai tt (ai tt (ai tt (ai (ai tt tt) tt)))) tt)))
theorem Zhy:LE (H:=H) P K 41000 (fun o rd vs h c df=>match vs with | [t0,t4,t5,t15,t16]=>Z3U o rd t0 t4 t5 t15 t16 h c df | _=>none):=by
 intro lin b nt hk
 rw [ZcD] at hk
 cases hk
 refine ⟨Zid,fun o rd vs h c df q e=>?_⟩
 dsimp only at e
 split at e
 · exact (Z4t o rd _ _ _ _ _ h c df).trans e
 · cases e
theorem ck_41:Z08 K ZbB.nt ZbB.code:=(ai tt (ai tt (ai tt (ai (ai tt (ai rfl ZcD)) (ai tt tt)))))
theorem fe_41:FE (H:=H) P bk K 41 (fun o vs h c=>match vs with | [t0]=>ZfZ o t0 h c | _=>none):=by
 refine ⟨ZbB,bk_41,rfl,ck_41,fun o vs h c r e=>?_⟩
 dsimp only at e
 split at e
 · exact ⟨rfl,(Zdh o _ h c).trans e⟩
 · cases e
theorem Zib:Z08 K 90 Z2Z:=(ai tt (ai (ai tt tt) (ai (ai tt tt) tt)))
theorem Zhw:LE (H:=H) P K 42001 (fun o rd vs h c df=>match vs with | [t2,t3,t4,t18,t19,t20,t24,t25]=>Z3S o rd t2 t3 t4 t18 t19 t20 t24 t25 h c df | _=>none):=by
 intro lin b nt hk
 rw [ZcB] at hk
 cases hk
 refine ⟨Zib,fun o rd vs h c df q e=>?_⟩
 dsimp only at e
 split at e
 · exact (Z4r o rd _ _ _ _ _ _ _ _ h c df).trans e
 · cases e
theorem Zic:Z08 K 90 Z30:=(ai tt (ai (ai tt tt) (ai (ai tt (ai tt (ai rfl ZcB))) tt)))
theorem Zhx:LE (H:=H) P K 42000 (fun o rd vs h c df=>match vs with | [t2,t3,t4,t18,t19,t20]=>Z3T o rd t2 t3 t4 t18 t19 t20 h c df | _=>none):=by
 intro lin b nt hk
 rw [ZcC] at hk
 cases hk
 refine ⟨Zic,fun o rd vs h c df q e=>?_⟩
 dsimp only at e
 split at e
 · exact (Z4s o rd _ _ _ _ _ _ h c df).trans e
 · cases e
theorem Zia:Z08 K 90 Z2Y:=(ai tt (ai (ai tt tt) (ai (ai tt tt) tt)))
theorem Zhv:LE (H:=H) P K 42002 (fun o rd vs h c df=>match vs with | [t2,t3,t4,t39,t40,t41]=>Z3R o rd t2 t3 t4 t39 t40 t41 h c df | _=>none):=by
 intro lin b nt hk
 rw [ZcA] at hk
 cases hk
 refine ⟨Zia,fun o rd vs h c df q e=>?_⟩
 dsimp only at e
 split at e
 · exact (Z4q o rd _ _ _ _ _ _ h c df).trans e
 · cases e
theorem Zi9:Z08 K 90 Z2X:=(ai tt (ai (ai tt tt) (ai (ai tt (ai tt (ai tt tt))) tt)))
theorem Zhu:LE (H:=H) P K 42003 (fun o rd vs h c df=>match vs with | [t2,t4,t53,t54,t55]=>Z3Q o rd t2 t4 t53 t54 t55 h c df | _=>none):=by
 intro lin b nt hk
 rw [Zcz] at hk
 cases hk
 refine ⟨Zi9,fun o rd vs h c df q e=>?_⟩
 dsimp only at e
 split at e
 · exact (Z4p o rd _ _ _ _ _ h c df).trans e
 · cases e
theorem ck_42:Z08 K ZbA.nt ZbA.code:=(ai tt (ai tt (ai tt (ai (ai tt (ai rfl ZcC)) (ai (ai tt (ai rfl ZcA)) (ai (ai tt (ai rfl Zcz)) (ai tt tt)))))))
theorem fe_42:FE (H:=H) P bk K 42 (fun o vs h c=>match vs with | [t0]=>ZfY o t0 h c | _=>none):=by
 refine ⟨ZbA,bk_42,rfl,ck_42,fun o vs h c r e=>?_⟩
 dsimp only at e
 split at e
 · exact ⟨rfl,(Zdg o _ h c).trans e⟩
 · cases e
theorem ck_43:Z08 K Zbz.nt Zbz.code:=(ai tt (ai tt tt))
theorem fe_43:FE (H:=H) P bk K 43 (fun o vs h c=>match vs with | []=>ZfX o h c | _=>none):=by
 refine ⟨Zbz,bk_43,rfl,ck_43,fun o vs h c r e=>?_⟩
 dsimp only at e
 split at e
 · exact ⟨rfl,(Zdf o h c).trans e⟩
 · cases e
theorem Zi8:Z08 K 30 Z2W:=(ai (ai tt (ai tt tt)) (ai (ai (ai tt (ai (ai tt tt) tt)) tt) tt))
theorem Zht:LE (H:=H) P K 44000 (fun o rd vs h c df=>match vs with | [t1,t2,t3,t4]=>Z6p o rd t1 t2 t3 t4 h c df | _=>none):=by
 intro lin b nt hk
 rw [Zcy] at hk
 cases hk
 refine ⟨Zi8,fun o rd vs h c df q e=>?_⟩
 dsimp only at e
 split at e
 · exact (Z9N o rd _ _ _ _ h c df).trans e
 · cases e
theorem ck_44:Z08 K Zed.nt Zed.code:=(ai tt (ai tt (ai (ai tt (ai rfl Zcy)) (ai tt tt))))
theorem fe_44:FE (H:=H) P bk K 44 (fun o vs h c=>match vs with | [t0]=>ZkV o t0 h c | _=>none):=by
 refine ⟨Zed,bk_44,rfl,ck_44,fun o vs h c r e=>?_⟩
 dsimp only at e
 split at e
 · exact ⟨rfl,(ZiR o _ h c).trans e⟩
 · cases e
theorem Zi7:Z08 K 19 Z2V:=(ai (ai tt (ai tt tt)) (ai tt tt))
theorem Zhs:LE (H:=H) P K 45000 (fun o rd vs h c df=>match vs with | [t1,t2,t3,t4]=>Z6o o rd t1 t2 t3 t4 h c df | _=>none):=by
 intro lin b nt hk
 rw [Zcx] at hk
 cases hk
 refine ⟨Zi7,fun o rd vs h c df q e=>?_⟩
 dsimp only at e
 split at e
 · exact (Z9M o rd _ _ _ _ h c df).trans e
 · cases e
theorem ck_45:Z08 K Zeb.nt Zeb.code:=(ai tt (ai tt (ai (ai tt (ai (ai tt tt) tt)) (ai (ai tt (ai rfl Zcx)) (ai tt tt)))))
theorem fe_45:FE (H:=H) P bk K 45 (fun o vs h c=>match vs with | [t0]=>ZkU o t0 h c | _=>none):=by
 refine ⟨Zeb,bk_45,rfl,ck_45,fun o vs h c r e=>?_⟩
 dsimp only at e
 split at e
 · exact ⟨rfl,(ZiQ o _ h c).trans e⟩
 · cases e
theorem ck_54:Z08 K Zby.nt Zby.code:=(ai tt (ai tt tt))
theorem fe_54:FE (H:=H) P bk K 54 (fun o vs h c=>match vs with | []=>ZfW o h c | _=>none):=by
 refine ⟨Zby,bk_54,rfl,ck_54,fun o vs h c r e=>?_⟩
 dsimp only at e
 split at e
 · exact ⟨rfl,(Zde o h c).trans e⟩
 · cases e
theorem Zi6:Z08 K 23 Z2U:=(ai tt (ai (ai tt tt) (ai (ai tt (ai (ai tt (ai (ai tt tt) tt)) tt)) tt)))
theorem Zhr:LE (H:=H) P K 56000 (fun o rd vs h c df=>match vs with | [t2,t3,t6,t7]=>Z1B o rd t2 t3 t6 t7 h c df | _=>none):=by
 intro lin b nt hk
 rw [Zcw] at hk
 cases hk
 refine ⟨Zi6,fun o rd vs h c df q e=>?_⟩
 dsimp only at e
 split at e
 · exact (Z4o o rd _ _ _ _ h c df).trans e
 · cases e
theorem ck_56:Z08 K Zbx.nt Zbx.code:=(ai tt (ai tt (ai (ai tt (ai rfl Zcw)) (ai tt tt))))
theorem fe_56:FE (H:=H) P bk K 56 (fun o vs h c=>match vs with | [t0]=>ZfV o t0 h c | _=>none):=by
 refine ⟨Zbx,bk_56,rfl,ck_56,fun o vs h c r e=>?_⟩
 dsimp only at e
 split at e
 · exact ⟨rfl,(Zdd o _ h c).trans e⟩
 · cases e
theorem Zi4:Z08 K 65 Z2S:=(ai tt (ai (ai tt tt) (ai (ai tt (ai tt (ai (ai tt tt) tt))) tt)))
theorem Zhp:LE (H:=H) P K 60001 (fun o rd vs h c df=>match vs with | [t1,t2,t7,t8,t22,t23,t26]=>Z3N o rd t1 t2 t7 t8 t22 t23 t26 h c df | _=>none):=by
 intro lin b nt hk
 rw [Zcu] at hk
 cases hk
 refine ⟨Zi4,fun o rd vs h c df q e=>?_⟩
 dsimp only at e
 split at e
 · exact (Z4m o rd _ _ _ _ _ _ _ h c df).trans e
 · cases e
theorem Zi5:Z08 K 65 Z2T:=(ai tt (ai (ai tt tt) (ai (ai tt (ai tt (ai rfl Zcu))) tt)))
theorem Zhq:LE (H:=H) P K 60000 (fun o rd vs h c df=>match vs with | [t1,t2,t7,t22,t23]=>Z3O o rd t1 t2 t7 t22 t23 h c df | _=>none):=by
 intro lin b nt hk
 rw [Zcv] at hk
 cases hk
 refine ⟨Zi5,fun o rd vs h c df q e=>?_⟩
 dsimp only at e
 split at e
 · exact (Z4n o rd _ _ _ _ _ h c df).trans e
 · cases e
theorem ck_60:Z08 K Zbw.nt Zbw.code:=(ai tt (ai tt (ai (ai tt (ai rfl Zcv)) (ai tt tt))))
theorem fe_60:FE (H:=H) P bk K 60 (fun o vs h c=>match vs with | [t0,t1,t2]=>ZfU o t0 t1 t2 h c | _=>none):=by
 refine ⟨Zbw,bk_60,rfl,ck_60,fun o vs h c r e=>?_⟩
 dsimp only at e
 split at e
 · exact ⟨rfl,(Zdc o _ _ _ h c).trans e⟩
 · cases e
theorem Zi3:Z08 K 48 Z2Q:=(ai tt (ai (ai tt tt) (ai (ai tt (ai tt (ai tt tt))) tt)))
theorem Zho:LE (H:=H) P K 61000 (fun o rd vs h c df=>match vs with | [t0,t3,t4,t5,t17,t18]=>Z2R o rd t0 t3 t4 t5 t17 t18 h c df | _=>none):=by
 intro lin b nt hk
 rw [Zct] at hk
 cases hk
 refine ⟨Zi3,fun o rd vs h c df q e=>?_⟩
 dsimp only at e
 split at e
 · exact (Z2o o rd _ _ _ _ _ _ h c df).trans e
 · cases e
theorem ck_61:Z08 K Zbv.nt Zbv.code:=(ai tt (ai tt (ai (ai tt (ai rfl Zct)) (ai tt tt))))
theorem fe_61:FE (H:=H) P bk K 61 (fun o vs h c=>match vs with | [t0,t1]=>ZfT o t0 t1 h c | _=>none):=by
 refine ⟨Zbv,bk_61,rfl,ck_61,fun o vs h c r e=>?_⟩
 dsimp only at e
 split at e
 · exact ⟨rfl,(Zdb o _ _ h c).trans e⟩
 · cases e
theorem Zi0:Z08 K 135 Z2N:=(ai (ai tt (ai tt tt)) (ai (ai tt (ai (ai tt (ai (ai tt tt) tt)) tt)) tt))
theorem Zhl:LE (H:=H) P K 62002 (fun o rd vs h c df=>match vs with | [t2,t3,t4,t5,t7,t8,t9,t10,t11,t14]=>Z6l o rd t2 t3 t4 t5 t7 t8 t9 t10 t11 t14 h c df | _=>none):=by
 intro lin b nt hk
 rw [Zcq] at hk
 cases hk
 refine ⟨Zi0,fun o rd vs h c df q e=>?_⟩
 dsimp only at e
 split at e
 · exact (Z9J o rd _ _ _ _ _ _ _ _ _ _ h c df).trans e
 · cases e
theorem Zi1:Z08 K 135 Z2O:=(ai (ai tt (ai tt tt)) (ai (ai (ai tt (ai (ai tt tt) tt)) (ai (ai tt (ai (ai tt (ai tt tt)) tt)) (ai tt (ai (ai tt (ai (ai tt tt) tt)) (ai tt (ai (ai tt (ai rfl Zcq)) tt)))))) tt))
theorem Zhm:LE (H:=H) P K 62001 (fun o rd vs h c df=>match vs with | [t2,t3,t4,t5,t7,t8,t9,t10,t11]=>Z6m o rd t2 t3 t4 t5 t7 t8 t9 t10 t11 h c df | _=>none):=by
 intro lin b nt hk
 rw [Zcr] at hk
 cases hk
 refine ⟨Zi1,fun o rd vs h c df q e=>?_⟩
 dsimp only at e
 split at e
 · exact (Z9K o rd _ _ _ _ _ _ _ _ _ h c df).trans e
 · cases e
theorem Zi2:Z08 K 135 Z2P:=(ai (ai tt (ai tt tt)) (ai (ai tt (ai (ai tt (ai rfl Zcr)) tt)) tt))
theorem Zhn:LE (H:=H) P K 62000 (fun o rd vs h c df=>match vs with | [t2,t3,t4,t5,t7,t8,t9]=>Z6n o rd t2 t3 t4 t5 t7 t8 t9 h c df | _=>none):=by
 intro lin b nt hk
 rw [Zcs] at hk
 cases hk
 refine ⟨Zi2,fun o rd vs h c df q e=>?_⟩
 dsimp only at e
 split at e
 · exact (Z9L o rd _ _ _ _ _ _ _ h c df).trans e
 · cases e
theorem ck_62:Z08 K Ze8.nt Ze8.code:=(ai tt (ai (ai tt (ai (ai tt tt) tt)) (ai tt (ai (ai tt (ai (ai tt tt) tt)) (ai tt (ai (ai tt (ai (ai tt tt) tt)) (ai tt (ai tt (ai (ai tt (ai rfl Zcs)) (ai (ai tt (ai (ai tt tt) tt)) (ai (ai tt (ai (ai tt tt) tt)) (ai tt tt))))))))))))
theorem fe_62:FE (H:=H) P bk K 62 (fun o vs h c=>match vs with | [t0]=>ZkQ o t0 h c | _=>none):=by
 refine ⟨Ze8,bk_62,rfl,ck_62,fun o vs h c r e=>?_⟩
 dsimp only at e
 split at e
 · exact ⟨rfl,(ZiN o _ h c).trans e⟩
 · cases e
theorem ck_63:Z08 K Zbu.nt Zbu.code:=(ai tt (ai tt tt))
theorem fe_63:FE (H:=H) P bk K 63 (fun o vs h c=>match vs with | [t0]=>ZfS o t0 h c | _=>none):=by
 refine ⟨Zbu,bk_63,rfl,ck_63,fun o vs h c r e=>?_⟩
 dsimp only at e
 split at e
 · exact ⟨rfl,(Zda o _ h c).trans e⟩
 · cases e
theorem ZhZ:Z08 K 16 Z2M:=(ai tt (ai (ai tt tt) (ai (ai tt tt) tt)))
theorem Zhk:LE (H:=H) P K 64000 (fun o rd vs h c df=>match vs with | [t2,t3,t6,t7]=>Z1V o rd t2 t3 t6 t7 h c df | _=>none):=by
 intro lin b nt hk
 rw [Zcp] at hk
 cases hk
 refine ⟨ZhZ,fun o rd vs h c df q e=>?_⟩
 dsimp only at e
 split at e
 · exact (Z4l o rd _ _ _ _ h c df).trans e
 · cases e
theorem ck_64:Z08 K Zbt.nt Zbt.code:=(ai tt (ai tt (ai (ai tt (ai rfl Zcp)) (ai tt tt))))
theorem fe_64:FE (H:=H) P bk K 64 (fun o vs h c=>match vs with | [t0]=>ZfR o t0 h c | _=>none):=by
 refine ⟨Zbt,bk_64,rfl,ck_64,fun o vs h c r e=>?_⟩
 dsimp only at e
 split at e
 · exact ⟨rfl,(Zd9 o _ h c).trans e⟩
 · cases e
theorem ZhX:Z08 K 90 Z2K:=(ai tt (ai (ai tt tt) (ai (ai tt (ai (ai tt (ai tt tt)) (ai tt (ai tt (ai (ai tt tt) tt))))) tt)))
theorem Zhi:LE (H:=H) P K 65001 (fun o rd vs h c df=>match vs with | [t0,t1,t4,t5,t6,t7,t9,t23,t24,t25,t29]=>Z1U o rd t0 t1 t4 t5 t6 t7 t9 t23 t24 t25 t29 h c df | _=>none):=by
 intro lin b nt hk
 rw [Zcn] at hk
 cases hk
 refine ⟨ZhX,fun o rd vs h c df q e=>?_⟩
 dsimp only at e
 split at e
 · exact (Z1I o rd _ _ _ _ _ _ _ _ _ _ _ h c df).trans e
 · cases e
theorem ZhY:Z08 K 90 Z2L:=(ai tt (ai (ai tt tt) (ai (ai tt (ai tt (ai rfl Zcn))) tt)))
theorem Zhj:LE (H:=H) P K 65000 (fun o rd vs h c df=>match vs with | [t0,t1,t4,t5,t6,t7,t23,t24,t25]=>Z3L o rd t0 t1 t4 t5 t6 t7 t23 t24 t25 h c df | _=>none):=by
 intro lin b nt hk
 rw [Zco] at hk
 cases hk
 refine ⟨ZhY,fun o rd vs h c df q e=>?_⟩
 dsimp only at e
 split at e
 · exact (Z4k o rd _ _ _ _ _ _ _ _ _ h c df).trans e
 · cases e
theorem ck_65:Z08 K Zbs.nt Zbs.code:=(ai tt (ai tt (ai tt (ai tt (ai (ai tt (ai rfl Zco)) (ai tt (ai tt (ai tt (ai tt tt)))))))))
theorem fe_65:FE (H:=H) P bk K 65 (fun o vs h c=>match vs with | [t0,t1]=>ZfQ o t0 t1 h c | _=>none):=by
 refine ⟨Zbs,bk_65,rfl,ck_65,fun o vs h c r e=>?_⟩
 dsimp only at e
 split at e
 · exact ⟨rfl,(Zd8 o _ _ h c).trans e⟩
 · cases e
theorem ZhW:Z08 K 21 Z2J:=(ai tt (ai (ai tt tt) (ai (ai tt tt) tt)))
theorem Zhh:LE (H:=H) P K 66000 (fun o rd vs h c df=>match vs with | [t2,t3,t10,t11]=>Z3K o rd t2 t3 t10 t11 h c df | _=>none):=by
 intro lin b nt hk
 rw [Zcm] at hk
 cases hk
 refine ⟨ZhW,fun o rd vs h c df q e=>?_⟩
 dsimp only at e
 split at e
 · exact (Z4j o rd _ _ _ _ h c df).trans e
 · cases e
theorem ck_66:Z08 K Zbr.nt Zbr.code:=(ai tt (ai tt (ai (ai tt (ai rfl Zcm)) (ai tt tt))))
theorem fe_66:FE (H:=H) P bk K 66 (fun o vs h c=>match vs with | [t0]=>ZfP o t0 h c | _=>none):=by
 refine ⟨Zbr,bk_66,rfl,ck_66,fun o vs h c r e=>?_⟩
 dsimp only at e
 split at e
 · exact ⟨rfl,(Zd7 o _ h c).trans e⟩
 · cases e
theorem ck_67:Z08 K Zbq.nt Zbq.code:=(ai tt tt)
theorem fe_67:FE (H:=H) P bk K 67 (fun o vs h c=>match vs with | [t0,t1,t2]=>Ze2 o t0 t1 t2 h c | _=>none):=by
 refine ⟨Zbq,bk_67,rfl,ck_67,fun o vs h c r e=>?_⟩
 dsimp only at e
 split at e
 · exact ⟨rfl,(Zd6 o _ _ _ h c).trans e⟩
 · cases e
theorem ZhV:Z08 K 41 Z2I:=(ai (ai tt (ai tt tt)) (ai tt tt))
theorem Zhg:LE (H:=H) P K 68000 (fun o rd vs h c df=>match vs with | [t0,t1]=>Z4Z o rd t0 t1 h c df | _=>none):=by
 intro lin b nt hk
 rw [Zcl] at hk
 cases hk
 refine ⟨ZhV,fun o rd vs h c df q e=>?_⟩
 dsimp only at e
 split at e
 · exact (Z5P o rd _ _ h c df).trans e
 · cases e
theorem ck_68:Z08 K Zbp.nt Zbp.code:=(ai tt (ai (ai rfl Zcl) (ai tt tt)))
theorem fe_68:FE (H:=H) P bk K 68 (fun o vs h c=>match vs with | [t0,t1]=>Ze1 o t0 t1 h c | _=>none):=by
 refine ⟨Zbp,bk_68,rfl,ck_68,fun o vs h c r e=>?_⟩
 dsimp only at e
 split at e
 · exact ⟨rfl,(Zd5 o _ _ h c).trans e⟩
 · cases e
theorem ck_69:Z08 K Zbo.nt Zbo.code:=(ai tt (ai tt tt))
theorem fe_69:FE (H:=H) P bk K 69 (fun o vs h c=>match vs with | [t0]=>ZfO o t0 h c | _=>none):=by
 refine ⟨Zbo,bk_69,rfl,ck_69,fun o vs h c r e=>?_⟩
 dsimp only at e
 split at e
 · exact ⟨rfl,(Zd4 o _ h c).trans e⟩
 · cases e
theorem ck_70:Z08 K Zbn.nt Zbn.code:=(ai tt (ai tt tt))
theorem fe_70:FE (H:=H) P bk K 70 (fun o vs h c=>match vs with | [t0]=>ZfN o t0 h c | _=>none):=by
 refine ⟨Zbn,bk_70,rfl,ck_70,fun o vs h c r e=>?_⟩
 dsimp only at e
 split at e
 · exact ⟨rfl,(Zd3 o _ h c).trans e⟩
 · cases e
theorem ck_71:Z08 K Zbm.nt Zbm.code:=(ai tt (ai tt tt))
theorem fe_71:FE (H:=H) P bk K 71 (fun o vs h c=>match vs with | [t0]=>ZfM o t0 h c | _=>none):=by
 refine ⟨Zbm,bk_71,rfl,ck_71,fun o vs h c r e=>?_⟩
 dsimp only at e
 split at e
 · exact ⟨rfl,(Zd2 o _ h c).trans e⟩
 · cases e
theorem ck_72:Z08 K Zbl.nt Zbl.code:=(ai tt (ai tt tt))
theorem fe_72:FE (H:=H) P bk K 72 (fun o vs h c=>match vs with | [t0]=>ZfL o t0 h c | _=>none):=by
 refine ⟨Zbl,bk_72,rfl,ck_72,fun o vs h c r e=>?_⟩
 dsimp only at e
 split at e
 · exact ⟨rfl,(Zd1 o _ h c).trans e⟩
 · cases e
theorem ZhU:Z08 K 43 Z2H:=(ai (ai tt (ai tt tt)) (ai (ai tt (ai (ai tt (ai tt tt)) (ai tt (ai (ai tt tt) tt)))) tt))
theorem Zhf:LE (H:=H) P K 83000 (fun o rd vs h c df=>match vs with | [t0,t3,t4,t5]=>Z6j o rd t0 t3 t4 t5 h c df | _=>none):=by
 intro lin b nt hk
 rw [Zck] at hk
 cases hk
 refine ⟨ZhU,fun o rd vs h c df q e=>?_⟩
 dsimp only at e
 split at e
 · exact (Z9G o rd _ _ _ _ h c df).trans e
 · cases e
theorem ck_83:Z08 K ZdZ.nt ZdZ.code:=(ai tt (ai tt (ai tt (ai (ai tt (ai rfl Zck)) (ai tt tt)))))
theorem fe_83:FE (H:=H) P bk K 83 (fun o vs h c=>match vs with | [t0]=>ZkH o t0 h c | _=>none):=by
 refine ⟨ZdZ,bk_83,rfl,ck_83,fun o vs h c r e=>?_⟩
 dsimp only at e
 split at e
 · exact ⟨rfl,(ZiI o _ h c).trans e⟩
 · cases e
theorem ZhT:Z08 K 51 Z2G:=(ai (ai tt (ai tt tt)) (ai (ai (ai tt (ai (ai tt tt) tt)) tt) tt))
theorem Zhe:LE (H:=H) P K 84000 (fun o rd vs h c df=>match vs with | [t0,t2,t3,t4,t5]=>Z6i o rd t0 t2 t3 t4 t5 h c df | _=>none):=by
 intro lin b nt hk
 rw [Zcj] at hk
 cases hk
 refine ⟨ZhT,fun o rd vs h c df q e=>?_⟩
 dsimp only at e
 split at e
 · exact (Z9F o rd _ _ _ _ _ h c df).trans e
 · cases e
theorem ck_84:Z08 K ZdX.nt ZdX.code:=(ai tt (ai (ai tt (ai (ai tt tt) tt)) (ai tt (ai (ai tt (ai rfl Zcj)) (ai tt tt)))))
theorem fe_84:FE (H:=H) P bk K 84 (fun o vs h c=>match vs with | [t0]=>ZkG o t0 h c | _=>none):=by
 refine ⟨ZdX,bk_84,rfl,ck_84,fun o vs h c r e=>?_⟩
 dsimp only at e
 split at e
 · exact ⟨rfl,(ZiH o _ h c).trans e⟩
 · cases e
theorem ZhR:Z08 K 30 Z2E:=(ai tt (ai (ai tt tt) (ai (ai tt (ai tt (ai tt tt))) tt)))
theorem Zhc:LE (H:=H) P K 85001 (fun o rd vs h c df=>match vs with | [t0,t1,t3,t8,t9,t16,t17]=>Z1z o rd t0 t1 t3 t8 t9 t16 t17 h c df | _=>none):=by
 intro lin b nt hk
 rw [Zch] at hk
 cases hk
 refine ⟨ZhR,fun o rd vs h c df q e=>?_⟩
 dsimp only at e
 split at e
 · exact (Z4g o rd _ _ _ _ _ _ _ h c df).trans e
 · cases e
theorem ZhS:Z08 K 30 Z2F:=(ai tt (ai (ai tt tt) (ai (ai tt (ai tt (ai rfl Zch))) tt)))
theorem Zhd:LE (H:=H) P K 85000 (fun o rd vs h c df=>match vs with | [t0,t1,t8,t9]=>Z1A o rd t0 t1 t8 t9 h c df | _=>none):=by
 intro lin b nt hk
 rw [Zci] at hk
 cases hk
 refine ⟨ZhS,fun o rd vs h c df q e=>?_⟩
 dsimp only at e
 split at e
 · exact (Z4h o rd _ _ _ _ h c df).trans e
 · cases e
theorem ck_85:Z08 K Zbk.nt Zbk.code:=(ai tt (ai rfl Zci))
theorem fe_85:FE (H:=H) P bk K 85 (fun o vs h c=>match vs with | [t0,t1]=>ZdT o t0 t1 h c | _=>none):=by
 refine ⟨Zbk,bk_85,rfl,ck_85,fun o vs h c r e=>?_⟩
 dsimp only at e
 split at e
 · exact ⟨rfl,(Zd0 o _ _ h c).trans e⟩
 · cases e
theorem ZhO:Z08 K 100 Z2A:=(ai tt (ai (ai tt tt) (ai (ai tt (ai (ai tt (ai tt tt)) (ai tt (ai tt (ai (ai tt tt) (ai tt (ai (ai tt tt) tt))))))) tt)))
theorem Zh9:LE (H:=H) P K 86002 (fun o rd vs h c df=>match vs with | [t0,t2,t3,t5,t6,t7,t18,t19,t50,t51]=>Z1y o rd t0 t2 t3 t5 t6 t7 t18 t19 t50 t51 h c df | _=>none):=by
 intro lin b nt hk
 rw [Zce] at hk
 cases hk
 refine ⟨ZhO,fun o rd vs h c df q e=>?_⟩
 dsimp only at e
 split at e
 · exact (Z1e o rd _ _ _ _ _ _ _ _ _ _ h c df).trans e
 · cases e
theorem ZhP:Z08 K 100 Z2B:=(ai (ai tt (ai tt tt)) (ai (ai tt (ai tt (ai rfl Zce))) tt))
theorem Zha:LE (H:=H) P K 86001 (fun o rd vs h c df=>match vs with | [t0,t2,t3,t5,t6,t18,t19]=>Z2D o rd t0 t2 t3 t5 t6 t18 t19 h c df | _=>none):=by
 intro lin b nt hk
 rw [Zcf] at hk
 cases hk
 refine ⟨ZhP,fun o rd vs h c df q e=>?_⟩
 dsimp only at e
 split at e
 · exact (Z2n o rd _ _ _ _ _ _ _ h c df).trans e
 · cases e
theorem ZhQ:Z08 K 100 Z2C:=(ai tt (ai (ai tt tt) (ai (ai tt (ai (ai tt (ai tt tt)) (ai tt (ai tt (ai tt (ai rfl Zcf)))))) tt)))
theorem Zhb:LE (H:=H) P K 86000 (fun o rd vs h c df=>match vs with | [t0,t2,t3,t18,t19]=>Z1T o rd t0 t2 t3 t18 t19 h c df | _=>none):=by
 intro lin b nt hk
 rw [Zcg] at hk
 cases hk
 refine ⟨ZhQ,fun o rd vs h c df q e=>?_⟩
 dsimp only at e
 split at e
 · exact (Z1H o rd _ _ _ _ _ h c df).trans e
 · cases e
theorem ck_86:Z08 K Zbj.nt Zbj.code:=(ai tt (ai tt (ai (ai tt (ai rfl Zcg)) (ai tt tt))))
theorem fe_86:FE (H:=H) P bk K 86 (fun o vs h c=>match vs with | [t0]=>ZfJ o t0 h c | _=>none):=by
 refine ⟨Zbj,bk_86,rfl,ck_86,fun o vs h c r e=>?_⟩
 dsimp only at e
 split at e
 · exact ⟨rfl,(ZcZ o _ h c).trans e⟩
 · cases e
theorem ck_91:Z08 K Zbi.nt Zbi.code:=(ai tt (ai (ai tt (ai (ai tt tt) tt)) (ai tt tt)))
theorem fe_91:FE (H:=H) P bk K 91 (fun o vs h c=>match vs with | [t0]=>ZfI o t0 h c | _=>none):=by
 refine ⟨Zbi,bk_91,rfl,ck_91,fun o vs h c r e=>?_⟩
 dsimp only at e
 split at e
 · exact ⟨rfl,(ZcY o _ h c).trans e⟩
 · cases e
theorem ZhM:Z08 K 25 Z2y:=(ai tt (ai (ai tt tt) (ai (ai tt (ai tt (ai tt tt))) tt)))
theorem Zh7:LE (H:=H) P K 92001 (fun o rd vs h c df=>match vs with | [t1,t3,t4,t6,t9,t10]=>Z3G o rd t1 t3 t4 t6 t9 t10 h c df | _=>none):=by
 intro lin b nt hk
 rw [Zcc] at hk
 cases hk
 refine ⟨ZhM,fun o rd vs h c df q e=>?_⟩
 dsimp only at e
 split at e
 · exact (Z4e o rd _ _ _ _ _ _ h c df).trans e
 · cases e
theorem ZhN:Z08 K 25 Z2z:=(ai tt (ai (ai tt tt) (ai (ai tt (ai tt (ai rfl Zcc))) tt)))
theorem Zh8:LE (H:=H) P K 92000 (fun o rd vs h c df=>match vs with | [t1,t3,t6]=>Z3H o rd t1 t3 t6 h c df | _=>none):=by
 intro lin b nt hk
 rw [Zcd] at hk
 cases hk
 refine ⟨ZhN,fun o rd vs h c df q e=>?_⟩
 dsimp only at e
 split at e
 · exact (Z4f o rd _ _ _ h c df).trans e
 · cases e
theorem ck_92:Z08 K Zbh.nt Zbh.code:=(ai tt (ai tt (ai (ai tt (ai rfl Zcd)) (ai tt tt))))
theorem fe_92:FE (H:=H) P bk K 92 (fun o vs h c=>match vs with | [t0]=>ZfG o t0 h c | _=>none):=by
 refine ⟨Zbh,bk_92,rfl,ck_92,fun o vs h c r e=>?_⟩
 dsimp only at e
 split at e
 · exact ⟨rfl,(ZcX o _ h c).trans e⟩
 · cases e
noncomputable def tbF:BT (Orc H->List Value->H->Nat->Option (Rt H)):=(.node 61 (fun o vs h c=>match vs with | [t0,t1]=>ZfT o t0 t1 h c | _=>none) (.node 40 (fun o vs h c=>match vs with | [t0]=>Zg0 o t0 h c | _=>none) (.node 16 (fun o vs h c=>match vs with | [t0,t1]=>Zl1 o t0 t1 h c | _=>none) (.node 13 (fun o vs h c=>match vs with | [t0]=>Zg4 o t0 h c | _=>none) (.node 11 (fun o vs h c=>match vs with | [t0]=>Zeo o t0 h c | _=>none) (.node 10 (fun o vs h c=>match vs with | []=>Zl4 o h c | _=>none) .leaf .leaf) .leaf) (.node 14 (fun o vs h c=>match vs with | [t0]=>Zl2 o t0 h c | _=>none) .leaf .leaf)) (.node 38 (fun o vs h c=>match vs with | [t0]=>Zg2 o t0 h c | _=>none) (.node 37 (fun o vs h c=>match vs with | []=>ZkX o h c | _=>none) (.node 27 (fun o vs h c=>match vs with | [t0,t1]=>Zg3 o t0 t1 h c | _=>none) .leaf .leaf) .leaf) (.node 39 (fun o vs h c=>match vs with | [t0]=>Zg1 o t0 h c | _=>none) .leaf .leaf))) (.node 45 (fun o vs h c=>match vs with | [t0]=>ZkU o t0 h c | _=>none) (.node 43 (fun o vs h c=>match vs with | []=>ZfX o h c | _=>none) (.node 42 (fun o vs h c=>match vs with | [t0]=>ZfY o t0 h c | _=>none) (.node 41 (fun o vs h c=>match vs with | [t0]=>ZfZ o t0 h c | _=>none) .leaf .leaf) .leaf) (.node 44 (fun o vs h c=>match vs with | [t0]=>ZkV o t0 h c | _=>none) .leaf .leaf)) (.node 56 (fun o vs h c=>match vs with | [t0]=>ZfV o t0 h c | _=>none) (.node 54 (fun o vs h c=>match vs with | []=>ZfW o h c | _=>none) .leaf .leaf) (.node 60 (fun o vs h c=>match vs with | [t0,t1,t2]=>ZfU o t0 t1 t2 h c | _=>none) .leaf .leaf)))) (.node 70 (fun o vs h c=>match vs with | [t0]=>ZfN o t0 h c | _=>none) (.node 66 (fun o vs h c=>match vs with | [t0]=>ZfP o t0 h c | _=>none) (.node 64 (fun o vs h c=>match vs with | [t0]=>ZfR o t0 h c | _=>none) (.node 63 (fun o vs h c=>match vs with | [t0]=>ZfS o t0 h c | _=>none) (.node 62 (fun o vs h c=>match vs with | [t0]=>ZkQ o t0 h c | _=>none) .leaf .leaf) .leaf) (.node 65 (fun o vs h c=>match vs with | [t0,t1]=>ZfQ o t0 t1 h c | _=>none) .leaf .leaf)) (.node 68 (fun o vs h c=>match vs with | [t0,t1]=>Ze1 o t0 t1 h c | _=>none) (.node 67 (fun o vs h c=>match vs with | [t0,t1,t2]=>Ze2 o t0 t1 t2 h c | _=>none) .leaf .leaf) (.node 69 (fun o vs h c=>match vs with | [t0]=>ZfO o t0 h c | _=>none) .leaf .leaf))) (.node 85 (fun o vs h c=>match vs with | [t0,t1]=>ZdT o t0 t1 h c | _=>none) (.node 83 (fun o vs h c=>match vs with | [t0]=>ZkH o t0 h c | _=>none) (.node 72 (fun o vs h c=>match vs with | [t0]=>ZfL o t0 h c | _=>none) (.node 71 (fun o vs h c=>match vs with | [t0]=>ZfM o t0 h c | _=>none) .leaf .leaf) .leaf) (.node 84 (fun o vs h c=>match vs with | [t0]=>ZkG o t0 h c | _=>none) .leaf .leaf)) (.node 91 (fun o vs h c=>match vs with | [t0]=>ZfI o t0 h c | _=>none) (.node 86 (fun o vs h c=>match vs with | [t0]=>ZfJ o t0 h c | _=>none) .leaf .leaf) (.node 92 (fun o vs h c=>match vs with | [t0]=>ZfG o t0 h c | _=>none) .leaf .leaf)))))
noncomputable def tbL:BT (Orc H->Option Nat->List Value->H->Nat->List Nat->Option (Rt H)):=(.node 60000 (fun o rd vs h c df=>match vs with | [t1,t2,t7,t22,t23]=>Z3O o rd t1 t2 t7 t22 t23 h c df | _=>none) (.node 40002 (fun o rd vs h c df=>match vs with | [t4,t5,t7,t8,t9,t35,t36,t37,t42,t43,t68]=>Z37 o rd t4 t5 t7 t8 t9 t35 t36 t37 t42 t43 t68 h c df | _=>none) (.node 39000 (fun o rd vs h c df=>match vs with | [t2,t3,t4,t5,t6,t8,t10,t12,t59,t60]=>Z3X o rd t2 t3 t4 t5 t6 t8 t10 t12 t59 t60 h c df | _=>none) (.node 14001 (fun o rd vs h c df=>match vs with | [t1,t2,t3,t4,t5]=>Z6w o rd t1 t2 t3 t4 t5 h c df | _=>none) (.node 14000 (fun o rd vs h c df=>match vs with | [t1,t2,t3,t4]=>Z6x o rd t1 t2 t3 t4 h c df | _=>none) (.node 13000 (fun o rd vs h c df=>match vs with | [t2,t3,t4,t12,t13]=>Z40 o rd t2 t3 t4 t12 t13 h c df | _=>none) .leaf .leaf) .leaf) (.node 27000 (fun o rd vs h c df=>match vs with | [t0,t1,t4,t7,t8]=>Z3Y o rd t0 t1 t4 t7 t8 h c df | _=>none) (.node 16000 (fun o rd vs h c df=>match vs with | [t0,t1,t4,t5]=>Z6v o rd t0 t1 t4 t5 h c df | _=>none) .leaf .leaf) .leaf)) (.node 40000 (fun o rd vs h c df=>match vs with | [t4,t35,t36,t37]=>Z3V o rd t4 t35 t36 t37 h c df | _=>none) (.node 39002 (fun o rd vs h c df=>match vs with | [t2,t3,t4,t6,t12,t155,t156]=>Z3W o rd t2 t3 t4 t6 t12 t155 t156 h c df | _=>none) (.node 39001 (fun o rd vs h c df=>match vs with | [t2,t3,t4,t5,t6,t8,t10,t12,t13,t59,t60,t105,t106]=>Z3c o rd t2 t3 t4 t5 t6 t8 t10 t12 t13 t59 t60 t105 t106 h c df | _=>none) .leaf .leaf) .leaf) (.node 40001 (fun o rd vs h c df=>match vs with | [t4,t5,t35,t36,t37,t42,t43]=>Z38 o rd t4 t5 t35 t36 t37 t42 t43 h c df | _=>none) .leaf .leaf))) (.node 42002 (fun o rd vs h c df=>match vs with | [t2,t3,t4,t39,t40,t41]=>Z3R o rd t2 t3 t4 t39 t40 t41 h c df | _=>none) (.node 42000 (fun o rd vs h c df=>match vs with | [t2,t3,t4,t18,t19,t20]=>Z3T o rd t2 t3 t4 t18 t19 t20 h c df | _=>none) (.node 41000 (fun o rd vs h c df=>match vs with | [t0,t4,t5,t15,t16]=>Z3U o rd t0 t4 t5 t15 t16 h c df | _=>none) (.node 40003 (fun o rd vs h c df=>match vs with | [t4,t5,t7,t8,t9,t10,t35,t36,t37,t42,t43,t68,t90]=>Z36 o rd t4 t5 t7 t8 t9 t10 t35 t36 t37 t42 t43 t68 t90 h c df | _=>none) .leaf .leaf) .leaf) (.node 42001 (fun o rd vs h c df=>match vs with | [t2,t3,t4,t18,t19,t20,t24,t25]=>Z3S o rd t2 t3 t4 t18 t19 t20 t24 t25 h c df | _=>none) .leaf .leaf)) (.node 45000 (fun o rd vs h c df=>match vs with | [t1,t2,t3,t4]=>Z6o o rd t1 t2 t3 t4 h c df | _=>none) (.node 44000 (fun o rd vs h c df=>match vs with | [t1,t2,t3,t4]=>Z6p o rd t1 t2 t3 t4 h c df | _=>none) (.node 42003 (fun o rd vs h c df=>match vs with | [t2,t4,t53,t54,t55]=>Z3Q o rd t2 t4 t53 t54 t55 h c df | _=>none) .leaf .leaf) .leaf) (.node 56000 (fun o rd vs h c df=>match vs with | [t2,t3,t6,t7]=>Z1B o rd t2 t3 t6 t7 h c df | _=>none) .leaf .leaf)))) (.node 68000 (fun o rd vs h c df=>match vs with | [t0,t1]=>Z4Z o rd t0 t1 h c df | _=>none) (.node 62002 (fun o rd vs h c df=>match vs with | [t2,t3,t4,t5,t7,t8,t9,t10,t11,t14]=>Z6l o rd t2 t3 t4 t5 t7 t8 t9 t10 t11 t14 h c df | _=>none) (.node 62000 (fun o rd vs h c df=>match vs with | [t2,t3,t4,t5,t7,t8,t9]=>Z6n o rd t2 t3 t4 t5 t7 t8 t9 h c df | _=>none) (.node 61000 (fun o rd vs h c df=>match vs with | [t0,t3,t4,t5,t17,t18]=>Z2R o rd t0 t3 t4 t5 t17 t18 h c df | _=>none) (.node 60001 (fun o rd vs h c df=>match vs with | [t1,t2,t7,t8,t22,t23,t26]=>Z3N o rd t1 t2 t7 t8 t22 t23 t26 h c df | _=>none) .leaf .leaf) .leaf) (.node 62001 (fun o rd vs h c df=>match vs with | [t2,t3,t4,t5,t7,t8,t9,t10,t11]=>Z6m o rd t2 t3 t4 t5 t7 t8 t9 t10 t11 h c df | _=>none) .leaf .leaf)) (.node 65001 (fun o rd vs h c df=>match vs with | [t0,t1,t4,t5,t6,t7,t9,t23,t24,t25,t29]=>Z1U o rd t0 t1 t4 t5 t6 t7 t9 t23 t24 t25 t29 h c df | _=>none) (.node 65000 (fun o rd vs h c df=>match vs with | [t0,t1,t4,t5,t6,t7,t23,t24,t25]=>Z3L o rd t0 t1 t4 t5 t6 t7 t23 t24 t25 h c df | _=>none) (.node 64000 (fun o rd vs h c df=>match vs with | [t2,t3,t6,t7]=>Z1V o rd t2 t3 t6 t7 h c df | _=>none) .leaf .leaf) .leaf) (.node 66000 (fun o rd vs h c df=>match vs with | [t2,t3,t10,t11]=>Z3K o rd t2 t3 t10 t11 h c df | _=>none) .leaf .leaf))) (.node 86000 (fun o rd vs h c df=>match vs with | [t0,t2,t3,t18,t19]=>Z1T o rd t0 t2 t3 t18 t19 h c df | _=>none) (.node 85000 (fun o rd vs h c df=>match vs with | [t0,t1,t8,t9]=>Z1A o rd t0 t1 t8 t9 h c df | _=>none) (.node 84000 (fun o rd vs h c df=>match vs with | [t0,t2,t3,t4,t5]=>Z6i o rd t0 t2 t3 t4 t5 h c df | _=>none) (.node 83000 (fun o rd vs h c df=>match vs with | [t0,t3,t4,t5]=>Z6j o rd t0 t3 t4 t5 h c df | _=>none) .leaf .leaf) .leaf) (.node 85001 (fun o rd vs h c df=>match vs with | [t0,t1,t3,t8,t9,t16,t17]=>Z1z o rd t0 t1 t3 t8 t9 t16 t17 h c df | _=>none) .leaf .leaf)) (.node 92000 (fun o rd vs h c df=>match vs with | [t1,t3,t6]=>Z3H o rd t1 t3 t6 h c df | _=>none) (.node 86002 (fun o rd vs h c df=>match vs with | [t0,t2,t3,t5,t6,t7,t18,t19,t50,t51]=>Z1y o rd t0 t2 t3 t5 t6 t7 t18 t19 t50 t51 h c df | _=>none) (.node 86001 (fun o rd vs h c df=>match vs with | [t0,t2,t3,t5,t6,t18,t19]=>Z2D o rd t0 t2 t3 t5 t6 t18 t19 h c df | _=>none) .leaf .leaf) .leaf) (.node 92001 (fun o rd vs h c df=>match vs with | [t1,t3,t4,t6,t9,t10]=>Z3G o rd t1 t3 t4 t6 t9 t10 h c df | _=>none) .leaf .leaf)))))
noncomputable def tbR:List (Nat × List Nat × (Orc H->Nat->List Value->H->Nat->Option (Rt H))):=[(71,[13,14],(fun o l vs h c=>match vs with | [t13,t14,t1,t2,t3]=>Z3d o l t13 t14 t1 t2 t3 h c | _=>none))]
noncomputable def tab:Tab H:={ F:=fun f=>tbF.look f,L:=fun j=>tbL.look j,R:=fun nt ps=>Zfk nt ps tbR }
theorem tab_ok:TabOK (H:=H) P bk K tab:=⟨fun f F e=>BT.look_all (Q:=FE P bk K) (t:=tbF) (ai fe_61 (ai (ai fe_40 (ai (ai fe_16 (ai (ai fe_13 (ai (ai fe_11 (ai (ai fe_10 (ai tt tt)) tt)) (ai fe_14 (ai tt tt)))) (ai fe_38 (ai (ai fe_37 (ai (ai fe_27 (ai tt tt)) tt)) (ai fe_39 (ai tt tt)))))) (ai fe_45 (ai (ai fe_43 (ai (ai fe_42 (ai (ai fe_41 (ai tt tt)) tt)) (ai fe_44 (ai tt tt)))) (ai fe_56 (ai (ai fe_54 (ai tt tt)) (ai fe_60 (ai tt tt)))))))) (ai fe_70 (ai (ai fe_66 (ai (ai fe_64 (ai (ai fe_63 (ai (ai fe_62 (ai tt tt)) tt)) (ai fe_65 (ai tt tt)))) (ai fe_68 (ai (ai fe_67 (ai tt tt)) (ai fe_69 (ai tt tt)))))) (ai fe_85 (ai (ai fe_83 (ai (ai fe_72 (ai (ai fe_71 (ai tt tt)) tt)) (ai fe_84 (ai tt tt)))) (ai fe_91 (ai (ai fe_86 (ai tt tt)) (ai fe_92 (ai tt tt)))))))))) e,
 fun j B lin b nt e hk=>BT.look_all (Q:=LE P K) (t:=tbL) (ai Zhq (ai (ai ZhA (ai (ai ZhF (ai (ai ZhI (ai (ai ZhJ (ai (ai ZhK (ai tt tt)) tt)) (ai ZhG (ai (ai ZhH (ai tt tt)) tt)))) (ai ZhC (ai (ai ZhD (ai (ai ZhE (ai tt tt)) tt)) (ai ZhB (ai tt tt)))))) (ai Zhv (ai (ai Zhx (ai (ai Zhy (ai (ai Zhz (ai tt tt)) tt)) (ai Zhw (ai tt tt)))) (ai Zhs (ai (ai Zht (ai (ai Zhu (ai tt tt)) tt)) (ai Zhr (ai tt tt)))))))) (ai Zhg (ai (ai Zhl (ai (ai Zhn (ai (ai Zho (ai (ai Zhp (ai tt tt)) tt)) (ai Zhm (ai tt tt)))) (ai Zhi (ai (ai Zhj (ai (ai Zhk (ai tt tt)) tt)) (ai Zhh (ai tt tt)))))) (ai Zhb (ai (ai Zhd (ai (ai Zhe (ai (ai Zhf (ai tt tt)) tt)) (ai Zhc (ai tt tt)))) (ai Zh8 (ai (ai Zh9 (ai (ai Zha (ai tt tt)) tt)) (ai Zh7 (ai tt tt)))))))))) e lin b nt hk,
 fun nt ps D lin a b e hk=>Zap (Q:=RE P K) (l:=tbR) (ai ZgR tt) e lin a b hk⟩
theorem ev_run {n:Nat} {k:Key} {vs:List Value} {h:H} {c:Nat} {df:List Nat} {r:Rt H} (hk:KeyOK K k) (hi:Z5z K h) (e:evT tab n k vs h c df=some r):run P bk k vs h c df=some r:=(Zdp tab_ok n k vs h c df r hk hi e).1
end Go.Proofs.Ytdodippbpdechaa

namespace Go.Ab
open Go
structure Hid (q:Prop):Prop where
 h:q
theorem Ans.go {β:Type} {x:Option β} {Q:β->Prop} {q:Prop} (k:q) (h:Hid q->Ans x Q:=by
 intro kk
 repeat' (first | ((with_reducible first | refine Ans.bz ?_ | refine Ans.r1 ?_ | refine Ans.pkT ?_ | refine Ans.pkF ?_); try dsimp only [v_zero,v_succ]) | (with_reducible first | refine Ans.btL ?_ | refine Ans.bfL ?_ | refine Ans.gyT ?_ | refine Ans.gyF ?_ | refine Ans.gyG ?_ | refine Ans.bb ?_ | refine Ans.bc ?_ | refine Ans.ba ?_) | ((with_reducible first | refine Ans.lsT ?_ ?_ | refine Ans.leT ?_ ?_ | refine Ans.grT ?_ ?_ | refine Ans.geT ?_ ?_ | refine Ans.eqT ?_ ?_ | refine Ans.neT ?_ ?_); (focus omega)) | ((with_reducible first | refine Ans.lsF ?_ ?_ | refine Ans.leF ?_ ?_ | refine Ans.grF ?_ ?_ | refine Ans.geF ?_ ?_ | refine Ans.eqF ?_ ?_ | refine Ans.neF ?_ ?_); (focus omega)) | (with_reducible first | refine Ans.lsS (fun _=>?_) (fun _=>?_) | refine Ans.leS (fun _=>?_) (fun _=>?_) | refine Ans.grS (fun _=>?_) (fun _=>?_) | refine Ans.geS (fun _=>?_) (fun _=>?_) | refine Ans.eqS (fun _=>?_) (fun _=>?_) | refine Ans.neS (fun _=>?_) (fun _=>?_)) | ((with_reducible first | refine Ans.addN ?_ ?_ | refine Ans.add ?_ ?_ | refine Ans.sub ?_ ?_ | refine Ans.mul ?_ ?_); (focus omega)) | ((with_reducible first | refine Ans.ct ?_ ?_); (focus (simp (disch:=(first | omega | with_reducible assumption | (simp <;> omega) | fail)) [fx]; done))) | ((with_reducible first | refine Ans.cf ?_ ?_); (focus (simp (disch:=(first | omega | with_reducible assumption | (simp <;> omega) | fail)) [fx]; done))) | (refine Ans.step (by simp (disch:=(first | omega | with_reducible assumption | (simp <;> omega) | fail)) [fx,-List.getD_eq_getElem?_getD] <;> rfl) ?_; try dsimp only [v_zero,v_succ]) | fail)
 exact kk.h):Ans x Q:=h ⟨k⟩
theorem Ans.nx0 {o:Orc FH} {k:Key} {Q:Rt FH->Prop} {A h:FH} {c c':Nat} {vs:List Value} {df:List Nat} (e:Ans (o k vs A c df) Q) (h1:Z1i c vs:=by (simp (disch:=(first | omega | with_reducible assumption | (simp <;> omega) | fail)) [fx]; done)) (h2:Z0l c A h:=by (simp (disch:=(first | omega | with_reducible assumption | (simp <;> omega) | fail)) [fx]; done)) :
 Ans (some { e:=.normal,vs:=vs,h:=h,c:=c',df:=df }) (fun q=>Lk o k Q (gcR A c df q)):=Ans.next0 h1 h2 e
theorem Ans.ex0 {o:Orc FH} {k:Key} {Q:Rt FH->Prop} {A h:FH} {c c':Nat} {vs:List Value} {df:List Nat} {i:Nat} (e:Q { e:=.exit i,vs:=vs,h:=A,c:=c,df:=df }) (h1:Z1i c vs:=by (simp (disch:=(first | omega | with_reducible assumption | (simp <;> omega) | fail)) [fx]; done)) (h2:Z0l c A h:=by (simp (disch:=(first | omega | with_reducible assumption | (simp <;> omega) | fail)) [fx]; done)) :
 Ans (some { e:=.exit i,vs:=vs,h:=h,c:=c',df:=df }) (fun q=>Lk o k Q (gcR A c df q)):=Ans.exit0 h1 h2 e
theorem Ans.rt0 {o:Orc FH} {k:Key} {Q:Rt FH->Prop} {A h:FH} {c c':Nat} {vs:List Value} {df:List Nat} (e:Q { e:=.ret,vs:=vs,h:=A,c:=c,df:=df }) (h1:Z1i c vs:=by (simp (disch:=(first | omega | with_reducible assumption | (simp <;> omega) | fail)) [fx]; done)) (h2:Z0l c A h:=by (simp (disch:=(first | omega | with_reducible assumption | (simp <;> omega) | fail)) [fx]; done)) :
 Ans (some { e:=.ret,vs:=vs,h:=h,c:=c',df:=df }) (fun q=>Lk o k Q (gcR A c df q)):=Ans.ret0 h1 h2 e
theorem Ans.nxB {o:Orc FH} {k:Key} {Q:Rt FH->Prop} {A B h:FH} {c c':Nat} {vs:List Value} {df:List Nat} (h3:Z2k c A B) (e:Ans (o k vs B c df) Q) (h1:Z1i c vs:=by (simp (disch:=(first | omega | with_reducible assumption | (simp <;> omega) | fail)) [fx]; done)) (h2:Z0l c B h:=by (simp (disch:=(first | omega | with_reducible assumption | (simp <;> omega) | fail)) [fx]; done)) :
 Ans (some { e:=.normal,vs:=vs,h:=h,c:=c',df:=df }) (fun q=>Lk o k Q (gcR A c df q)):=Ans.nextB e h1 h2 h3
theorem Ans.pu {h h':FH} {c c':Nat} {v w:Value} (hv:w=v:=by first | rfl | (simp (disch:=(first | omega | with_reducible assumption | (simp <;> omega) | fail)) [fx]; done)) (hs:Z0l c h h':=by first | with_reducible assumption | (simp (disch:=(first | omega | with_reducible assumption | (simp <;> omega) | fail)) [fx]; done)) :
 Ans (some { e:=.ret,vs:=[w],h:=h',c:=c',df:=[] }) (Zlp h c v):=Ans.pure hv hs
end Go.Ab

namespace Go.Ab
open Go
def p24:List (List Int):=[[0,1,2,3],[0,1,3,2],[0,2,1,3],[0,2,3,1],[0,3,1,2],[0,3,2,1],[1,0,2,3],[1,0,3,2],[1,2,0,3],[1,2,3,0],[1,3,0,2],[1,3,2,0],[2,0,1,3],[2,0,3,1],[2,1,0,3],[2,1,3,0],[2,3,0,1],[2,3,1,0],[3,0,1,2],[3,0,2,1],[3,1,0,2],[3,1,2,0],[3,2,0,1],[3,2,1,0]]
theorem ZdN {p:List Int} (hp:p.length=4) (h:Z1E p=true):p ∈ p24:=by
 have hr:=Z6E h
 match p,hp with
 | [a,b,c,d],_ =>
  have ha:=hr a (by simp)
  have hb:=hr b (by simp)
  have hc:=hr c (by simp)
  have hd:=hr d (by simp)
  have:=all256 (Q:=fun a b c d=>!Z1E [(a:Int),(b:Int),(c:Int),(d:Int)] || p24.contains [(a:Int),(b:Int),(c:Int),(d:Int)]) (by kernel_rfl)
   (a:=a.toNat) (b:=b.toNat) (c:=c.toNat) (d:=d.toNat) qO qO qO qO
  have ea:((a.toNat:Nat):Int)=a:=by omega
  have eb:((b.toNat:Nat):Int)=b:=by omega
  have ec:((c.toNat:Nat):Int)=c:=by omega
  have ed:((d.toNat:Nat):Int)=d:=by omega
  rw [ea,eb,ec,ed,h] at this
  simpa using this
theorem ZaB {Q:List Int->Bool} (h:p24.all Q=true) {p:List Int} (hp:p ∈ p24):Q p=true:=List.all_eq_true.1 h p hp
theorem all24' {Q:List Int->List Int->Bool} (h:(p24.all fun p=>p24.all fun q=>Q p q)=true) {p q:List Int} (hp:p ∈ p24) (hq:q ∈ p24):Q p q=true:=List.all_eq_true.1 (List.all_eq_true.1 h p hp) q hq
theorem ZaO {p:List Int} (hp:p ∈ p24):Z1E p=true:=ZaB (Q:=Z1E) (by kernel_rfl) hp
theorem Z5I {p:List Int} (hp:p ∈ p24):p.length=4:=by simpa using ZaB (Q:=fun p=>p.length == 4) (by kernel_rfl) hp
theorem inv24 {p:List Int} (hp:p ∈ p24):inv p ∈ p24:=by simpa using ZaB (Q:=fun p=>p24.contains (inv p)) (by kernel_rfl) hp
theorem Z6U {p q:List Int} (hp:p ∈ p24) (hq:q ∈ p24):Z2i p q ∈ p24:=by simpa using all24' (Q:=fun p q=>p24.contains (Z2i p q)) (by kernel_rfl) hp hq
theorem Ziu {p:List Int} (hp:p ∈ p24):Z2i (inv p) p=[0,1,2,3]:=by simpa using ZaB (Q:=fun p=>Z2i (inv p) p == [0,1,2,3]) (by kernel_rfl) hp
theorem Zlh {p:List Int} (hp:p ∈ p24):Z2i p [0,1,2,3]=p:=by simpa using ZaB (Q:=fun p=>Z2i p [0,1,2,3] == p) (by kernel_rfl) hp
theorem Zkt {p:List Int} (hp:p ∈ p24):Z2i [0,1,2,3] p=p:=by simpa using ZaB (Q:=fun p=>Z2i [0,1,2,3] p == p) (by kernel_rfl) hp
theorem Z49 {p:List Int} (hp:p ∈ p24) {i:Nat} (hi:i<4):0<=p.getD i 0/\p.getD i 0<4:=by
 have:=ZaB (Q:=fun p=>(List.range 4).all fun i=>decide (0<=p.getD i 0) && decide (p.getD i 0<4)) (by kernel_rfl) hp
 rw [List.all_eq_true] at this
 simpa using this i (by simpa using hi)
theorem Z6y {p q:List Int} (hq:q.length=4) {i:Nat} (hi:i<4):(Z2i p q).getD i 0=p.getD (q.getD i 0).toNat 0:=by
 simp only [Z2i,List.getD_eq_getElem?_getD,List.getElem?_map]
 rw [List.getElem?_eq_getElem (by omega:i<q.length)]
 simp
theorem Z0U (p q:List Int):(Z2i p q).length=q.length:=by simp [Z2i]
theorem Z6z {p q r:List Int} (hq:q ∈ p24) (hr:r ∈ p24):Z2i (Z2i p q) r=Z2i p (Z2i q r):=by
 have hl:=Z5I hr
 apply List.ext_getElem?
 intro i
 by_cases hi:i<4
 · have e1:=Z6y (p:=Z2i p q) hl hi
   have e2:=Z6y (p:=p) (q:=Z2i q r) (by rw [Z0U,hl]) hi
   have e3:=Z6y (p:=q) hl hi
   have hg:=Z49 hr hi
   have e4:=Z6y (p:=p) (q:=q) (Z5I hq) (i:=(r.getD i 0).toNat) qO
   have:(Z2i (Z2i p q) r).getD i 0=(Z2i p (Z2i q r)).getD i 0:=by rw [e1,e4,e2,e3]
   rw [List.getElem?_eq_getElem (by rw [Z0U]; omega),List.getElem?_eq_getElem (by rw [Z0U,Z0U]; omega)]
   simp only [List.getD_eq_getElem?_getD] at this
   rw [List.getElem?_eq_getElem (by rw [Z0U]; omega),List.getElem?_eq_getElem (by rw [Z0U,Z0U]; omega)] at this
   simpa using this
 · rw [List.getElem?_eq_none (by rw [Z0U]; omega),List.getElem?_eq_none (by rw [Z0U,Z0U]; omega)]
theorem Z3v {Gl:List Int} {n t f:Nat} (h:Z0B Gl n t f=true) (ht:¬ Z18 (Z05 Gl t f)<0) :
 Z18 (Z05 Gl t f)<n/\Z1E (Z0r (Z05 Gl t f))=true /\ ¬ (Z18 (Z05 Gl t f)=t/\(Z0r (Z05 Gl t f)).getD f 0=f) ∧
  Z05 Gl (Z18 (Z05 Gl t f)).toNat ((Z0r (Z05 Gl t f)).getD f 0).toNat=(t:Int)::inv (Z0r (Z05 Gl t f)):=by
 unfold Z0B at h
 have h0:Z05 Gl t f ≠ Z6X:=fun e=>ht (by rw [e]; decide)
 simp only [h0,decide_false,Bool.false_or,Bool.and_eq_true,decide_eq_true_eq,Bool.not_eq_true'] at h
 obtain ⟨⟨⟨⟨h1,h2⟩,h3⟩,h4⟩,h5⟩:=h
 refine ⟨h2,h3,fun ⟨a,b⟩=>?_,h5⟩
 rw [decide_eq_true a,decide_eq_true b] at h4
 cases h4
theorem Z4X {Gl:List Int} {n t f:Nat} (h:Z0F Gl n=true) (ht:t<n) (hf:f<4):Z0B Gl n t f=true:=by
 have:=(Z7E Gl n).1 h (4*t+f) qO
 have e1:(4*t+f) / 4=t:=by omega
 have e2:(4*t+f) % 4=f:=by omega
 rwa [e1,e2] at this
def ZbU (c0:Nat) (h:FH) (c:Nat) (v:Value) (sz n:Nat) (L:List Int):Prop :=
 L.length=n*sz/\n<=9223372036854775807/\((v = .slice none 0 0/\n=0) ∨
  ∃ i,v = .slice (some ⟨i,0,none⟩) n n/\256*c0<=i/\i<256*c/\h.f i=some (.cells false (some sz) (ints L)))
theorem ZbU.nil (c0:Nat) (h:FH) (c sz:Nat):ZbU c0 h c (.slice none 0 0) sz 0 []:=⟨by simp,by omega,.inl ⟨rfl,rfl⟩⟩
theorem ZbU.flat {c0:Nat} {h:FH} {c:Nat} {v:Value} {sz n:Nat} {L:List Int} (ha:ZbU c0 h c v sz n L):Z06 v=true/\v.cells = #[v]:=by
 obtain ⟨_,_,⟨rfl,_⟩ | ⟨i,rfl,_⟩⟩:=ha <;> exact ⟨rfl,rfl⟩
theorem ZbU.sl {c0:Nat} {h:FH} {c:Nat} {v:Value} {sz n:Nat} {L:List Int} (ha:ZbU c0 h c v sz n L):SlI h c v sz n L:=by
 obtain ⟨h1,h2,⟨rfl,rfl⟩ | ⟨i,rfl,h3,h4,h5⟩⟩:=ha
 · exact ⟨h1,h2,none,0,rfl,.inl ⟨rfl,OkV.sl0 _ _ _⟩⟩
 · refine ⟨h1,h2,some ⟨i,0,none⟩,n,rfl,.inr ⟨i,0,ints L,rfl,h4,⟨false,some sz,h5⟩, ?_⟩⟩
   rw [List.drop_zero,List.take_of_length_le (by simp [h1])]
theorem ZbU.mono {c0:Nat} {h:FH} {c c':Nat} {v:Value} {sz n:Nat} {L:List Int} (hc:c<=c') (ha:ZbU c0 h c v sz n L):ZbU c0 h c' v sz n L:=by
 obtain ⟨h1,h2,h3 | ⟨i,rfl,h3,h4,h5⟩⟩:=ha
 · exact ⟨h1,h2,.inl h3⟩
 · exact ⟨h1,h2,.inr ⟨i,rfl,h3,by omega,h5⟩⟩
theorem ZbU.keep {c0:Nat} {h h':FH} {c:Nat} {v:Value} {sz n:Nat} {L:List Int} (hh:∀ i,256*c0<=i->i<256*c->h'.f i=h.f i) (ha:ZbU c0 h c v sz n L):ZbU c0 h' c v sz n L:=by
 obtain ⟨h1,h2,h3 | ⟨i,rfl,h3,h4,h5⟩⟩:=ha
 · exact ⟨h1,h2,.inl h3⟩
 · exact ⟨h1,h2,.inr ⟨i,rfl,h3,h4,by rw [hh i h3 h4,h5]⟩⟩
theorem ZbU.app {c0:Nat} {h:FH} {c c':Nat} {v:Value} {sz n:Nat} {L:List Int} (ha:ZbU c0 h c v sz n L) (X:List Int) (hX:X.length=sz) (hsz:0<sz) (by' b id:Nat) (hb:256*c<=b) (hid:256*c<=id) (hne:b ≠ id) (hc0:c0<=c)
 (hid':id<256*c') (hlim:(n+1)*(by'+1)<=17592186044416) :
 ∃ v' h',Z5l (newB h b (ints X)) id sz by' v (.slice (some ⟨b,0,none⟩) 1 1)=some (v',h')/\ZbU c0 h' c' v' sz (n+1) (L++X)/\Z0l c0 h h'/\v' = .slice (some ⟨id,0,none⟩) (n+1) (n+1):=by
 obtain ⟨h1,h2,h3⟩:=ha
 have hlim':Nat.ble ((n+1)*(by'+1)) 17592186044416=true:=Nat.ble_eq_true_of_le hlim
 have hsrc:Z0x (newB h b (ints X)) sz (.slice (some ⟨b,0,none⟩) 1 1)=some (ints X,1):=by
  have:Nat.ble (0+1*sz) (ints X).length=true:=Nat.ble_eq_true_of_le (by simp [hX])
  simp only [Z0x,Z0I,Z0j,get_newB_same,Option.bind_some,this,cond_true,List.drop_zero]
  rw [List.take_of_length_le (by simp [hX])]
 have hn1:n+1<=17592186044416:=by
  have:(n+1)*1<=(n+1)*(by'+1):=Nat.mul_le_mul_left _ qO
  omega
 have hcap:Nat.ble (n+1) n=false:=by rw [Bool.eq_false_iff]; intro hh; have:=Nat.le_of_ble_eq_true hh; omega
 rcases h3 with ⟨rfl,rfl⟩ | ⟨i,rfl,h3,h4,h5⟩
 · have hL:L=[]:=List.eq_nil_of_length_eq_zero (by simpa using h1)
   subst hL
   refine ⟨_,HeapC.set (newB h b (ints X)) id (.cells false (some sz) (ints X)), ?_,⟨by simp [hX],by omega,.inr ⟨id,rfl,by omega,hid', ?_⟩⟩, ?_,rfl⟩
   · simp only [Z5l,hsrc,Option.bind_some,appTo,hcap,cond_false,Z1M,hlim',Z0J,Bool.and_self,cond_true,Nat.beq_refl,Nat.zero_add]
   · rw [Z0c,if_pos rfl]; rfl
   · intro j hj
     rw [Z0c,if_neg qO,Z01,if_neg qO]
 · have hbi:i ≠ b:=by omega
   have hg:HeapC.get (newB h b (ints X)) i=some (.cells false (some sz) (ints L)):=by rw [get_newB_ne _ _ _ _ hbi]; exact h5
   have hr:Nat.ble (0+n*sz) (ints L).length=true:=Nat.ble_eq_true_of_le (by simp [h1])
   refine ⟨_,HeapC.set (HeapC.set (newB h b (ints X)) i .dead) id (.cells false (some sz) (((ints L).drop 0).take (n*sz)++ints X)), ?_,⟨?_,by omega,.inr ⟨id,rfl,by omega,hid', ?_⟩⟩, ?_,rfl⟩
   · simp only [Z5l,hsrc,Option.bind_some,appTo,hcap,cond_false,Z1M,hlim',Z0J,Bool.and_self,cond_true,Z0I,Z0j,hg,hr,Nat.beq_refl,Bool.not_false,Bool.and_true]
   · simp [h1,hX,Nat.succ_mul]
   · rw [Z0c,if_pos rfl,List.drop_zero,List.take_of_length_le (by simp [h1]),Z1S]
   · intro j hj
     rw [Z0c,if_neg qO,Z0c,if_neg qO,Z01,if_neg qO]
def rowTo (F:Nat->List Int):Nat->List Int
 | 0=>[]
 | f+1=>rowTo F f++F f
end Go.Ab

namespace Go.Ab
open Go
def ordF (Ord Pm:List Int) (n:Nat):Nat->Nat->List Bool->Bool
 | 0,_,_=>true
 | k+1,i,met=>if Ord.getD i 0<0 ∨ (n:Int)<=Ord.getD i 0 then false else if met.getD (Ord.getD i 0).toNat false=true then false else
  if Z1E (Z3u Pm i)=false then false else ordF Ord Pm n k (i+1) (met.set (Ord.getD i 0).toNat true)
def Zls (Ord Pm:List Int) (a b n:Nat):Bool:=decide (a=n) && decide (b=n) && ordF Ord Pm n n 0 (List.replicate n false)
theorem Z8w {Ord Pm:List Int} {n:Nat}:∀ {k i:Nat} {met:List Bool},ordF Ord Pm n k i met=true -> ∀ j,i<=j->j<i+k->0<=Ord.getD j 0/\Ord.getD j 0<n/\Z1E (Z3u Pm j)=true
 | 0,i,met,h,j,h1,h2=>by omega
 | k+1,i,met,h,j,h1,h2=>by
  unfold ordF at h
  split at h
  · cases h
  split at h
  · cases h
  split at h
  · cases h
  rename_i q1 q2 q3
  by_cases hj:j=i
  · subst hj
    exact ⟨by omega,by omega,by simpa using q3⟩
  · exact Z8w h j qO qO
def backL (Ord:List Int):Nat->Nat->List Int->List Int
 | 0,_,l=>l
 | k+1,i,l=>backL Ord k (i+1) (l.set (Ord.getD i 0).toNat i)
def back (Ord:List Int) (n:Nat):List Int:=backL Ord n 0 (List.replicate n 0)
def rnF (Gl Ord Pm Bk:List Int) (i f:Nat):List Int :=
 if Z18 (Z05 Gl (Ord.getD i 0).toNat ((Z3u Pm i).getD f 0).toNat)<0 then Z6X else
  Bk.getD (Z18 (Z05 Gl (Ord.getD i 0).toNat ((Z3u Pm i).getD f 0).toNat)).toNat 0 ::
   Z2i (inv (Z3u Pm (Bk.getD (Z18 (Z05 Gl (Ord.getD i 0).toNat ((Z3u Pm i).getD f 0).toNat)).toNat 0).toNat))
    (Z2i (Z0r (Z05 Gl (Ord.getD i 0).toNat ((Z3u Pm i).getD f 0).toNat)) (Z3u Pm i))
def rnL (Gl Ord Pm Bk:List Int):Nat->List Int
 | 0=>[]
 | i+1=>rnL Gl Ord Pm Bk i++rowTo (rnF Gl Ord Pm Bk i) 4
structure RnOk (Gl Ord Pm:List Int) (n:Nat):Prop where
 gl:Gl.length=n*20
 ol:Ord.length=n
 pl:Pm.length=n*4
 ok:Z0F Gl n=true
 rng:∀ j,j<n->0<=Ord.getD j 0/\Ord.getD j 0<n/\Z1E (Z3u Pm j)=true
theorem RnOk.p24 {Gl Ord Pm:List Int} {n:Nat} (h:RnOk Gl Ord Pm n) {j:Nat} (hj:j<n):Z3u Pm j ∈ Ab.p24:=ZdN (Z9t h.pl hj) (h.rng j hj).2.2
def Z8q (n m:Nat) (Gl Hl:List Int):Bool:=decide (n=m) && decide (Gl=Hl)
def rnE (Gl Ord Pm:List Int) (n a b:Nat):Int:=if n<=1000/\Z0F Gl n=true then (if Zls Ord Pm a b n=true then 0 else 1) else 7
def rnN (Gl Ord Pm:List Int) (n a b:Nat):Nat:=if n<=1000/\Z0F Gl n=true/\Zls Ord Pm a b n=true then n else 0
def rnR (Gl Ord Pm:List Int) (n a b:Nat):List Int:=if n<=1000/\Z0F Gl n=true/\Zls Ord Pm a b n=true then rnL Gl Ord Pm (back Ord n) n else []
theorem ZgT {Ord Pm:List Int} {a b n:Nat}:Zls Ord Pm a b n=true ↔ a=n/\b=n/\ordF Ord Pm n n 0 (List.replicate n false)=true:=by
 simp [Zls,and_assoc]
theorem RnOk.of {Gl Ord Pm:List Int} {n a b:Nat} (hG:Gl.length=n*20) (hO:Ord.length=a) (hP:Pm.length=b*4) (h2:Z0F Gl n=true) (h3:Zls Ord Pm a b n=true):RnOk Gl Ord Pm n:=by
 obtain ⟨rfl,rfl,h4⟩:=ZgT.1 h3
 exact ⟨hG,hO,hP,h2,fun j hj=>Z8w h4 j qO qO⟩
@[simp] theorem st1_agg (h:FH) (i o:Nat) (cs:List Value) (v:Value) (ho:o<cs.length) (hv:Z06 v=true):stN (newB h i cs) 1 (.pointer (some ⟨i,o,none⟩)) (.agg #[v])=some (newB h i (cs.set o v)):=by
 rw [Z0i h 1 i o cs (.agg #[v]) rfl qO (by simp [Value.cells,hv])]
 show some (newB h i (Z0M cs o [v]))=_
 rw [Z3D cs o _ ho]
@[simp] theorem st1_sl (h:FH) (i o:Nat) (cs:List Value) (a:Option Addr) (n k:Nat) (ho:o<cs.length):stN (newB h i cs) 1 (.pointer (some ⟨i,o,none⟩)) (.slice a n k)=some (newB h i (cs.set o (.slice a n k))):=by
 rw [Z0i h 1 i o cs (.slice a n k) rfl qO rfl]
 show some (newB h i (Z0M cs o [.slice a n k]))=_
 rw [Z3D cs o _ ho]
theorem Z0y {h:FH} {b:Nat} {cs:List Value} {v:Value} (hg:Z0d h b (v::cs)):ldN h 1 (.pointer (some ⟨b,0,none⟩))=some (.agg #[v]):=by
 rw [ldN_holds hg (by simp)]; simp
def ZjL (h:FH) (c:Nat) (Gl Ord Pm:List Int) (n a b:Nat) (r:Rt FH):Prop :=
 r.e = .ret/\r.df=[]/\c<=r.c/\Z0l c h r.h /\ ∃ v,r.vs=[.tuple #[.agg #[v],.int .i64 (rnE Gl Ord Pm n a b)]]/\SlI r.h r.c v 20 (rnN Gl Ord Pm n a b) (rnR Gl Ord Pm n a b)/\(0<rnN Gl Ord Pm n a b->256*c<=Z0s v)
theorem ZjL.callF {o:Orc FH} {g:FuncId} {args:List Value} {h:FH} {c:Nat} {Gl Ord Pm:List Int} {n a b:Nat} (e:Ans (o (.fn g) args h c []) (ZjL h c Gl Ord Pm n a b)) :
 ∃ v h' c',callF o g args h c=some (.tuple #[.agg #[v],.int .i64 (rnE Gl Ord Pm n a b)],h',c')/\c<=c'/\Z0l c h h'/\SlI h' c' v 20 (rnN Gl Ord Pm n a b) (rnR Gl Ord Pm n a b)/\(0<rnN Gl Ord Pm n a b->256*c<=Z0s v):=by
 obtain ⟨r,e1,r1,r2,r3,r4,v,r5,r6,r7⟩:=e
 refine ⟨v,r.h,r.c, ?_,r3,r4,r6,r7⟩
 simp only [Ab.callF,e1,Option.bind_some,r5]
end Go.Ab
