/- Parts of a proof: D10 T10 T11 AbRow2 AbRow3 AbApp2 AbRow4 RowK. Conditions: none. -/
import Derived.Test.YtemkjcpfgmbibaaM19
import Derived.Test.YtemkjcpfgmbibaaM20
import Derived.Test.YtemkjcpfgmbibaaM18
import Derived.Test.YtemkjcpfgmbibaaM16
import Derived.Test.YtemkjcpfgmbibaaM8
import Derived.Test.YtemkjcpfgmbibaaRows
import Derived.ProofKit
set_option linter.all false
set_option maxRecDepth 100000
namespace Go.Proofs.Ytemkjcpfgmbibaa
open Go Go.Ab Go.Proofs
theorem flat2 {a b:Value} (ha:Z08 a=true) (hb:Z08 b=true):((Value.agg #[a,b]).cells.toList.all Z08)=true:=by simp [Value.cells,ha,hb]
theorem ZmU {a:Value} (ha:Z08 a=true):((Value.agg #[a]).cells.toList.all Z08)=true:=by simp [Value.cells,ha]
set_option maxHeartbeats 1000000 in
theorem Z8w (s1 s2 so sp:Value) (n m a b:Nat) (Gl Hl Ord Pm:List Int) (h:FH) (c:Nat) (df:List Nat) (h1:SlI h c s1 20 n Gl) (h2:SlI h c s2 20 m Hl) (ho:SlI h c so 1 a Ord) (hp:SlI h c sp 4 b Pm) :
 G (.fn 14) [.agg #[s1],.agg #[s2],.agg #[so,sp]] h c df=some ⟨.ret,[.int .i64 (isoE Gl Hl Ord Pm n m a b)],h,c,[]⟩:=by
 refine Z1l (fun r e=>f14_go e) (by simp) ?_
 have hc1:(Value.agg #[s1]).cells.toList=[s1]:=rfl
 have hc2:(Value.agg #[s2]).cells.toList=[s2]:=rfl
 have hc3:(Value.agg #[so,sp]).cells.toList=[so,sp]:=rfl
 unfold Zi2
 rw [ZmU h1.flat,ZmU h2.flat,flat2 ho.flat hp.flat,hc1,hc2,hc3]
 simp only [cond_true]
 obtain ⟨H,hH⟩:∃ H,H=newB (newB (newB h (256*c) [s1]) (256*c+1) [s2]) (256*c+2) [so,sp]:=⟨_,rfl⟩
 have sH:Z0q c h H:=by rw [hH]; simp (disch:=omega)
 have g1:Z0a H (256*c) [s1]:=by rw [hH]; exact Z0a.newB_ne qO (Z0a.newB_ne qO (Z0a.newB_same _ _ _))
 have g2:Z0a H (256*c+1) [s2]:=by rw [hH]; exact Z0a.newB_ne qO (Z0a.newB_same _ _ _)
 have g3:Z0a H (256*c+2) [so,sp]:=by rw [hH]; exact Z0a.newB_same _ _ _
 rw [Nat.add_zero,← hH]
 clear hH
 obtain ⟨M,hM⟩:∃ M,M=newB H (256*(c+1)+2) [s1,s2]:=⟨_,rfl⟩
 have sM:Z0q (c+1) H M:=by rw [hM]; simp (disch:=omega)
 have scM:Z0q c h M:=sH.trans (sM.mono qO)
 have gM:Z0a M (256*(c+1)+2) [s1,s2]:=by rw [hM]; exact Z0a.newB_same _ _ _
 have l1:=Z0C g1
 have l2:=Z0C g2
 have hbl:Z5d [(.slice none 0 0),(.slice none 0 0)] [(0,1,.agg #[s1]),(1,1,.agg #[s2])]=some [s1,s2]:=rfl
 have q1:=Z0C (g1.same qO sM)
 have q2:=Z0C (g2.same qO sM)
 have q3:ld1 M (.pointer (some ⟨256*c+2,0,none⟩))=some so:=by rw [Z03 (g3.same qO sM)]; rfl
 have q4:ld1 M (.pointer (some ⟨256*c+2,1,none⟩))=some sp:=by rw [Z03 (g3.same qO sM)]; rfl
 have ck:=Zgu [s1,s2] (256*(c+1)+2) (fun i=>if i=0 then (if n<=1000/\Z0Y Gl n=true then 0 else 7) else (if m<=1000/\Z0Y Hl m=true then 0 else 7)) M (c+1+1) [] qO (by simp) gM
  (fun i hi H' c' hs hc=>by
   match i,hi with
   | 0,_=>exact Z5G s1 n Gl H' c' (((h1.same scM).mono (by omega:c<=c+1+1)).same hs |>.mono hc)
   | 1,_=>exact Z5G s2 m Hl H' c' (((h2.same scM).mono (by omega:c<=c+1+1)).same hs |>.mono hc))
  (fun s hs=>by
   rcases List.mem_cons.1 hs with rfl | hs
   · exact h1.flat
   · rw [List.mem_singleton.1 hs]; exact h2.flat)
 have ck':=Z0j ck
 rw [show ([s1,s2]:List Value).length=2 from rfl] at ck'
 have hfe:ZmS (fun i=>if i=0 then (if n<=1000/\Z0Y Gl n=true then (0:Int) else 7) else (if m<=1000/\Z0Y Hl m=true then 0 else 7)) 2 0=if n<=1000/\Z0Y Gl n=true then (if m<=1000/\Z0Y Hl m=true then 0 else 7) else 7:=by
  by_cases z1:n<=1000/\Z0Y Gl n=true <;> by_cases z2:m<=1000/\Z0Y Hl m=true <;> simp [ZmS,z1,z2]
 rw [hfe] at ck'
 unfold isoE
 by_cases z1:n<=1000/\Z0Y Gl n=true
 case neg =>
  rw [if_neg z1] at ck' ⊢
  have fx:=ai l1 (ai l2 (ai hbl (ai hM.symm ck')))
  refine Ans.go ?_
  clear fx
  exact Ans.pure rfl scM
 rw [if_pos z1] at ck' ⊢
 by_cases z2:m<=1000/\Z0Y Hl m=true
 case neg =>
  rw [if_neg z2] at ck' ⊢
  have fx:=ai l1 (ai l2 (ai hbl (ai hM.symm ck')))
  refine Ans.go ?_
  clear fx
  exact Ans.pure rfl scM
 rw [if_pos z2] at ck' ⊢
 obtain ⟨v,h',c',e1,e2,e3,e4,e5⟩:=Z90.callF (Zh2 s1 so sp n a b Gl Ord Pm M (c+1+1+1+1) [] ((h1.same scM).mono qO) ((ho.same scM).mono qO) ((hp.same scM).mono qO))
 have fv:=e4.flat
 obtain ⟨E,hE⟩:∃ E,rnE Gl Ord Pm n a b=E:=⟨_,rfl⟩
 rw [hE] at e1 ⊢
 have sc':Z0q c h h':=scM.trans (e3.mono qO)
 by_cases hE0:E=0
 case neg =>
  rw [if_neg hE0]
  have fx:=ai l1 (ai l2 (ai hbl (ai hM.symm (ai ck' (ai q1 (ai q2 (ai q3 (ai q4 (ai e1 fv)))))))))
  refine Ans.go ?_
  clear fx
  (have fx:=sc'; exact Ans.pu)
 rw [if_pos hE0]
 have lv:ldN (newB h' (256*(c+1+1+1)+9) [v]) 1 (.pointer (some ⟨256*(c+1+1+1)+9,0,none⟩))=some (.agg #[v]):=Z0C (Z0a.newB_same _ _ _)
 have q5:=Z0C ((g2.same qO sM).same qO e3)
 have cs:=Z0j (Zmo v s2 (rnN Gl Ord Pm n a b) m (rnR Gl Ord Pm n a b) Hl (newB h' (256*(c+1+1+1)+9) [v]) (c'+1) [] ((e4.keep (fun hb=>by have:=e5 hb; rw [Z0b,if_neg qO])).mono qO)
  (((h2.same sc').keep (fun hb=>by have:=h2.blk hb; rw [Z0b,if_neg qO])).mono qO) (by unfold rnN; split <;> omega))
 cases hsm:Z5K (rnN Gl Ord Pm n a b) m (rnR Gl Ord Pm n a b) Hl with
 | true =>
  rw [hsm] at cs
  have fx:=ai l1 (ai l2 (ai hbl (ai hM.symm (ai ck' (ai q1 (ai q2 (ai q3 (ai q4 (ai q5 (ai e1 (ai fv (ai lv cs))))))))))))
  refine Ans.go ?_
  clear fx
  (have fx:=sc'; exact Ans.pu)
 | false =>
  rw [hsm] at cs
  have fx:=ai l1 (ai l2 (ai hbl (ai hM.symm (ai ck' (ai q1 (ai q2 (ai q3 (ai q4 (ai q5 (ai e1 (ai fv (ai lv cs))))))))))))
  refine Ans.go ?_
  clear fx
  (have fx:=sc'; exact Ans.pu)
theorem ZgV (h:FH) (c:Nat):callF G 13 [] h c=some (.bool true,h,c):=Z0j (ZiC (f:=13) (args:=[]) (h:=h) (c:=c) (r:=⟨.ret,[.bool true],h,c,[]⟩) rfl)

theorem ZiP (K:FH) (b:Nat) (cs ds:List Value):HeapC.set (newB K b cs) b (.cells false none ds)=newB K b ds:=by
 apply FH.ext; intro j
 rw [Z0m,Z0b,Z0b]
 split <;> rfl
theorem Zcr {g:FuncId} {args:List Value} {K:FH} {kk:Nat} {e:Int} {n:Nat} {O P:List Int} (hC:Zio g args K kk e n O P) (k b:Nat) (hb:256*k<=b) (hb2:b<256*kk) :
 ∃ v w K1 K' k',callF G g args K kk=some (.tuple #[.agg #[v,w],.int .i64 e],K1,k')/\stN (newB K1 b [.slice none 0 0,.slice none 0 0]) 2 (.pointer (some ⟨b,0,none⟩)) (.agg #[v,w])=some K'/\kk<=k'/\Z0q k K K'/\K'.f b=some (.cells false none [v,w])/\Z7R K' kk k' v w n O P:=by
 obtain ⟨v,w,K1,k',h1,h2,h3,h4⟩:=hC
 have hf:=h4.flat
 have hkk:k<kk:=by omega
 refine ⟨v,w,K1,newB K1 b [v,w],k',h1, ?_,h2,fun j hj=>?_,by rw [Z0b,if_pos rfl],h4.keep fun j hj _=>by rw [Z0b,if_neg qO]⟩
 · rw [Z1O (by rw [Z0b,if_pos rfl]) hf.1 hf.2,ZiP]
 · rw [Z0b,if_neg qO]
   exact h3 j qO
theorem Ziu {sz n:Nat} {L:List Int} {h:FH} {c:Nat} {s:Value} (hs:SlI h c s sz n L) (K:FH) (b:Nat):stN (newB K b [.slice none 0 0]) 1 (.pointer (some ⟨b,0,none⟩)) (.agg #[s])=some (newB K b [s]):=by
 rw [st1_agg _ _ _ _ _ (by simp) hs.flat]; rfl
theorem ZlP (s so sp:Value) (n a b:Nat) (Gl Ord Pm:List Int) (K:FH) (kk k wb:Nat) (hb:256*k<=wb) (hb2:wb<256*kk) (hs:SlI K kk s 20 n Gl) (ho:SlI K kk so 1 a Ord) (hp:SlI K kk sp 4 b Pm) :
 ∃ w K1 K' k',callF G 20 [.agg #[s],so,sp] K kk=some (.tuple #[.agg #[w],.int .i64 (rnE Gl Ord Pm n a b)],K1,k')/\stN (newB K1 wb [.slice none 0 0]) 1 (.pointer (some ⟨wb,0,none⟩)) (.agg #[w])=some K'/\kk<=k'/\Z0q k K K'/\Z0a K' wb [w]/\SlI K' k' w 20 (rnN Gl Ord Pm n a b) (rnR Gl Ord Pm n a b):=by
 obtain ⟨w,K1,k',h1,h2,h3,h4,h5⟩:=Z90.callF (Zh1 s so sp n a b Gl Ord Pm K kk [] hs ho hp)
 refine ⟨w,K1,newB K1 wb [w],k',h1,Ziu h4 _ _,h2,fun j hj=>?_,Z0a.newB_same _ _ _,h4.keep fun hn=>?_⟩
 · rw [Z0b,if_neg qO]
   exact h3 j qO
 · have:=h5 hn
   rw [Z0b,if_neg qO]
theorem Zck {Gl A Pa:List Int} {n:Nat} (hok:Z0Y Gl n=true) (hn:n<=1000) (ka:IsoK A Pa n):rnE Gl A Pa n n n=0/\rnN Gl A Pa n n n=n/\rnR Gl A Pa n n n=rnL Gl A Pa (Z0o A n) n:=by
 have o:=ka.ord
 exact ⟨by unfold rnE; rw [if_pos ⟨hn,hok⟩,if_pos o],by unfold rnN; rw [if_pos ⟨hn,hok,o⟩],by unfold rnR; rw [if_pos ⟨hn,hok,o⟩]⟩
theorem ZbO {Gl Hl A Pa:List Int} {n:Nat} (h1:Z0Y Gl n=true) (h2:Z0Y Hl n=true) (hn:n<=1000) (ka:IsoK A Pa n) (e:rnL Gl A Pa (Z0o A n) n=Hl):isoE Gl Hl A Pa n n n n=0:=by
 obtain ⟨r1,r2,r3⟩:=Zck h1 hn ka
 have hs:Z5K n n Hl Hl=true:=by simp [Z5K]
 unfold isoE
 rw [if_pos ⟨hn,h1⟩,if_pos ⟨hn,h2⟩,if_pos r1,r2,r3,e,if_pos hs]
theorem tail5 (s ao ap bo bp x1 x2 y1 y2:Value) (n na:Nat) (Gl A Pa B Pb:List Int) (K:FH) (k gb gg xb yb:Nat) (hn:n<=100) (ka:IsoK A Pa na) (kb:IsoK B Pb na)
 (lb:gb<256*k) (lg:gg<256*k) (lx:xb<256*k) (ly:yb<256*k) (hgb:Z0a K gb [bo,bp]) (hgg:Z0a K gg [s]) (hx:Z0a K xb [x1,x2]) (hy:Z0a K yb [y1,y2])
 (ss:SlI K k s 20 n Gl) (s1:SlI K k ao 1 na A) (s2:SlI K k ap 4 na Pa) (s3:SlI K k bo 1 na B) (s4:SlI K k bp 4 na Pb) (s5:SlI K k x1 1 na (cO A B na)) (s6:SlI K k x2 4 na (cP B Pa Pb na)) (s7:SlI K k y1 1 na (Z0o A na)) (s8:SlI K k y2 4 na (iP A Pa na)) :
 ∃ e w H1 M1 k1,callF G 20 [.agg #[s],ao,ap] K (k+1+1)=some (.tuple #[.agg #[w],.int .i64 e],H1,k1)/\stN (newB H1 (256*(k+1)+9) [.slice none 0 0]) 1 (.pointer (some ⟨256*(k+1)+9,0,none⟩)) (.agg #[w])=some M1 ∧
  (e=0->ldN M1 1 (.pointer (some ⟨256*(k+1)+9,0,none⟩))=some (.agg #[w])/\ld1 M1 (.pointer (some ⟨gb,0,none⟩))=some bo/\ld1 M1 (.pointer (some ⟨gb,1,none⟩))=some bp ∧
   ∃ e' u H2 M2 k2,callF G 20 [.agg #[w],bo,bp] M1 (k1+1+1)=some (.tuple #[.agg #[u],.int .i64 e'],H2,k2)/\stN (newB H2 (256*(k1+1)+9) [.slice none 0 0]) 1 (.pointer (some ⟨256*(k1+1)+9,0,none⟩)) (.agg #[u])=some M2 ∧
    ldN M2 1 (.pointer (some ⟨gg,0,none⟩))=some (.agg #[s])/\ldN M2 1 (.pointer (some ⟨256*(k1+1)+9,0,none⟩))=some (.agg #[u])/\ldN M2 2 (.pointer (some ⟨xb,0,none⟩))=some (.agg #[x1,x2]) ∧
    callF G 14 [.agg #[s],.agg #[u],.agg #[x1,x2]] M2 (k2+1)=some (.int .i64 0,M2,k2+1)/\ldN M2 1 (.pointer (some ⟨256*(k+1)+9,0,none⟩))=some (.agg #[w])/\ldN M2 2 (.pointer (some ⟨yb,0,none⟩))=some (.agg #[y1,y2]) ∧
    callF G 14 [.agg #[w],.agg #[s],.agg #[y1,y2]] M2 (k2+1)=some (.int .i64 0,M2,k2+1)):=by
 obtain ⟨w,H1,M1,k1,a1,a2,a3,a4,a5,a6⟩:=ZlP s ao ap n na na Gl A Pa K (k+1+1) (k+1) (256*(k+1)+9) qO qO (ss.mono qO) (s1.mono qO) (s2.mono qO)
 refine ⟨_,w,H1,M1,k1,a1,a2,fun hE=>?_⟩
 have hG:Gl.length=n*20:=ss.1
 have hq:Z0Y Gl n=true/\Z48 A Pa na na n=true:=by
  unfold rnE at hE
  split at hE
  · rename_i q
    split at hE
    · rename_i q2; exact ⟨q.2,q2⟩
    · cases hE
  · cases hE
 obtain ⟨hok,hord⟩:=hq
 obtain ⟨en,-,-⟩:=IsoK.of ka.ol ka.pl hord
 subst en
 obtain ⟨r1,r2,r3⟩:=Zck hok qO ka
 rw [r2,r3] at a6
 have rk:=ka.rn hG hok
 have g1:=Z1G rk na (Nat.le_refl _)
 obtain ⟨o1,-⟩:=Z8f rk ka.oa
 have ec:=Zmt hG hok ka kb
 have ei:=rn_inv hG hok ka
 obtain ⟨G1,hG1⟩:∃ G1,rnL Gl A Pa (Z0o A na) na=G1:=⟨_,rfl⟩
 rw [hG1] at a6 g1 o1 ec ei
 have tk:Z0q k K M1:=a4.mono qO
 obtain ⟨u,H2,M2,k2,b1,b2,b3,b4,b5,b6⟩:=ZlP w bo bp na na na G1 B Pb M1 (k1+1+1) (k1+1) (256*(k1+1)+9) qO qO (a6.mono qO) ((s3.same tk).mono qO) ((s4.same tk).mono qO)
 obtain ⟨q1,q2,q3⟩:=Zck o1 qO kb
 rw [q2,q3] at b6
 have rk2:=kb.rn g1 o1
 obtain ⟨o2,-⟩:=Z8f rk2 kb.oa
 obtain ⟨G2,hG2⟩:∃ G2,rnL G1 B Pb (Z0o B na) na=G2:=⟨_,rfl⟩
 rw [hG2] at b6 o2 ec
 have t2:Z0q (k1+1) M1 M2:=b4
 have tk2:Z0q k K M2:=tk.trans (t2.mono qO)
 have gw:Z0a M2 (256*(k+1)+9) [w]:=a5.same (c:=k1+1) qO t2
 have c1:=Z0j (Z8w s u x1 x2 na na na na Gl G2 _ _ M2 (k2+1) [] ((ss.same tk2).mono qO) (b6.mono qO) ((s5.same tk2).mono qO) ((s6.same tk2).mono qO))
 have c2:=Z0j (Z8w w s y1 y2 na na na na G1 Gl _ _ M2 (k2+1) [] ((a6.same (t2.mono qO)).mono qO) ((ss.same tk2).mono qO) ((s7.same tk2).mono qO) ((s8.same tk2).mono qO))
 rw [ZbO hok o2 qO (ka.comp kb) ec.symm] at c1
 rw [ZbO o1 hok qO ka.inv ei] at c2
 refine ⟨Z0C a5, ?_, ?_,_,u,H2,M2,k2,b1,b2,Z0C (hgg.same lg tk2),Z0C b5,ld2_holds (hx.same lx tk2),c1,Z0C gw,ld2_holds (hy.same ly tk2),c2⟩
 · rw [Z03 (hgb.same lb tk)]; rfl
 · rw [Z03 (hgb.same lb tk)]; rfl

theorem cB_of {A Pa B Pb:List Int} {n:Nat} (ka:IsoK A Pa n) (kb:IsoK B Pb n) (hn:n<=1000):cB A Pa B Pb n n n n=true:=by
 unfold cB
 rw [ka.ord,kb.ord,decide_eq_true hn]; rfl
theorem Zm8 {A Pa B Pb:List Int} {na pa nb pb:Nat} (hA:A.length=na) (hPa:Pa.length=pa*4) (hB:B.length=nb) (hPb:Pb.length=pb*4) (h:cB A Pa B Pb na pa nb pb=true) :
 na<=1000/\pa=na/\nb=na/\pb=na/\IsoK A Pa na/\IsoK B Pb na:=by
 unfold cB at h
 rw [Bool.and_eq_true,Bool.and_eq_true,decide_eq_true_eq] at h
 obtain ⟨-,e1,ka⟩:=IsoK.of hA hPa h.1.2
 obtain ⟨e2,e3,kb⟩:=IsoK.of hB hPb h.2
 exact ⟨h.1.1,e1,e2,e3,ka,kb⟩
theorem cB_le {A Pa B Pb:List Int} {na pa nb pb:Nat}:(if cB A Pa B Pb na pa nb pb=true then na else 0)<=1000000:=by
 split
 · rename_i h
   unfold cB at h
   rw [Bool.and_eq_true,Bool.and_eq_true,decide_eq_true_eq] at h
   omega
 · omega
theorem rnB_le {A Pa:List Int} {na pa:Nat}:(if rnB A Pa na pa=true then na else 0)<=1000000:=by
 split
 · rename_i h
   unfold rnB at h
   rw [Bool.and_eq_true,decide_eq_true_eq] at h
   omega
 · omega
theorem Z87 {v w v' w':Value} {K:FH} {k0 k0' k k':Nat} {n:Nat} {O P:List Int} (a:Z7R K k0 k v w n O P) (b:Z7R K k0' k' v' w' n O P) (hn:n<=1000000) (c:Nat) (h1:k<=c) (h2:k'<=c) :
 callF G 12 [.agg #[v,w],.agg #[v',w']] K c=some (.bool true,K,c):=by
 have:=Z0j (Zfi v w v' w' n n n n O O P P K c [] (a.1.mono h1) (b.1.mono h2) (a.2.1.mono h1) (b.2.1.mono h2) hn)
 rw [decide_eq_true (rfl:O=O),decide_eq_true (rfl:P=P)] at this
 exact this
set_option maxHeartbeats 8000000 in
theorem Z8x (ao ap bo bp co cp s:Value) (na pa nb pb nc pc n:Nat) (A Pa B Pb C Pc Gl:List Int) (h:FH) (c:Nat) (h1:SlI h c ao 1 na A) (h2:SlI h c ap 4 pa Pa) (h3:SlI h c bo 1 nb B) (h4:SlI h c bp 4 pb Pb) (h5:SlI h c co 1 nc C) (h6:SlI h c cp 4 pc Pc) (hs:SlI h c s 20 n Gl) :
 Ans (G (.fn 5) [.agg #[ao,ap],.agg #[bo,bp],.agg #[co,cp],.agg #[s]] h c []) fun x=>x.e = .ret/\x.vs=[.bool true]:=by
 suffices hs:Ans (f5_S G (.agg #[ao,ap]) (.agg #[bo,bp]) (.agg #[co,cp]) (.agg #[s]) h c) fun x=>x.e = .ret/\x.vs=[.bool true] by
  obtain ⟨x,q1,q2⟩:=hs
  exact ⟨_,f5_go q1,by show (gcR h c [] x).e=_/\(gcR h c [] x).vs=_; rw [ZmR,Zhu]; exact q2⟩
 have hcs:(Value.agg #[s]).cells.toList=[s]:=rfl
 unfold f5_S
 rw [Z5j h1.flat h2.flat,Z5j h3.flat h4.flat,Z5j h5.flat h6.flat,ZmU hs.flat,Z5k,Z5k,Z5k,hcs]
 simp only [cond_true,Nat.add_zero]
 obtain ⟨H,hH⟩:∃ H,H=newB (newB (newB (newB h (256*c) [ao,ap]) (256*c+1) [bo,bp]) (256*c+2) [co,cp]) (256*c+3) [s]:=⟨_,rfl⟩
 have sH:Z0q c h H:=by rw [hH]; simp (disch:=omega)
 have ga:Z0a H (256*c) [ao,ap]:=by rw [hH]; exact ((((Z0a.newB_same _ _ _).newB_ne qO).newB_ne qO).newB_ne qO)
 have gb:Z0a H (256*c+1) [bo,bp]:=by rw [hH]; exact (((Z0a.newB_same _ _ _).newB_ne qO).newB_ne qO)
 have gc:Z0a H (256*c+2) [co,cp]:=by rw [hH]; exact ((Z0a.newB_same _ _ _).newB_ne qO)
 have gg:Z0a H (256*c+3) [s]:=by rw [hH]; exact Z0a.newB_same _ _ _
 rw [← hH]
 clear hH
 have hlA:A.length=na:=by have:=h1.1; omega
 have hlB:B.length=nb:=by have:=h3.1; omega
 have hlC:C.length=nc:=by have:=h5.1; omega
 have ls:=hs.len
 have qa:=ld2_holds ga
 have qb:=ld2_holds gb
 have rA:∀ K,Z0q (c+1) H K->Z0a K (256*c) [ao,ap]:=fun K q=>ga.same qO q
 have rB:∀ K,Z0q (c+1) H K->Z0a K (256*c+1) [bo,bp]:=fun K q=>gb.same qO q
 have rC:∀ K,Z0q (c+1) H K->Z0a K (256*c+2) [co,cp]:=fun K q=>gc.same qO q
 have rG:∀ K,Z0q (c+1) H K->Z0a K (256*c+3) [s]:=fun K q=>gg.same qO q
 have sK:∀ K,Z0q (c+1) H K->Z0q c h K:=fun K q=>sH.trans (q.mono qO)
 obtain ⟨xb,hxb⟩:∃ b,256*(c+1)+6=b:=⟨_,rfl⟩
 obtain ⟨x1,x2,L1,K1,c1,a1,a2,a3,a4,a5,a6⟩:=Zcr (Z5c ao ap bo bp na pa nb pb A Pa B Pb H (c+1+1) ((h1.same sH).mono qO) ((h2.same sH).mono qO) ((h3.same sH).mono qO) ((h4.same sH).mono qO)) (c+1) xb qO qO
 have t1:Z0q (c+1) H K1:=a4
 have s1:=sK K1 t1
 have qa1:=ld2_holds (rA K1 t1)
 have qb1:=ld2_holds (rB K1 t1)
 obtain ⟨ub,hub⟩:∃ b,256*c1+6=b:=⟨_,rfl⟩
 obtain ⟨w1,w2,L2,K2,c2,b1,b2,b3,b4,b5,b6⟩:=Zcr (Zgs ao ap bo bp na pa nb pb A Pa B Pb K1 (c1+1) ((h1.same s1).mono qO) ((h2.same s1).mono qO) ((h3.same s1).mono qO) ((h4.same s1).mono qO)) c1 ub qO qO
 have t2:Z0q (c+1) H K2:=t1.trans (b4.mono qO)
 have s2:=sK K2 t2
 have qa2:=ld2_holds (rA K2 t2)
 obtain ⟨yb,hyb⟩:∃ b,256*c2+5=b:=⟨_,rfl⟩
 obtain ⟨y1,y2,L3,K3,c3,d1,d2,d3,d4,d5,d6⟩:=Zcr (Zhn ao ap na pa A Pa K2 (c2+1) ((h1.same s2).mono qO) ((h2.same s2).mono qO)) c2 yb qO qO
 have t3:Z0q (c+1) H K3:=t2.trans (d4.mono qO)
 have s3:=sK K3 t3
 have qa3:=ld2_holds (rA K3 t3)
 obtain ⟨vb,hvb⟩:∃ b,256*c3+5=b:=⟨_,rfl⟩
 obtain ⟨v1,v2,L4,K4,c4,e1,e2,e3,e4,e5,e6⟩:=Zcr (Zhk ao ap na pa A Pa K3 (c3+1) ((h1.same s3).mono qO) ((h2.same s3).mono qO)) c3 vb qO qO
 have t4:Z0q (c+1) H K4:=t3.trans (e4.mono qO)
 have s4:=sK K4 t4
 have k0:=fun c=>ZgV K4 c
 have u2:Z0q c1 K1 K4:=b4.trans ((d4.mono qO).trans (e4.mono qO))
 have u3:Z0q c2 K2 K4:=d4.trans (e4.mono qO)
 have X4:=a6.keep (h':=K4) fun j _ hj=>u2 j hj
 have W4:=b6.keep (h':=K4) fun j _ hj=>u3 j hj
 have Y4:=d6.keep (h':=K4) fun j _ hj=>e4 j hj
 have fx4:K4.f xb=some (.cells false none [x1,x2]):=(u2 xb qO).trans a5
 have fu4:K4.f ub=some (.cells false none [w1,w2]):=(u3 ub qO).trans b5
 have fy4:K4.f yb=some (.cells false none [y1,y2]):=(e4 yb qO).trans d5
 have lx:=Z0S fx4
 have lu:=Z0S fu4
 have ly:=Z0S fy4
 have lv:=Z0S e5
 have m1:=Z87 X4 W4 cB_le (c4+1) qO qO
 have m2:=Z87 Y4 e6 rnB_le (c4+1) qO qO
 have qb4:=ld2_holds (rB K4 t4)
 have qc4:=ld2_holds (rC K4 t4)
 obtain ⟨zb,hzb⟩:∃ b,256*(c4+1)+6=b:=⟨_,rfl⟩
 obtain ⟨z1,z2,L5,K5,c5,f1,f2,f3,f4,f5,f6⟩:=Zcr (Z5c bo bp co cp nb pb nc pc B Pb C Pc K4 (c4+1+1) ((h3.same s4).mono qO) ((h4.same s4).mono qO) ((h5.same s4).mono qO) ((h6.same s4).mono qO)) (c4+1) zb qO qO
 have t5:Z0q (c+1) H K5:=t4.trans (f4.mono qO)
 have s5:=sK K5 t5
 clear W4 fu4 u2 u3 e6 b6
 obtain ⟨I1,hI1⟩:∃ I,(if rnB A Pa na pa=true then (0:Int) else 1)=I:=⟨_,rfl⟩
 rw [hI1] at d1 e1
 cases eAB:cB A Pa B Pb na pa nb pb with
 | false =>
  rw [eAB] at a1 b1
  simp only [Bool.false_eq_true,if_false] at a1 b1
  obtain ⟨E2,hE2⟩:∃ E,(if cB B Pb C Pc nb pb nc pc=true then (0:Int) else 1)=E:=⟨_,rfl⟩
  rw [hE2] at f1
  repeat' (first | ((with_reducible first | refine Ans.bz ?_ | refine Ans.r1 ?_ | refine Ans.pkT ?_ | refine Ans.pkF ?_); try dsimp only [v_zero,v_succ]) | (with_reducible first | refine Ans.btL ?_ | refine Ans.bfL ?_ | refine Ans.gyT ?_ | refine Ans.gyF ?_ | refine Ans.gyG ?_ | refine Ans.bb ?_ | refine Ans.bc ?_ | refine Ans.ba ?_) | ((with_reducible first | refine Ans.grT ?_ ?_ | refine Ans.eqT ?_ ?_ | refine Ans.neT ?_ ?_); (focus omega)) | ((with_reducible first | refine Ans.grF ?_ ?_ | refine Ans.eqF ?_ ?_ | refine Ans.neF ?_ ?_); (focus omega)) | (with_reducible first | refine Ans.lsS (fun _=>?_) (fun _=>?_) | refine Ans.leS (fun _=>?_) (fun _=>?_) | refine Ans.grS (fun _=>?_) (fun _=>?_) | refine Ans.geS (fun _=>?_) (fun _=>?_) | refine Ans.eqS (fun _=>?_) (fun _=>?_) | refine Ans.neS (fun _=>?_) (fun _=>?_)) | ((with_reducible first | refine Ans.ct ?_ ?_); (focus (simp (disch:=(first | omega | with_reducible assumption | (simp <;> omega) | fail)) [qa,qb,a1,hxb,a2,qa1,qb1,b1,hub,b2,qa2,d1,hyb,d2,qa3,e1,hvb,e2,k0,lx,lu,ly,lv,m1,m2,qb4,qc4,f1,hzb,f2]; done))) | ((with_reducible first | refine Ans.cf ?_ ?_); (focus (simp (disch:=(first | omega | with_reducible assumption | (simp <;> omega) | fail)) [qa,qb,a1,hxb,a2,qa1,qb1,b1,hub,b2,qa2,d1,hyb,d2,qa3,e1,hvb,e2,k0,lx,lu,ly,lv,m1,m2,qb4,qc4,f1,hzb,f2]; done))) | (refine Ans.step (by simp (disch:=(first | omega | with_reducible assumption | (simp <;> omega) | fail)) [qa,qb,a1,hxb,a2,qa1,qb1,b1,hub,b2,qa2,d1,hyb,d2,qa3,e1,hvb,e2,k0,lx,lu,ly,lv,m1,m2,qb4,qc4,f1,hzb,f2,-List.getD_eq_getElem?_getD] <;> rfl) ?_; try dsimp only [v_zero,v_succ]) | fail)
  all_goals exact .done ⟨rfl,rfl⟩
 | true =>
 rw [eAB] at a1 b1 X4
 simp only [if_true] at a1 b1 X4
 obtain ⟨n1,p1,p2,p3,ka,kb⟩:=Zm8 hlA h2.1 hlB h4.1 eAB
 have p1':=p1.symm
 have p2':=p2.symm
 have p3':=p3.symm
 clear p1 p2 p3
 subst p1' p2' p3'
 have er:rnB A Pa na na=true:=by unfold rnB; rw [ka.ord,decide_eq_true n1]; rfl
 rw [er] at Y4
 simp only [if_true] at Y4
 have X5:=X4.keep (h':=K5) fun j _ hj=>f4 j qO
 have Y5:=Y4.keep (h':=K5) fun j _ hj=>f4 j qO
 have fx5:K5.f xb=some (.cells false none [x1,x2]):=(f4 xb qO).trans fx4
 have fy5:K5.f yb=some (.cells false none [y1,y2]):=(f4 yb qO).trans fy4
 clear X4 Y4 fx4 fy4 hI1
 cases eBC:cB B Pb C Pc na na nc pc with
 | false =>
  rw [eBC] at f1
  simp only [Bool.false_eq_true,if_false] at f1
  have lgK5:ld1 K5 (.pointer (some ⟨256*c+3,0,none⟩))=some s:=by rw [Z03 (rG K5 t5)]; rfl
  by_cases hn:n<=100
  case neg =>
   repeat' (first | ((with_reducible first | refine Ans.bz ?_ | refine Ans.r1 ?_ | refine Ans.pkT ?_ | refine Ans.pkF ?_); try dsimp only [v_zero,v_succ]) | (with_reducible first | refine Ans.btL ?_ | refine Ans.bfL ?_ | refine Ans.gyT ?_ | refine Ans.gyF ?_ | refine Ans.gyG ?_ | refine Ans.bb ?_ | refine Ans.bc ?_ | refine Ans.ba ?_) | ((with_reducible first | refine Ans.grT ?_ ?_ | refine Ans.eqT ?_ ?_ | refine Ans.neT ?_ ?_); (focus omega)) | ((with_reducible first | refine Ans.grF ?_ ?_ | refine Ans.eqF ?_ ?_ | refine Ans.neF ?_ ?_); (focus omega)) | (with_reducible first | refine Ans.lsS (fun _=>?_) (fun _=>?_) | refine Ans.leS (fun _=>?_) (fun _=>?_) | refine Ans.grS (fun _=>?_) (fun _=>?_) | refine Ans.geS (fun _=>?_) (fun _=>?_) | refine Ans.eqS (fun _=>?_) (fun _=>?_) | refine Ans.neS (fun _=>?_) (fun _=>?_)) | ((with_reducible first | refine Ans.ct ?_ ?_); (focus (simp (disch:=(first | omega | with_reducible assumption | (simp <;> omega) | fail)) [qa,qb,a1,hxb,a2,qa1,qb1,b1,hub,b2,qa2,d1,hyb,d2,qa3,e1,hvb,e2,k0,lx,lu,ly,lv,m1,m2,qb4,qc4,f1,hzb,f2,lgK5,ls]; done))) | ((with_reducible first | refine Ans.cf ?_ ?_); (focus (simp (disch:=(first | omega | with_reducible assumption | (simp <;> omega) | fail)) [qa,qb,a1,hxb,a2,qa1,qb1,b1,hub,b2,qa2,d1,hyb,d2,qa3,e1,hvb,e2,k0,lx,lu,ly,lv,m1,m2,qb4,qc4,f1,hzb,f2,lgK5,ls]; done))) | (refine Ans.step (by simp (disch:=(first | omega | with_reducible assumption | (simp <;> omega) | fail)) [qa,qb,a1,hxb,a2,qa1,qb1,b1,hub,b2,qa2,d1,hyb,d2,qa3,e1,hvb,e2,k0,lx,lu,ly,lv,m1,m2,qb4,qc4,f1,hzb,f2,lgK5,ls,-List.getD_eq_getElem?_getD] <;> rfl) ?_; try dsimp only [v_zero,v_succ]) | fail)
   all_goals exact .done ⟨rfl,rfl⟩
  have maK5:ld1 K5 (.pointer (some ⟨256*c,0,none⟩))=some ao:=by rw [Z03 (rA K5 t5)]; rfl
  have mbK5:ld1 K5 (.pointer (some ⟨256*c,1,none⟩))=some ap:=by rw [Z03 (rA K5 t5)]; rfl
  have mgK5:=Z0C (rG K5 t5)
  obtain ⟨e0,w,M0,M1,k1,T1,T2,T3⟩:=tail5 s ao ap bo bp x1 x2 y1 y2 n na Gl A Pa B Pb K5 (c5+1) (256*c+1) (256*c+3) xb yb hn ka kb qO qO qO qO (rB K5 t5) (rG K5 t5) ⟨_,_,fx5⟩ ⟨_,_,fy5⟩ ((hs.same s5).mono qO) ((h1.same s5).mono qO) ((h2.same s5).mono qO) ((h3.same s5).mono qO) ((h4.same s5).mono qO) (X5.1.mono qO) (X5.2.1.mono qO) (Y5.1.mono qO) (Y5.2.1.mono qO)
  by_cases he0:e0=0
  case neg =>
   repeat' (first | ((with_reducible first | refine Ans.bz ?_ | refine Ans.r1 ?_ | refine Ans.pkT ?_ | refine Ans.pkF ?_); try dsimp only [v_zero,v_succ]) | (with_reducible first | refine Ans.btL ?_ | refine Ans.bfL ?_ | refine Ans.gyT ?_ | refine Ans.gyF ?_ | refine Ans.gyG ?_ | refine Ans.bb ?_ | refine Ans.bc ?_ | refine Ans.ba ?_) | ((with_reducible first | refine Ans.grT ?_ ?_ | refine Ans.eqT ?_ ?_ | refine Ans.neT ?_ ?_); (focus omega)) | ((with_reducible first | refine Ans.grF ?_ ?_ | refine Ans.eqF ?_ ?_ | refine Ans.neF ?_ ?_); (focus omega)) | (with_reducible first | refine Ans.lsS (fun _=>?_) (fun _=>?_) | refine Ans.leS (fun _=>?_) (fun _=>?_) | refine Ans.grS (fun _=>?_) (fun _=>?_) | refine Ans.geS (fun _=>?_) (fun _=>?_) | refine Ans.eqS (fun _=>?_) (fun _=>?_) | refine Ans.neS (fun _=>?_) (fun _=>?_)) | ((with_reducible first | refine Ans.ct ?_ ?_); (focus (simp (disch:=(first | omega | with_reducible assumption | (simp <;> omega) | fail)) [qa,qb,a1,hxb,a2,qa1,qb1,b1,hub,b2,qa2,d1,hyb,d2,qa3,e1,hvb,e2,k0,lx,lu,ly,lv,m1,m2,qb4,qc4,f1,hzb,f2,lgK5,ls,maK5,mbK5,mgK5,T1,T2]; done))) | ((with_reducible first | refine Ans.cf ?_ ?_); (focus (simp (disch:=(first | omega | with_reducible assumption | (simp <;> omega) | fail)) [qa,qb,a1,hxb,a2,qa1,qb1,b1,hub,b2,qa2,d1,hyb,d2,qa3,e1,hvb,e2,k0,lx,lu,ly,lv,m1,m2,qb4,qc4,f1,hzb,f2,lgK5,ls,maK5,mbK5,mgK5,T1,T2]; done))) | (refine Ans.step (by simp (disch:=(first | omega | with_reducible assumption | (simp <;> omega) | fail)) [qa,qb,a1,hxb,a2,qa1,qb1,b1,hub,b2,qa2,d1,hyb,d2,qa3,e1,hvb,e2,k0,lx,lu,ly,lv,m1,m2,qb4,qc4,f1,hzb,f2,lgK5,ls,maK5,mbK5,mgK5,T1,T2,-List.getD_eq_getElem?_getD] <;> rfl) ?_; try dsimp only [v_zero,v_succ]) | fail)
   all_goals exact .done ⟨rfl,rfl⟩
  obtain ⟨R1,R2,R3,e9,u,M3,M2,k2,R4,R5,R6,R7,R8,R9,R10,R11,R12⟩:=T3 he0
  subst he0
  repeat' (first | ((with_reducible first | refine Ans.bz ?_ | refine Ans.r1 ?_ | refine Ans.pkT ?_ | refine Ans.pkF ?_); try dsimp only [v_zero,v_succ]) | (with_reducible first | refine Ans.btL ?_ | refine Ans.bfL ?_ | refine Ans.gyT ?_ | refine Ans.gyF ?_ | refine Ans.gyG ?_ | refine Ans.bb ?_ | refine Ans.bc ?_ | refine Ans.ba ?_) | ((with_reducible first | refine Ans.grT ?_ ?_ | refine Ans.eqT ?_ ?_ | refine Ans.neT ?_ ?_); (focus omega)) | ((with_reducible first | refine Ans.grF ?_ ?_ | refine Ans.eqF ?_ ?_ | refine Ans.neF ?_ ?_); (focus omega)) | (with_reducible first | refine Ans.lsS (fun _=>?_) (fun _=>?_) | refine Ans.leS (fun _=>?_) (fun _=>?_) | refine Ans.grS (fun _=>?_) (fun _=>?_) | refine Ans.geS (fun _=>?_) (fun _=>?_) | refine Ans.eqS (fun _=>?_) (fun _=>?_) | refine Ans.neS (fun _=>?_) (fun _=>?_)) | ((with_reducible first | refine Ans.ct ?_ ?_); (focus (simp (disch:=(first | omega | with_reducible assumption | (simp <;> omega) | fail)) [qa,qb,a1,hxb,a2,qa1,qb1,b1,hub,b2,qa2,d1,hyb,d2,qa3,e1,hvb,e2,k0,lx,lu,ly,lv,m1,m2,qb4,qc4,f1,hzb,f2,lgK5,ls,maK5,mbK5,mgK5,T1,T2,R1,R2,R3,R4,R5,R6,R7,R8,R9,R10,R11,R12]; done))) | ((with_reducible first | refine Ans.cf ?_ ?_); (focus (simp (disch:=(first | omega | with_reducible assumption | (simp <;> omega) | fail)) [qa,qb,a1,hxb,a2,qa1,qb1,b1,hub,b2,qa2,d1,hyb,d2,qa3,e1,hvb,e2,k0,lx,lu,ly,lv,m1,m2,qb4,qc4,f1,hzb,f2,lgK5,ls,maK5,mbK5,mgK5,T1,T2,R1,R2,R3,R4,R5,R6,R7,R8,R9,R10,R11,R12]; done))) | (refine Ans.step (by simp (disch:=(first | omega | with_reducible assumption | (simp <;> omega) | fail)) [qa,qb,a1,hxb,a2,qa1,qb1,b1,hub,b2,qa2,d1,hyb,d2,qa3,e1,hvb,e2,k0,lx,lu,ly,lv,m1,m2,qb4,qc4,f1,hzb,f2,lgK5,ls,maK5,mbK5,mgK5,T1,T2,R1,R2,R3,R4,R5,R6,R7,R8,R9,R10,R11,R12,-List.getD_eq_getElem?_getD] <;> rfl) ?_; try dsimp only [v_zero,v_succ]) | fail)
  all_goals exact .done ⟨rfl,rfl⟩
 | true =>
  rw [eBC] at f1 f6
  simp only [if_true] at f1 f6
  obtain ⟨-,p1,p2,p3,-,kc⟩:=Zm8 hlB h4.1 hlC h6.1 eBC
  have p2':=p2.symm
  have p3':=p3.symm
  clear p1 p2 p3
  subst p2' p3'
  have qc5:=ld2_holds (rC K5 t5)
  have lx5:=Z0S fx5
  obtain ⟨jb,hjb⟩:∃ b,256*(c5+1)+6=b:=⟨_,rfl⟩
  obtain ⟨j1,j2,L6,K6,c6,g1,g2,g3,g4,g5,g6⟩:=Zcr (Z5c x1 x2 co cp na na na na (cO A B na) (cP B Pa Pb na) C Pc K5 (c5+1+1) (X5.1.mono qO) (X5.2.1.mono qO) ((h5.same s5).mono qO) ((h6.same s5).mono qO)) (c5+1) jb qO qO
  rw [cB_of (ka.comp kb) kc n1] at g1 g6
  simp only [if_true] at g1 g6
  have t6:Z0q (c+1) H K6:=t5.trans (g4.mono qO)
  have s6:=sK K6 t6
  have qa6:=ld2_holds (rA K6 t6)
  have lz6:=Z0S ((g4 zb qO).trans f5)
  have Z6:=f6.keep (h':=K6) fun j _ hj=>g4 j qO
  obtain ⟨kb',hkb⟩:∃ b,256*c6+6=b:=⟨_,rfl⟩
  obtain ⟨i1,i2,L7,K7,c7,i3,i4,i5,i6,i7,i8⟩:=Zcr (Z5c ao ap z1 z2 na na na na A Pa (cO B C na) (cP C Pb Pc na) K6 (c6+1) ((h1.same s6).mono qO) ((h2.same s6).mono qO) (Z6.1.mono qO) (Z6.2.1.mono qO)) c6 kb' qO qO
  rw [cB_of ka (kb.comp kc) n1] at i3 i8
  simp only [if_true] at i3 i8
  have t7:Z0q (c+1) H K7:=t6.trans (i6.mono qO)
  have s7:=sK K7 t7
  have J7:=g6.keep (h':=K7) fun j _ hj=>i6 j qO
  rw [Zlz kb kc,Zly ka kb kc] at J7
  have m7:=Z87 J7 i8 qO (c7+1) qO qO
  have lj7:=Z0S ((i6 jb qO).trans g5)
  have li7:=Z0S i7
  have v7:Z0q (c5+1) K5 K7:=g4.trans (i6.mono qO)
  have X7:=X5.keep (h':=K7) fun j _ hj=>v7 j qO
  have Y7:=Y5.keep (h':=K7) fun j _ hj=>v7 j qO
  have fx7:K7.f xb=some (.cells false none [x1,x2]):=(v7 xb qO).trans fx5
  have fy7:K7.f yb=some (.cells false none [y1,y2]):=(v7 yb qO).trans fy5
  have lgK7:ld1 K7 (.pointer (some ⟨256*c+3,0,none⟩))=some s:=by rw [Z03 (rG K7 t7)]; rfl
  by_cases hn:n<=100
  case neg =>
   repeat' (first | ((with_reducible first | refine Ans.bz ?_ | refine Ans.r1 ?_ | refine Ans.pkT ?_ | refine Ans.pkF ?_); try dsimp only [v_zero,v_succ]) | (with_reducible first | refine Ans.btL ?_ | refine Ans.bfL ?_ | refine Ans.gyT ?_ | refine Ans.gyF ?_ | refine Ans.gyG ?_ | refine Ans.bb ?_ | refine Ans.bc ?_ | refine Ans.ba ?_) | ((with_reducible first | refine Ans.grT ?_ ?_ | refine Ans.eqT ?_ ?_ | refine Ans.neT ?_ ?_); (focus omega)) | ((with_reducible first | refine Ans.grF ?_ ?_ | refine Ans.eqF ?_ ?_ | refine Ans.neF ?_ ?_); (focus omega)) | (with_reducible first | refine Ans.lsS (fun _=>?_) (fun _=>?_) | refine Ans.leS (fun _=>?_) (fun _=>?_) | refine Ans.grS (fun _=>?_) (fun _=>?_) | refine Ans.geS (fun _=>?_) (fun _=>?_) | refine Ans.eqS (fun _=>?_) (fun _=>?_) | refine Ans.neS (fun _=>?_) (fun _=>?_)) | ((with_reducible first | refine Ans.ct ?_ ?_); (focus (simp (disch:=(first | omega | with_reducible assumption | (simp <;> omega) | fail)) [qa,qb,a1,hxb,a2,qa1,qb1,b1,hub,b2,qa2,d1,hyb,d2,qa3,e1,hvb,e2,k0,lx,lu,ly,lv,m1,m2,qb4,qc4,f1,hzb,f2,lx5,qc5,g1,hjb,g2,qa6,lz6,i3,hkb,i4,lj7,li7,m7,lgK7,ls]; done))) | ((with_reducible first | refine Ans.cf ?_ ?_); (focus (simp (disch:=(first | omega | with_reducible assumption | (simp <;> omega) | fail)) [qa,qb,a1,hxb,a2,qa1,qb1,b1,hub,b2,qa2,d1,hyb,d2,qa3,e1,hvb,e2,k0,lx,lu,ly,lv,m1,m2,qb4,qc4,f1,hzb,f2,lx5,qc5,g1,hjb,g2,qa6,lz6,i3,hkb,i4,lj7,li7,m7,lgK7,ls]; done))) | (refine Ans.step (by simp (disch:=(first | omega | with_reducible assumption | (simp <;> omega) | fail)) [qa,qb,a1,hxb,a2,qa1,qb1,b1,hub,b2,qa2,d1,hyb,d2,qa3,e1,hvb,e2,k0,lx,lu,ly,lv,m1,m2,qb4,qc4,f1,hzb,f2,lx5,qc5,g1,hjb,g2,qa6,lz6,i3,hkb,i4,lj7,li7,m7,lgK7,ls,-List.getD_eq_getElem?_getD] <;> rfl) ?_; try dsimp only [v_zero,v_succ]) | fail)
   all_goals exact .done ⟨rfl,rfl⟩
  have maK7:ld1 K7 (.pointer (some ⟨256*c,0,none⟩))=some ao:=by rw [Z03 (rA K7 t7)]; rfl
  have mbK7:ld1 K7 (.pointer (some ⟨256*c,1,none⟩))=some ap:=by rw [Z03 (rA K7 t7)]; rfl
  have mgK7:=Z0C (rG K7 t7)
  obtain ⟨e0,w,M0,M1,k1,T1,T2,T3⟩:=tail5 s ao ap bo bp x1 x2 y1 y2 n na Gl A Pa B Pb K7 (c7+1) (256*c+1) (256*c+3) xb yb hn ka kb qO qO qO qO (rB K7 t7) (rG K7 t7) ⟨_,_,fx7⟩ ⟨_,_,fy7⟩ ((hs.same s7).mono qO) ((h1.same s7).mono qO) ((h2.same s7).mono qO) ((h3.same s7).mono qO) ((h4.same s7).mono qO) (X7.1.mono qO) (X7.2.1.mono qO) (Y7.1.mono qO) (Y7.2.1.mono qO)
  by_cases he0:e0=0
  case neg =>
   repeat' (first | ((with_reducible first | refine Ans.bz ?_ | refine Ans.r1 ?_ | refine Ans.pkT ?_ | refine Ans.pkF ?_); try dsimp only [v_zero,v_succ]) | (with_reducible first | refine Ans.btL ?_ | refine Ans.bfL ?_ | refine Ans.gyT ?_ | refine Ans.gyF ?_ | refine Ans.gyG ?_ | refine Ans.bb ?_ | refine Ans.bc ?_ | refine Ans.ba ?_) | ((with_reducible first | refine Ans.grT ?_ ?_ | refine Ans.eqT ?_ ?_ | refine Ans.neT ?_ ?_); (focus omega)) | ((with_reducible first | refine Ans.grF ?_ ?_ | refine Ans.eqF ?_ ?_ | refine Ans.neF ?_ ?_); (focus omega)) | (with_reducible first | refine Ans.lsS (fun _=>?_) (fun _=>?_) | refine Ans.leS (fun _=>?_) (fun _=>?_) | refine Ans.grS (fun _=>?_) (fun _=>?_) | refine Ans.geS (fun _=>?_) (fun _=>?_) | refine Ans.eqS (fun _=>?_) (fun _=>?_) | refine Ans.neS (fun _=>?_) (fun _=>?_)) | ((with_reducible first | refine Ans.ct ?_ ?_); (focus (simp (disch:=(first | omega | with_reducible assumption | (simp <;> omega) | fail)) [qa,qb,a1,hxb,a2,qa1,qb1,b1,hub,b2,qa2,d1,hyb,d2,qa3,e1,hvb,e2,k0,lx,lu,ly,lv,m1,m2,qb4,qc4,f1,hzb,f2,lx5,qc5,g1,hjb,g2,qa6,lz6,i3,hkb,i4,lj7,li7,m7,lgK7,ls,maK7,mbK7,mgK7,T1,T2]; done))) | ((with_reducible first | refine Ans.cf ?_ ?_); (focus (simp (disch:=(first | omega | with_reducible assumption | (simp <;> omega) | fail)) [qa,qb,a1,hxb,a2,qa1,qb1,b1,hub,b2,qa2,d1,hyb,d2,qa3,e1,hvb,e2,k0,lx,lu,ly,lv,m1,m2,qb4,qc4,f1,hzb,f2,lx5,qc5,g1,hjb,g2,qa6,lz6,i3,hkb,i4,lj7,li7,m7,lgK7,ls,maK7,mbK7,mgK7,T1,T2]; done))) | (refine Ans.step (by simp (disch:=(first | omega | with_reducible assumption | (simp <;> omega) | fail)) [qa,qb,a1,hxb,a2,qa1,qb1,b1,hub,b2,qa2,d1,hyb,d2,qa3,e1,hvb,e2,k0,lx,lu,ly,lv,m1,m2,qb4,qc4,f1,hzb,f2,lx5,qc5,g1,hjb,g2,qa6,lz6,i3,hkb,i4,lj7,li7,m7,lgK7,ls,maK7,mbK7,mgK7,T1,T2,-List.getD_eq_getElem?_getD] <;> rfl) ?_; try dsimp only [v_zero,v_succ]) | fail)
   all_goals exact .done ⟨rfl,rfl⟩
  obtain ⟨R1,R2,R3,e9,u,M3,M2,k2,R4,R5,R6,R7,R8,R9,R10,R11,R12⟩:=T3 he0
  subst he0
  repeat' (first | ((with_reducible first | refine Ans.bz ?_ | refine Ans.r1 ?_ | refine Ans.pkT ?_ | refine Ans.pkF ?_); try dsimp only [v_zero,v_succ]) | (with_reducible first | refine Ans.btL ?_ | refine Ans.bfL ?_ | refine Ans.gyT ?_ | refine Ans.gyF ?_ | refine Ans.gyG ?_ | refine Ans.bb ?_ | refine Ans.bc ?_ | refine Ans.ba ?_) | ((with_reducible first | refine Ans.grT ?_ ?_ | refine Ans.eqT ?_ ?_ | refine Ans.neT ?_ ?_); (focus omega)) | ((with_reducible first | refine Ans.grF ?_ ?_ | refine Ans.eqF ?_ ?_ | refine Ans.neF ?_ ?_); (focus omega)) | (with_reducible first | refine Ans.lsS (fun _=>?_) (fun _=>?_) | refine Ans.leS (fun _=>?_) (fun _=>?_) | refine Ans.grS (fun _=>?_) (fun _=>?_) | refine Ans.geS (fun _=>?_) (fun _=>?_) | refine Ans.eqS (fun _=>?_) (fun _=>?_) | refine Ans.neS (fun _=>?_) (fun _=>?_)) | ((with_reducible first | refine Ans.ct ?_ ?_); (focus (simp (disch:=(first | omega | with_reducible assumption | (simp <;> omega) | fail)) [qa,qb,a1,hxb,a2,qa1,qb1,b1,hub,b2,qa2,d1,hyb,d2,qa3,e1,hvb,e2,k0,lx,lu,ly,lv,m1,m2,qb4,qc4,f1,hzb,f2,lx5,qc5,g1,hjb,g2,qa6,lz6,i3,hkb,i4,lj7,li7,m7,lgK7,ls,maK7,mbK7,mgK7,T1,T2,R1,R2,R3,R4,R5,R6,R7,R8,R9,R10,R11,R12]; done))) | ((with_reducible first | refine Ans.cf ?_ ?_); (focus (simp (disch:=(first | omega | with_reducible assumption | (simp <;> omega) | fail)) [qa,qb,a1,hxb,a2,qa1,qb1,b1,hub,b2,qa2,d1,hyb,d2,qa3,e1,hvb,e2,k0,lx,lu,ly,lv,m1,m2,qb4,qc4,f1,hzb,f2,lx5,qc5,g1,hjb,g2,qa6,lz6,i3,hkb,i4,lj7,li7,m7,lgK7,ls,maK7,mbK7,mgK7,T1,T2,R1,R2,R3,R4,R5,R6,R7,R8,R9,R10,R11,R12]; done))) | (refine Ans.step (by simp (disch:=(first | omega | with_reducible assumption | (simp <;> omega) | fail)) [qa,qb,a1,hxb,a2,qa1,qb1,b1,hub,b2,qa2,d1,hyb,d2,qa3,e1,hvb,e2,k0,lx,lu,ly,lv,m1,m2,qb4,qc4,f1,hzb,f2,lx5,qc5,g1,hjb,g2,qa6,lz6,i3,hkb,i4,lj7,li7,m7,lgK7,ls,maK7,mbK7,mgK7,T1,T2,R1,R2,R3,R4,R5,R6,R7,R8,R9,R10,R11,R12,-List.getD_eq_getElem?_getD] <;> rfl) ?_; try dsimp only [v_zero,v_succ]) | fail)
  all_goals exact .done ⟨rfl,rfl⟩
end Go.Proofs.Ytemkjcpfgmbibaa

namespace Go.Ab
open Go Go.ChangeShapes Go.RowKit
variable {P:Program}
theorem ZdA {W:World} {base:Nat} {t:TypeId} {fs:Array Field} {v:Value} {ts:List TypeId} (ht:P.underlying t=some (.struct fs)) (hts:P.cellTypes P.depth t=some ts) (hval:Value.okWide P W .any base t v) :
 ∃ cs,v = .agg cs/\cs.size=P.cellsOf t /\ ∀ i x,cs[i]? = some x -> ∃ u,ts[i % ts.length]? = some u/\Cell.okWide P W .any base u x:=by
 unfold Value.okWide at hval
 rw [ht] at hval
 obtain ⟨cs,rfl,h1,ts',h2,_,h3⟩:=hval
 rw [hts] at h2
 cases h2
 exact ⟨cs,rfl,h1,h3⟩
theorem ZmB {H:Type} {enc:TypeId × Value->H} {W:World} {base:Nat} {tG tS e:TypeId} {sz:Nat} {v:Value} {f0:Field} {d:DataW H} {ps:List MemPlace} (ht:P.underlying tG=some (.struct #[f0])) (hts:P.cellTypes P.depth tG=some [tS]) (hc:P.cellsOf tG=1)
 (hS:P.underlying tS=some (.slice e)) (h0:f0.type=tS) (o0:f0.offset=0) (hcS:P.cellsOf tS=1) (hf:Z3J P e sz) (hz:0<sz) (hval:Value.okWide P W .any base tG v) (hd:DataW.Trod enc P W 0 (fun _=>true) true tG v d ps) :
 ∃ s n Gl,v = .agg #[s]/\Z3w W s sz n Gl:=by
 obtain ⟨cs,rfl,h1,h2⟩:=ZdA ht hts hval
 rw [hc] at h1
 have hcs:∃ s,cs = #[s]:=by
  obtain ⟨l⟩:=cs
  match l,h1 with
  | [s],_=>exact ⟨s,rfl⟩
 match hcs with
 | ⟨s,hs⟩ =>
  subst hs
  obtain ⟨u,hu,hok⟩:=h2 0 s rfl
  simp at hu
  subst hu
  obtain ⟨fuel,hd⟩:=hd
  obtain ⟨y0,n,_,_,h3⟩:=trod_struct1 ht hd
  rw [h0,o0,hcS] at h3
  obtain ⟨n,Gl,ho⟩:=Z8n hS hf hz hok (fuel:=n) (x:=y0) (by simpa [Value.cells] using h3)
  exact ⟨s,n,Gl,rfl,ho⟩
theorem ZmA {H:Type} {enc:TypeId × Value->H} {W:World} {base:Nat} {tG tS tT e e':TypeId} {sz sz':Nat} {v:Value} {f0 f1:Field} {d:DataW H} {ps:List MemPlace} (ht:P.underlying tG=some (.struct #[f0,f1])) (hts:P.cellTypes P.depth tG=some [tS,tT]) (hc:P.cellsOf tG=2)
 (hS:P.underlying tS=some (.slice e)) (hT:P.underlying tT=some (.slice e')) (h0:f0.type=tS) (o0:f0.offset=0) (k1:f1.type=tT) (o1:f1.offset=1) (hcS:P.cellsOf tS=1) (hcT:P.cellsOf tT=1) (hf:Z3J P e sz) (hz:0<sz) (hf':Z3J P e' sz') (hz':0<sz')
 (hval:Value.okWide P W .any base tG v) (hd:DataW.Trod enc P W 0 (fun _=>true) true tG v d ps) :
 ∃ s s' n n' Gl Gl',v = .agg #[s,s']/\Z3w W s sz n Gl/\Z3w W s' sz' n' Gl':=by
 obtain ⟨cs,rfl,h1,h2⟩:=ZdA ht hts hval
 rw [hc] at h1
 have hcs:∃ s s',cs = #[s,s']:=by
  obtain ⟨l⟩:=cs
  match l,h1 with
  | [s,s'],_=>exact ⟨s,s',rfl⟩
 match hcs with
 | ⟨s,s',hs⟩ =>
  subst hs
  obtain ⟨u,hu,hok⟩:=h2 0 s rfl
  simp at hu
  subst hu
  obtain ⟨u,hu,hok'⟩:=h2 1 s' rfl
  simp at hu
  subst hu
  obtain ⟨fuel,hd⟩:=hd
  obtain ⟨y0,y1,n,_,_,h3,h4⟩:=trod_struct2 ht hd
  rw [h0,o0,hcS] at h3
  rw [k1,o1,hcT] at h4
  obtain ⟨n,Gl,ho⟩:=Z8n hS hf hz hok (fuel:=n) (x:=y0) (by simpa [Value.cells] using h3)
  obtain ⟨n',Gl',ho'⟩:=Z8n hT hf' hz' hok' (x:=y1) (by simpa [Value.cells] using h4)
  exact ⟨s,s',n,n',Gl,Gl',rfl,ho,ho'⟩
theorem ZiD {W:World} (l:List (Value × Nat × Nat × List Int)) (hl:l.length<=256) (h:∀ (k:Nat) (p:Value × Nat × Nat × List Int),l[k]? = some p->Z3w W p.1 p.2.1 p.2.2.1 p.2.2.2) :
 ∃ (A:FH) (μ:Mu),R μ A W/\Z1C μ 1/\(∀ i m,μ i=some m->wrB (HeapC.get A i)=false) /\ ∀ (k:Nat) (p:Value × Nat × Nat × List Int),l[k]? = some p->SlI A 1 (ZnT k p.1) p.2.1 p.2.2.1 p.2.2.2/\VR μ (ZnT k p.1) p.1:=by
 let blk:Nat->Option ABlk:=fun i=>(l[i]?).bind fun p=>(ZnO p.1).map fun _=>.cells true none (ints p.2.2.2)
 let mu:Mu:=fun i=>(l[i]?).bind fun p=>ZnO p.1
 have key:∀ i m,mu i=some m -> ∃ p,l[i]? = some p/\ZnO p.1=some m/\blk i=some (.cells true none (ints p.2.2.2)):=by
  intro i m e
  cases hp:l[i]? with
  | none=>simp only [mu,hp] at e; cases e
  | some p =>
   simp only [mu,hp,Option.bind_some] at e
   exact ⟨p,rfl,e,by simp only [blk,hp,Option.bind_some,e,Option.map_some]⟩
 refine ⟨⟨blk⟩,mu,⟨fun i m e=>?_,fun i j mi mj ei ej hne di dj hro=>?_,fun i m e=>?_⟩,fun i hi=>?_,fun i m e=>?_,fun k p hp=>?_⟩
 · obtain ⟨p,h1,h2,h3⟩:=key i m e
   have:=((h i p h1).blk (μ:=mu) h2).1
   show Z6g mu m W.heap (blk i)
   rw [h3]; exact this
 · obtain ⟨p,h1,h2,h3⟩:=key i mi ei
   obtain ⟨q,g1,g2,g3⟩:=key j mj ej
   exact absurd (show roB (blk i)=true/\roB (blk j)=true by rw [h3,g3]; exact ⟨rfl,rfl⟩) hro
 · obtain ⟨p,h1,h2,h3⟩:=key i m e
   exact ((h i p h1).blk (μ:=mu) h2).2
 · have:l[i]? = none:=List.getElem?_eq_none qO
   simp only [mu,this]; rfl
 · obtain ⟨p,h1,h2,h3⟩:=key i m e
   show wrB (blk i)=false
   rw [h3]; rfl
 · have hk:k<l.length:=(List.getElem?_eq_some_iff.1 hp).1
   refine ⟨(h k p hp).sl qO (fun m hm=>?_),(h k p hp).vr (fun m hm=>?_)⟩
   · show blk k=_
     simp only [blk,hp,Option.bind_some,hm,Option.map_some]
   · simp only [mu,hp,Option.bind_some,hm]
theorem VR.agg1 {μ:Mu} {a b:Value} (h:VR μ a b):VR μ (.agg #[a]) (.agg #[b]):=VR.agg_iff.2 (VRs.cons h (VRs.nil _))
theorem VR.agg2 {μ:Mu} {a b a' b':Value} (h:VR μ a b) (h':VR μ a' b'):VR μ (.agg #[a,a']) (.agg #[b,b']):=VR.agg_iff.2 (VRs.cons h (VRs.cons h' (VRs.nil _)))
def Zme (W:World) (e:Ending) (W':World):Prop:=e = .returned (.bool true)/\Below W.heap.size W W'
end Go.Ab

namespace Go.Ab
open Go Go.ChangeShapes Go.RowKit
end Go.Ab

namespace Go.Ab
open Go Go.ChangeShapes Go.RowKit
def SlC (h:FH) (s:Value) (sz n:Nat) (L:List Int):Prop:=Z0W h sz s=some (ints L,n)
theorem Z3w.slc {W:World} {v:Value} {sz n:Nat} {Gl:List Int} (h:Z3w W v sz n Gl) {A:FH} {i:Nat} (ha:∀ m,ZnO v=some m->A.f i=some (.cells true none (ints Gl))):SlC A (ZnT i v) sz n Gl:=by
 obtain ⟨h1,h2,⟨rfl,rfl⟩ | ⟨b,o,cap,C,E,fr,rfl,g1,_,_⟩⟩:=h
 · have:Gl=[]:=List.eq_nil_of_length_eq_zero qO
   subst this
   rfl
 · have hg:HeapC.get A i=some (.cells true none (ints Gl)):=ha _ rfl
   have hb:Nat.ble (0+n*sz) (ints Gl).length=true:=Nat.ble_eq_true_of_le (by simp [h1])
   simp only [SlC,ZnT,Z0W,Z17,Z0r,hg,Option.bind_some,hb,cond_true,List.drop_zero]
   rw [List.take_of_length_le (by simp [h1])]
theorem SlI.slc {h:FH} {c:Nat} {s:Value} {sz n:Nat} {L:List Int} (hs:SlI h c s sz n L) (hn:0<n) (hz:0<sz):SlC h s sz n L:=by
 obtain ⟨g1,g2,a,cap,rfl,h4⟩:=hs
 rcases h4 with ⟨e,hv⟩ | ⟨b,o,cs,rfl,e2,⟨ro,op,e3⟩,e4⟩
 · omega
 · have hl:(ints L).length=n*sz:=by simp [g1]
   have h0:0<n*sz:=Nat.mul_pos hn hz
   have hle:o+n*sz<=cs.length:=by
    rw [← e4,List.length_take,List.length_drop] at hl
    omega
   have hb:Nat.ble (o+n*sz) cs.length=true:=Nat.ble_eq_true_of_le hle
   have hg:HeapC.get h b=some (.cells ro op cs):=e3
   simp only [SlC,Z0W,Z17,Z0r,hg,Option.bind_some,hb,cond_true,e4]
end Go.Ab

namespace Go.Ab
open Go Go.ChangeShapes Go.RowKit
end Go.Ab

namespace Go.Proofs.Ytemkjcpfgmbibaa
open Go.ChangeShapes Go.WideShapes Go.ChangeAt Go.RowKit
open Go Go.Ab Go.Proofs
theorem Try.own:ownKnob Try.prog.godebug=none:=by kernel_rfl
theorem Try.laidOut:laidOutB Try.prog=true:=by kernel_rfl
theorem ZcH:Z3J P 3 1:=Z3J.int Try.underlying3 (by kernel_rfl)
theorem Zew:Z3J P 67 4:=Z3J.array (n:=4) (z:=1) Try.underlying67 ZcH (by kernel_rfl)
theorem ZkA:Z3J P 72 5:=Z3J.struct2 (z0:=1) (z1:=4) Try.underlying72 ZcH Zew rfl rfl (by kernel_rfl)
theorem ZmT:Z3J P 73 20:=Z3J.array (n:=4) (z:=5) Try.underlying73 ZkA (by kernel_rfl)
theorem Zcy {H:Type} {enc:TypeId × Value->H} {W:World} {base:Nat} {v:Value} {d:DataW H} {ps:List MemPlace} (hval:Value.okWide P W .any base 24 v) (hd:DataW.Trod enc P W 0 (fun _=>true) true 24 v d ps) :
 ∃ s n Gl,v = .agg #[s]/\Z3w W s 20 n Gl :=
 ZmB Try.underlying24 (by kernel_rfl) (by kernel_rfl) Try.underlying22 rfl rfl (by kernel_rfl) ZmT qO hval hd
theorem Zap {H:Type} {enc:TypeId × Value->H} {W:World} {base:Nat} {v:Value} {d:DataW H} {ps:List MemPlace} (hval:Value.okWide P W .any base 36 v) (hd:DataW.Trod enc P W 0 (fun _=>true) true 36 v d ps) :
 ∃ s s' n n' Gl Gl',v = .agg #[s,s']/\Z3w W s 1 n Gl/\Z3w W s' 4 n' Gl' :=
 ZmA Try.underlying36 (by kernel_rfl) (by kernel_rfl) Try.underlying33 Try.underlying34 rfl rfl rfl rfl (by kernel_rfl) (by kernel_rfl) ZcH qO Zew qO hval hd
theorem Zhh {f:FuncId} {W:World} {A:FH} {μ:Mu} {xs ys:List Value} (hR:R μ A W) (hf:Z1C μ 1) (hro:∀ i m,μ i=some m->wrB (HeapC.get A i)=false) (hv:VRs μ xs ys) (h:Ans (G (.fn f) xs A 1 []) fun x=>x.e = .ret/\x.vs=[.bool true]) :
 Calls P f ys.toArray W (Zme W):=by
 obtain ⟨x,hx,he,hvs⟩:=h
 refine (Z51 Zgy ext_ok Zfg hx hv hR hf).mono ?_
 rintro en w' ⟨u,v',μ',h1,h2,h3,hE⟩
 rw [hvs] at h1
 cases h1
 exact ⟨by rw [h2,h3.bool_left],hE.os,hE.tape,hE.output,hE.size,fun k hk=>hE.fr k hk (fun i m e hw=>by rw [hro i m e] at hw; cases hw)⟩
end Go.Proofs.Ytemkjcpfgmbibaa
