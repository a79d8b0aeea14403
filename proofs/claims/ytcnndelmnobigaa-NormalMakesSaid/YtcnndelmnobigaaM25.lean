/- Parts of a proof: H11 P3 P4 H12 H13 H1 H2 C5 X2 G1 H14 AbRow4. Conditions: none. -/
import Derived.Test.YtcnndelmnobigaaM24
import Derived.Test.YtcnndelmnobigaaM23
import Derived.Test.YtcnndelmnobigaaM14
import Derived.Test.YtcnndelmnobigaaM15
import Derived.Test.YtcnndelmnobigaaM16
import Derived.Test.YtcnndelmnobigaaM22
import Derived.Test.YtcnndelmnobigaaM21
set_option linter.all false
set_option maxRecDepth 100000
namespace Go.Proofs.Ytcnndelmnobigaa
open Go Go.Ab Go.Proofs
def Z8u (Gl:List Int) (n:Nat) (Qd:List Int):Option (List Int):=ZeD Gl false n (vxF Gl n) (fill0 Qd n) (List.replicate (4*n) false)
def ZbR (Gl:List Int) (n:Nat) (Qd:List Int):Int :=
 if Z7p Gl n=0 then (if qOk Qd n=true then (match Z8u Gl n Qd with | some X=>if Z1h Gl n X=true then 0 else 3 | none=>3) else 1) else Z7p Gl n
set_option maxHeartbeats 2000000 in
theorem Zo7 (s q:Value) (n nq:Nat) (Gl Qd:List Int) (h:FH) (c:Nat) (df:List Nat) (hs:SlI h c s 20 n Gl) (hn:n<=6) (hq:SlI h c q 1 nq Qd) (hnq:nq<=1000000) :
 Ans (G (.fn 37) [.agg #[s],q] h c df) fun r=>r.e = .ret/\r.df=[]/\c<=r.c/\Z0u c h r.h ∧
  ((ZbR Gl n Qd ≠ 0/\r.vs=[.tuple #[.slice none 0 0,.int .i64 (ZbR Gl n Qd)]]) ∨
   (ZbR Gl n Qd=0 /\ ∃ rb X,Z8u Gl n Qd=some X/\r.vs=[.tuple #[.slice (some ⟨rb,0,none⟩) (7*n) (7*n),.int .i64 0]]/\X.length=7*n/\rb<256*r.c/\r.h.f rb=some (.cells false none (ints X)))):=by
 refine Ans.call' (fun r e=>f37_go e) ?_
 unfold Zrp
 rw [Z4s hs.flat,Z4m,Nat.add_zero]
 simp only [cond_true]
 have hQl:Qd.length=nq:=hq.1.trans (Nat.mul_one _)
 obtain ⟨H,hH⟩:∃ H,newB h (256*c) [s]=H:=⟨_,rfl⟩
 have sH:Z0u c h H:=by rw [← hH]; simp (disch:=omega)
 have hg:Z09 H (256*c) [s]:=by rw [← hH]; exact Z09.newB_same _ _ _
 have l0:ldN H 1 (.pointer (some ⟨256*c,0,none⟩))=some (.agg #[s]):=Z0p hg
 have l1:ld1 H (.pointer (some ⟨256*c,0,none⟩))=some s:=by rw [Z01 hg]; rfl
 have ll:=hs.len
 have lq:=hq.len
 have cr:=fun c' (hc:c<=c')=>Z05 (Zdb s n Gl H c' [] ((hs.same sH).mono hc))
 unfold ZbR
 by_cases h0:Z7p Gl n=0
 case neg =>
  rw [if_neg h0]
  obtain ⟨E,hE⟩:∃ E,Z7p Gl n=E:=⟨_,rfl⟩
  rw [hE] at cr h0 ⊢
  have fx:=ai hH (ai l0 cr)
  refine Ans.go ?_
  clear fx
  exact .done ⟨rfl,rfl,(by show c<=c+1+1+1+1; omega),sH,.inl ⟨h0,rfl⟩⟩
 obtain ⟨hn6,hok⟩:=Z1f h0
 rw [if_pos h0]
 rw [h0] at cr
 by_cases e1:nq=3*n
 case neg =>
  have hz:qOk Qd n=false:=by
   unfold qOk
   rw [decide_eq_false qO]; rfl
  rw [hz,if_neg (by simp)]
  have e1':¬ (nq:Int)=3*(n:Int):=by omega
  have fx:=ai hH (ai l0 (ai cr (ai lq (ai l1 ll))))
  refine Ans.go ?_
  clear fx
  exact .done ⟨rfl,rfl,(by show c<=_; simp only; omega),sH,.inl ⟨by decide,rfl⟩⟩
 subst e1
 have e1':((3*n:Nat):Int)=3*(n:Int):=by omega
 obtain ⟨⟨re,rv,rh,rc,rd⟩,hr,r1,r2,r3,r4⟩:=Zo3 q n Qd (256*c) (c+1+1+1+1+1+1) H [] hn6 ((hq.same sH).mono qO) qO n 0 qO
 simp only at r1 r2 r3 r4
 subst r1 r2 r3
 simp only [Int.ofNat_eq_natCast,Int.cast_ofNat_Int] at hr
 rcases r4 with ⟨rfl,rfl,r5⟩ | ⟨rfl,r5,r6,r7⟩
 case inr =>
  have hz:qOk Qd n=false:=by
   rw [Bool.eq_false_iff]
   intro hc
   unfold qOk at hc
   simp only [Bool.and_eq_true,decide_eq_true_eq,List.all_eq_true] at hc
   rcases r7 with ⟨u,u1,u2⟩ | ⟨j,j1,j2⟩
   · have:=hc.2 u (by simpa using u1)
     rw [u2] at this; cases this
   · have:=Z47.1 hc.1.2 j qO
     rw [Z1y] at this
     exact j2 this
  rw [hz,if_neg (by simp)]
  have fx:=ai hH (ai l0 (ai cr (ai lq (ai l1 (ai ll (ai hr (ai r5 r6)))))))
  refine Ans.go ?_
  clear fx
  exact .done ⟨rfl,rfl,(by show c<=_; simp only; omega),sH,.inl ⟨by decide,(by show [Value.tuple #[_,_]]=_; rw [r5,r6])⟩⟩
 have hb:Z0x Qd=true:=Z47.2 fun j hj=>by
  rw [Z1y]
  have:=(r5 (j / 3) qO qO).2 (j % 3) qO
  rw [show 3*(j / 3)+j % 3=j by omega] at this
  exact this
 have hz:qOk Qd n=true:=by
  unfold qOk
  simp only [Bool.and_eq_true,decide_eq_true_eq,List.all_eq_true]
  exact ⟨⟨hQl,hb⟩,fun t ht=>(r5 t qO (by simpa using ht)).1⟩
 rw [hz,if_pos rfl]
 have hXl:=Z1W hQl
 have hXb:=Z4g hQl (fun j=>Z46 hb j)
 have mk:=Z5m 1 8 .i64 .i64 (7*n) qO qO
 rw [show ((7*n:Nat):Int)=7*(n:Int) by omega] at mk
 have mb:=ZgI 1 1 .i64 .i64 (4*n) qO qO
 rw [show ((4*n:Nat):Int)=4*(n:Int) by omega] at mb
 obtain ⟨rb,hrb⟩:∃ rb,256*(c+1+1+1+1+1+1)+2=rb:=⟨_,rfl⟩
 obtain ⟨kb,hkb⟩:∃ kb,256*(c+1+1+1+1+1+1+1)+2=kb:=⟨_,rfl⟩
 obtain ⟨H1,hH1⟩:∃ H1,newB rh rb (ints (List.replicate (7*n) 0))=H1:=⟨_,rfl⟩
 obtain ⟨H2,hH2⟩:∃ H2,newB H1 kb (bools (List.replicate (4*n) false))=H2:=⟨_,rfl⟩
 have f2:∀ b,b ≠ rb->b ≠ kb->H2.f b=rh.f b:=fun b h1 h2=>by rw [← hH2,Z08,if_neg h2,← hH1,Z08,if_neg h1]
 have f2r:H2.f rb=some (.cells false none (ints (List.replicate (7*n) 0))):=by rw [← hH2,Z08,if_neg qO,← hH1,Z08,if_pos rfl]
 have f2k:H2.f kb=some (.cells false none (bools (List.replicate (4*n) false))):=by rw [← hH2,Z08,if_pos rfl]
 have s2:Z0u c h H2:=fun b hb=>by rw [f2 b qO qO,sH b hb]
 have g2:Z09 H2 (256*c) [s]:=hg.eqf (f2 _ qO qO)
 have l2:ldN H2 1 (.pointer (some ⟨256*c,0,none⟩))=some (.agg #[s]):=Z0p g2
 obtain ⟨⟨re,rv,H3,k1,rd⟩,w1,lb,q1,q2,q3,q4,q5,q6⟩:=Zag s n Gl H2 (c+1+1+1+1+1+1+1+1+1) [] ((hs.same s2).mono qO) hok hn6
 obtain ⟨rfl,rfl,-,-,rfl⟩:=Rt.mk.inj q1
 simp only at q2 q3 q4 q5 q6
 obtain ⟨hd,-⟩:=Z5f hok hs.1
 have hdG:Z2I (vxG Gl n) (4*n):=Zdq hok hs.1 qO (Z0O _)
 rw [ZbI hdG (fun k hk=>Zgt hok hs.1 hk)] at q6
 have cE:callF G 62 [.agg #[s]] H2 (c+1+1+1+1+1+1+1+1+1)=some (.slice (some ⟨lb,0,none⟩) (4*n) (4*n),H3,k1):=Z05 w1
 have s3:Z0u c h H3:=s2.trans (q3.mono qO)
 have g3:Z09 H3 (256*c) [s]:=g2.eqf (q3 _ qO)
 have f3r:H3.f rb=some (.cells false none (ints (List.replicate (7*n) 0))):=by rw [q3 _ qO,f2r]
 have f3k:H3.f kb=some (.cells false none (bools (List.replicate (4*n) false))):=by rw [q3 _ qO,f2k]
 have hself:HeapC.set H3 rb (.cells false none (ints (List.replicate (7*n) 0)))=H3:=by
  apply FH.ext; intro b
  rw [Z0g]
  split
  · rename_i e; rw [e,f3r]
  · rfl
 have finA:∀ (X:List Int),Z8u Gl n Qd=some X -> ∀ (H5:FH) (k5:Nat),Z0u c h H5->k1<=k5->H5.f rb=some (.cells false none (ints X))->X.length=7*n -> ∀ c',k5<=c'->callF G 61 [.agg #[s],.slice (some ⟨rb,0,none⟩) (7*n) (7*n)] H5 c'=some (.bool (Z1h Gl n X),H5,c'):=fun X _ H5 k5 s5 hk e hX c' hc'=>Z05 (Zqa s (.slice (some ⟨rb,0,none⟩) (7*n) (7*n)) n (7*n) Gl X H5 c' [] ((hs.same s5).mono qO) (Z60 e hX qO qO) qO h0)
 have hvb:0<n->Z0l q ≠ rb:=fun hp=>by have:=hq.blk qO; omega
 obtain ⟨Y,y1,y2,hcp⟩:∃ Y,Y.length=7*n/\QI Qd n 0 Y/\Ans (G (Z99 none) [q,ptrTo (256*c),.int .i64 n,.slice (some ⟨rb,0,none⟩) (7*n) (7*n),.slice (some ⟨kb,0,none⟩) (4*n) (4*n),.slice (some ⟨lb,0,none⟩) (4*n) (4*n),.int .i64 (0:Nat)] H3 (k1+1) []) fun z=>z=⟨.exit 4,[q,ptrTo (256*c),.int .i64 n,.slice (some ⟨rb,0,none⟩) (7*n) (7*n),.slice (some ⟨kb,0,none⟩) (4*n) (4*n),.slice (some ⟨lb,0,none⟩) (4*n) (4*n),.int .i64 n],HeapC.set H3 rb (.cells false none (ints Y)),k1+1,[]⟩:=by
  rcases Nat.eq_zero_or_pos n with hz0 | hp
  · subst hz0
    refine ⟨List.replicate (7*0) 0,by simp,⟨fun u j hj=>by rw [if_neg qO,Z6z],fun w=>Z6z _ _⟩, ?_⟩
    have oq:=((hq.same s3).mono (by omega:c<=k1+1)).okV
    have o2:256*c<256*(k1+1):=by omega
    have o3:rb<256*(k1+1):=by omega
    have o4:kb<256*(k1+1):=by omega
    have o5:lb<256*(k1+1):=by omega
    rw [hself]
    refine Ans.lpG rfl rfl (Z5M ..) ?_
    unfold Z6M
    have fx:=True.intro
    refine Ans.go ?_
    clear fx
    (have fx:=ai oq (ai o2 (ai o3 (ai o4 o5))); refine Ans.ex0 ?_; clear fx)
    rfl
  · obtain ⟨z,hz1,Y,y1,y2,rfl⟩:=Zo2 H3 q n Qd (256*c) rb (k1+1) (.slice (some ⟨kb,0,none⟩) (4*n) (4*n)) (.slice (some ⟨lb,0,none⟩) (4*n) (4*n)) [] hn6 ((hq.same s3).mono qO) (hvb hp) qO qO (OkV.sl qO) (OkV.sl qO) n 0 (List.replicate (7*n) 0) qO (by simp) ⟨fun u j hj=>by rw [if_neg qO,Z6z],fun w=>Z6z _ _⟩
    rw [hself] at hz1
    exact ⟨Y,y1,y2,_,hz1,rfl⟩
 obtain rfl:=y2.fill0 hQl y1
 have hcp:=Ans.eq hcp
 obtain ⟨H4,hH4⟩:∃ H4,HeapC.set H3 rb (.cells false none (ints (fill0 Qd n)))=H4:=⟨_,rfl⟩
 rw [hH4] at hcp
 have f4:∀ b,b ≠ rb->H4.f b=H3.f b:=fun b hb=>by rw [← hH4,Z0g,if_neg hb]
 have f4r:H4.f rb=some (.cells false none (ints (fill0 Qd n))):=by rw [← hH4,Z0g,if_pos rfl]
 have hFl:(vxF Gl n).length<=4*n:=Z4f _ _
 obtain ⟨⟨re,rv,H5,k5,rd⟩,hr6,p1,p2,p3,p4,X,j,p5,p6,p7,p8⟩:=Zob s n Gl (256*c) rb kb lb (k1+1) [] hn hok qO qO qO qO qO qO qO qO qO (fun hp=>by have:=hs.blk hp; exact ⟨by omega,by omega⟩)
  (vxF Gl n).length 0 (k1+1+1) H4 (fill0 Qd n) (List.replicate (4*n) false) 1000000 qO qO (g3.eqf (f4 _ qO)) ((hs.keep fun hp=>by rw [f4 _ (by have:=hs.blk hp; omega),s3 _ (hs.blk hp)]).mono qO) (by rw [f4 _ qO,q6]) f4r (by rw [f4 _ qO,f3k]) hXl (by simp) (fun j=>by have:=hXb j; omega) (fun t k _=>hXb _) (fun w hw _=>⟨by
   rw [List.getD_eq_getElem?_getD,List.getElem?_replicate]
   split <;> rfl,by
   have:=Z7L hQl (w / 4) (w % 4) qO
   rw [show 7*(w / 4)+w % 4=ps w by unfold ps; omega] at this
   exact this⟩) qO (pow24 qO)
 simp only at p1 p2 p3 p4 p6 p7
 subst p1 p3 p6
 rw [List.drop_zero] at p5
 have hF:Z8u Gl n Qd=some X:=p5
 have s5:Z0u c h H5:=fun b hb=>by rw [p4 b qO qO qO,f4 b qO,s3 b hb]
 have g5:Z09 H5 (256*c) [s]:=g3.eqf (by rw [p4 _ qO qO qO,f4 _ qO])
 have l5:ldN H5 1 (.pointer (some ⟨256*c,0,none⟩))=some (.agg #[s]):=Z0p g5
 have ca:=finA X hF H5 k5 s5 qO p7 p8
 simp only [Int.ofNat_eq_natCast,Int.cast_ofNat_Int] at hcp hr6
 rw [hF]
 clear finA
 cases hA:Z1h Gl n X with
 | true =>
  rw [hA] at ca
  have fx:=ai hH (ai l0 (ai cr (ai lq (ai l1 (ai ll (ai hr (ai mk (ai hrb (ai hH1 (ai mb (ai hkb (ai hH2 (ai l2 (ai cE (ai hcp (ai hr6 (ai l5 ca)))))))))))))))))
  refine Ans.go ?_
  clear fx
  exact .done ⟨rfl,rfl,(by show c<=_; simp only; omega),s5,.inr ⟨if_pos hA,rb,X,rfl,rfl,p8,by simp only; omega,p7⟩⟩
 | false =>
  rw [hA] at ca
  have fx:=ai hH (ai l0 (ai cr (ai lq (ai l1 (ai ll (ai hr (ai mk (ai hrb (ai hH1 (ai mb (ai hkb (ai hH2 (ai l2 (ai cE (ai hcp (ai hr6 (ai l5 ca)))))))))))))))))
  refine Ans.go ?_
  clear fx
  exact .done ⟨rfl,rfl,(by show c<=_; simp only; omega),s5,.inl ⟨(by show (if Z1h Gl n X=true then (0:Int) else 3) ≠ 0; rw [if_neg (by rw [hA]; simp)]; decide),(by show [Value.tuple #[_,Value.int .i64 3]]=[Value.tuple #[_,Value.int .i64 (if Z1h Gl n X=true then 0 else 3)]]; rw [if_neg (by rw [hA]; simp)])⟩⟩

structure Adm (Gl:List Int) (n:Nat) (V:List Int):Prop where
 ok:Z0t Gl n=true
 g:Gl.length=n*20
 l:V.length=7*n
 w:Z0x V=true
 q:∀ t,t<n->Z7n (Z0y V t)=true
 e:((Z43 Gl n).all fun m=>eqM V m)=true
theorem Adm.of {Gl V:List Int} {n:Nat} (hok:Z0t Gl n=true) (hG:Gl.length=n*20) (ha:Z1h Gl n V=true):Adm Gl n V:=by
 obtain ⟨h1,h2,h3,h4⟩:=Z38.1 ha
 exact ⟨hok,hG,h1,h2,h3,h4⟩
theorem Adm.b {Gl V:List Int} {n:Nat} (a:Adm Gl n V) (j:Nat):0<=V.getD j 0/\V.getD j 0<=1000000:=by
 have:=Z46 a.w (j:Int)
 rwa [Z1y] at this
theorem Adm.mc {Gl V:List Int} {n:Nat} (a:Adm Gl n V) {x:Nat} (hx:x<4*n) (e:Z02 (vxC Gl n) x=x):0<=mC (vxC Gl n) V n x/\mC (vxC Gl n) V n x<=1000000:=by
 obtain ⟨w,h1,h2,h3⟩:=ZqI (V:=V) hx e
 rw [h3]; exact a.b _
theorem Adm.root {Gl V:List Int} {n:Nat} (a:Adm Gl n V) {w:Nat} (hw:w<4*n):Z02 (vxC Gl n) w<4*n/\Z02 (vxC Gl n) (Z02 (vxC Gl n) w)=Z02 (vxC Gl n) w:=by
 obtain ⟨hd,_⟩:=Z5f a.ok a.g
 have:=Z0B hd hw
 exact ⟨by omega,Z0Y hd hw⟩
theorem Adm.rt {Gl V:List Int} {n:Nat} (a:Adm Gl n V) {w:Nat} (hw:w<4*n):0<=(Z61 Gl n V).getD (ps w) 0/\(Z61 Gl n V).getD (ps w) 0<=V.getD (ps w) 0:=by
 obtain ⟨r1,r2⟩:=a.root hw
 have:=mC_le (V:=V) hw (rfl:Z02 (vxC Gl n) w=_)
 have:=a.mc r1 r2
 rw [Zf6 a.ok a.g a.l hw]
 omega
theorem Z9L {V:List Int} {t f i:Nat} (hf:f<4) (hi:i<4) (hne:i ≠ f):Z7o V t f i=V.getD (ps (4*t+i)) 0+V.getD (7*t+4+(ty i f).toNat) 0:=by
 have r:=Z0V (i:=(i:Int)) (f:=(f:Int)) qO qO qO qO qO
 unfold Z7o gi
 rw [Zkj hi,show (7*(t:Int)+i).toNat=7*t+i by omega,show (7*(t:Int)+4+ty i f).toNat=7*t+4+(ty i f).toNat by omega]

structure BI (Gl V:List Int) (n x:Nat) (X0:List Int) (K0:List Bool) (s:FSt):Prop where
 ok:∃ B,0<=B/\FOk n s B
 rt:∀ w,w ∈ s.Q->Z02 (vxC Gl n) w=x
 kn:∀ w,w<4*n->Z02 (vxC Gl n) w=x->s.K.getD w false=true->w ∈ s.Q
 vl:∀ w,w ∈ s.Q->s.X.getD (ps w) 0=V.getD (ps w) 0-V.getD (ps x) 0
 qd:∀ t k,k<3->s.X.getD (7*t+4+k) 0=V.getD (7*t+4+k) 0
 m1:∀ w,w ∈ s.Q->s.m<=V.getD (ps w) 0-V.getD (ps x) 0
 m2:∃ w,w ∈ s.Q/\s.m=V.getD (ps w) 0-V.getD (ps x) 0
 fr:∀ w,w<4*n->Z02 (vxC Gl n) w ≠ x->s.K.getD w false=K0.getD w false/\s.X.getD (ps w) 0=X0.getD (ps w) 0
 fs:x ∈ s.Q
theorem fW_val {Gl V X:List Int} {n t f i:Nat} {d:Int} (a:Adm Gl n V) (ht:t<n) (hf:f<4) (hi:i<4) (hne:i ≠ f) (hg:¬ Z0L (Z03 Gl t f)<0)
 (h1:X.getD (ps (4*t+i)) 0=V.getD (ps (4*t+i)) 0-d) (hq:∀ t k,k<3->X.getD (7*t+4+k) 0=V.getD (7*t+4+k) 0) :
 fW Gl X t f i=V.getD (ps (fV Gl t f i)) 0-d:=by
 have g:=FGl.of a.ok a.g ht hf hi hne hg
 have e:=Zo0 a.ok a.g a.e ht hf hi hne hg
 have r1:=Z0V (i:=(i:Int)) (f:=(f:Int)) qO qO qO qO qO
 have r2:=Z0V (i:=(fJ Gl t f i:Int)) (f:=(fJ Gl t f f:Int)) qO (by have:=g.j; omega) qO (by have:=g.h; omega) (by have:=g.ne; omega)
 rw [Z9L hf hi hne,Z9L g.h g.j g.ne] at e
 unfold fW
 rw [Z9L hf hi hne,h1,hq t _ qO,gi,show (7*(fU Gl t f:Int)+4+ty (fJ Gl t f i) (fJ Gl t f f)).toNat=7*fU Gl t f+4+(ty (fJ Gl t f i) (fJ Gl t f f)).toNat by omega,hq _ _ qO]
 show _=V.getD (ps (4*fU Gl t f+fJ Gl t f i)) 0-d
 omega
theorem bstep {Gl V X0:List Int} {K0:List Bool} {n x t f i:Nat} {s:FSt} (a:Adm Gl n V) (b:BI Gl V n x X0 K0 s) (ht:t<n) (hf:f<4) (hi:i<4) (hm:4*t+i ∈ s.Q) :
 ∃ s',Z2W Gl true t i f s=some s'/\BI Gl V n x X0 K0 s'/\(∃ R,s'.Q=s.Q++R)/\(f ≠ i -> ¬ Z0L (Z03 Gl t f)<0->fV Gl t f i ∈ s'.Q):=by
 unfold Z2W
 by_cases h1:f=i ∨ Z0L (Z03 Gl t f)<0
 · rw [if_pos h1]
   exact ⟨s,rfl,b,⟨[],by simp⟩,fun q1 q2=>absurd h1 (by simp [q1,q2])⟩
 rw [if_neg h1]
 have hne:i ≠ f:=fun q=>h1 (.inl q.symm)
 have hg:¬ Z0L (Z03 Gl t f)<0:=fun q=>h1 (.inr q)
 have g:=FGl.of a.ok a.g ht hf hi hne hg
 have gr:=Z6k a.ok a.g ht hf hi hne hg
 have hw:=fW_val a ht hf hi hne hg (b.vl _ hm) b.qd
 have hr:Z02 (vxC Gl n) (fV Gl t f i)=x:=by rw [← gr]; exact b.rt _ hm
 have hv:fV Gl t f i<4*n:=by have:=g.u; have:=g.j; unfold fV; omega
 have hps:7*fU Gl t f+fJ Gl t f i=ps (fV Gl t f i):=(Zkj g.j).symm
 obtain ⟨B,hB,ok⟩:=b.ok
 by_cases hk:s.K.getD (fV Gl t f i) false=false
 · rw [if_pos hk]
   have pu:=ok.push hB ht hf hi hne g hk
   refine ⟨_,rfl, ?_,⟨_,rfl⟩,fun _ _=>by simp⟩
   rw [hps,hw] at pu ⊢
   have hlt:=ZiF hv
   have hxl:=ok.xl
   have hkl:=ok.kl
   have key:∀ w,(s.X.set (ps (fV Gl t f i)) (V.getD (ps (fV Gl t f i)) 0-V.getD (ps x) 0)).getD (ps w) 0=if w=fV Gl t f i then V.getD (ps w) 0-V.getD (ps x) 0 else s.X.getD (ps w) 0:=fun w=>by
    rw [Z0m]
    by_cases e:w=fV Gl t f i
    · rw [if_pos ⟨by rw [e],by omega⟩,if_pos e,e]
    · rw [if_neg (fun q=>e (Z4D q.1).symm),if_neg e]
   have kk:∀ w,(s.K.set (fV Gl t f i) true).getD w false=if w=fV Gl t f i then true else s.K.getD w false:=fun w=>by
    rw [Z2M]
    by_cases e:w=fV Gl t f i
    · rw [if_pos ⟨e.symm,by omega⟩,if_pos e]
    · rw [if_neg (fun q=>e q.1.symm),if_neg e]
   refine ⟨⟨_,by omega,pu⟩,fun w h=>?_,fun w h1 h2 h3=>?_,fun w h=>?_,fun t k hk=>?_,fun w h=>?_, ?_,fun w h1 h2=>?_,by simp [b.fs]⟩
   · rcases List.mem_append.1 h with h | h
     · exact b.rt w h
     · rw [List.mem_singleton.1 h]; exact hr
   · rw [kk] at h3
     by_cases e:w=fV Gl t f i
     · rw [e]; simp
     · rw [if_neg e] at h3
       exact List.mem_append_left _ (b.kn w h1 h2 h3)
   · rw [key]
     rcases List.mem_append.1 h with h | h
     · split
       · rfl
       · exact b.vl w h
     · rw [if_pos (List.mem_singleton.1 h)]
   · rw [Z0m,if_neg (fun q=>Zdd hk q.1)]
     exact b.qd t k hk
   · show min s.m _<=_
     rcases List.mem_append.1 h with h | h
     · have:=b.m1 w h; omega
     · rw [List.mem_singleton.1 h]; omega
   · show ∃ w,_/\min s.m _=_
     obtain ⟨v,v1,v2⟩:=b.m2
     rcases Int.le_total s.m (V.getD (ps (fV Gl t f i)) 0-V.getD (ps x) 0) with q | q
     · exact ⟨v,List.mem_append_left _ v1,by omega⟩
     · exact ⟨fV Gl t f i,by simp,by omega⟩
   · have e:w ≠ fV Gl t f i:=fun e=>h2 (by rw [e,hr])
     rw [kk,key,if_neg e,if_neg e]
     exact b.fr w h1 h2
 · rw [if_neg hk]
   have hk':s.K.getD (fV Gl t f i) false=true:=by simpa using hk
   have hq:=b.kn _ hv hr hk'
   rw [hps,hw,if_neg (fun q=>q.2 (b.vl _ hq))]
   exact ⟨s,rfl,b,⟨[],by simp⟩,fun _ _=>hq⟩
theorem Zq8 {Gl V X0:List Int} {K0:List Bool} {n x t i:Nat} (a:Adm Gl n V) (ht:t<n) (hi:i<4):∀ (k f:Nat) (s:FSt),f+k<=4->BI Gl V n x X0 K0 s->4*t+i ∈ s.Q →
 ∃ s',Z2i Gl true t i k f s=some s'/\BI Gl V n x X0 K0 s'/\(∃ R,s'.Q=s.Q++R) /\ ∀ g,f<=g->g<f+k->g ≠ i -> ¬ Z0L (Z03 Gl t g)<0->fV Gl t g i ∈ s'.Q
 | 0,f,s,_,b,hm=>⟨s,rfl,b,⟨[],by simp⟩,fun g h1 h2=>by omega⟩
 | k+1,f,s,hf,b,hm=>by
  obtain ⟨s1,e1,b1,⟨R1,q1⟩,n1⟩:=bstep a b ht (by omega:f<4) hi hm
  obtain ⟨s2,e2,b2,⟨R2,q2⟩,n2⟩:=Zq8 a ht hi k (f+1) s1 qO b1 (by rw [q1]; simp [hm])
  refine ⟨s2,by rw [Z2i,e1]; exact e2,b2,⟨R1++R2,by rw [q2,q1,List.append_assoc]⟩,fun g h1 h2 h3 h4=>?_⟩
  by_cases e:g=f
  · subst e
    rw [q2]
    exact List.mem_append_left _ (n1 h3 h4)
  · exact n2 g qO qO h3 h4
def NB (Gl:List Int) (Q:List Nat) (w:Nat):Prop:=∀ g,g<4->g ≠ w % 4 -> ¬ Z0L (Z03 Gl (w / 4) g)<0->fV Gl (w / 4) g (w % 4) ∈ Q
theorem bq {Gl V X0:List Int} {K0:List Bool} {n x:Nat} (a:Adm Gl n V):∀ (r k:Nat) (s:FSt),4*n<=r+k->BI Gl V n x X0 K0 s->(∀ j,j<k->j<s.Q.length->NB Gl s.Q (s.Q.getD j 0)) →
 ∃ s',fQ Gl true r k s=some s'/\BI Gl V n x X0 K0 s' /\ ∀ w,w ∈ s'.Q->NB Gl s'.Q w:=by
 have stop:∀ (k:Nat) (s:FSt),s.Q.length<=k->(∀ j,j<k->j<s.Q.length->NB Gl s.Q (s.Q.getD j 0)) -> ∀ w,w ∈ s.Q->NB Gl s.Q w:=fun k s hk h w hw=>by
  obtain ⟨j,hj,rfl⟩:=List.getElem_of_mem hw
  have:=h j qO hj
  simpa [List.getD_eq_getElem?_getD,List.getElem?_eq_getElem hj] using this
 intro r
 induction r with
 | zero =>
  intro k s hk b h
  obtain ⟨B,hB,ok⟩:=b.ok
  exact ⟨s,rfl,b,stop k s (by have:=ok.ql; omega) h⟩
 | succ r ih =>
  intro k s hk b h
  rw [fQ]
  by_cases hkq:k<s.Q.length
  case neg=>rw [if_neg hkq]; exact ⟨s,rfl,b,stop k s qO h⟩
  rw [if_pos hkq]
  obtain ⟨B,hB,ok⟩:=b.ok
  have hm:s.Q.getD k 0 ∈ s.Q:=by simp [List.getD_eq_getElem?_getD,List.getElem?_eq_getElem hkq]
  have hw:=(ok.qk _ hm).1
  obtain ⟨s1,e1,b1,⟨R,q1⟩,n1⟩:=Zq8 a (t:=s.Q.getD k 0 / 4) (i:=s.Q.getD k 0 % 4) qO qO 4 0 s qO b (by rw [show 4*(s.Q.getD k 0 / 4)+s.Q.getD k 0 % 4=s.Q.getD k 0 by omega]; exact hm)
  rw [e1]
  have hget:∀ j,j<s.Q.length->s1.Q.getD j 0=s.Q.getD j 0:=fun j hj=>by
   rw [q1,List.getD_eq_getElem?_getD,List.getD_eq_getElem?_getD,List.getElem?_append_left hj]
  refine ih (k+1) s1 qO b1 fun j hj hjl=>?_
  by_cases e:j=k
  · subst e
    rw [hget j hkq]
    exact fun g g1 g2 g3=>n1 g qO qO g2 g3
  · rw [hget j qO]
    exact fun g g1 g2 g3=>by rw [q1]; exact List.mem_append_left _ (h j qO qO g g1 g2 g3)
theorem bclass {Gl V X:List Int} {K:List Bool} {n x:Nat} {B:Int} (a:Adm Gl n V) (hx:x<4*n) (hr:Z02 (vxC Gl n) x=x) (hX:X.length=7*n) (hK:K.length=4*n) (hB:0<=B) (xb:∀ j:Nat,-B<=X.getD j 0/\X.getD j 0<=B)
 (hq:∀ t k,k<3->X.getD (7*t+4+k) 0=V.getD (7*t+4+k) 0) (hu:∀ w,w<4*n->Z02 (vxC Gl n) w=x->K.getD w false=false) (hx0:X.getD (ps x) 0=0) :
 ∃ X' K' B',Z79 Gl true n x X K=some (X',K')/\X'.length=7*n/\K'.length=4*n/\0<=B'/\(∀ j:Nat,-B'<=X'.getD j 0/\X'.getD j 0<=B')/\(∀ t k,k<3->X'.getD (7*t+4+k) 0=V.getD (7*t+4+k) 0) ∧
  (∀ w,w<4*n->Z02 (vxC Gl n) w=x->X'.getD (ps w) 0=(Z61 Gl n V).getD (ps w) 0)/\(∀ w,w<4*n->Z02 (vxC Gl n) w ≠ x->X'.getD (ps w) 0=X.getD (ps w) 0/\K'.getD w false=K.getD w false):=by
 have st:=FOk.start (first:=x) hX hK hx hB xb (fun t k hk=>by rw [hq t k hk]; exact a.b _)
 have kk:∀ w,(K.set x true).getD w false=if w=x then true else K.getD w false:=fun w=>by
  rw [Z2M]
  by_cases e:w=x
  · rw [if_pos ⟨e.symm,by omega⟩,if_pos e]
  · rw [if_neg (fun q=>e q.1.symm),if_neg e]
 have b0:BI Gl V n x X K ⟨X,K.set x true,[x],0⟩:=by
  refine ⟨⟨B,hB,st⟩,fun w h=>?_,fun w h1 h2 h3=>?_,fun w h=>?_,hq,fun w h=>?_,⟨x,by simp,by show (0:Int)=_; omega⟩,fun w h1 h2=>⟨?_,rfl⟩,by simp⟩
  · rw [List.mem_singleton.1 h,hr]
  · rw [kk] at h3
    by_cases e:w=x
    · rw [e]; simp
    · rw [if_neg e,hu w h1 h2] at h3; cases h3
  · rw [List.mem_singleton.1 h,hx0]; omega
  · rw [List.mem_singleton.1 h]; show (0:Int)<=_; omega
  · rw [kk,if_neg (fun e=>h2 (by rw [e,hr]))]
 obtain ⟨s,e,b,cl⟩:=bq a (4*n) 0 _ qO b0 (fun j hj=>by omega)
 obtain ⟨B',hB',ok⟩:=b.ok
 have all:∀ w,w<4*n->Z02 (vxC Gl n) w=x->w ∈ s.Q:=fun w hw e=>by
  refine (Zb5 (S:=fun w=>w ∈ s.Q) a.ok a.g (fun t f i ht hf hi hne hg=>?_) hx hw (by rw [hr,e])).1 b.fs
  have g:=FGl.of a.ok a.g ht hf hi hne hg
  obtain ⟨z1,z2,z3,z4,z5⟩:=Z6l a.ok a.g ht hf hi hne hg
  constructor
  · intro h
    have:=cl _ h f hf
    rw [show (4*t+i) / 4=t by omega,show (4*t+i) % 4=i by omega] at this
    exact this (fun q=>hne q.symm) hg
  · intro h
    have:=cl _ h (fJ Gl t f f) g.h
    have gj:=g.j
    unfold fV at this
    rw [show (4*fU Gl t f+fJ Gl t f i) / 4=fU Gl t f by omega,show (4*fU Gl t f+fJ Gl t f i) % 4=fJ Gl t f i by omega,z1,z3] at this
    exact this (fun q=>g.ne q.symm) z2
 have sq:=fun j=>Z4z s.m ok.nd (fun w hw=>(ok.qk w hw).1) ok.xl j
 have hm:s.m+V.getD (ps x) 0=mC (vxC Gl n) V n x:=mC_eq hx hr (fun w hw h=>by have:=b.m1 w (all w hw h); omega) (by
  obtain ⟨w,w1,w2⟩:=b.m2
  exact ⟨w,(ok.qk w w1).1,b.rt w w1,by omega⟩)
 refine ⟨Za7 s.m s.Q s.X,s.K,2*B',by rw [Z79,e]; rfl,by rw [Z2m]; exact ok.xl,ok.kl,by omega,Z4A ok,fun t k hk=>by rw [Z67 ok t k hk]; exact b.qd t k hk,fun w hw h=>?_,fun w hw h=>⟨?_,(b.fr w hw h).1⟩⟩
 · rw [(sq (ps w)).1 w (all w hw h) rfl,b.vl w (all w hw h),Zf6 a.ok a.g a.l hw,h]
   omega
 · rw [(sq (ps w)).2 (fun v hv q=>h (by rw [← Z4D q]; exact b.rt v hv))]
   exact (b.fr w hw h).2
theorem ball {Gl V:List Int} {n:Nat} (a:Adm Gl n V):∀ (F X:List Int) (K:List Bool) (B:Int),F.Nodup->(∀ y,y ∈ F -> ∃ x:Nat,y=x/\x<4*n/\Z02 (vxC Gl n) x=x)->X.length=7*n->K.length=4*n->0<=B->(∀ j:Nat,-B<=X.getD j 0/\X.getD j 0<=B) →
 (∀ t k,k<3->X.getD (7*t+4+k) 0=V.getD (7*t+4+k) 0)->(∀ w,w<4*n->((Z02 (vxC Gl n) w:Nat):Int) ∈ F->K.getD w false=false/\X.getD (ps w) 0=0) →
 ∃ X',ZeD Gl true n F X K=some X'/\X'.length=7*n/\(∀ t k,k<3->X'.getD (7*t+4+k) 0=V.getD (7*t+4+k) 0) ∧
  (∀ w,w<4*n->X'.getD (ps w) 0=if ((Z02 (vxC Gl n) w:Nat):Int) ∈ F then (Z61 Gl n V).getD (ps w) 0 else X.getD (ps w) 0)
 | [],X,K,B,_,_,hX,_,_,_,hq,_=>⟨X,rfl,hX,hq,fun w hw=>by rw [if_neg (by simp)]⟩
 | y::F,X,K,B,nd,hF,hX,hK,hB,xb,hq,hu=>by
  rw [List.nodup_cons] at nd
  obtain ⟨x,rfl,hx,hr⟩:=hF y (by simp)
  obtain ⟨X1,K1,B1,e,l1,l2,hB1,xb1,q1,v1,v2⟩:=bclass a hx hr hX hK hB xb hq (fun w hw h=>(hu w hw (by rw [h]; simp)).1) ((hu x hx (by rw [hr]; simp)).2)
  have hnx:∀ w,((Z02 (vxC Gl n) w:Nat):Int) ∈ F->Z02 (vxC Gl n) w ≠ x:=fun w h q=>nd.1 (by rw [← q]; exact h)
  obtain ⟨X2,e2,l3,q2,v3⟩:=ball a F X1 K1 B1 nd.2 (fun y hy=>hF y (by simp [hy])) l1 l2 hB1 xb1 q1 (fun w hw h=>by
   obtain ⟨z1,z2⟩:=v2 w hw (hnx w h)
   obtain ⟨z3,z4⟩:=hu w hw (by simp [h])
   exact ⟨by rw [z2,z3],by rw [z1,z4]⟩)
  refine ⟨X2,by rw [ZeD,Int.toNat_natCast,e]; exact e2,l3,q2,fun w hw=>?_⟩
  rw [v3 w hw]
  by_cases h1:((Z02 (vxC Gl n) w:Nat):Int) ∈ F
  · rw [if_pos h1,if_pos (by simp [h1])]
  · rw [if_neg h1]
    by_cases h2:Z02 (vxC Gl n) w=x
    · rw [if_pos (by rw [h2]; simp),v1 w hw h2]
    · rw [if_neg (by simp [h1]; omega),(v2 w hw h2).1]
theorem ZkP {Gl V Qd:List Int} {n:Nat} (a:Adm Gl n V) (hQ:Qd.length=3*n) (h:∀ t k,t<n->k<3->Qd.getD (3*t+k) 0=V.getD (7*t+4+k) 0):Z7j Gl n Qd=some (Z61 Gl n V):=by
 have hb:∀ j:Nat,0<=Qd.getD j 0/\Qd.getD j 0<=1000000:=fun j=>by
  by_cases hj:j<3*n
  · have:=h (j / 3) (j % 3) qO qO
    rw [show 3*(j / 3)+j % 3=j by omega] at this
    rw [this]; exact a.b _
  · rw [List.getD_eq_getElem?_getD,List.getElem?_eq_none qO]
    exact ⟨Int.le_refl _,by decide⟩
 have xb:=Z4g (n:=n) hQ (fun j=>by
  have:=hb j.toNat
  exact this)
 have hl:=a.l
 obtain ⟨X,e,l,q,v⟩:=ball a (vxF Gl n) (fill0 Qd n) (List.replicate (4*n) false) 1000000 (Z2V _ _) (fun y hy=>Z66 hy) (Z1W hQ) (by simp) qO (fun j=>by have:=xb j; omega)
  (fun t k hk=>by
   rw [Z4F hQ t k hk]
   split
   · rename_i ht; exact h t k ht hk
   · rw [List.getD_eq_getElem?_getD,List.getElem?_eq_none qO]; rfl)
  (fun w hw _=>⟨by
   rw [List.getD_eq_getElem?_getD,List.getElem?_replicate]
   split <;> rfl,by
   have:=Z7L hQ (w / 4) (w % 4) qO
   rw [show 7*(w / 4)+w % 4=ps w by unfold ps; omega] at this
   exact this⟩)
 unfold Z7j
 rw [e]
 congr 1
 refine ZgM l (Z6b a.l) (fun w hw=>?_) (fun t k ht hk=>by rw [q t k hk,Zk7 a.l t k hk])
 obtain ⟨r1,r2⟩:=a.root hw
 rw [v w hw,if_pos (Zf1.2 ⟨r1,r2⟩)]

theorem Zoe {Gl:List Int} {t i f:Nat} {s s':FSt} (e:Z2W Gl true t i f s=some s'):Z2W Gl false t i f s=some s':=by
 unfold Z2W at e ⊢
 split
 · rename_i h; rwa [if_pos h] at e
 · rename_i h
   rw [if_neg h] at e
   split
   · rename_i h2; rwa [if_pos h2] at e
   · rename_i h2
     rw [if_neg h2] at e
     split at e
     · cases e
     · rw [if_neg (by simp)]; exact e
theorem ZeC {Gl:List Int} {t i:Nat}:∀ {k f:Nat} {s s':FSt},Z2i Gl true t i k f s=some s'->Z2i Gl false t i k f s=some s'
 | 0,_,_,_,e=>e
 | k+1,f,s,s',e=>by
  rw [Z2i] at e ⊢
  obtain ⟨s1,e1,e2⟩:=Option.bind_eq_some_iff.1 e
  rw [Zoe e1]
  exact ZeC e2
theorem fQ_ff {Gl:List Int}:∀ {r k:Nat} {s s':FSt},fQ Gl true r k s=some s'->fQ Gl false r k s=some s'
 | 0,_,_,_,e=>e
 | r+1,k,s,s',e=>by
  rw [fQ] at e ⊢
  split
  · rename_i h
    rw [if_pos h] at e
    obtain ⟨s1,e1,e2⟩:=Option.bind_eq_some_iff.1 e
    rw [ZeC e1]
    exact fQ_ff e2
  · rename_i h; rwa [if_neg h] at e
theorem Zdw {Gl:List Int} {n:Nat}:∀ {F X:List Int} {K:List Bool} {X':List Int},ZeD Gl true n F X K=some X'->ZeD Gl false n F X K=some X'
 | [],_,_,_,e=>e
 | x::F,X,K,X',e=>by
  rw [ZeD] at e ⊢
  obtain ⟨r,e1,e2⟩:=Option.bind_eq_some_iff.1 e
  have:Z79 Gl false n x.toNat X K=some r:=by
   unfold Z79 at e1 ⊢
   obtain ⟨s,s1,s2⟩:=Option.map_eq_some_iff.1 e1
   rw [fQ_ff s1]
   exact congrArg some s2
  rw [this]
  exact Zdw e2
def Vf (Gl X:List Int) (t f i:Nat):Prop:=X.getD (ps (fV Gl t f i)) 0=fW Gl X t f i
theorem Zoc {Gl X Y:List Int} {n t f i:Nat} {d:Int} (hok:Z0t Gl n=true) (hG:Gl.length=n*20) (ht:t<n) (hf:f<4) (hi:i<4) (hne:i ≠ f) (hg:¬ Z0L (Z03 Gl t f)<0)
 (h1:X.getD (ps (4*t+i)) 0=Y.getD (ps (4*t+i)) 0-d) (hq:∀ t k,k<3->X.getD (7*t+4+k) 0=Y.getD (7*t+4+k) 0):fW Gl X t f i=fW Gl Y t f i-d:=by
 have g:=FGl.of hok hG ht hf hi hne hg
 have r1:=Z0V (i:=(i:Int)) (f:=(f:Int)) qO qO qO qO qO
 have r2:=Z0V (i:=(fJ Gl t f i:Int)) (f:=(fJ Gl t f f:Int)) qO (by have:=g.j; omega) qO (by have:=g.h; omega) (by have:=g.ne; omega)
 unfold fW
 rw [Z9L hf hi hne,Z9L hf hi hne,h1,hq t _ qO,gi,gi,show (7*(fU Gl t f:Int)+4+ty (fJ Gl t f i) (fJ Gl t f f)).toNat=7*fU Gl t f+4+(ty (fJ Gl t f i) (fJ Gl t f f)).toNat by omega,hq _ _ qO]
 omega
def KN (Gl:List Int) (n x:Nat) (s:FSt):Prop:=(∀ w,w ∈ s.Q->Z02 (vxC Gl n) w=x) /\ ∀ w,w<4*n->Z02 (vxC Gl n) w=x->s.K.getD w false=true->w ∈ s.Q
def CS (Gl:List Int) (s:FSt) (t i:Nat) (p:Nat->Prop):Prop:=∀ g,g<4->p g->g ≠ i -> ¬ Z0L (Z03 Gl t g)<0->fV Gl t g i ∈ s.Q/\Vf Gl s.X t g i
theorem CS.keep {Gl:List Int} {n t i:Nat} {s s':FSt} {p:Nat->Prop} (hok:Z0t Gl n=true) (hG:Gl.length=n*20) (ht:t<n) (hi:i<4) (hm:4*t+i ∈ s.Q) (a:CS Gl s t i p) (b:KI Gl n s s'):CS Gl s' t i p:=fun g g1 g2 g3 g4=>by
 obtain ⟨a1,a2⟩:=a g g1 g2 g3 g4
 obtain ⟨R,hR⟩:=b.q
 refine ⟨by rw [hR]; exact List.mem_append_left _ a1, ?_⟩
 unfold Vf at a2 ⊢
 rw [b.x _ a1,a2,Zoc (d:=0) (X:=s'.X) (Y:=s.X) hok hG ht g1 hi (fun q=>g3 q.symm) g4 (by rw [b.x _ hm]; omega) b.u]
 omega
theorem cstep {Gl:List Int} {n x t f i:Nat} {s s':FSt} {B:Int} (hok:Z0t Gl n=true) (hG:Gl.length=n*20) (h:FOk n s B) (a:KN Gl n x s) (ht:t<n) (hf:f<4) (hi:i<4) (hm:4*t+i ∈ s.Q) (e:Z2W Gl true t i f s=some s') :
 KN Gl n x s'/\CS Gl s' t i (fun g=>g=f):=by
 have ki:=(Z8v hok hG h ht hf hi hm e).1
 unfold Z2W at e
 split at e
 · rename_i h1
   obtain rfl:=Option.some.inj e
   exact ⟨a,fun g g1 g2 g3 g4=>by subst g2; exact (h1.elim g3 g4).elim⟩
 · rename_i h1
   have hne:i ≠ f:=fun q=>h1 (.inl q.symm)
   have hg:¬ Z0L (Z03 Gl t f)<0:=fun q=>h1 (.inr q)
   have g:=FGl.of hok hG ht hf hi hne hg
   have hv:fV Gl t f i<4*n:=by have:=g.u; have:=g.j; unfold fV; omega
   have hps:7*fU Gl t f+fJ Gl t f i=ps (fV Gl t f i):=(Zkj g.j).symm
   have hr:Z02 (vxC Gl n) (fV Gl t f i)=x:=by rw [← Z6k hok hG ht hf hi hne hg]; exact a.1 _ hm
   have hlt:=ZiF hv
   have hxl:=h.xl
   split at e
   · rename_i h2
     obtain rfl:=Option.some.inj e
     refine ⟨⟨ki.r x a.1,fun w w1 w2 w3=>?_⟩,fun g' g1 g2 g3 g4=>?_⟩
     · have w3':(s.K.set (fV Gl t f i) true).getD w false=true:=w3
       rw [Z2M] at w3'
       by_cases e:w=fV Gl t f i
       · rw [e]; simp
       · rw [if_neg (fun q=>e q.1.symm)] at w3'
         exact List.mem_append_left _ (a.2 w w1 w2 w3')
     · subst g2
       refine ⟨by simp, ?_⟩
       unfold Vf
       rw [Zoc (d:=0) (Y:=s.X) hok hG ht hf hi hne hg (by rw [ki.x _ hm]; omega) ki.u]
       show (List.set _ _ _).getD _ _=_
       rw [hps,Z0m,if_pos ⟨rfl,by omega⟩]
       omega
   · rename_i h2
     split at e
     · cases e
     · rename_i h3
       obtain rfl:=Option.some.inj e
       refine ⟨a,fun g' g1 g2 g3 g4=>?_⟩
       subst g2
       refine ⟨a.2 _ hv hr (by simpa using h2), ?_⟩
       unfold Vf
       rw [← hps]
       exact Decidable.byContradiction fun q=>h3 ⟨rfl,q⟩
theorem Zq6 {Gl:List Int} {n x t i:Nat} (hok:Z0t Gl n=true) (hG:Gl.length=n*20) (ht:t<n) (hi:i<4):∀ {k f:Nat} {s s':FSt} {B:Int},f+k<=4->FOk n s B->0<=B->KN Gl n x s->4*t+i ∈ s.Q->Z2i Gl true t i k f s=some s' →
 KN Gl n x s'/\CS Gl s' t i (fun g=>f<=g/\g<f+k)
 | 0,f,s,s',B,_,h,hB,a,hm,e=>by
  obtain rfl:=Option.some.inj e
  exact ⟨a,fun g g1 g2=>by omega⟩
 | k+1,f,s,s',B,hf,h,hB,a,hm,e=>by
  rw [Z2i] at e
  obtain ⟨s1,e1,e2⟩:=Option.bind_eq_some_iff.1 e
  obtain ⟨a1,c1⟩:=cstep hok hG h a ht qO hi hm e1
  have k1:=(Z8v hok hG h ht qO hi hm e1).1
  have o1:=Zdu hok hG h hB ht qO hi e1
  obtain ⟨R,hR⟩:=k1.q
  have hm1:4*t+i ∈ s1.Q:=by rw [hR]; exact List.mem_append_left _ hm
  obtain ⟨a2,c2⟩:=Zq6 hok hG ht hi qO o1 qO a1 hm1 e2
  have k2:=(Z4h hok hG ht hi qO o1 qO hm1 e2).1
  have c1':=c1.keep hok hG ht hi hm1 k2
  refine ⟨a2,fun g g1 g2 g3 g4=>?_⟩
  by_cases e:g=f
  · exact c1' g g1 e g3 g4
  · exact c2 g g1 ⟨by omega,by omega⟩ g3 g4
theorem cq {Gl:List Int} {n x:Nat} (hok:Z0t Gl n=true) (hG:Gl.length=n*20):∀ {r k:Nat} {s s':FSt} {B:Int},4*n<=r+k->FOk n s B->0<=B->KN Gl n x s->(∀ j,j<k->j<s.Q.length->CS Gl s (s.Q.getD j 0 / 4) (s.Q.getD j 0 % 4) fun _=>True)->fQ Gl true r k s=some s' →
 ∀ w,w ∈ s'.Q->CS Gl s' (w / 4) (w % 4) fun _=>True:=by
 have stop:∀ (k:Nat) (s:FSt),s.Q.length<=k->(∀ j,j<k->j<s.Q.length->CS Gl s (s.Q.getD j 0 / 4) (s.Q.getD j 0 % 4) fun _=>True) -> ∀ w,w ∈ s.Q->CS Gl s (w / 4) (w % 4) fun _=>True:=fun k s hk h w hw=>by
  obtain ⟨j,hj,rfl⟩:=List.getElem_of_mem hw
  have:=h j qO hj
  simpa [List.getD_eq_getElem?_getD,List.getElem?_eq_getElem hj] using this
 intro r
 induction r with
 | zero =>
  intro k s s' B hk h hB a c e
  obtain rfl:=Option.some.inj e
  exact stop k s (by have:=h.ql; omega) c
 | succ r ih =>
  intro k s s' B hk h hB a c e
  rw [fQ] at e
  split at e
  case isFalse hkq =>
   obtain rfl:=Option.some.inj e
   exact stop k s qO c
  rename_i hkq
  obtain ⟨s1,e1,e2⟩:=Option.bind_eq_some_iff.1 e
  have mem:∀ j,j<s.Q.length->s.Q.getD j 0 ∈ s.Q:=fun j hj=>by simp [List.getD_eq_getElem?_getD,List.getElem?_eq_getElem hj]
  have hw:=(h.qk _ (mem k hkq)).1
  have hm:4*(s.Q.getD k 0 / 4)+s.Q.getD k 0 % 4 ∈ s.Q:=by rw [show 4*(s.Q.getD k 0 / 4)+s.Q.getD k 0 % 4=s.Q.getD k 0 by omega]; exact mem k hkq
  obtain ⟨a1,c1⟩:=Zq6 hok hG qO qO qO h hB a hm e1
  have k1:=(Z4h hok hG qO qO qO h hB hm e1).1
  have o1:=Z4G hok hG qO qO qO h hB e1
  obtain ⟨R,hR⟩:=k1.q
  have hget:∀ j,j<s.Q.length->s1.Q.getD j 0=s.Q.getD j 0:=fun j hj=>by
   rw [hR,List.getD_eq_getElem?_getD,List.getD_eq_getElem?_getD,List.getElem?_append_left hj]
  refine ih qO o1 qO a1 (fun j hj hjl=>?_) e2
  by_cases e:j=k
  · subst e
    rw [hget j hkq]
    exact fun g g1 _ g3 g4=>c1 g g1 ⟨by omega,by omega⟩ g3 g4
  · rw [hget j qO]
    have:=(h.qk _ (mem j qO)).1
    exact (c j qO qO).keep hok hG qO qO (by rw [show 4*(s.Q.getD j 0 / 4)+s.Q.getD j 0 % 4=s.Q.getD j 0 by omega]; exact mem j qO) k1

theorem cclass {Gl X:List Int} {K:List Bool} {n x:Nat} {B:Int} {r:List Int × List Bool} (hok:Z0t Gl n=true) (hG:Gl.length=n*20) (hx:x<4*n) (hr:Z02 (vxC Gl n) x=x) (hX:X.length=7*n) (hK:K.length=4*n) (hB:0<=B) (xb:∀ j:Nat,-B<=X.getD j 0/\X.getD j 0<=B)
 (qd:∀ t k:Nat,k<3->0<=X.getD (7*t+4+k) 0/\X.getD (7*t+4+k) 0<=1000000) (hu:∀ w,w<4*n->Z02 (vxC Gl n) w=x->K.getD w false=false) (e:Z79 Gl true n x X K=some r) :
 r.1.length=7*n/\r.2.length=4*n/\(∃ B',0<=B' /\ ∀ j:Nat,-B'<=r.1.getD j 0/\r.1.getD j 0<=B')/\(∀ t k,k<3->r.1.getD (7*t+4+k) 0=X.getD (7*t+4+k) 0) ∧
  (∀ w,w<4*n->Z02 (vxC Gl n) w ≠ x->r.1.getD (ps w) 0=X.getD (ps w) 0/\r.2.getD w false=K.getD w false) /\ ∀ t f i,t<n->f<4->i<4->i ≠ f -> ¬ Z0L (Z03 Gl t f)<0->Z02 (vxC Gl n) (4*t+i)=x->Vf Gl r.1 t f i:=by
 have st:=FOk.start (first:=x) hX hK hx hB xb qd
 have kk:∀ w,(K.set x true).getD w false=if w=x then true else K.getD w false:=fun w=>by
  rw [Z2M]
  by_cases e:w=x
  · rw [if_pos ⟨e.symm,by omega⟩,if_pos e]
  · rw [if_neg (fun q=>e q.1.symm),if_neg e]
 unfold Z79 at e
 obtain ⟨s,s1,rfl⟩:=Option.map_eq_some_iff.1 e
 have kn0:KN Gl n x ⟨X,K.set x true,[x],0⟩:=⟨fun w h=>by rw [List.mem_singleton.1 h,hr],fun w h1 h2 h3=>by
  have h3':(K.set x true).getD w false=true:=h3
  rw [kk] at h3'
  by_cases e:w=x
  · rw [e]; simp
  · rw [if_neg e,hu w h1 h2] at h3'; cases h3'⟩
 have ki:=Zdv hok hG st hB s1
 have ok:=ZkT hok hG st hB s1
 have cl:=cq hok hG (x:=x) qO st hB kn0 (fun j hj=>by omega) s1
 have rt:=ki.r x kn0.1
 have fx:x ∈ s.Q:=by
  obtain ⟨R,hR⟩:=ki.q
  rw [hR]; simp
 have all:∀ w,w<4*n->Z02 (vxC Gl n) w=x->w ∈ s.Q:=fun w hw e=>by
  refine (Zb5 (S:=fun w=>w ∈ s.Q) hok hG (fun t f i ht hf hi hne hg=>?_) hx hw (by rw [hr,e])).1 fx
  have g:=FGl.of hok hG ht hf hi hne hg
  obtain ⟨z1,z2,z3,z4,z5⟩:=Z6l hok hG ht hf hi hne hg
  constructor
  · intro h
    have:=cl _ h f hf trivial
    rw [show (4*t+i) / 4=t by omega,show (4*t+i) % 4=i by omega] at this
    exact (this (fun q=>hne q.symm) hg).1
  · intro h
    have:=cl _ h (fJ Gl t f f) g.h trivial
    have gj:=g.j
    unfold fV at this
    rw [show (4*fU Gl t f+fJ Gl t f i) / 4=fU Gl t f by omega,show (4*fU Gl t f+fJ Gl t f i) % 4=fJ Gl t f i by omega,z1,z3] at this
    exact (this (fun q=>g.ne q.symm) z2).1
 have sq:=fun j=>Z4z s.m ok.nd (fun w hw=>(ok.qk w hw).1) ok.xl j
 have sqq:=fun t k hk=>Z67 ok t k hk
 refine ⟨by rw [Z2m]; exact ok.xl,ok.kl,⟨_,by omega,Z4A ok⟩,fun t k hk=>by rw [sqq t k hk]; exact ki.u t k hk,fun w hw h=>?_,fun t f i ht hf hi hne hg h=>?_⟩
 · have hnq:w ∉ s.Q:=fun q=>h (rt w q)
   obtain ⟨z1,z2⟩:=ki.o w hnq
   refine ⟨?_, ?_⟩
   · rw [(sq (ps w)).2 (fun v hv q=>hnq (by rw [← Z4D q]; exact hv)),z1]
   · rw [z2]
     show (K.set x true).getD w false=_
     rw [kk,if_neg (fun q=>h (by rw [q,hr]))]
 · have g:=FGl.of hok hG ht hf hi hne hg
   have hw:4*t+i ∈ s.Q:=all _ qO h
   have:=cl _ hw f hf trivial
   rw [show (4*t+i) / 4=t by omega,show (4*t+i) % 4=i by omega] at this
   obtain ⟨v1,v2⟩:=this (fun q=>hne q.symm) hg
   unfold Vf at v2 ⊢
   rw [(sq _).1 _ v1 rfl,v2,Zoc (d:=s.m) (Y:=s.X) hok hG ht hf hi hne hg ((sq _).1 _ hw rfl) sqq]
theorem call' {Gl:List Int} {n:Nat} (hok:Z0t Gl n=true) (hG:Gl.length=n*20):∀ (F X:List Int) (K:List Bool) (B:Int) (X':List Int),F.Nodup->(∀ y,y ∈ F -> ∃ x:Nat,y=x/\x<4*n/\Z02 (vxC Gl n) x=x)->X.length=7*n->K.length=4*n->0<=B->(∀ j:Nat,-B<=X.getD j 0/\X.getD j 0<=B) →
 (∀ t k:Nat,k<3->0<=X.getD (7*t+4+k) 0/\X.getD (7*t+4+k) 0<=1000000)->(∀ w,w<4*n->((Z02 (vxC Gl n) w:Nat):Int) ∈ F->K.getD w false=false)->ZeD Gl true n F X K=some X' →
 X'.length=7*n/\(∀ t k,k<3->X'.getD (7*t+4+k) 0=X.getD (7*t+4+k) 0)/\(∀ w,w<4*n->((Z02 (vxC Gl n) w:Nat):Int) ∉ F->X'.getD (ps w) 0=X.getD (ps w) 0) ∧
  ∀ t f i,t<n->f<4->i<4->i ≠ f -> ¬ Z0L (Z03 Gl t f)<0->((Z02 (vxC Gl n) (4*t+i):Nat):Int) ∈ F->Vf Gl X' t f i
 | [],X,K,B,X',_,_,hX,_,_,_,_,_,e=>by
  obtain rfl:=Option.some.inj e
  exact ⟨hX,fun _ _ _=>rfl,fun _ _ _=>rfl,fun t f i _ _ _ _ _ h=>by simp at h⟩
 | y::F,X,K,B,X',nd,hF,hX,hK,hB,xb,qd,hu,e=>by
  rw [List.nodup_cons] at nd
  obtain ⟨x,rfl,hx,hr⟩:=hF y (by simp)
  rw [ZeD,Int.toNat_natCast] at e
  obtain ⟨r,e1,e2⟩:=Option.bind_eq_some_iff.1 e
  obtain ⟨l1,l2,⟨B1,hB1,xb1⟩,q1,o1,v1⟩:=cclass hok hG hx hr hX hK hB xb qd (fun w hw h=>hu w hw (by rw [h]; simp)) e1
  have hnx:∀ w,((Z02 (vxC Gl n) w:Nat):Int) ∈ F->Z02 (vxC Gl n) w ≠ x:=fun w h q=>nd.1 (by rw [← q]; exact h)
  obtain ⟨l3,q2,o2,v2⟩:=call' hok hG F r.1 r.2 B1 X' nd.2 (fun y hy=>hF y (by simp [hy])) l1 l2 hB1 xb1 (fun t k hk=>by rw [q1 t k hk]; exact qd t k hk) (fun w hw h=>by
   rw [(o1 w hw (hnx w h)).2]; exact hu w hw (by simp [h])) e2
  refine ⟨l3,fun t k hk=>by rw [q2 t k hk,q1 t k hk],fun w hw h=>?_,fun t f i ht hf hi hne hg h=>?_⟩
  · rw [o2 w hw (fun q=>h (by simp [q])),(o1 w hw (fun q=>h (by rw [q]; simp))).1]
  · by_cases h1:((Z02 (vxC Gl n) (4*t+i):Nat):Int) ∈ F
    · exact v2 t f i ht hf hi hne hg h1
    · have hrx:Z02 (vxC Gl n) (4*t+i)=x:=by
       rcases List.mem_cons.1 h with h2 | h2
       · omega
       · exact absurd h2 h1
      have g:=FGl.of hok hG ht hf hi hne hg
      have gj:=g.j
      have gu:=g.u
      have hv:fV Gl t f i<4*n:=by unfold fV; omega
      have hrv:=Z6k hok hG ht hf hi hne hg
      have:=v1 t f i ht hf hi hne hg hrx
      unfold Vf at this ⊢
      rw [o2 _ hv (by rw [← hrv]; exact h1),this,Zoc (d:=0) (X:=X') (Y:=r.1) hok hG ht hf hi hne hg (by rw [o2 _ qO h1]; omega) q2]
      omega
theorem ZeA {Gl Qd X:List Int} {n:Nat} (hok:Z0t Gl n=true) (hG:Gl.length=n*20) (hq:qOk Qd n=true) (e:Z7j Gl n Qd=some X) (hw:Z0x X=true):Z1h Gl n X=true:=by
 unfold qOk at hq
 simp only [Bool.and_eq_true,decide_eq_true_eq,List.all_eq_true] at hq
 obtain ⟨⟨hQ,hb⟩,hqa⟩:=hq
 have hXb:=Z4g (n:=n) hQ (fun j=>Z46 hb j)
 obtain ⟨l,q,-,v⟩:=call' hok hG (vxF Gl n) (fill0 Qd n) (List.replicate (4*n) false) 1000000 X (Z2V _ _) (fun y hy=>Z66 hy) (Z1W hQ) (by simp) qO (fun j=>by have:=hXb j; omega) (fun t k _=>hXb _) (fun w _ _=>by
  rw [List.getD_eq_getElem?_getD,List.getElem?_replicate]
  split <;> rfl) e
 obtain ⟨hd,_⟩:=Z5f hok hG
 refine Z38.2 ⟨l,hw, ?_, ?_⟩
 · intro t ht
   have:=hqa t (by simpa using ht)
   have hqq:Z0y X t=q3 Qd t:=by
    refine Z1g (m:=3) (Z4C l ht) (Zkg hQ ht) fun k hk=>?_
    rw [Z8m l ht hk,ZpJ hk,q t k hk,Z4F hQ t k hk,if_pos ht]
   rw [hqq]; exact this
 · refine Zpu hok hG fun t f i ht hf hi hne hg=>?_
   have g:=FGl.of hok hG ht hf hi hne hg
   have hw4:4*t+i<4*n:=by omega
   have:=v t f i ht hf hi hne hg (Zf1.2 ⟨by have:=Z0B hd hw4; omega,Z0Y hd hw4⟩)
   unfold Vf fW at this
   have r2:=Z0V (i:=(fJ Gl t f i:Int)) (f:=(fJ Gl t f f:Int)) qO (by have:=g.j; omega) qO (by have:=g.h; omega) (by have:=g.ne; omega)
   rw [gi,show (7*(fU Gl t f:Int)+4+ty (fJ Gl t f i) (fJ Gl t f f)).toNat=7*fU Gl t f+4+(ty (fJ Gl t f i) (fJ Gl t f f)).toNat by omega] at this
   rw [Z9L g.h g.j g.ne]
   show _=X.getD (ps (fV Gl t f i)) 0+_
   omega
theorem ZkR {Gl Qd X:List Int} {n:Nat} (hok:Z0t Gl n=true) (hG:Gl.length=n*20) (hq:qOk Qd n=true) (hqd:∀ t k,t<n->k<3->Qd.getD (3*t+k) 0=X.getD (7*t+4+k) 0) (ha:Z1h Gl n X=true) (e:Z8u Gl n Qd=some X):Z7j Gl n Qd=some X/\Z0x X=true:=by
 unfold qOk at hq
 simp only [Bool.and_eq_true,decide_eq_true_eq,List.all_eq_true] at hq
 have h1:=ZkP (Adm.of hok hG ha) hq.1.1 hqd
 have h2:Z8u Gl n Qd=some (Z61 Gl n X):=Zdw h1
 rw [e] at h2
 obtain h3:=Option.some.inj h2
 rw [← h3] at h1
 exact ⟨h1,(Za0 ha).2⟩

theorem ZjX (a b:Value) (m:Nat) (A B:List Int) (gb ob:Nat) (h0:FH) (c c0:Nat) (ha:SlI h0 c0 a 1 m A) (hb:SlI h0 c0 b 1 m B) (hgb:gb<256*c) (hob:ob<256*c) (hc0:c0<=c) (hlo:256*c0<=ob) (hm:m<=1000000) (hA:∀ j,0<=gi A j/\gi A j<=1000000) (hB:∀ j,0<=gi B j/\gi B j<=1000000) (df:List Nat) :
 ∀ (k i:Nat) (X:List Int) (g:Bool),i+k=m->X.length=m->(∀ j,j<i->X.getD j 0=gi A j+gi B j)->(g=true ↔ ∃ j:Nat,j<i/\1000000<gi A j+gi B j) →
 Ans (G (Zcy none) [a,b,ptrTo gb,.slice none 0 0,.int .i64 0,.slice (some ⟨ob,0,none⟩) m m,.bool g,.int .i64 i] (newB h0 ob (ints X)) c df) fun r=>∃ g',(g'=true ↔ ∃ j:Nat,j<m/\1000000<gi A j+gi B j)/\r=⟨.exit 0,[a,b,ptrTo gb,.slice none 0 0,.int .i64 0,.slice (some ⟨ob,0,none⟩) m m,.bool g',.int .i64 m],newB h0 ob (ints (Z9M A B)),c,df⟩:=by
 intro k
 have o1:=(ha.mono hc0).okV
 have o2:=(hb.mono hc0).okV
 have hAl:=ha.1
 have l3:=ha.len
 induction k with
 | zero =>
  intro i X g hi hX hf hg
  obtain rfl:i=m:=by omega
  have e:X=Z9M A B:=by
   refine List.ext_getElem (by rw [hX,Z2D]; omega) fun j h1 h2=>?_
   have:=hf j qO
   rw [List.getD_eq_getElem?_getD,List.getElem?_eq_getElem h1] at this
   simp only [Option.getD_some] at this
   rw [this]; simp [Z9M]
  rw [e]
  refine Ans.lpG rfl rfl (Z33 ..) ?_
  unfold Z52
  have fx:=l3
  refine Ans.go ?_
  clear fx
  (have fx:=ai o1 (ai o2 (ai hob hgb)); refine Ans.ex0 ?_; clear fx)
  exact ⟨g,hg,rfl⟩
 | succ k ih =>
  intro i X g hi hX hf hg
  have s0:Z0u c0 h0 (newB h0 ob (ints X)):=fun q hq=>by rw [Z08,if_neg qO]
  have l1:=(ha.same s0).rdi i qO qO
  have l2:=(hb.same s0).rdi i qO qO
  simp only [Int.toNat_natCast] at l1 l2
  have vA:=hA i
  have vB:=hB i
  have hw:∀ x:Int,stN (newB h0 ob (ints X)) 1 (.pointer (some ⟨ob,i,none⟩)) (.int .i64 x)=some (newB h0 ob (ints (X.set i x))):=fun x=>by
   rw [st1_int _ _ _ _ _ _ (by simp; omega),Z0K]
  have hgl:(X.set i (gi A i+gi B i)).length=m:=by simp [hX]
  have hn:∀ j,j<i+1->(X.set i (gi A i+gi B i)).getD j 0=gi A j+gi B j:=fun j hj=>by
   rw [Z0m]
   by_cases e:i=j
   · subst e; rw [if_pos ⟨rfl,by omega⟩]
   · rw [if_neg (fun q=>e q.1)]; exact hf j qO
  have hrd:∀ x:Int,ld1 (newB h0 ob (ints (X.set i x))) (.pointer (some ⟨ob,i,none⟩))=some (.int .i64 x):=fun x=>by
   rw [ld1_newB_same,ints_getD _ _ (by rw [List.length_set]; omega),Z0m,if_pos ⟨rfl,by omega⟩]
  have hng:(g || decide (1000000<gi A i+gi B i))=true ↔ ∃ j:Nat,j<i+1/\1000000<gi A j+gi B j:=by
   rw [Bool.or_eq_true,hg,decide_eq_true_eq]
   constructor
   · rintro (⟨j,j1,j2⟩ | h1)
     · exact ⟨j,by omega,j2⟩
     · exact ⟨i,by omega,h1⟩
   · rintro ⟨j,j1,j2⟩
     by_cases e:j=i
     · subst e; exact .inr j2
     · exact .inl ⟨j,by omega,j2⟩
  have hk:=ih (i+1) _ _ qO hgl hn hng
  obtain ⟨x,hx⟩:∃ x,gi A i=x:=⟨_,rfl⟩
  obtain ⟨y,hy⟩:∃ y,gi B i=y:=⟨_,rfl⟩
  rw [hx] at l1 vA hk
  rw [hy] at l2 vB hk
  clear hng hn hgl
  cases g with
  | true =>
   rw [Bool.true_or] at hk
   refine Ans.lpG rfl rfl (Z33 ..) ?_
   unfold Z52
   have fx:=ai l3 (ai ha.ixs1 (ai hb.ixs1 (ai l1 (ai l2 hw))))
   refine Ans.go ?_
   clear fx
   (have fx:=ai o1 (ai o2 (ai hob hgb)); refine Ans.nxB (B:=newB h0 ob (ints (X.set i (x+y)))) ?_ ?_; exact (Z1A.both (Z1c.ints _ _) (Z1A.refl _ _) hob); clear fx)
   exact hk
  | false =>
   rw [Bool.false_or] at hk
   by_cases e:1000000<x+y
   · rw [decide_eq_true e] at hk
     refine Ans.lpG rfl rfl (Z33 ..) ?_
     unfold Z52
     have fx:=ai l3 (ai ha.ixs1 (ai hb.ixs1 (ai l1 (ai l2 (ai hw hrd)))))
     refine Ans.go ?_
     clear fx
     (have fx:=ai o1 (ai o2 (ai hob hgb)); refine Ans.nxB (B:=newB h0 ob (ints (X.set i (x+y)))) ?_ ?_; exact (Z1A.both (Z1c.ints _ _) (Z1A.refl _ _) hob); clear fx)
     exact hk
   · rw [decide_eq_false e] at hk
     refine Ans.lpG rfl rfl (Z33 ..) ?_
     unfold Z52
     have fx:=ai l3 (ai ha.ixs1 (ai hb.ixs1 (ai l1 (ai l2 (ai hw hrd)))))
     refine Ans.go ?_
     clear fx
     (have fx:=ai o1 (ai o2 (ai hob hgb)); refine Ans.nxB (B:=newB h0 ob (ints (X.set i (x+y)))) ?_ ?_; exact (Z1A.both (Z1c.ints _ _) (Z1A.refl _ _) hob); clear fx)
     exact hk
theorem suQ_in (v:Value) (nv n:Nat) (V:List Int) (gb t c:Nat) (b:Bool) (h:FH) (df:List Nat) (hn:n<=60) (hnv:nv=7*n) (ht:t<n) (hv:SlI h c v 1 nv V) (hgb:gb<256*c):∀ (r k m:Nat),k+r=3->m<=k →
 Ans (G (Zcw none) [ptrTo gb,.slice none 0 0,.int .i64 0,v,.bool b,.int .i64 t,.int .i64 m,.int .i64 k] h c df) fun q=>q=⟨.exit 4,[ptrTo gb,.slice none 0 0,.int .i64 0,v,.bool b,.int .i64 t,.int .i64 (m+nzC ((Z0y V t).drop k):Nat),.int .i64 3],h,c,df⟩:=by
 intro r
 have o1:=hv.okV
 have hV:V.length=7*n:=by have:=hv.1; omega
 have ql:=Z4C hV ht
 induction r with
 | zero =>
  intro k m hk hm
  obtain rfl:k=3:=by omega
  rw [List.drop_of_length_le qO,nzC,Nat.add_zero]
  refine Ans.lpG rfl rfl (Z5N ..) ?_
  unfold Z6N
  have fx:=True.intro
  refine Ans.go ?_
  clear fx
  (have fx:=ai o1 hgb; refine Ans.ex0 ?_; clear fx)
  rfl
 | succ r ih =>
  intro k m hk hm
  have hk3:k<3:=by omega
  have l1:=hv.rdi (7*(t:Int)+4+k) qO qO
  rw [gi,show (7*(t:Int)+4+k).toNat=7*t+4+k by omega] at l1
  have hd:=Za9 ql hk3
  rw [Z8m hV ht hk3] at hd
  rw [hd]
  have hk3':(k:Int)<3:=by omega
  have z1:(7*(t:Int)+4+k).toNat=7*t+4+k:=by omega
  obtain ⟨A,hA⟩:∃ A,V.getD (7*t+4+k) 0=A:=⟨_,rfl⟩
  rw [hA] at l1 ⊢
  by_cases e:A=0
  · rw [if_pos e,Nat.zero_add]
    refine Ans.lpG rfl rfl (Z5N ..) ?_
    unfold Z6N
    have fx:=ai hv.ixs1 (ai z1 l1)
    refine Ans.go ?_
    clear fx
    (have fx:=ai o1 hgb; refine Ans.nx0 ?_; clear fx)
    exact ih (k+1) m qO qO
  · rw [if_neg e,← Nat.add_assoc]
    refine Ans.lpG rfl rfl (Z5N ..) ?_
    unfold Z6N
    have fx:=ai hv.ixs1 (ai z1 l1)
    refine Ans.go ?_
    clear fx
    (have fx:=ai o1 hgb; refine Ans.nx0 ?_; clear fx)
    exact ih (k+1) (m+1) qO qO
theorem Zm0 (s v:Value) (nv n:Nat) (Gl V:List Int) (gb c:Nat) (b:Bool) (h:FH) (df:List Nat) (hn:n<=60) (hnv:nv=7*n) (hv:SlI h c v 1 nv V) (hs:SlI h c s 20 n Gl) (hg:Z09 h gb [s]) (hgb:gb<256*c):∀ (r t:Nat),t+r=n →
 Ans (G (Zcx none) [ptrTo gb,.slice none 0 0,.int .i64 0,v,.bool b,.int .i64 t] h c df) fun q=>q.h=h/\q.c=c/\q.df=df ∧
  ((q.e = .exit 2/\q.vs=[ptrTo gb,.slice none 0 0,.int .i64 0,v,.bool b,.int .i64 n] /\ ∀ u,t<=u->u<n->Z7n (Z0y V u)=true) ∨ (q.e = .ret/\q.v 1 = .slice none 0 0/\q.v 2 = .int .i64 1 /\ ∃ u,u<n/\Z7n (Z0y V u)=false)):=by
 intro r
 have o1:=hv.okV
 have ll:=hs.len
 have lg:ld1 h (.pointer (some ⟨gb,0,none⟩))=some s:=by rw [Z01 hg]; rfl
 have hV:V.length=7*n:=by have:=hv.1; omega
 induction r with
 | zero =>
  intro t ht
  obtain rfl:t=n:=by omega
  refine Ans.lpG rfl rfl (Z5O ..) ?_
  unfold Z6O
  have fx:=ai lg ll
  refine Ans.go ?_
  clear fx
  (have fx:=ai o1 hgb; refine Ans.ex0 ?_; clear fx)
  exact ⟨rfl,rfl,rfl,.inl ⟨rfl,rfl,fun u h1 h2=>by omega⟩⟩
 | succ r ih =>
  intro t ht
  have htn:t<n:=by omega
  have hin:=Ans.eq (suQ_in v nv n V gb t (c+1+1+1) b h df hn hnv htn (hv.mono qO) qO 3 0 0 qO qO)
  rw [List.drop_zero,Nat.zero_add] at hin
  simp only [Int.ofNat_eq_natCast,Int.cast_ofNat_Int] at hin
  have hq:Z7n (Z0y V t)=decide (nzC (Z0y V t)<=1):=rfl
  have hle:=ZgH (Z0y V t)
  rw [Z4C hV htn] at hle
  obtain ⟨N,hN⟩:∃ N,nzC (Z0y V t)=N:=⟨_,rfl⟩
  rw [hN] at hin hq hle
  by_cases e:N<=1
  · have e':¬ (1:Int)<N:=by omega
    refine Ans.lpG rfl rfl (Z5O ..) ?_
    unfold Z6O
    have fx:=ai lg (ai ll hin)
    refine Ans.go ?_
    clear fx
    (have fx:=ai o1 hgb; refine Ans.nx0 ?_; clear fx)
    refine (ih (t+1) qO).mono ?_
    rintro q ⟨q1,q2,q3,q4⟩
    refine ⟨q1,q2,q3,q4.imp (fun ⟨a,b,d⟩=>⟨a,b,fun u j1 j2=>?_⟩) id⟩
    by_cases e2:u=t
    · rw [e2,hq,decide_eq_true e]
    · exact d u qO j2
  · have e':(1:Int)<N:=by omega
    refine Ans.lpG rfl rfl (Z5O ..) ?_
    unfold Z6O
    have fx:=ai lg (ai ll hin)
    refine Ans.go ?_
    clear fx
    (have fx:=ai o1 hgb; refine Ans.rt0 ?_; clear fx)
    exact ⟨rfl,rfl,rfl,.inr ⟨rfl,rfl,rfl,t,htn,by rw [hq,decide_eq_false e]⟩⟩

theorem Zpk (Gl:List Int) (n:Nat) (a b:Bool):Z5b Gl n (a && b)=if Z5b Gl n a=0 then Z5b Gl n b else Z5b Gl n a:=by
 unfold Z5b
 by_cases h:Z7p Gl n=0
 · cases a <;> cases b <;> simp [h]
 · simp [h]
theorem Zgn {A B:List Int} (h:A.length=B.length) (hA:∀ j,0<=gi A j/\gi A j<=1000000) (hB:∀ j,0<=gi B j/\gi B j<=1000000) {g:Bool} (hg:g=true ↔ ∃ j:Nat,j<A.length/\1000000<gi A j+gi B j):Z0x (Z9M A B) = !g:=by
 cases g with
 | true =>
  obtain ⟨j,j1,j2⟩:=hg.1 rfl
  rw [Bool.not_true,Bool.eq_false_iff]
  intro e
  have:=Z47.1 e j (by rw [Z2D]; exact j1)
  rw [ZlF j1] at this
  omega
 | false =>
  rw [Bool.not_false]
  refine Z47.2 fun j hj=>?_
  rw [Z2D] at hj
  rw [ZlF hj]
  have h1:=hA j
  have h2:=hB j
  by_cases e:1000000<gi A j+gi B j
  · have:=hg.2 ⟨j,hj,e⟩; cases this
  · omega
set_option maxHeartbeats 1000000 in
theorem Zqj (s u v:Value) (n nu nv:Nat) (Gl U V:List Int) (h:FH) (c:Nat) (df:List Nat) (hs:SlI h c s 20 n Gl) (hu:SlI h c u 1 nu U) (hv:SlI h c v 1 nv V) (hnu:nu<=1000000) (hnv:nv<=1000000) :
 Ans (G (.fn 35) [.agg #[s],u,v] h c df) fun r=>r.e = .ret/\r.df=[]/\c<=r.c/\Z0u c h r.h ∧
  ((ZlY Gl n U V ≠ 0/\r.vs=[.tuple #[.slice none 0 0,.int .i64 (ZlY Gl n U V)]]) ∨
   (ZlY Gl n U V=0 /\ ∃ w,r.vs=[.tuple #[w,.int .i64 0]]/\SlI r.h r.c w 1 nu (Z9M U V))):=by
 refine Ans.call' (fun r e=>f35_go e) ?_
 unfold Zrr
 rw [Z4s hs.flat,Z4m,Nat.add_zero]
 simp only [cond_true]
 obtain ⟨H,hH⟩:∃ H,newB h (256*c) [s]=H:=⟨_,rfl⟩
 have sH:Z0u c h H:=by rw [← hH]; simp (disch:=omega)
 have hg:Z09 H (256*c) [s]:=by rw [← hH]; exact Z09.newB_same _ _ _
 have l0:=Z0p hg
 have cu:=fun c' (hc:c<=c')=>Z05 (Z6U s u n nu Gl U H c' [] ((hs.same sH).mono hc) ((hu.same sH).mono hc) hnu)
 have cv:=fun c' (hc:c<=c')=>Z05 (Z6U s v n nv Gl V H c' [] ((hs.same sH).mono hc) ((hv.same sH).mono hc) hnv)
 unfold ZlY
 rw [Zpk]
 by_cases h0:Z5b Gl n (Z1h Gl n U)=0
 case neg =>
  simp only [if_neg h0]
  obtain ⟨E,hE⟩:∃ E,Z5b Gl n (Z1h Gl n U)=E:=⟨_,rfl⟩
  rw [hE] at cu h0 ⊢
  have fx:=ai hH (ai l0 cu)
  refine Ans.go ?_
  clear fx
  exact .done ⟨rfl,rfl,(by show c<=c+1+1+1+1; omega),sH,.inl ⟨h0,rfl⟩⟩
 simp only [if_pos h0]
 by_cases h1:Z5b Gl n (Z1h Gl n V)=0
 case neg =>
  simp only [if_neg h1]
  obtain ⟨E,hE⟩:∃ E,Z5b Gl n (Z1h Gl n V)=E:=⟨_,rfl⟩
  rw [h0] at cu
  rw [hE] at cv h1 ⊢
  have fx:=ai hH (ai l0 (ai cu cv))
  refine Ans.go ?_
  clear fx
  exact .done ⟨rfl,rfl,(by show c<=c+1+1+1+1+1+1; omega),sH,.inl ⟨h1,rfl⟩⟩
 simp only [if_pos h1]
 rw [h0] at cu
 rw [h1] at cv
 obtain ⟨hr0,ha⟩:=Z6r h0
 obtain ⟨-,hb⟩:=Z6r h1
 obtain ⟨hn,hok⟩:=Z1f hr0
 obtain ⟨a1,a2⟩:=Za0 ha
 obtain ⟨b1,b2⟩:=Za0 hb
 have hA:=Z46 a2
 have hB:=Z46 b2
 have hnu':nu=7*n:=by have:=hu.1; omega
 have hnv':nv=7*n:=by have:=hv.1; omega
 have e:nv=nu:=by omega
 subst e
 have ll:=hu.len
 have mk:=Z5m 1 8 .i64 .i64 nv qO qO
 obtain ⟨ob,hob⟩:∃ ob,256*(c+1+1+1+1+1)+2=ob:=⟨_,rfl⟩
 obtain ⟨r,hr,g,g1,rfl⟩:=ZjX u v nv U V (256*c) ob H (c+1+1+1+1+1+1+1+1) c (hu.same sH) (hv.same sH) qO qO qO qO qO hA hB [] nv 0 (List.replicate nv 0) false qO (by simp) (fun j hj=>by omega) ⟨(by simp),fun ⟨j,j1,_⟩=>by omega⟩
 have hw:=Zgn (a1.trans b1.symm) hA hB (g:=g) (by rw [a1,← hnu']; exact g1)
 have hal:=Z2D U V
 rw [hw]
 have sl:SlI (newB H ob (ints (Z9M U V))) (c+1+1+1+1+1+1+1+1+1) (.slice (some ⟨ob,0,none⟩) nv nv) 1 nv (Z9M U V):=Z60 (by rw [Z08,if_pos rfl]) qO qO qO
 obtain ⟨H2,hH2⟩:∃ H2,newB H ob (ints (Z9M U V))=H2:=⟨_,rfl⟩
 have s2:Z0u c h H2:=by rw [← hH2]; exact sH.trans (by intro b hb; rw [Z08,if_neg qO])
 have hg2:Z09 H2 (256*c) [s]:=hg.eqf (by rw [← hH2,Z08,if_neg qO])
 rw [hH2] at hr sl
 simp only [Int.ofNat_eq_natCast,Int.cast_ofNat_Int] at hr
 obtain ⟨O,hO⟩:∃ O,Z9M U V=O:=⟨_,rfl⟩
 rw [hO] at sl ⊢
 obtain ⟨⟨re,rv,rh,rc,rd⟩,hq,r1,r2,r3,r4⟩:=Zm0 s _ nv n Gl O (256*c) (c+1+1+1+1+1+1+1+1+1) g H2 [] hn hnu' sl ((hs.same s2).mono qO) hg2 qO n 0 qO
 simp only at r1 r2 r3 r4
 subst r1 r2 r3
 simp only [Int.ofNat_eq_natCast,Int.cast_ofNat_Int] at hq
 rcases r4 with ⟨rfl,rfl,r5⟩ | ⟨rfl,r5,r6,w,w1,w2⟩
 · have e1:((List.range n).all fun t=>Z7n (Z0y O t))=true:=List.all_eq_true.2 fun t ht=>r5 t qO (by simpa using ht)
   rw [if_pos e1]
   cases g with
   | false =>
    have fx:=ai hH (ai l0 (ai cu (ai cv (ai ll (ai mk (ai hob (ai hr hq)))))))
    refine Ans.go ?_
    clear fx
    exact .done ⟨rfl,rfl,(by show c<=_; simp only; omega),s2,.inr ⟨rfl,_,rfl,sl.mono (by simp only; omega)⟩⟩
   | true =>
    have fx:=ai hH (ai l0 (ai cu (ai cv (ai ll (ai mk (ai hob (ai hr hq)))))))
    refine Ans.go ?_
    clear fx
    exact .done ⟨rfl,rfl,(by show c<=_; simp only; omega),s2,.inl ⟨by simp,rfl⟩⟩
 · have e1:¬ ((List.range n).all fun t=>Z7n (Z0y O t))=true:=fun e=>by
    rw [List.all_eq_true] at e
    have:=e w (by simpa using w1)
    rw [w2] at this; cases this
   rw [if_neg e1]
   have fx:=ai hH (ai l0 (ai cu (ai cv (ai ll (ai mk (ai hob (ai hr (ai hq (ai r5 r6)))))))))
   refine Ans.go ?_
   clear fx
   exact .done ⟨rfl,rfl,(by show c<=_; simp only; omega),s2,.inl ⟨by simp,(by show [Value.tuple #[_,_]]=_; rw [r5,r6])⟩⟩

theorem eqF19 (a0 a1 a2 a3 a4 b0 b1 b2 b3 b4:Int):aEq P 19 41 (av [a0,a1,a2,a3,a4]) (av [b0,b1,b2,b3,b4]) =
 (cond (a0 == b0) ((cond (a1 == b1) (cond (a2 == b2) (cond (a3 == b3) (cond (a4 == b4) (some true) (some false)) (some false)) (some false)) (some false)).bind fun r=>cond r (some true) (some false)) (some false)):=by kernel_rfl
theorem eqF (x y:List Int) (hx:x.length=5) (hy:y.length=5):aEq P 19 41 (av x) (av y)=some (decide (x=y)):=by
 match x,hx,y,hy with
 | [a0,a1,a2,a3,a4],_,[b0,b1,b2,b3,b4],_ =>
  rw [eqF19]
  by_cases h0:a0=b0 <;> by_cases h1:a1=b1 <;> by_cases h2:a2=b2 <;> by_cases h3:a3=b3 <;> by_cases h4:a4=b4 <;> simp [h0,h1,h2,h3,h4,Bool.cond_eq_ite]


def Stay (c0:Nat) (H0:FH) (g:FuncId) (args:List Value):Prop:=∀ H c,c0<=c->Z0u c0 H0 H -> ∃ v H' c',callF G g args H c=some (v,H',c')/\c<=c'/\Z0u c0 H0 H'
theorem Stay.pure {c0:Nat} {H0:FH} {g:FuncId} {args:List Value} (e:∀ H c,c0<=c->Z0u c0 H0 H -> ∃ v,G (.fn g) args H c []=some ⟨.ret,[v],H,c,[]⟩):Stay c0 H0 g args:=fun H c hc hs=>by
 obtain ⟨v,e⟩:=e H c hc hs
 exact ⟨v,H,c,Z05 e,Nat.le_refl _,hs⟩
theorem short3 (u v q:Value) (nu nv nq:Nat) (sb:Nat) (h:FH) (c:Nat) (hsb:sb<256*c) (hh:Z09 h sb [u,v,q]) (h1:Z0X u=some (.int .i64 nu)) (h2:Z0X v=some (.int .i64 nv)) (h3:Z0X q=some (.int .i64 nq)) :
 callF G 18 [.slice (some ⟨sb,0,none⟩) 3 3] h c=some (.bool (decide (nu<=50) && decide (nv<=50) && decide (nq<=50)),h,c):=by
 have:=Zm7 [u,v,q] (fun j=>if j=0 then nu else if j=1 then nv else nq) sb h c [] hsb hh (by simp) (fun j hj=>by
  match j,hj with
  | 0,_=>exact h1
  | 1,_=>exact h2
  | 2,_=>exact h3)
 have e:((List.range [u,v,q].length).all fun j=>decide ((if j=0 then nu else if j=1 then nv else nq)<=50))=(decide (nu<=50) && decide (nv<=50) && decide (nq<=50)):=by
  show ((List.range 3).all fun j=>decide ((if j=0 then nu else if j=1 then nv else nq)<=50))=_
  simp [List.range_succ,Bool.and_assoc]
 rw [e] at this
 exact Z05 this

theorem Zim {Gl:List Int} {chk:Bool} {n:Nat} (hok:Z0t Gl n=true) (hG:Gl.length=n*20):∀ (F X:List Int) (K:List Bool) (B:Int) (X':List Int),(∀ y,y ∈ F -> ∃ x:Nat,y=x/\x<4*n)->X.length=7*n->K.length=4*n->0<=B->(∀ j:Nat,-B<=X.getD j 0/\X.getD j 0<=B) →
 (∀ t k:Nat,k<3->0<=X.getD (7*t+4+k) 0/\X.getD (7*t+4+k) 0<=1000000)->ZeD Gl chk n F X K=some X' -> ∀ t k,k<3->X'.getD (7*t+4+k) 0=X.getD (7*t+4+k) 0
 | [],X,K,B,X',_,_,_,_,_,_,e=>by
  obtain rfl:=Option.some.inj e
  exact fun _ _ _=>rfl
 | y::F,X,K,B,X',hF,hX,hK,hB,xb,qd,e=>by
  obtain ⟨x,rfl,hx⟩:=hF y (by simp)
  rw [ZeD,Int.toNat_natCast] at e
  obtain ⟨r,e1,e2⟩:=Option.bind_eq_some_iff.1 e
  unfold Z79 at e1
  obtain ⟨s,s1,rfl⟩:=Option.map_eq_some_iff.1 e1
  have st:=FOk.start (first:=x) hX hK hx hB xb qd
  have ki:=Zdv hok hG st hB s1
  have ok:=ZkT hok hG st hB s1
  have q1:∀ t k:Nat,k<3->(Za7 s.m s.Q s.X).getD (7*t+4+k) 0=X.getD (7*t+4+k) 0:=fun t k hk=>by rw [Z67 ok t k hk]; exact ki.u t k hk
  have:=Zim hok hG F _ _ _ X' (fun y hy=>hF y (by simp [hy])) (by rw [Z2m]; exact ok.xl) ok.kl (by omega:0<=2*(B+(4*n:Nat)*4000000)) (Z4A ok) (fun t k hk=>by rw [q1 t k hk]; exact qd t k hk) e2
  exact fun t k hk=>by rw [this t k hk,q1 t k hk]
theorem ZkO {Gl Qd:List Int} {n:Nat} (hok:Z0t Gl n=true) (hG:Gl.length=n*20) (hq:qOk Qd n=true) :
 (match Z8u Gl n Qd with | some X=>if Z1h Gl n X=true then (0:Int) else 3 | none=>3)=(match Z7j Gl n Qd with | some X=>if Z0x X=true then (0:Int) else 3 | none=>3) /\ ∀ X,Z7j Gl n Qd=some X->Z8u Gl n Qd=some X:=by
 have ff:∀ X,Z7j Gl n Qd=some X->Z8u Gl n Qd=some X:=fun X e=>Zdw e
 refine ⟨?_,ff⟩
 cases hX:Z7j Gl n Qd with
 | some X =>
  rw [ff X hX]
  show (if Z1h Gl n X=true then (0:Int) else 3)=if Z0x X=true then (0:Int) else 3
  by_cases hw:Z0x X=true
  · rw [if_pos hw,if_pos (ZeA hok hG hq hX hw)]
  · rw [if_neg hw,if_neg (fun q=>hw (Za0 q).2)]
 | none =>
  cases hR:Z8u Gl n Qd with
  | none=>rfl
  | some X =>
   show (if Z1h Gl n X=true then (0:Int) else 3)=3
   rw [if_neg]
   intro ha
   have hq':=hq
   unfold qOk at hq'
   simp only [Bool.and_eq_true,decide_eq_true_eq,List.all_eq_true] at hq'
   have hXb:=Z4g (n:=n) hq'.1.1 (fun j=>Z46 hq'.1.2 j)
   have q:=Zim hok hG (vxF Gl n) (fill0 Qd n) (List.replicate (4*n) false) 1000000 X (fun y hy=>by obtain ⟨k,h1,h2,_⟩:=Z66 hy; exact ⟨k,h1,h2⟩) (Z1W hq'.1.1) (by simp) qO (fun j=>by have:=hXb j; omega) (fun t k _=>hXb _) hR
   have:=(ZkR hok hG hq (fun t k ht hk=>by rw [q t k hk,Z4F hq'.1.1 t k hk,if_pos ht]) ha hR).1
   rw [hX] at this; cases this
theorem ZiT {Gl Qd:List Int} {n:Nat} (hG:Gl.length=n*20):ZbR Gl n Qd=ZeB Gl n Qd/\(ZeB Gl n Qd=0 -> ∀ X Y,Z7j Gl n Qd=some X->Z8u Gl n Qd=some Y->X=Y):=by
 unfold ZbR ZeB
 by_cases h0:Z7p Gl n=0
 · rw [if_pos h0,if_pos h0]
   obtain ⟨-,hok⟩:=Z1f h0
   by_cases hq:qOk Qd n=true
   · rw [if_pos hq,if_pos hq]
     obtain ⟨s1,s2⟩:=ZkO hok hG hq
     exact ⟨s1,fun _ X Y e1 e2=>Option.some.inj ((s2 X e1).symm.trans e2)⟩
   · rw [if_neg hq,if_neg hq]
     exact ⟨rfl,fun h=>by cases h⟩
 · rw [if_neg h0,if_neg h0]
   exact ⟨rfl,fun h=>absurd h h0⟩
theorem ZrW {f:Nat} {args:List Value} {h:FH} {c n:Nat} {E:Int} {L:List Int} (w:Ans (G (.fn f) args h c []) fun r=>r.e = .ret/\r.df=[]/\c<=r.c/\Z0u c h r.h/\((E ≠ 0/\r.vs=[.tuple #[.slice none 0 0,.int .i64 E]]) ∨ (E=0 /\ ∃ w,r.vs=[.tuple #[w,.int .i64 0]]/\SlI r.h r.c w 1 n L))) :
 ∃ a H k,callF G f args h c=some (.tuple #[a,.int .i64 E],H,k)/\c<=k/\Z0u c h H/\SlI H k a 1 (if E=0 then n else 0) (if E=0 then L else []):=by
 obtain ⟨⟨re,rv,H,k,rd⟩,hr,rfl,rfl,r3,r4,r5⟩:=w
 rcases r5 with ⟨e,rfl⟩ | ⟨rfl,a,rfl,r6⟩
 · rw [if_neg e,if_neg e]; exact ⟨_,H,k,Z05 hr,r3,r4,SlI.nil _ _ _⟩
 · rw [if_pos rfl,if_pos rfl]; exact ⟨a,H,k,Z05 hr,r3,r4,r6⟩
theorem res3 {f:Nat} {args:List Value} {h:FH} {c n n':Nat} {E:Int} {L L':List Int} (w:Ans (G (.fn f) args h c []) fun r=>r.e = .ret/\r.df=[]/\c<=r.c/\Z0u c h r.h/\((E ≠ 0/\r.vs=[.tuple #[.slice none 0 0,.slice none 0 0,.int .i64 E]]) ∨ (E=0 /\ ∃ w w',r.vs=[.tuple #[w,w',.int .i64 0]]/\SlI r.h r.c w 1 n L/\SlI r.h r.c w' 1 n' L'))) :
 ∃ a b H k,callF G f args h c=some (.tuple #[a,b,.int .i64 E],H,k)/\c<=k/\Z0u c h H/\SlI H k a 1 (if E=0 then n else 0) (if E=0 then L else [])/\SlI H k b 1 (if E=0 then n' else 0) (if E=0 then L' else []):=by
 obtain ⟨⟨re,rv,H,k,rd⟩,hr,rfl,rfl,r3,r4,r5⟩:=w
 rcases r5 with ⟨e,rfl⟩ | ⟨rfl,a,b,rfl,r6,r7⟩
 · rw [if_neg e,if_neg e,if_neg e,if_neg e]; exact ⟨_,_,H,k,Z05 hr,r3,r4,SlI.nil _ _ _,SlI.nil _ _ _⟩
 · rw [if_pos rfl,if_pos rfl,if_pos rfl,if_pos rfl]; exact ⟨a,b,H,k,Z05 hr,r3,r4,r6,r7⟩
set_option maxHeartbeats 2000000 in
theorem Za4 (s u v q:Value) (n nu nv nq:Nat) (Gl U V Qd:List Int) (h:FH) (c:Nat) (hs:SlI h c s 20 n Gl) (hu:SlI h c u 1 nu U) (hv:SlI h c v 1 nv V) (hq:SlI h c q 1 nq Qd)
 (Cs:SlC h s 20 n Gl) (Cu:SlC h u 1 nu U) (Cv:SlC h v 1 nv V) (Cq:SlC h q 1 nq Qd) (Xu:SlX h u 1 nu) (Xv:SlX h v 1 nv) (Xq:SlX h q 1 nq) :
 Ans (G (.fn 9) [.agg #[s],u,v,q] h c []) fun x=>x.e = .ret/\x.vs=[.bool true]:=by
 suffices hs:Ans (f9_S G (.agg #[s]) u v q h c) fun x=>x.e = .ret/\x.vs=[.bool true] by
  obtain ⟨x,q1,q2⟩:=hs
  exact ⟨_,f9_go q1,by show (gcR h c [] x).e=_/\(gcR h c [] x).vs=_; rw [ZqR,ZkJ]; exact q2⟩
 unfold f9_S
 rw [Z4s hs.flat,Z4m,Nat.add_zero]
 simp only [cond_true]
 obtain ⟨H,hH⟩:∃ H,H=newB h (256*c) [s]:=⟨_,rfl⟩
 have sH:Z0u c h H:=by rw [hH]; simp (disch:=omega)
 have hg:Z09 H (256*c) [s]:=by rw [hH]; exact Z09.newB_same _ _ _
 rw [← hH]
 clear hH
 have k0:=Zk0 H
 have l1:=Z0p hg
 have lu:=hu.len
 have lv:=hv.len
 have lq:=hq.len
 have cs:=fun c' (hc:c<=c')=>Z05 (Zm4 s n Gl H c' [] ((hs.same sH).mono hc))
 by_cases hn:n<=6
 case neg =>
  rw [decide_eq_false hn] at cs
  have fx:=ai k0 (ai l1 cs)
  refine Ans.go ?_
  clear fx
  exact .done ⟨rfl,rfl⟩
 rw [decide_eq_true hn] at cs
 have hbl:Z2T [(.slice none 0 0),(.slice none 0 0),(.slice none 0 0)] [(0,1,u),(1,1,v),(2,1,q)]=some [u,v,q]:=by
  obtain ⟨_,_,a,cap,rfl,_⟩:=hv
  obtain ⟨_,_,a,cap,rfl,_⟩:=hu
  obtain ⟨_,_,a,cap,rfl,_⟩:=hq
  rfl
 obtain ⟨sb,hsb⟩:∃ sb,256*(c+1+1)+7=sb:=⟨_,rfl⟩
 obtain ⟨K,hK⟩:∃ K,newB H sb [u,v,q]=K:=⟨_,rfl⟩
 have sK:Z0u c h K:=by rw [← hK]; exact sH.trans (by intro b hb; rw [Z08,if_neg qO])
 have hgK:Z09 K (256*c) [s]:=by rw [← hK]; exact hg.newB_ne qO
 have hq':Z09 K sb [u,v,q]:=by rw [← hK]; exact Z09.newB_same _ _ _
 have ch:=fun c' (hc:c+1+1+1<=c')=>short3 u v q nu nv nq sb K c' qO hq' lu lv lq
 by_cases h50:nu<=50/\nv<=50/\nq<=50
 case neg =>
  have:(decide (nu<=50) && decide (nv<=50) && decide (nq<=50))=false:=by
   rw [Bool.eq_false_iff]
   intro h1
   simp only [Bool.and_eq_true,decide_eq_true_eq] at h1
   omega
  rw [this] at ch
  have fx:=ai k0 (ai l1 (ai cs (ai hbl (ai hsb (ai hK ch)))))
  refine Ans.go ?_
  clear fx
  exact .done ⟨rfl,rfl⟩
 obtain ⟨hu50,hv50,hq50⟩:=h50
 rw [decide_eq_true hu50,decide_eq_true hv50,decide_eq_true hq50,Bool.and_self,Bool.and_self] at ch
 have lK:=Z0p hgK
 have js:=fun A (a:Z0u c h A) k (hk:c<=k)=>(hs.same a).mono hk
 have ju:=fun A (a:Z0u c h A) k (hk:c<=k)=>(hu.same a).mono hk
 have jv:=fun A (a:Z0u c h A) k (hk:c<=k)=>(hv.same a).mono hk
 have jq:=fun A (a:Z0u c h A) k (hk:c<=k)=>(hq.same a).mono hk
 have up:∀ {A A':FH} {k:Nat},Z0u c h A->Z0u k A A'->c<=k->Z0u c h A':=fun a b hk=>a.trans (b.mono hk)
 have hold:∀ {A A':FH} {k:Nat},Z09 A (256*c) [s]->Z0u k A A'->c+1<=k->Z09 A' (256*c) [s]:=fun a b hk=>a.eqf (b _ qO)
 obtain ⟨a1,A1,k1,e1,m1,t1,i1⟩:=ZrW (Zqj s u v n nu nv Gl U V K (c+1+1+1+1) [] (js K sK _ qO) (ju K sK _ qO) (jv K sK _ qO) qO qO)
 have S1:=up sK t1 qO
 have g1:=hold hgK t1 qO
 have L1:=Z0p g1
 obtain ⟨a2,A2,k2,e2,m2,t2,i2⟩:=ZrW ((sum_sp s u v n nu nv Gl U V A1 (k1+1) [] (js A1 S1 _ qO) (ju A1 S1 _ qO) (jv A1 S1 _ qO) (SlX.keep hu S1 Xu) (SlX.keep hv S1 Xv) qO qO).mono fun r ⟨p1,p2,p3,p4,p5⟩=>⟨p1,p2,p3,p4,p5.imp id fun ⟨z,w,z1,z2,_⟩=>⟨z,w,z1,z2⟩⟩)
 have S2:=up S1 t2 qO
 have g2:=hold g1 t2 qO
 have L2:=Z0p g2
 have d1:=fun c' (hc:k2<=c')=>Z05 (Z4a a2 a1 _ _ _ _ A2 c' [] (i2.mono hc) ((i1.same (t2.mono qO)).mono qO))
 rw [decide_eq_true rfl] at d1
 obtain ⟨E1,hE1⟩:∃ E,ZlY Gl n U V=E:=⟨_,rfl⟩
 rw [hE1] at e1 e2
 obtain ⟨a3,A3,k3,e3,m3,t3,i3⟩:=ZrW (Zke s v n nv Gl V A2 (k2+1+1) [] (js A2 S2 _ qO) (jv A2 S2 _ qO) (SlX.keep hv S2 Xv) qO)
 have S3:=up S2 t3 qO
 have g3:=hold g2 t3 qO
 have L3:=Z0p g3
 obtain ⟨a4,A4,k4,e4,m4,t4,i4⟩:=ZrW ((Zkf s v n nv Gl V A3 (k3+1) [] (js A3 S3 _ qO) (jv A3 S3 _ qO) (SlX.keep hv S3 Xv) qO).mono fun r ⟨p1,p2,p3,p4,p5⟩=>⟨p1,p2,p3,p4,p5.imp id fun ⟨z,w,z1,z2⟩=>⟨z,w,z1,z2.sl⟩⟩)
 have S4:=up S3 t4 qO
 have g4:=hold g3 t4 qO
 have L4:=Z0p g4
 have d2:=fun c' (hc:k4<=c')=>Z05 (Z4a a4 a3 _ _ _ _ A4 c' [] (i4.mono hc) ((i3.same (t4.mono qO)).mono qO))
 rw [decide_eq_true rfl] at d2
 have hG:=hs.1
 obtain ⟨fe,fx⟩:=ZiT (Qd:=Qd) hG
 obtain ⟨XX,hXX⟩:∃ XX,(Z8u Gl n Qd).getD []=XX:=⟨_,rfl⟩
 obtain ⟨a5,A5,k5,e5,m5,t5,i5⟩:=ZrW (n:=7*n) (L:=XX) ((Zo7 s q n nq Gl Qd A4 (k4+1+1) [] (js A4 S4 _ qO) hn (jq A4 S4 _ qO) qO).mono fun r ⟨p1,p2,p3,p4,p5⟩=>⟨p1,p2,p3,p4,p5.imp id fun ⟨z,rb,X,z1,z2,z3,z4,z5⟩=>⟨z,_,z2,by rw [← hXX,z1]; exact Z60 z5 z3 qO z4⟩⟩)
 have S5:=up S4 t5 qO
 have g5:=hold g4 t5 qO
 have L5:=Z0p g5
 rw [fe] at e5 i5
 obtain ⟨a6,A6,k6,e6,m6,t6,i6⟩:=ZrW (n:=7*n) (L:=XX) ((ZqV s q n nq Gl Qd A5 (k5+1) [] (js A5 S5 _ qO) hn (jq A5 S5 _ qO) (SlX.keep hq S5 Xq) qO).mono fun r ⟨p1,p2,p3,p4,p5⟩=>⟨p1,p2,p3,p4,p5.imp id fun ⟨z,rb,X,z1,z2,z3,z4,z5⟩=>⟨z,_,z2,by
  have:Z8u Gl n Qd=some X:=Zdw z1
  rw [← hXX,this]; exact Z60 z5 z3 qO z4⟩⟩)
 have S6:=up S5 t6 qO
 have g6:=hold g5 t6 qO
 have L6:=Z0p g6
 have d3:=fun c' (hc:k6<=c')=>Z05 (Z4a a6 a5 _ _ _ _ A6 c' [] (i6.mono hc) ((i5.same (t6.mono qO)).mono qO))
 rw [decide_eq_true rfl] at d3
 obtain ⟨E3,hE3⟩:∃ E,ZeB Gl n Qd=E:=⟨_,rfl⟩
 rw [hE3] at e5 e6
 obtain ⟨a7,b7,A7,k7,e7,m7,t7,i7,j7⟩:=res3 (Zmj s v n nv Gl V A6 (k6+1+1) [] (js A6 S6 _ qO) (jv A6 S6 _ qO) (SlC.keep hv S6 Cv) qO)
 have S7:=up S6 t7 qO
 have g7:=hold g6 t7 qO
 have L7:=Z0p g7
 obtain ⟨a8,b8,A8,k8,e8,m8,t8,i8,j8⟩:=res3 ((Zmk s v n nv Gl V A7 (k7+1) [] (js A7 S7 _ qO) (jv A7 S7 _ qO) (SlX.keep hv S7 Xv) (SlC.keep hv S7 Cv) qO).mono fun r ⟨p1,p2,p3,p4,p5⟩=>⟨p1,p2,p3,p4,p5.imp id fun ⟨z,w,w',z1,z2,z3,_⟩=>⟨z,w,w',z1,z2.sl,z3⟩⟩)
 have d4:=fun c' (hc:k8<=c')=>Z05 (Z4a a8 a7 _ _ _ _ A8 c' [] (i8.mono hc) ((i7.same (t8.mono qO)).mono qO))
 have d5:=fun c' (hc:k8<=c')=>Z05 (Z4a b8 b7 _ _ _ _ A8 c' [] (j8.mono hc) ((j7.same (t8.mono qO)).mono qO))
 rw [decide_eq_true rfl] at d4 d5
 obtain ⟨E2,hE2⟩:∃ E,Z5b Gl n (Z1h Gl n V)=E:=⟨_,rfl⟩
 rw [hE2] at e3 e4 e7 e8
 clear js ju jv jq up hold i1 i2 i3 i4 i5 i6 i7 i8 j7 j8
 have fx:=ai k0 (ai l1 (ai cs (ai hbl (ai hsb (ai hK (ai ch (ai lK (ai e1 (ai L1 (ai e2 (ai L2 (ai d1 (ai e3 (ai L3 (ai e4 (ai L4 (ai d2 (ai e5 (ai L5 (ai e6 (ai L6 (ai d3 (ai e7 (ai L7 (ai e8 (ai d4 d5))))))))))))))))))))))))))
 refine Ans.go ?_
 clear fx
 exact .done ⟨rfl,rfl⟩
end Go.Proofs.Ytcnndelmnobigaa

namespace Go.Ab
open Go Go.ChangeShapes Go.RowKit
theorem Zk4 {W:World} (l:List (Value × Nat × Nat × List Int)) (hl:l.length<=256) (h:∀ (k:Nat) (p:Value × Nat × Nat × List Int),l[k]? = some p->Z5c W p.1 p.2.1 p.2.2.1 p.2.2.2) :
 ∃ (A:FH) (μ:Mu),R μ A W/\Z22 μ 1/\(∀ i m,μ i=some m->wrB (HeapC.get A i)=false) /\ ∀ (k:Nat) (p:Value × Nat × Nat × List Int),l[k]? = some p->SlI A 1 (ZlO k p.1) p.2.1 p.2.2.1 p.2.2.2/\VR μ (ZlO k p.1) p.1/\SlX A (ZlO k p.1) p.2.1 p.2.2.1/\SlC A (ZlO k p.1) p.2.1 p.2.2.1 p.2.2.2:=by
 let blk:Nat->Option ABlk:=fun i=>(l[i]?).bind fun p=>(ZpA p.1).map fun _=>.cells true none (ints p.2.2.2)
 let mu:Mu:=fun i=>(l[i]?).bind fun p=>ZpA p.1
 have key:∀ i m,mu i=some m -> ∃ p,l[i]? = some p/\ZpA p.1=some m/\blk i=some (.cells true none (ints p.2.2.2)):=by
  intro i m e
  cases hp:l[i]? with
  | none=>simp only [mu,hp] at e; cases e
  | some p =>
   simp only [mu,hp,Option.bind_some] at e
   exact ⟨p,rfl,e,by simp only [blk,hp,Option.bind_some,e,Option.map_some]⟩
 refine ⟨⟨blk⟩,mu,⟨fun i m e=>?_,fun i j mi mj ei ej hne di dj hro=>?_,fun i m e=>?_⟩,fun i hi=>?_,fun i m e=>?_,fun k p hp=>?_⟩
 · obtain ⟨p,h1,h2,h3⟩:=key i m e
   have:=((h i p h1).blk (μ:=mu) h2).1
   show Z8h mu m W.heap (blk i)
   rw [h3]; exact this
 · obtain ⟨p,h1,h2,h3⟩:=key i mi ei
   obtain ⟨q,g1,g2,g3⟩:=key j mj ej
   exact absurd (show roB (blk i)=true/\roB (blk j)=true by rw [h3,g3]; exact ⟨rfl,rfl⟩) hro
 · obtain ⟨p,h1,h2,h3⟩:=key i m e
   exact ((h i p h1).blk (μ:=mu) h2).2
 · have:l[i]? = none:=List.getElem?_eq_none qO
   simp only [mu,this]; rfl
 · obtain ⟨p,h1,h2,h3⟩:=key i m e
   show wrB (blk i)=false
   rw [h3]; rfl
 · have hk:k<l.length:=(List.getElem?_eq_some_iff.1 hp).1
   have hb:∀ m,ZpA p.1=some m->blk k=some (.cells true none (ints p.2.2.2)):=fun m hm=>by
    simp only [blk,hp,Option.bind_some,hm,Option.map_some]
   refine ⟨(h k p hp).sl qO (fun m hm=>hb m hm),(h k p hp).vr (fun m hm=>?_),(h k p hp).slx (fun m hm=>hb m hm),(h k p hp).slc (fun m hm=>hb m hm)⟩
   simp only [mu,hp,Option.bind_some,hm]
end Go.Ab
