/- Parts of a proof: T8 T9 D9 BaseK BaseS0 BaseSp BaseX AbTrie AbHeap. Conditions: none. -/
import Derived.Test.YtemkjcpfgmbibaaM18
import Derived.Test.YtemkjcpfgmbibaaChecked
import Derived.KernelRfl
import Derived.Test.YtemkjcpfgmbibaaM6
import Derived.Test.YtemkjcpfgmbibaaM7
import Derived.Test.YtemkjcpfgmbibaaM0
set_option linter.all false
set_option maxRecDepth 100000
namespace Go.Proofs.Ytemkjcpfgmbibaa
open Go Go.Ab Go.Proofs
theorem ZgS {h:FH} {b o:Nat} {op:Option Nat} {Y q:List Int} (hg:HeapC.get h b=some (.cells false op (ints Y))) (ho:o+4<=Y.length) (hq:q.length=4) :
 stN h 4 (.pointer (some ⟨b,o,none⟩)) (av q)=some (HeapC.set h b (.cells false op (ints (Y.take o++q++Y.drop (o+4))))):=by
 have a:Nat.beq (av q).cells.size 4=true:=by simp [hq]
 have b':Nat.ble (o+(av q).cells.toList.length) (ints Y).length=true:=Nat.ble_eq_true_of_le (by simp [hq]; omega)
 have h3:(av q).cells.toList.all Z08=true:=by simp
 simp only [stN,Z2a,Option.bind_some,a,cond_true,Z1N,hg,b',h3,Bool.and_self]
 congr 3
 simp [Z0M,hq,Z4d]
theorem Zfd {Y q:List Int} {n x t:Nat} (hY:Y.length=n*4) (hq:q.length=4) (hx:x<n) (ht:t<n):Z04 (Y.take (x*4)++q++Y.drop (x*4+4)) t=if t=x then q else Z04 Y t:=by
 unfold Z04
 have hl:(Y.take (x*4)).length=x*4:=by rw [List.length_take]; omega
 by_cases e:t=x
 · subst e
   rw [if_pos rfl,List.append_assoc,List.drop_append,List.drop_of_length_le qO,List.nil_append,hl,show 4*t-t*4=0 by omega,List.drop_zero,List.take_append_of_le_length qO,List.take_of_length_le qO]
 · rw [if_neg e]
   rcases Nat.lt_or_ge t x with h | h
   · rw [List.append_assoc,List.drop_append_of_le_length qO,List.take_append_of_le_length (by rw [List.length_drop]; omega),List.drop_take,List.take_take,show min 4 (x*4-4*t)=4 by omega]
   · rw [List.drop_append,List.drop_of_length_le (by rw [List.length_append]; omega),List.nil_append,List.length_append,hl,hq,List.drop_drop,show x*4+4+(4*t-(x*4+4))=4*t by omega]
theorem Z0a.eqf2 {h h':FH} {b:Nat} {cs:List Value} (e:h'.f b=h.f b) (hh:Z0a h b cs):Z0a h' b cs:=by
 obtain ⟨ro,op,e1⟩:=hh
 exact ⟨ro,op,e.trans e1⟩
structure InvX (A Pa:List Int) (n i:Nat) (X Y:List Int):Prop where
 xl:X.length=n
 yl:Y.length=n*4
 x:∀ j,j<i->X.getD (oA A j) 0=j
 y:∀ j,j<i->Z04 Y (oA A j)=inv (Z04 Pa j)
theorem InvX.step {A Pa:List Int} {n i:Nat} {X Y:List Int} (k:IsoK A Pa n) (s:InvX A Pa n i X Y) (hi:i<n) :
 InvX A Pa n (i+1) (X.set (oA A i) i) (Y.take (oA A i*4)++inv (Z04 Pa i)++Y.drop (oA A i*4+4)):=by
 have hl:=Z23 (Z5i (k.v i hi))
 have hx:=k.oa.o i hi
 refine ⟨by rw [List.length_set,s.xl],by simp [hl,s.yl]; omega,fun j hj=>?_,fun j hj=>?_⟩
 · rw [Z5N]
   by_cases e:j=i
   · subst e; rw [if_pos ⟨rfl,by rw [s.xl]; exact hx⟩]
   · rw [if_neg (fun q=>k.inj j i qO hi q.1.symm)]
     exact s.x j qO
 · rw [Zfd s.yl hl hx (k.oa.o j qO)]
   by_cases e:j=i
   · subst e; rw [if_pos rfl]
   · rw [if_neg (k.inj j i qO hi)]
     exact s.y j qO
theorem InvX.all {A Pa:List Int} {n:Nat} {X Y:List Int} (k:IsoK A Pa n) (s:InvX A Pa n n X Y):X=Z0o A n/\Y=iP A Pa n:=by
 refine ⟨Z8s s.xl (Z18 _ _) fun t ht=>?_,Z65 s.yl (fun i hi=>Z23 (Z5i (k.v _ (k.oa.k i hi)))) fun t ht=>?_⟩
 · have:=s.x (kA A n t) (k.oa.k t ht)
   rw [k.oa.ok t ht] at this
   rw [this,k.oa.kz t ht]
 · have:=s.y (kA A n t) (k.oa.k t ht)
   rw [k.oa.ok t ht] at this
   exact this
noncomputable def iH (h:FH) (ob pb:Nat) (X Y:List Int):FH:=HeapC.set (HeapC.set h ob (.cells false none (ints X))) pb (.cells false none (ints Y))
theorem Z94 (h:FH) (ob pb:Nat) (X Y:List Int) (j:Nat):(iH h ob pb X Y).f j=if j=pb then some (.cells false none (ints Y)) else if j=ob then some (.cells false none (ints X)) else h.f j:=by
 unfold iH
 rw [Z0m,Z0m]
theorem Zhq (h:FH) {ob pb:Nat} (hne:ob ≠ pb) (X Y X':List Int):HeapC.set (iH h ob pb X Y) ob (.cells false none (ints X'))=iH h ob pb X' Y:=by
 apply FH.ext; intro j
 rw [Z0m,Z94,Z94]
 by_cases e:j=ob
 · rw [if_pos e,if_neg qO,if_pos e]
 · rw [if_neg e,if_neg e,if_neg e]
theorem Zhp (h:FH) (ob pb:Nat) (X Y Y':List Int):HeapC.set (iH h ob pb X Y) pb (.cells false none (ints Y'))=iH h ob pb X Y':=by
 unfold iH
 rw [set_set]
theorem Z6r (h:FH) {ob pb cm:Nat} (h1:256*cm<=ob) (h2:256*cm<=pb) (X Y:List Int):Z0q cm h (iH h ob pb X Y):=fun j hj=>by
 rw [Z94,if_neg qO,if_neg qO]
theorem Zho (h:FH) {ob pb c:Nat} (h1:ob<256*c) (h2:pb<256*c) (X Y X' Y':List Int):Z4C c (iH h ob pb X Y) (iH h ob pb X' Y'):=by
 intro j
 rw [Z94,Z94]
 refine ⟨fun hj=>by rw [if_neg qO,if_neg qO,if_neg qO,if_neg qO],fun hj=>?_⟩
 by_cases e:j=pb
 · rw [if_pos e]; exact .inr (Z1X.ints _ _)
 · rw [if_neg e,if_neg e]
   by_cases e2:j=ob
   · rw [if_pos e2]; exact .inr (Z1X.ints _ _)
   · rw [if_neg e2,if_neg e2]; exact .inl rfl
theorem Zhm (ga bo ob pb:Nat) (so sp x2:Value) (n:Nat) (A Pa:List Int) (h0:FH) (cm c:Nat) (df:List Nat) (ka:IsoK A Pa n) (hn:n<=1000) (hcm:cm<=c) (hga:ga<256*cm) (hob:256*cm<=ob) (hpb:256*cm<=pb) (hbo:bo<256*c) (hob':ob<256*c) (hpb':pb<256*c) (n1:ob ≠ pb) (n2:bo ≠ ob) (n3:bo ≠ pb)
 (g:Z0a h0 ga [so,sp]) (hb:Z0a h0 bo [.slice (some ⟨ob,0,none⟩) n n,.slice (some ⟨pb,0,none⟩) n n]) (h1:SlI h0 cm so 1 n A) (h2:SlI h0 cm sp 4 n Pa) (o2:OkV c x2) :
 ∀ (k i:Nat) (X Y:List Int),i+k=n->InvX A Pa n i X Y →
 Ans (G (Z9L none) [ptrTo ga,x2,ptrTo bo,so,.int .i64 n,.int .i64 i] (iH h0 ob pb X Y) c df) fun q=>q=⟨.exit 0,[ptrTo ga,x2,ptrTo bo,so,.int .i64 n,.int .i64 n],iH h0 ob pb (Z0o A n) (iP A Pa n),c,df⟩:=by
 intro k
 have o1:=(h1.mono hcm).okV
 have lg:ga<256*c:=by omega
 induction k with
 | zero =>
  intro i X Y hi s
  obtain rfl:i=n:=by omega
  obtain ⟨rfl,rfl⟩:=s.all ka
  refine Ans.lpG rfl rfl (Z4k ..) ?_
  unfold Z3U
  have fx:=True.intro
  refine Ans.go ?_
  clear fx
  (have fx:=ai lg (ai hbo (ai o1 o2)); refine Ans.ex0 ?_; clear fx)
  rfl
 | succ k ih =>
  intro i X Y hi s
  have hk:=ih (i+1) _ _ qO (s.step ka qO)
  have hi':i<n:=by omega
  have q24:=Z5i (ka.v i hi')
  have lq:=Z23 q24
  have xz:=ka.oa.oz i hi'
  have xl:=ka.oa.o i hi'
  have sS:=Z6r h0 hob hpb X Y
  have a1:=h1.same sS
  have a2:=h2.same sS
  have l1:=a1.rdi i qO qO
  simp only [Int.toNat_natCast] at l1
  rw [Z3A,xz] at l1
  have p1:=a2.perm i qO qO
  simp only [Int.toNat_natCast] at p1
  have fb:(iH h0 ob pb X Y).f bo=h0.f bo:=by rw [Z94,if_neg n3,if_neg n2]
  have gb:=Z0a.eqf2 fb hb
  have ga':=g.same hga sS
  have e1:ld1 (iH h0 ob pb X Y) (.pointer (some ⟨bo,0,none⟩))=some (.slice (some ⟨ob,0,none⟩) n n):=by rw [Z03 gb]; rfl
  have e2:ld1 (iH h0 ob pb X Y) (.pointer (some ⟨bo,1,none⟩))=some (.slice (some ⟨pb,0,none⟩) n n):=by rw [Z03 gb]; rfl
  have e3:ld1 (iH h0 ob pb X Y) (.pointer (some ⟨ga,1,none⟩))=some sp:=by rw [Z03 ga']; rfl
  have fo:HeapC.get (iH h0 ob pb X Y) ob=some (.cells false none (ints X)):=by
   show (iH h0 ob pb X Y).f ob=_
   rw [Z94,if_neg n1,if_pos rfl]
  have w1:stN (iH h0 ob pb X Y) 1 (.pointer (some ⟨ob,oA A i,none⟩)) (.int .i64 i)=some (iH h0 ob pb (X.set (oA A i) i) Y):=by
   rw [Z4F fo (by simp [s.xl,xl]) rfl rfl,Z57,Zhq _ n1]
  have fp:HeapC.get (iH h0 ob pb (X.set (oA A i) i) Y) pb=some (.cells false none (ints Y)):=by
   show (iH h0 ob pb (X.set (oA A i) i) Y).f pb=_
   rw [Z94,if_pos rfl]
  have w2:stN (iH h0 ob pb (X.set (oA A i) i) Y) 4 (.pointer (some ⟨pb,oA A i*4,none⟩)) (av (inv (Z04 Pa i)))=some (iH h0 ob pb (X.set (oA A i) i) (Y.take (oA A i*4)++inv (Z04 Pa i)++Y.drop (oA A i*4+4))):=by
   rw [ZgS fp (by rw [s.yl]; omega) lq,Zhp]
  have ci:=Z9l _ (ka.v i hi') (iH h0 ob pb X Y)
  have sb:Z14 (Z22 (.pointer (some ⟨bo,1,none⟩))) (iH h0 ob pb X Y) (iH h0 ob pb (X.set (oA A i) i) Y)=true:=Zal fun j hj=>by
   have hj':some bo=some j:=hj
   cases hj'
   rw [Z94,Z94,if_neg n3,if_neg n2,if_neg n3,if_neg n2]
  have up:=Zho h0 hob' hpb' X Y (X.set (oA A i) i) (Y.take (oA A i*4)++inv (Z04 Pa i)++Y.drop (oA A i*4+4))
  obtain ⟨q,hq⟩:∃ q,inv (Z04 Pa i)=q:=⟨_,rfl⟩
  rw [hq] at w2 ci up hk
  obtain ⟨p,hp⟩:∃ p,Z04 Pa i=p:=⟨_,rfl⟩
  rw [hp] at p1 ci
  obtain ⟨x,hx⟩:∃ x,oA A i=x:=⟨_,rfl⟩
  rw [hx] at l1 w1 w2 sb up hk xl
  obtain ⟨Y',hY'⟩:∃ Y',Y.take (x*4)++q++Y.drop (x*4+4)=Y':=⟨_,rfl⟩
  rw [hY'] at w2 up hk
  obtain ⟨S,hS⟩:∃ S,iH h0 ob pb X Y=S:=⟨_,rfl⟩
  obtain ⟨S1,hS1⟩:∃ S,iH h0 ob pb (X.set x i) Y=S:=⟨_,rfl⟩
  obtain ⟨S2,hS2⟩:∃ S,iH h0 ob pb (X.set x i) Y'=S:=⟨_,rfl⟩
  rw [hS] at a1 a2 l1 p1 e1 e2 e3 w1 ci sb up
  rw [hS1] at w1 w2 sb
  rw [hS2] at w2 up hk
  rw [hS]
  have xlt:(x:Int)<n:=by omega
  refine Ans.lpG rfl rfl (Z4k ..) ?_
  unfold Z3U
  have fx:=ai a1.ixs1 (ai l1 (ai e1 (ai e2 (ai e3 (ai a2.ixs (ai p1 (ai ci (ai w1 (ai w2 (ai sb (ai sameB_self xlt)))))))))))
  refine Ans.go ?_
  clear fx
  (have fx:=ai lg (ai hbo (ai o1 o2)); refine Ans.nxB (B:=S2) ?_ ?_; exact (up); clear fx)
  exact hk

theorem Zdy {h:FH} {b c sz n:Nat} {op:Option Nat} {X:List Int} (e:h.f b=some (.cells false op (ints X))) (hl:X.length=n*sz) (hn:n<=1000000) (hc:b<256*c):SlI h c (.slice (some ⟨b,0,none⟩) n n) sz n X :=
 ⟨hl,by omega,some ⟨b,0,none⟩,n,rfl,.inr ⟨b,0,ints X,rfl,hc,⟨false,op,e⟩,by rw [List.drop_zero,List.take_of_length_le (by simp [hl])]⟩⟩
theorem ZbQ (A Pa:List Int) (n:Nat):InvX A Pa n 0 (List.replicate n 0) (List.replicate (n*4) 0):=⟨by simp,by simp,fun j hj=>by omega,fun j hj=>by omega⟩
theorem ZlW (H:FH) {ob pb bo:Nat} (n1:ob ≠ pb) (n2:bo ≠ ob) (n3:bo ≠ pb) (X Y:List Int) (cs ds:List Value) :
 HeapC.set (newB (newB (newB H ob (ints X)) pb (ints Y)) bo cs) bo (.cells false none ds)=iH (newB H bo ds) ob pb X Y:=by
 apply FH.ext; intro j
 rw [Z0m,Z94,Z0b,Z0b,Z0b,Z0b]
 by_cases e:j=bo
 · rw [if_pos e,if_neg qO,if_neg qO,if_pos e]
 · rw [if_neg e,if_neg e,if_neg e]
theorem ZcF (so sp:Value) (n:Nat) (A Pa:List Int) (h:FH) (c:Nat) (df:List Nat) (h1:SlI h c so 1 n A) (h2:SlI h c sp 4 n Pa) (ka:IsoK A Pa n) (hn:n<=1000) :
 Ans (G (.fn 46) [.agg #[so,sp]] h c df) fun r=>∃ v w,r=⟨.ret,[.agg #[v,w]],r.h,r.c,[]⟩/\c<=r.c/\Z0q c h r.h/\Z7R r.h (c+1) r.c v w n (Z0o A n) (iP A Pa n):=by
 refine Ans.call' (fun r e=>f46_go e) ?_
 unfold ZhS
 rw [Z5j h1.flat h2.flat,Z5k]
 simp only [cond_true,Nat.add_zero]
 obtain ⟨H,hH⟩:∃ H,H=newB (newB h (256*c) [so,sp]) (256*c+1) [.slice none 0 0,.slice none 0 0]:=⟨_,rfl⟩
 have sH:Z0q c h H:=by rw [hH]; simp (disch:=omega)
 have g1:Z0a H (256*c) [so,sp]:=by rw [hH]; exact ((Z0a.newB_same _ _ _).newB_ne qO)
 have f3:H.f (256*c+1)=some (.cells false none [.slice none 0 0,.slice none 0 0]):=by rw [hH,Z0b,if_pos rfl]
 rw [← hH]
 clear hH
 have ln:=h1.len
 have mk:=Z3F 1 8 .i64 .i64 n qO qO
 have mk4:=ZdB 4 32 .i64 .i64 n qO qO
 obtain ⟨ob,hob⟩:∃ b,256*(c+1)+3=b:=⟨_,rfl⟩
 obtain ⟨pb,hpb⟩:∃ b,256*(c+1)+7=b:=⟨_,rfl⟩
 obtain ⟨bo,hbo⟩:∃ b,256*(c+1)+9=b:=⟨_,rfl⟩
 have l0:ld1 H (.pointer (some ⟨256*c,0,none⟩))=some so:=by rw [Z03 g1]; rfl
 have l1:ld1 (newB H ob (ints (List.replicate n 0))) (.pointer (some ⟨256*c,0,none⟩))=some so:=by rw [Z03 (g1.newB_ne qO)]; rfl
 have hz:Z1v [.slice none 0 0,.slice none 0 0] [(0,1,.slice (some ⟨ob,0,none⟩) n n),(1,1,.slice (some ⟨pb,0,none⟩) n n)]=some (.agg #[.slice (some ⟨ob,0,none⟩) n n,.slice (some ⟨pb,0,none⟩) n n]):=rfl
 obtain ⟨h0,hh0⟩:∃ h0,newB H bo [.slice (some ⟨ob,0,none⟩) n n,.slice (some ⟨pb,0,none⟩) n n]=h0:=⟨_,rfl⟩
 have zs:stN (newB (newB (newB H ob (ints (List.replicate n 0))) pb (ints (List.replicate (n*4) 0))) bo [.slice none 0 0,.slice none 0 0]) 2 (.pointer (some ⟨bo,0,none⟩)) (.agg #[.slice (some ⟨ob,0,none⟩) n n,.slice (some ⟨pb,0,none⟩) n n])=some (iH h0 ob pb (List.replicate n 0) (List.replicate (n*4) 0)):=by
  rw [Z1O (by rw [Z0b,if_pos rfl]) rfl rfl,ZlW _ qO qO qO,hh0]
 have t0:Z0q (c+1) H h0:=fun j hj=>by rw [← hh0,Z0b,if_neg qO]
 have s0:Z0q c h h0:=sH.trans (t0.mono qO)
 have hb0:Z0a h0 bo [.slice (some ⟨ob,0,none⟩) n n,.slice (some ⟨pb,0,none⟩) n n]:=by rw [← hh0]; exact Z0a.newB_same _ _ _
 have g0:=g1.same (show 256*c<256*(c+1) by omega) t0
 have hl:=Ans.eq (Zhm (256*c) bo ob pb so sp (ptrTo (256*c+1)) n A Pa h0 (c+1) (c+1+1+1) [] ka hn qO qO qO qO qO qO qO qO qO qO g0 hb0 ((h1.same s0).mono qO) ((h2.same s0).mono qO) (OkV.ptrTo qO) n 0 _ _ qO (ZbQ A Pa n))
 simp only [Int.ofNat_eq_natCast,Int.cast_ofNat_Int] at hl
 have l2:ld1 (iH h0 ob pb (List.replicate n 0) (List.replicate (n*4) 0)) (.pointer (some ⟨256*c,0,none⟩))=some so:=by
  rw [Z03 (g0.same qO (Z6r h0 (cm:=c+1) qO qO _ _))]; rfl
 obtain ⟨K0,hK0⟩:∃ K,iH h0 ob pb (List.replicate n 0) (List.replicate (n*4) 0)=K:=⟨_,rfl⟩
 rw [hK0] at zs hl l2
 obtain ⟨K,hK⟩:∃ K,iH h0 ob pb (Z0o A n) (iP A Pa n)=K:=⟨_,rfl⟩
 rw [hK] at hl
 have tK:Z0q (c+1) h0 K:=by rw [← hK]; exact Z6r h0 qO qO _ _
 have fb:K.f bo=some (.cells false none [.slice (some ⟨ob,0,none⟩) n n,.slice (some ⟨pb,0,none⟩) n n]):=by
  rw [← hK,Z94,if_neg qO,if_neg qO,← hh0,Z0b,if_pos rfl]
 have t1:=Z0S fb
 have f5:K.f (256*c+1)=some (.cells false none [.slice none 0 0,.slice none 0 0]):=(tK _ qO).trans ((t0 _ qO).trans f3)
 have t2:=Z1O f5 (v:=.slice (some ⟨ob,0,none⟩) n n) (w:=.slice (some ⟨pb,0,none⟩) n n) rfl rfl
 have t3:=Z0S (h:=HeapC.set K (256*c+1) (.cells false none [.slice (some ⟨ob,0,none⟩) n n,.slice (some ⟨pb,0,none⟩) n n])) (b:=256*c+1) (op:=none) (by rw [Z0m,if_pos rfl])
 have fx:=ai l0 (ai ln (ai mk (ai hob (ai l1 (ai mk4 (ai hpb (ai hz (ai hbo (ai zs (ai l2 (ai hl (ai t1 (ai t2 t3)))))))))))))
 refine Ans.go ?_
 clear fx
 refine .done ⟨_,_,rfl,(by show c<=_; simp only; omega),fun j hj=>?_, ?_, ?_,fun _=>by rw [blkOf_sl,blkOf_sl]; omega⟩
 · show (HeapC.set K (256*c+1) _).f j=h.f j
   rw [Z0m,if_neg qO,tK j qO]
   exact s0 j hj
 · refine Zdy (op:=none) ?_ (by rw [Z18]; omega) qO (by simp only; omega)
   show (HeapC.set K (256*c+1) _).f ob=_
   rw [Z0m,if_neg qO,← hK,Z94,if_neg qO,if_pos rfl]
 · refine Zdy (op:=none) ?_ (Z8A ka) qO (by simp only; omega)
   show (HeapC.set K (256*c+1) _).f pb=_
   rw [Z0m,if_neg qO,← hK,Z94,if_pos rfl]
def InvC (g:FuncId) (so sp:Value) (na pa:Nat) (A Pa:List Int) (h:FH) (c:Nat):Prop :=
 Zio g [.agg #[so,sp]] h c (if rnB A Pa na pa=true then 0 else 1) (if rnB A Pa na pa=true then na else 0) (if rnB A Pa na pa=true then Z0o A na else []) (if rnB A Pa na pa=true then iP A Pa na else [])
set_option maxHeartbeats 1000000 in
theorem Zhn (so sp:Value) (na pa:Nat) (A Pa:List Int) (h:FH) (c:Nat) (h1:SlI h c so 1 na A) (h2:SlI h c sp 4 pa Pa):InvC 18 so sp na pa A Pa h c:=by
 refine Zio.of (Ans.call' (fun r e=>f18_go e) ?_)
 unfold Zny
 rw [Z5j h1.flat h2.flat,Z5k]
 simp only [cond_true,Nat.add_zero]
 obtain ⟨H,hH⟩:∃ H,H=newB (newB h (256*c) [so,sp]) (256*c+1) [.slice none 0 0,.slice none 0 0]:=⟨_,rfl⟩
 have sH:Z0q c h H:=by rw [hH]; simp (disch:=omega)
 have g1:Z0a H (256*c) [so,sp]:=by rw [hH]; exact ((Z0a.newB_same _ _ _).newB_ne qO)
 have f3:H.f (256*c+1)=some (.cells false none [.slice none 0 0,.slice none 0 0]):=by rw [hH,Z0b,if_pos rfl]
 rw [← hH]
 clear hH
 have q1:=ld2_holds g1
 have hz:Z1v [.slice none 0 0,.slice none 0 0] []=some (.agg #[.slice none 0 0,.slice none 0 0]):=rfl
 have z1:=Z1O f3 (v:=.slice none 0 0) (w:=.slice none 0 0) rfl rfl
 have z2:=Z0S (h:=HeapC.set H (256*c+1) (.cells false none [.slice none 0 0,.slice none 0 0])) (b:=256*c+1) (op:=none) (v:=.slice none 0 0) (w:=.slice none 0 0) (by rw [Z0m,if_pos rfl])
 have i1:=Z0j (Z3D so sp na pa A Pa H (c+1+1) [] ((h1.same sH).mono qO) ((h2.same sH).mono qO))
 cases ea:rnB A Pa na pa with
 | false =>
  rw [ea] at i1
  simp only [Bool.false_eq_true,if_false]
  have fx:=ai q1 (ai i1 (ai hz (ai z1 z2)))
  refine Ans.go ?_
  clear fx
  exact .done ⟨_,_,rfl,(by show c<=_; simp only; omega),sH.set qO,Z7R.nil _ _ _⟩
 | true =>
 rw [ea] at i1
 unfold rnB at ea
 rw [Bool.and_eq_true,decide_eq_true_eq] at ea
 have hA:A.length=na:=by have:=h1.1; omega
 obtain ⟨-,ep,ka⟩:=IsoK.of hA h2.1 ea.2
 simp only [if_true]
 subst ep
 obtain ⟨⟨re,rv,K,k,rd⟩,hr,v,w,r1,r2,r3,r4⟩:=ZcF so sp pa A Pa H (c+1+1+1) [] ((h1.same sH).mono qO) ((h2.same sH).mono qO) ka ea.1
 simp only [Rt.mk.injEq] at r1
 obtain ⟨rfl,rfl,-,-,rfl⟩:=r1
 simp only at r2 r3 r4
 have ci:=Z0j hr
 have f5:K.f (256*c+1)=some (.cells false none [.slice none 0 0,.slice none 0 0]):=(r3 _ qO).trans f3
 have hfl:=r4.flat
 have t2:=Z1O f5 hfl.1 hfl.2
 have t3:=Z0S (h:=HeapC.set K (256*c+1) (.cells false none [v,w])) (b:=256*c+1) (op:=none) (v:=v) (w:=w) (by rw [Z0m,if_pos rfl])
 have fx:=ai q1 (ai i1 (ai ci (ai t2 t3)))
 refine Ans.go ?_
 clear fx
 refine .done ⟨v,w,rfl,(by show c<=k; omega),fun j hj=>?_, ?_⟩
 · show (HeapC.set K (256*c+1) (.cells false none [v,w])).f j=h.f j
   rw [Z0m,if_neg qO,r3 j qO]
   exact sH j hj
 · refine (r4.keep fun j hj _=>?_).mono qO (Nat.le_refl _)
   rw [Z0m,if_neg qO]
theorem Zhl (ga bo ob pb:Nat) (so sp x2:Value) (n:Nat) (A Pa:List Int) (h0:FH) (cm c:Nat) (df:List Nat) (ka:IsoK A Pa n) (hn:n<=1000) (hcm:cm<=c) (hga:ga<256*cm) (hob:256*cm<=ob) (hpb:256*cm<=pb) (hbo:bo<256*c) (hob':ob<256*c) (hpb':pb<256*c) (n1:ob ≠ pb) (n2:bo ≠ ob) (n3:bo ≠ pb)
 (g:Z0a h0 ga [so,sp]) (hb:Z0a h0 bo [.slice (some ⟨ob,0,none⟩) n n,.slice (some ⟨pb,0,none⟩) n n]) (h1:SlI h0 cm so 1 n A) (h2:SlI h0 cm sp 4 n Pa) (o2:OkV c x2) :
 ∀ (k i:Nat) (X Y:List Int),i+k=n->InvX A Pa n i X Y →
 Ans (G (Za0 none) [ptrTo ga,x2,.int .i64 n,ptrTo bo,.int .i64 i] (iH h0 ob pb X Y) c df) fun q=>q=⟨.exit 0,[ptrTo ga,x2,.int .i64 n,ptrTo bo,.int .i64 n],iH h0 ob pb (Z0o A n) (iP A Pa n),c,df⟩:=by
 intro k
 have lg:ga<256*c:=by omega
 induction k with
 | zero =>
  intro i X Y hi s
  obtain rfl:i=n:=by omega
  obtain ⟨rfl,rfl⟩:=s.all ka
  refine Ans.lpG rfl rfl (Z60 ..) ?_
  unfold Z7i
  have fx:=True.intro
  refine Ans.go ?_
  clear fx
  (have fx:=ai lg (ai hbo o2); refine Ans.ex0 ?_; clear fx)
  rfl
 | succ k ih =>
  intro i X Y hi s
  have hk:=ih (i+1) _ _ qO (s.step ka qO)
  have hi':i<n:=by omega
  have q24:=Z5i (ka.v i hi')
  have lq:=Z23 q24
  have xz:=ka.oa.oz i hi'
  have xl:=ka.oa.o i hi'
  have sS:=Z6r h0 hob hpb X Y
  have a1:=h1.same sS
  have l1:=a1.rdi i qO qO
  simp only [Int.toNat_natCast] at l1
  rw [Z3A,xz] at l1
  have fb:(iH h0 ob pb X Y).f bo=h0.f bo:=by rw [Z94,if_neg n3,if_neg n2]
  have gb:=Z0a.eqf2 fb hb
  have e1:ld1 (iH h0 ob pb X Y) (.pointer (some ⟨bo,0,none⟩))=some (.slice (some ⟨ob,0,none⟩) n n):=by rw [Z03 gb]; rfl
  have e0:ld1 (iH h0 ob pb X Y) (.pointer (some ⟨ga,0,none⟩))=some so:=by rw [Z03 (g.same hga sS)]; rfl
  have sS1:=Z6r h0 hob hpb (X.set (oA A i) i) Y
  have b1:=h1.same sS1
  have b2:=h2.same sS1
  have l1':=b1.rdi i qO qO
  simp only [Int.toNat_natCast] at l1'
  rw [Z3A,xz] at l1'
  have p1:=b2.perm i qO qO
  simp only [Int.toNat_natCast] at p1
  have fb1:(iH h0 ob pb (X.set (oA A i) i) Y).f bo=h0.f bo:=by rw [Z94,if_neg n3,if_neg n2]
  have gb1:=Z0a.eqf2 fb1 hb
  have e2:ld1 (iH h0 ob pb (X.set (oA A i) i) Y) (.pointer (some ⟨bo,1,none⟩))=some (.slice (some ⟨pb,0,none⟩) n n):=by rw [Z03 gb1]; rfl
  have e3:ld1 (iH h0 ob pb (X.set (oA A i) i) Y) (.pointer (some ⟨ga,1,none⟩))=some sp:=by rw [Z03 (g.same hga sS1)]; rfl
  have e4:ld1 (iH h0 ob pb (X.set (oA A i) i) Y) (.pointer (some ⟨ga,0,none⟩))=some so:=by rw [Z03 (g.same hga sS1)]; rfl
  have fo:HeapC.get (iH h0 ob pb X Y) ob=some (.cells false none (ints X)):=by
   show (iH h0 ob pb X Y).f ob=_
   rw [Z94,if_neg n1,if_pos rfl]
  have w1:stN (iH h0 ob pb X Y) 1 (.pointer (some ⟨ob,oA A i,none⟩)) (.int .i64 i)=some (iH h0 ob pb (X.set (oA A i) i) Y):=by
   rw [Z4F fo (by simp [s.xl,xl]) rfl rfl,Z57,Zhq _ n1]
  have fp:HeapC.get (iH h0 ob pb (X.set (oA A i) i) Y) pb=some (.cells false none (ints Y)):=by
   show (iH h0 ob pb (X.set (oA A i) i) Y).f pb=_
   rw [Z94,if_pos rfl]
  have w2:stN (iH h0 ob pb (X.set (oA A i) i) Y) 4 (.pointer (some ⟨pb,oA A i*4,none⟩)) (av (inv (Z04 Pa i)))=some (iH h0 ob pb (X.set (oA A i) i) (Y.take (oA A i*4)++inv (Z04 Pa i)++Y.drop (oA A i*4+4))):=by
   rw [ZgS fp (by rw [s.yl]; omega) lq,Zhp]
  have ci:=Za5 _ (ka.v i hi') (iH h0 ob pb (X.set (oA A i) i) Y)
  have up:=Zho h0 hob' hpb' X Y (X.set (oA A i) i) (Y.take (oA A i*4)++inv (Z04 Pa i)++Y.drop (oA A i*4+4))
  obtain ⟨q,hq⟩:∃ q,inv (Z04 Pa i)=q:=⟨_,rfl⟩
  rw [hq] at w2 ci up hk
  obtain ⟨p,hp⟩:∃ p,Z04 Pa i=p:=⟨_,rfl⟩
  rw [hp] at p1 ci
  obtain ⟨x,hx⟩:∃ x,oA A i=x:=⟨_,rfl⟩
  rw [hx] at l1 l1' w1 w2 up hk xl ci b1 b2 p1 e2 e3 e4
  obtain ⟨Y',hY'⟩:∃ Y',Y.take (x*4)++q++Y.drop (x*4+4)=Y':=⟨_,rfl⟩
  rw [hY'] at w2 up hk
  obtain ⟨S,hS⟩:∃ S,iH h0 ob pb X Y=S:=⟨_,rfl⟩
  obtain ⟨S1,hS1⟩:∃ S,iH h0 ob pb (X.set x i) Y=S:=⟨_,rfl⟩
  obtain ⟨S2,hS2⟩:∃ S,iH h0 ob pb (X.set x i) Y'=S:=⟨_,rfl⟩
  rw [hS] at a1 l1 e1 e0 w1 up
  rw [hS1] at w1 w2 ci b1 b2 p1 e2 e3 e4 l1'
  rw [hS2] at w2 up hk
  rw [hS]
  have xlt:(x:Int)<n:=by omega
  refine Ans.lpG rfl rfl (Z60 ..) ?_
  unfold Z7i
  have fx:=ai a1.ixs1 (ai l1 (ai l1' (ai e0 (ai e1 (ai e2 (ai e3 (ai e4 (ai b1.ixs1 (ai b2.ixs (ai p1 (ai ci (ai w1 (ai w2 (ai sameB_self xlt))))))))))))))
  refine Ans.go ?_
  clear fx
  (have fx:=ai lg (ai hbo o2); refine Ans.nxB (B:=S2) ?_ ?_; exact (up); clear fx)
  exact hk
set_option maxHeartbeats 1000000 in
theorem Zhk (so sp:Value) (na pa:Nat) (A Pa:List Int) (h:FH) (c:Nat) (h1:SlI h c so 1 na A) (h2:SlI h c sp 4 pa Pa):InvC 19 so sp na pa A Pa h c:=by
 refine Zio.of (Ans.call' (fun r e=>f19_go e) ?_)
 unfold Znx
 rw [Z5j h1.flat h2.flat,Z5k]
 simp only [cond_true,Nat.add_zero]
 obtain ⟨H,hH⟩:∃ H,H=newB (newB h (256*c) [so,sp]) (256*c+1) [.slice none 0 0,.slice none 0 0]:=⟨_,rfl⟩
 have sH:Z0q c h H:=by rw [hH]; simp (disch:=omega)
 have g1:Z0a H (256*c) [so,sp]:=by rw [hH]; exact ((Z0a.newB_same _ _ _).newB_ne qO)
 have f3:H.f (256*c+1)=some (.cells false none [.slice none 0 0,.slice none 0 0]):=by rw [hH,Z0b,if_pos rfl]
 rw [← hH]
 clear hH
 have q1:=ld2_holds g1
 have ln:=h1.len
 have l0:ld1 H (.pointer (some ⟨256*c,0,none⟩))=some so:=by rw [Z03 g1]; rfl
 have hz:Z1v [.slice none 0 0,.slice none 0 0] []=some (.agg #[.slice none 0 0,.slice none 0 0]):=rfl
 have z1:=Z1O f3 (v:=.slice none 0 0) (w:=.slice none 0 0) rfl rfl
 have z2:=Z0S (h:=HeapC.set H (256*c+1) (.cells false none [.slice none 0 0,.slice none 0 0])) (b:=256*c+1) (op:=none) (v:=.slice none 0 0) (w:=.slice none 0 0) (by rw [Z0m,if_pos rfl])
 by_cases hn:na<=1000
 case neg =>
  have ea:rnB A Pa na pa=false:=by simp [rnB,hn]
  rw [ea]
  simp only [Bool.false_eq_true,if_false]
  have fx:=ai l0 (ai ln (ai hz (ai z1 z2)))
  refine Ans.go ?_
  clear fx
  exact .done ⟨_,_,rfl,(by show c<=_; simp only; omega),sH.set qO,Z7R.nil _ _ _⟩
 have i1:=Z0j (ZmK so sp na pa na A Pa H (c+1+1+1) [] ((h1.same sH).mono qO) ((h2.same sH).mono qO) qO)
 cases eo:Z48 A Pa na pa na with
 | false =>
  have ea:rnB A Pa na pa=false:=by simp [rnB,eo]
  rw [eo] at i1
  rw [ea]
  simp only [Bool.false_eq_true,if_false]
  have fx:=ai l0 (ai ln (ai q1 (ai i1 (ai hz (ai z1 z2)))))
  refine Ans.go ?_
  clear fx
  exact .done ⟨_,_,rfl,(by show c<=_; simp only; omega),sH.set qO,Z7R.nil _ _ _⟩
 | true =>
 have ea:rnB A Pa na pa=true:=by simp [rnB,eo,hn]
 rw [eo] at i1
 rw [ea]
 have hA:A.length=na:=by have:=h1.1; omega
 obtain ⟨-,ep,ka⟩:=IsoK.of hA h2.1 eo
 simp only [if_true]
 clear z1 z2 hz q1
 have q1:=ld2_holds g1
 subst ep
 obtain ⟨n,hnn⟩:∃ n,pa=n:=⟨_,rfl⟩
 rw [hnn] at h1 h2 ka hn ln i1 ⊢
 have mk:=Z3F 1 8 .i64 .i64 n qO qO
 have mk4:=ZdB 4 32 .i64 .i64 n qO qO
 obtain ⟨ob,hob⟩:∃ b,256*(c+1+1+1)+1=b:=⟨_,rfl⟩
 obtain ⟨pb,hpb⟩:∃ b,256*(c+1+1+1)+3=b:=⟨_,rfl⟩
 obtain ⟨bo,hbo⟩:∃ b,256*(c+1+1+1)+5=b:=⟨_,rfl⟩
 have hz:Z1v [.slice none 0 0,.slice none 0 0] [(0,1,.slice (some ⟨ob,0,none⟩) n n),(1,1,.slice (some ⟨pb,0,none⟩) n n)]=some (.agg #[.slice (some ⟨ob,0,none⟩) n n,.slice (some ⟨pb,0,none⟩) n n]):=rfl
 obtain ⟨h0,hh0⟩:∃ h0,newB H bo [.slice (some ⟨ob,0,none⟩) n n,.slice (some ⟨pb,0,none⟩) n n]=h0:=⟨_,rfl⟩
 have zs:stN (newB (newB (newB H ob (ints (List.replicate n 0))) pb (ints (List.replicate (n*4) 0))) bo [.slice none 0 0,.slice none 0 0]) 2 (.pointer (some ⟨bo,0,none⟩)) (.agg #[.slice (some ⟨ob,0,none⟩) n n,.slice (some ⟨pb,0,none⟩) n n])=some (iH h0 ob pb (List.replicate n 0) (List.replicate (n*4) 0)):=by
  rw [Z1O (by rw [Z0b,if_pos rfl]) rfl rfl,ZlW _ qO qO qO,hh0]
 have t0:Z0q (c+1) H h0:=fun j hj=>by rw [← hh0,Z0b,if_neg qO]
 have s0:Z0q c h h0:=sH.trans (t0.mono qO)
 have hb0:Z0a h0 bo [.slice (some ⟨ob,0,none⟩) n n,.slice (some ⟨pb,0,none⟩) n n]:=by rw [← hh0]; exact Z0a.newB_same _ _ _
 have g0:=g1.same (show 256*c<256*(c+1) by omega) t0
 have hl:=Ans.eq (Zhl (256*c) bo ob pb so sp (ptrTo (256*c+1)) n A Pa h0 (c+1) (c+1+1+1+1+1) [] ka hn qO qO qO qO qO qO qO qO qO qO g0 hb0 ((h1.same s0).mono qO) ((h2.same s0).mono qO) (OkV.ptrTo qO) n 0 _ _ qO (ZbQ A Pa n))
 simp only [Int.ofNat_eq_natCast,Int.cast_ofNat_Int] at hl
 obtain ⟨K0,hK0⟩:∃ K,iH h0 ob pb (List.replicate n 0) (List.replicate (n*4) 0)=K:=⟨_,rfl⟩
 rw [hK0] at zs hl
 obtain ⟨K,hK⟩:∃ K,iH h0 ob pb (Z0o A n) (iP A Pa n)=K:=⟨_,rfl⟩
 rw [hK] at hl
 have tK:Z0q (c+1) h0 K:=by rw [← hK]; exact Z6r h0 qO qO _ _
 have fb:K.f bo=some (.cells false none [.slice (some ⟨ob,0,none⟩) n n,.slice (some ⟨pb,0,none⟩) n n]):=by
  rw [← hK,Z94,if_neg qO,if_neg qO,← hh0,Z0b,if_pos rfl]
 have t1:=Z0S fb
 have f5:K.f (256*c+1)=some (.cells false none [.slice none 0 0,.slice none 0 0]):=(tK _ qO).trans ((t0 _ qO).trans f3)
 have t2:=Z1O f5 (v:=.slice (some ⟨ob,0,none⟩) n n) (w:=.slice (some ⟨pb,0,none⟩) n n) rfl rfl
 have t3:=Z0S (h:=HeapC.set K (256*c+1) (.cells false none [.slice (some ⟨ob,0,none⟩) n n,.slice (some ⟨pb,0,none⟩) n n])) (b:=256*c+1) (op:=none) (by rw [Z0m,if_pos rfl])
 have fx:=ai l0 (ai ln (ai q1 (ai i1 (ai mk (ai hob (ai mk4 (ai hpb (ai hz (ai hbo (ai zs (ai hl (ai t1 (ai t2 t3)))))))))))))
 refine Ans.go ?_
 clear fx
 refine .done ⟨_,_,rfl,(by show c<=_; simp only; omega),fun j hj=>?_, ?_, ?_,fun _=>by rw [blkOf_sl,blkOf_sl]; omega⟩
 · show (HeapC.set K (256*c+1) _).f j=h.f j
   rw [Z0m,if_neg qO,tK j qO]
   exact s0 j hj
 · refine Zdy (op:=none) ?_ (by rw [Z18]; omega) qO (by simp only; omega)
   show (HeapC.set K (256*c+1) _).f ob=_
   rw [Z0m,if_neg qO,← hK,Z94,if_neg qO,if_pos rfl]
 · refine Zdy (op:=none) ?_ (Z8A ka) qO (by simp only; omega)
   show (HeapC.set K (256*c+1) _).f pb=_
   rw [Z0m,if_neg qO,← hK,Z94,if_pos rfl]

theorem Zmv (s so sp sb v6:Value) (n:Nat) (Gl Ord Pm:List Int) (gb bo cm c1:Nat) (h:FH) (hn:n<=1000) (hgb:gb<256*cm) (hbo:256*cm<=bo) (hbo1:bo<256*c1) (hcm:cm<=c1)
 (hh:Z0a h gb [s]) (hg:SlI h cm s 20 n Gl) (ho:SlI h cm so 1 n Ord) (hp:SlI h cm sp 4 n Pm) (hb:SlI h cm sb 1 n (Z0o Ord n)) (hok:RnOk Gl Ord Pm n) (hv6:OkV cm v6) (df:List Nat) :
 ∀ (k i c:Nat) (H:FH) (v:Value),i+k=n->c1<=c->Z0q cm h H->H.f bo=some (.cells false none [v])->Z9q c1 H c v 20 i (rnL Gl Ord Pm (Z0o Ord n) i) →
 Ans (G (Z9Q none) [sp,ptrTo gb,v6,sb,ptrTo bo,so,.int .i64 n,.int .i64 i] H c df)
  fun r=>r.e = .exit 2/\r.vs=[sp,ptrTo gb,v6,sb,ptrTo bo,so,.int .i64 n,.int .i64 n]/\r.df=df/\c<=r.c/\Z0q cm h r.h ∧
   ∃ v,r.h.f bo=some (.cells false none [v])/\Z9q c1 r.h r.c v 20 n (rnL Gl Ord Pm (Z0o Ord n) n):=by
 intro k
 induction k with
 | zero =>
  intro i c H v hi hc hH hv ha
  obtain rfl:i=n:=by omega
  refine Ans.lpN rfl rfl (Z4p ..) ?_
  unfold Z42
  have fx:=True.intro
  refine Ans.go ?_
  clear fx
  exact Ans.exitN ⟨rfl,rfl,rfl,(by show c<=c+1; omega),hH,v,hv,ha.mono (by show c<=c+1; omega)⟩
 | succ k ih =>
  intro i c H v hi hc hH hv ha
  have hF:∀ f,f<4->(rnF Gl Ord Pm (Z0o Ord n) i f).length=5:=fun f hf=>Z2r hok qO hf
  have hin:=Ans.eq (rnG_in s so sp sb v6 (ptrTo bo) n Gl Ord Pm gb (256*(c+1+1)) cm (c+1+1+1+1) H i qO hn qO hgb qO qO
   (hh.same hgb hH) (hg.same hH) (ho.same hH) (hp.same hH) (hb.same hH) hok (hv6.mono qO) (OkV.ptrTo qO) df 4 0 rfl)
  have hz:ints (Z7z (rnF Gl Ord Pm (Z0o Ord n) i) 0)=[(.int .i64 0),(.int .i64 0),(.int .i64 0),(.int .i64 0),(.int .i64 0),(.int .i64 0),(.int .i64 0),(.int .i64 0),(.int .i64 0),(.int .i64 0),(.int .i64 0),(.int .i64 0),(.int .i64 0),(.int .i64 0),(.int .i64 0),(.int .i64 0),(.int .i64 0),(.int .i64 0),(.int .i64 0),(.int .i64 0)]:=rfl
  rw [hz] at hin
  simp only [Int.ofNat_eq_natCast,Int.cast_ofNat_Int] at hin
  have hoH:=ho.same hH
  have l1:=hoH.rdi i qO qO
  simp only [Int.toNat_natCast] at l1
  rw [Z3A] at l1
  obtain ⟨X,hX⟩:∃ X,Ord.getD i 0=X:=⟨_,rfl⟩
  rw [hX] at l1 hin
  have hRl:=Z0F hF 4 qO
  obtain ⟨R,hR⟩:∃ R,Z1x (rnF Gl Ord Pm (Z0o Ord n) i) 4=R:=⟨_,rfl⟩
  have hL:rnL Gl Ord Pm (Z0o Ord n) (i+1)=rnL Gl Ord Pm (Z0o Ord n) i++R:=by rw [rnL,hR]
  rw [hR] at hin hRl
  have lv:ld1 H (.pointer (some ⟨bo,0,none⟩))=some v:=by rw [Z03 (cs:=[v]) ⟨false,none,hv⟩]; rfl
  have lr:ldN (newB H (256*(c+1+1)) (ints R)) 20 (.pointer (some ⟨256*(c+1+1),0,none⟩))=some (av R):=by
   rw [ldN_newB_same _ _ _ _ _ (by simp [hRl]),List.drop_zero,List.take_of_length_le (by simp [hRl])]; rfl
  have hbl:=Zmb R hRl
  obtain ⟨v',h',e1,e2,e3,e4⟩:=(ha.keep (h':=newB H (256*(c+1+1)) (ints R)) (fun j _ hj=>by rw [Z0b,if_neg qO])).mono (c':=c+1+1+1+1) qO |>.app (c':=c+1+1+1+1+1+1) R hRl qO 160 (256*(c+1+1+1+1)+3) (256*(c+1+1+1+1)+4) qO qO qO qO qO qO
  have hs0:Z0q c1 H h':=Z0q.trans ((Same_newB qO).2 (Z0q.refl _ _)) e3
  have hv':h'.f bo=some (.cells false none [v]):=(hs0 bo hbo1).trans hv
  have hst:=Z4F (v:=v') (o:=0) (show HeapC.get h' bo=_ from hv') (by simp) e2.flat.2 e2.flat.1
  refine Ans.lpN rfl rfl (Z4p ..) ?_
  unfold Z42
  have fx:=ai hoH.ixs1 (ai l1 (ai hin (ai lv (ai lr (ai hbl (ai e1 hst))))))
  refine Ans.go ?_
  clear fx
  refine Ans.nextN ?_
  refine (ih (i+1) _ _ v' qO qO ?_ ?_ ?_).mono ?_
  · intro j hj
    rw [Z0m,if_neg qO,hs0 j qO,hH j hj]
  · rw [Z0m,if_pos rfl]
  · rw [hL]
    exact e2.keep (fun j h1 h2=>by rw [Z0m,if_neg qO])
  · rintro r ⟨q1,q2,q3,q4,q5,q6⟩
    exact ⟨q1,q2,q3,by omega,q5,q6⟩
theorem Z5G (s:Value) (n:Nat) (Gl:List Int) (h:FH) (c:Nat) (hs:SlI h c s 20 n Gl):callF G 57 [.agg #[s]] h c=some (.int .i64 (if n<=1000/\Z0Y Gl n=true then 0 else 7),h,c):=Z0j (Zlw s n Gl h c [] hs)
set_option maxHeartbeats 1000000 in
theorem Zh2 (s so sp:Value) (n a b:Nat) (Gl Ord Pm:List Int) (h:FH) (c:Nat) (df:List Nat) (hs:SlI h c s 20 n Gl) (ho:SlI h c so 1 a Ord) (hp:SlI h c sp 4 b Pm) :
 Ans (G (.fn 40) [.agg #[s],so,sp] h c df) (Z90 h c Gl Ord Pm n a b):=by
 refine Ans.call' (fun r e=>f40_go e) ?_
 have hflat:((Value.agg #[s]).cells.toList.all Z08)=true:=by simp [Value.cells,hs.flat]
 have hcell:(Value.agg #[s]).cells.toList=[s]:=rfl
 unfold ZhW
 rw [hflat,hcell]
 simp only [cond_true]
 obtain ⟨H0,hH0⟩:∃ H0,H0=newB h (256*c) [s]:=⟨_,rfl⟩
 have sH0:Z0q c h H0:=by rw [hH0]; simp (disch:=omega)
 have hg0:Z0a H0 (256*c) [s]:=by rw [hH0]; exact Z0a.newB_same _ _ _
 rw [Nat.add_zero,← hH0]
 clear hH0
 obtain ⟨H,hH⟩:∃ H,H=newB H0 (256*c+1) [.slice none 0 0]:=⟨_,rfl⟩
 have sH:Z0q c h H:=by rw [hH]; exact sH0.newB qO
 have hg:Z0a H (256*c) [s]:=by rw [hH]; exact hg0.newB_ne qO
 have hr:H.f (256*c+1)=some (.cells false none [.slice none 0 0]):=by rw [hH,Z0b,if_pos rfl]
 have l0:=Z0C hg
 have l1:ld1 H (.pointer (some ⟨256*c,0,none⟩))=some s:=by rw [Z03 hg]; rfl
 have c1:=Z5G s n Gl H (c+1+1) ((hs.same sH).mono qO)
 have hlen:=hs.len
 have hlo:=ho.len
 have hlp:=hp.len
 have w0:=Z86 hr (o:=0) (v:=.slice none 0 0) (by simp) rfl
 have hz:Z1v [(.slice none 0 0)] []=some (.agg #[.slice none 0 0]):=rfl
 rw [← hH]
 have w1:=Z0C (h:=HeapC.set H (256*c+1) (.cells false none [.slice none 0 0])) (b:=256*c+1) (cs:=[]) (v:=.slice none 0 0) ⟨_,_,get_set_same _ _ _⟩
 by_cases hok:n<=1000/\Z0Y Gl n=true
 case neg =>
  rw [if_neg hok] at c1
  have fx:=ai l0 (ai c1 (ai hz (ai w0 w1)))
  refine Ans.go ?_
  clear fx
  refine .done ⟨rfl,rfl,(by show c<=c+1+1+1+1; omega), ?_,.slice none 0 0,by rw [rnE,if_neg hok], ?_⟩
  · exact sH.set qO
  · rw [rnN,rnR,if_neg (fun h=>hok ⟨h.1,h.2.1⟩),if_neg (fun h=>hok ⟨h.1,h.2.1⟩)]
    exact ⟨SlI.nil _ _ _,fun h=>absurd h qO⟩
 rw [if_pos hok] at c1
 obtain ⟨M,hM⟩:∃ M,M=newB (newB H (256*(c+1+1+1+1)+1) (ints (List.replicate n 0))) (256*(c+1+1+1+1+1)+1) (bools (List.replicate n false)):=⟨_,rfl⟩
 have sM:Z0q (c+1+1+1+1) H M:=by rw [hM]; simp (disch:=omega)
 have scM:Z0q c h M:=sH.trans (sM.mono qO)
 have wM:=Z86 (h:=M) (b:=256*c+1) (cs:=[.slice none 0 0]) (op:=none) ((sM _ qO).trans hr) (o:=0) (v:=.slice none 0 0) (by simp) rfl
 have wM1:=Z0C (h:=HeapC.set M (256*c+1) (.cells false none [.slice none 0 0])) (b:=256*c+1) (cs:=[]) (v:=.slice none 0 0) ⟨_,_,get_set_same _ _ _⟩
 have bad:Z48 Ord Pm a b n=false -> ∀ c':Nat,c<=c'->Ans (some ⟨Ex.ret,[.tuple #[.agg #[.slice none 0 0],.int .i64 1]],HeapC.set M (256*c+1) (.cells false none [.slice none 0 0]),c',[]⟩) (Z90 h c Gl Ord Pm n a b):=fun ho c' hc'=>by
  refine .done ⟨rfl,rfl,hc', ?_,.slice none 0 0,by rw [rnE,if_pos hok,ho,if_neg (by simp)], ?_⟩
  · exact scM.set qO
  · rw [rnN,rnR,if_neg (fun h=>by rw [ho] at h; simp at h),if_neg (fun h=>by rw [ho] at h; simp at h)]
    exact ⟨SlI.nil _ _ _,fun h=>absurd h qO⟩
 by_cases hbn:b<=1000000000
 case neg =>
  have:Z48 Ord Pm a b n=false:=by
   have:¬ b=n:=by omega
   simp [Z48,this]
  by_cases han:a=n
  · have fx:=ai l0 (ai l1 (ai hlen (ai hlo (ai hlp (ai c1 (ai hz (ai Z3F (ai Z2d (ai hM.symm (ai wM wM1))))))))))
    refine Ans.go ?_
    clear fx
    exact bad this _ qO
  · have fx:=ai l0 (ai l1 (ai hlen (ai hlo (ai hlp (ai c1 (ai hz (ai Z3F (ai Z2d (ai hM.symm (ai wM wM1))))))))))
    refine Ans.go ?_
    clear fx
    exact bad this _ qO
 have c3:=Z0j (Zd6 sp b Pm M (c+1+1+1+1+1+1+1) [] hbn ((hp.same scM).mono qO))
 by_cases han:a=n
 case neg =>
  have:Z48 Ord Pm a b n=false:=by simp [Z48,han]
  have fx:=ai l0 (ai l1 (ai hlen (ai hlo (ai hlp (ai c1 (ai hz (ai Z3F (ai Z2d (ai hM.symm (ai wM wM1))))))))))
  refine Ans.go ?_
  clear fx
  exact bad this _ qO
 by_cases hbb:b=n
 case neg =>
  have:Z48 Ord Pm a b n=false:=by simp [Z48,hbb]
  have fx:=ai l0 (ai l1 (ai hlen (ai hlo (ai hlp (ai c1 (ai hz (ai Z3F (ai Z2d (ai hM.symm (ai wM wM1))))))))))
  refine Ans.go ?_
  clear fx
  exact bad this _ qO
 subst han
 subst hbb
 cases hab:Z5t Pm b with
 | true =>
  have:Z48 Ord Pm b b b=false:=by
   obtain ⟨j,j1,j2⟩:=Z8W.1 hab
   cases hq:Z48 Ord Pm b b b with
   | false=>rfl
   | true =>
    have:=(Z55 (Z5M.1 hq).2.2 j qO qO).2.2
    rw [j2] at this; cases this
  rw [hab] at c3
  have fx:=ai l0 (ai l1 (ai hlen (ai hlo (ai hlp (ai c1 (ai hz (ai Z3F (ai Z2d (ai hM.symm (ai wM (ai wM1 c3)))))))))))
  refine Ans.go ?_
  clear fx
  exact bad this _ qO
 | false =>
  rw [hab] at c3
  have hfg:Zbt Ord Pm b b 0 (List.replicate b false)=Zmz Ord b b 0 (List.replicate b false):=ZlR (fun j _ h2=>Z7H.1 hab j qO)
  have hbk:=ZiJ so sp (ptrTo (256*c)) (.int .i64 0) b b Ord (256*c+1) (256*(c+1+1+1+1)+1) (256*(c+1+1+1+1+1)+1) c (c+1+1+1+1+1+1+1+1) H0 hok.1 qO qO qO qO qO
   (ho.same sH0) (hp.mono qO).okV (OkV.ptrTo qO) (OkV.int _ _ _) [] b 0 (List.replicate b 0) (List.replicate b false) qO (by simp) (by simp)
  rw [hH.symm,hM.symm] at hbk
  obtain ⟨⟨re,rv,rh,rc,rd⟩,hq,q1,q2,l',met',q3,q4⟩:=hbk
  simp only at q1 q2 q3 q4
  subst q1 q2
  simp only [Int.ofNat_eq_natCast,Int.cast_ofNat_Int] at hq
  rw [← hfg] at q4
  cases hord2:Zbt Ord Pm b b 0 (List.replicate b false) with
  | false =>
   rw [hord2,if_neg (by simp)] at q4
   obtain ⟨rfl,q5,q6⟩:=q4
   have hord:Z48 Ord Pm b b b=false:=by simp [Z48,hord2]
   have sq:Z0q (c+1+1+1+1) H rh:=by rw [q3]; simp (disch:=omega)
   have l9:ldN rh 1 (.pointer (some ⟨256*c+1,0,none⟩))=some (.agg #[.slice none 0 0]):=Z0C ⟨_,_,(sq _ qO).trans hr⟩
   have q5':(⟨Ex.ret,rv,rh,c+1+1+1+1+1+1+1+1,[]⟩:Rt FH).v 3=ptrTo (256*c+1):=q5
   have fx:=ai l0 (ai l1 (ai hlen (ai hlo (ai hlp (ai c1 (ai hz (ai Z3F (ai Z2d (ai hM.symm (ai wM (ai wM1 (ai c3 (ai hq (ai q5' l9))))))))))))))
   refine Ans.go ?_
   clear fx
   refine .done ⟨rfl,rfl,(by show c<=c+1+1+1+1+1+1+1+1; omega), ?_,.slice none 0 0, ?_, ?_⟩
   · exact sH.trans (sq.mono qO)
   · show [Value.tuple #[Value.agg #[.slice none 0 0],_]]=_
     rw [q6,rnE,if_pos hok,hord,if_neg (by simp)]
   · rw [rnN,rnR,if_neg (fun h=>by rw [hord] at h; simp at h),if_neg (fun h=>by rw [hord] at h; simp at h)]
     exact ⟨SlI.nil _ _ _,fun h=>absurd h qO⟩
  | true =>
   rw [hord2,if_pos rfl] at q4
   obtain ⟨rfl,rfl,v7',rfl⟩:=q4
   have hord:Z48 Ord Pm b b b=true:=by simp [Z48,hord2]
   have hrn:=RnOk.of hs.1 (by simpa using ho.1) hp.1 hok.2 hord
   have sH2:Z0q (c+1+1+1+1) H rh:=by rw [q3]; simp (disch:=omega)
   rw [show Z66 Ord b 0 (List.replicate b 0)=Z0o Ord b from rfl] at q3
   have sb:SlI rh (c+1+1+1+1+1+1+1+1) (.slice (some ⟨256*(c+1+1+1+1)+1,0,none⟩) b b) 1 b (Z0o Ord b):=by
    refine ⟨by rw [Z18,Nat.mul_one],by omega,_,_,rfl,.inr ⟨_,0,ints (Z0o Ord b),rfl,by omega, ?_, ?_⟩⟩
    · rw [q3]; exact (Z0a.newB_same _ _ _).newB_ne qO
    · rw [List.drop_zero,List.take_of_length_le (by simp [Z18])]
   have sc:Z0q c h rh:=sH.trans (sH2.mono qO)
   clear q3
   obtain ⟨⟨re,rv,rh',rc,rd⟩,hm,m1,m2,m3,m4,m5,v,m6,m7⟩:=Zmv s so sp (.slice (some ⟨256*(c+1+1+1+1)+1,0,none⟩) b b) (ptrTo (256*c+1)) b Gl Ord Pm (256*c) (256*(c+1+1+1+1+1+1+1+1)) (c+1+1+1+1+1+1+1+1) (c+1+1+1+1+1+1+1+1+1+1) rh hok.1 qO qO qO qO
    (hg.same qO sH2) ((hs.same sc).mono qO) ((ho.same sc).mono qO) ((hp.same sc).mono qO) sb hrn (OkV.ptrTo qO) [] b 0 (c+1+1+1+1+1+1+1+1+1+1) (newB rh (256*(c+1+1+1+1+1+1+1+1)) [.slice none 0 0]) (.slice none 0 0) qO qO
    ((Same_newB qO).2 (Z0q.refl _ _)) (by rw [Z0b,if_pos rfl]) (Z9q.nil _ _ _ _)
   simp only at m1 m2 m3 m4 m5 m6 m7
   subst m1 m2 m3
   simp only [Int.ofNat_eq_natCast,Int.cast_ofNat_Int] at hm
   have l2:=Z0C ⟨_,_,m6⟩
   have hr2:rh'.f (256*c+1)=some (.cells false none [.slice none 0 0]):=(m5 _ qO).trans ((sH2 _ qO).trans hr)
   have w2:=Z86 hr2 (o:=0) (v:=v) (by simp) m7.flat.1
   have w3:=Z0C (h:=HeapC.set rh' (256*c+1) (.cells false none [v])) (b:=256*c+1) (cs:=[]) (v:=v) ⟨_,_,get_set_same _ _ _⟩
   have fx:=ai l0 (ai l1 (ai hlen (ai hlo (ai hlp (ai c1 (ai hz (ai Z3F (ai Z2d (ai hM.symm (ai c3 (ai hq (ai hm (ai l2 (ai w2 w3))))))))))))))
   refine Ans.go ?_
   clear fx
   refine .done ⟨rfl,rfl,(by show c<=rc+1; omega), ?_,v,by rw [rnE,if_pos hok,hord,if_pos rfl], ?_⟩
   · exact (sc.trans (m5.mono qO)).set qO
   · rw [rnN,rnR,if_pos ⟨hok.1,hok.2,hord⟩,if_pos ⟨hok.1,hok.2,hord⟩]
     refine ⟨((m7.keep (fun j h1 h2=>by rw [Z0m,if_neg qO])).mono (by show rc<=rc+1; omega)).sl,fun hb=>?_⟩
     rcases m7.2.2 with ⟨_,h0⟩ | ⟨j,rfl,h0,_,_⟩
     · omega
     · rw [blkOf_sl]; omega
end Go.Proofs.Ytemkjcpfgmbibaa

namespace Go.Proofs.Ytemkjcpfgmbibaa.Base
open Go Go.Ab Go.Proofs
variable {H:Type} [HeapC H]
noncomputable abbrev P:=Try.prog
noncomputable def Z3r:Code:=Z0h Try.f60
noncomputable def Z1c:ACode:=(.seq (.region 3 (Z3E Z3r [1,1,0,1,0,0,0]) false) (.seq (.cond (.tmp 8) .skip (.exit 0)) (.seq (.block 1 (.seq (.region 4 (Z3E Z3r [1,1,0,1,0,0,1,1,0,0,0]) false) (.seq (.seq (.region 5 (Z3E Z3r [1,1,0,1,0,0,1,1,0,0,1,0,0]) false) (.cond (.tmp 15) (.seq (.region 6 (Z3E Z3r [1,1,0,1,0,0,1,1,0,0,1,0,1,0,0]) false) .ret) .skip)) (.region 7 (Z3E Z3r [1,1,0,1,0,0,1,1,0,0,1,1]) false)))) (.region 8 (Z3E Z3r [1,1,0,1,0,0,1,1,1]) false))))
noncomputable def Z13 (rd:Option Nat):Key:=.lp 60000 [2,3,6,7] [] Z1c 23 rd
noncomputable def ZhQ:ACode:=(.seq (.region 0 (Z3E Z3r [0]) false) (.seq (.region 1 (Z3E Z3r [1,0]) false) (.seq (.seq (.region 2 (Z3E Z3r [1,1,0,0]) false) (.block 0 (.loop 60000 [2,3,6,7] [] [(.exit 0),.ret] Z1c))) (.seq (.region 9 (Z3E Z3r [1,1,1,0]) false) .ret))))
noncomputable def Z7M:AFun:={ code:=ZhQ,nt:=23,res:=Try.f60.results.toList,fr:=[] }
noncomputable def ZcM:Code:=Z0h Try.f65
noncomputable def ZhI:ACode:=(.seq (.region 0 (Z3E ZcM [0]) false) (.seq (.region 1 (Z3E ZcM [1,0]) true) .ret))
noncomputable def Z7L:AFun:={ code:=ZhI,nt:=22,res:=Try.f65.results.toList,fr:=[] }
noncomputable def Z4j:Code:=Z0h Try.f66
noncomputable def Z1b:ACode:=(.seq (.region 3 (Z3E Z4j [1,1,0,1,0,0,0]) false) (.seq (.cond (.tmp 8) .skip (.exit 0)) (.seq (.block 1 (.seq (.region 4 (Z3E Z4j [1,1,0,1,0,0,1,1,0,0,0]) false) (.region 5 (Z3E Z4j [1,1,0,1,0,0,1,1,0,0,1]) false))) (.region 6 (Z3E Z4j [1,1,0,1,0,0,1,1,1]) false))))
noncomputable def Z12 (rd:Option Nat):Key:=.lp 66000 [2,3,6,7] [] Z1b 16 rd
noncomputable def ZhG:ACode:=(.seq (.region 0 (Z3E Z4j [0]) false) (.seq (.region 1 (Z3E Z4j [1,0]) false) (.seq (.seq (.region 2 (Z3E Z4j [1,1,0,0]) false) (.block 0 (.loop 66000 [2,3,6,7] [] [(.exit 0)] Z1b))) (.seq (.region 7 (Z3E Z4j [1,1,1,0]) false) .ret))))
noncomputable def Z7K:AFun:={ code:=ZhG,nt:=16,res:=Try.f66.results.toList,fr:=[] }
noncomputable def bkT:BT AFun:=(.node 65 Z7L (.node 60 Z7M .leaf .leaf) (.node 66 Z7K .leaf .leaf))
noncomputable def bk (f:FuncId):Option AFun:=bkT.look f
theorem ZlD:bk 60=some Z7M:=by kernel_rfl
theorem ZmE:Z0w P 60 Z7M:=⟨Try.f60,Z3r,Try.func60,rfl,by kernel_rfl,by kernel_rfl,rfl,rfl⟩
theorem ZlC:bk 65=some Z7L:=by kernel_rfl
theorem ZmD:Z0w P 65 Z7L:=⟨Try.f65,ZcM,Try.func65,rfl,by kernel_rfl,by kernel_rfl,rfl,rfl⟩
theorem ZlB:bk 66=some Z7K:=by kernel_rfl
theorem ZmC:Z0w P 66 Z7K:=⟨Try.f66,Z4j,Try.func66,rfl,by kernel_rfl,by kernel_rfl,rfl,rfl⟩
theorem Zgy:Z6c P bk:=fun f a e=>BT.look_all (Q:=Z0w P) (t:=bkT) (ai ZmD (ai (ai ZmE (ai trivial trivial)) (ai ZmC (ai trivial trivial)))) e
theorem Zfg:P.follows .mixedOrders=true:=by kernel_rfl
def selF:List Nat:=[]
def selL:List Nat:=[60000,66000]
def Zhb (x:Nat):List Nat->Bool
 | []=>false
 | y::ys=>cond (Nat.beq x y) true (Zhb x ys)
def sel:Key->Bool
 | .fn f=>!(Zhb f selF)
 | .lp j _ _ _ _ _=>Zhb j selL
 | .rnd ..=>false
noncomputable def ext:Fo FH:=fun f args h c=>match args with
 | []=>cond (Zhb f []) (some ⟨.ret,[.bool true],h,c,[]⟩) none
 | _=>none
noncomputable abbrev G:Orc FH:=Z6d P bk sel ext
end Go.Proofs.Ytemkjcpfgmbibaa.Base

namespace Go.Proofs.Ytemkjcpfgmbibaa.Base
open Go Go.Ab Go.Proofs
variable {H:Type} [HeapC H]
noncomputable def Z0E (o:Orc H) (rd:Option Nat) (t2 t3 t6 t7:Value) (h:H) (c:Nat) (df:List Nat):Option (Rt H) :=
 (Z00 P .lss 3 t7 (.int .i64 4)).bind fun t8 =>
 Z09 t8
 ((ixV 4 false 1 t6 t7).bind fun t9 =>
 (Z00 P .lss 3 t9 (.int .i64 0)).bind fun t11 =>
 ((gv t11 false).bind fun w=>cond w (Z6e h (c+1+1+1) (some t9)) (some (undef,h,(c+1+1+1)))).bind fun r0 =>
 ((gv t11 false).bind fun w=>cond w (Z6e r0.2.1 r0.2.2 (Z00 P .gtr 3 r0.1 (.int .i64 3))) (some (undef,r0.2.1,r0.2.2))).bind fun r1 =>
 (Z0v t11 (.bool true) r1.1).bind fun t15 =>
 Z09 t15
  (some ⟨.ret,[(.bool false),t3,t6,t7],r1.2.1,(r1.2.2+1),df⟩)
  ((Z00 P .shl 3 (.int .i64 1) t9).bind fun t18 =>
  (Z00 P .or 3 t3 t18).bind fun t19 =>
  (Z00 P .add 3 t7 (.int .i64 1)).bind fun t20 =>
  some ⟨.normal,[t2,t19,t6,t20],r1.2.1,(r1.2.2+1+1),df⟩))
 (some ⟨(.exit 0),[t2,t3,t6,t7],h,(c+1),df⟩)
theorem Z1n (o:Orc H) (rd:Option Nat) (t2 t3 t6 t7:Value) (h:H) (c:Nat) (df:List Nat):jx P o 23 rd Z1c (Z0g [2,3,6,7] [t2,t3,t6,t7]) h c df (Klp [2,3,6,7])=Z0E o rd t2 t3 t6 t7 h c df:=by kernel_rfl
noncomputable def ZaW (o:Orc H) (t0:Value) (h:H) (c:Nat):Option (Rt H) :=
 (bif (t0:Value).cells.toList.all Z08 then
 (ldN (newB h (256*c+0) (t0:Value).cells.toList) 4 (ptrTo (256*c+0))).bind fun t6 =>
 (o (Z13 none) [(.bool false),(.int .i64 0),t6,(.int .i64 0)] (newB h (256*c+0) (t0:Value).cells.toList) (c+1+1+1) []).bind fun r0 =>
 cond (Z0t r0.e (.exit 0))
 ((Z00 P .eql 3 (r0.v 1) (.int .i64 15)).bind fun t22 =>
 (Z07 r0.h r0.df).bind fun h2 =>
 some ⟨.ret,[t22],h2,(r0.c+1),[]⟩)
 (cond (Z0t r0.e .ret)
  ((Z07 r0.h r0.df).bind fun h1 =>
  some ⟨.ret,[(r0.v 0)],h1,r0.c,[]⟩)
  (none))
 else none)
theorem Z7X (o:Orc H) (t0:Value) (h:H) (c:Nat):jx P o 23 none ZhQ (Z0g (List.range 1) [t0]) h c [] (Kfn P Try.f60.results.toList)=ZaW o t0 h c:=by kernel_rfl
theorem ZhP {t0:Value} {h:FH} {c:Nat} {df:List Nat} {r:Rt FH} (e:ZaW G t0 h c=some r):G (.fn 60) [t0] h c df=some (gcR h c [] r):=Z0p (a:=Z7M) ZlD rfl (fun args h c=>by cases args <;> rfl) rfl ((Z7X G t0 h c).trans e)
theorem Z6P {rd:Option Nat} {t2 t3 t6 t7:Value} {h:FH} {c:Nat} {df:List Nat} {q r:Rt FH} (e:Z0E G rd t2 t3 t6 t7 h c df=some q) (hq:q.e = .normal) (k:G (Z13 rd) q.vs (gcR h c df q).h (gcR h c df q).c q.df=some r):G (Z13 rd) [t2,t3,t6,t7] h c df=some r:=Z0y ((Z1n G rd t2 t3 t6 t7 h c df).trans e) hq k
theorem Z3Q {rd:Option Nat} {t2 t3 t6 t7:Value} {h:FH} {c:Nat} {df:List Nat} {q:Rt FH} (e:Z0E G rd t2 t3 t6 t7 h c df=some q) (hq:q.e ≠ .normal):G (Z13 rd) [t2,t3,t6,t7] h c df=some (gcR h c df q):=Z0z ((Z1n G rd t2 t3 t6 t7 h c df).trans e) hq
noncomputable def ZaV (o:Orc H) (t0 t1:Value) (h:H) (c:Nat):Option (Rt H) :=
 (bif (t0:Value).cells.toList.all Z08 then
 (bif (t1:Value).cells.toList.all Z08 then
 (ixA 4 1 (ptrTo (256*c+1)) (.int .i64 0)).bind fun t5 =>
 (ld1 (newB (newB (newB h (256*c+0) (t0:Value).cells.toList) (256*c+1) (t1:Value).cells.toList) (256*c+2) [(.int .i64 0),(.int .i64 0),(.int .i64 0),(.int .i64 0)]) t5).bind fun t6 =>
 (ixA 4 1 (ptrTo (256*c+0)) t6).bind fun t7 =>
 (ld1 (newB (newB (newB h (256*c+0) (t0:Value).cells.toList) (256*c+1) (t1:Value).cells.toList) (256*c+2) [(.int .i64 0),(.int .i64 0),(.int .i64 0),(.int .i64 0)]) t7).bind fun t8 =>
 (ixA 4 1 (ptrTo (256*c+1)) (.int .i64 1)).bind fun t9 =>
 (ld1 (newB (newB (newB h (256*c+0) (t0:Value).cells.toList) (256*c+1) (t1:Value).cells.toList) (256*c+2) [(.int .i64 0),(.int .i64 0),(.int .i64 0),(.int .i64 0)]) t9).bind fun t10 =>
 (ixA 4 1 (ptrTo (256*c+0)) t10).bind fun t11 =>
 (ld1 (newB (newB (newB h (256*c+0) (t0:Value).cells.toList) (256*c+1) (t1:Value).cells.toList) (256*c+2) [(.int .i64 0),(.int .i64 0),(.int .i64 0),(.int .i64 0)]) t11).bind fun t12 =>
 (ixA 4 1 (ptrTo (256*c+1)) (.int .i64 2)).bind fun t13 =>
 (ld1 (newB (newB (newB h (256*c+0) (t0:Value).cells.toList) (256*c+1) (t1:Value).cells.toList) (256*c+2) [(.int .i64 0),(.int .i64 0),(.int .i64 0),(.int .i64 0)]) t13).bind fun t14 =>
 (ixA 4 1 (ptrTo (256*c+0)) t14).bind fun t15 =>
 (ld1 (newB (newB (newB h (256*c+0) (t0:Value).cells.toList) (256*c+1) (t1:Value).cells.toList) (256*c+2) [(.int .i64 0),(.int .i64 0),(.int .i64 0),(.int .i64 0)]) t15).bind fun t16 =>
 (ixA 4 1 (ptrTo (256*c+1)) (.int .i64 3)).bind fun t17 =>
 (ld1 (newB (newB (newB h (256*c+0) (t0:Value).cells.toList) (256*c+1) (t1:Value).cells.toList) (256*c+2) [(.int .i64 0),(.int .i64 0),(.int .i64 0),(.int .i64 0)]) t17).bind fun t18 =>
 (ixA 4 1 (ptrTo (256*c+0)) t18).bind fun t19 =>
 (ld1 (newB (newB (newB h (256*c+0) (t0:Value).cells.toList) (256*c+1) (t1:Value).cells.toList) (256*c+2) [(.int .i64 0),(.int .i64 0),(.int .i64 0),(.int .i64 0)]) t19).bind fun t20 =>
 (Z1v [(.int .i64 0),(.int .i64 0),(.int .i64 0),(.int .i64 0)] [(0,1,t8),(1,1,t12),(2,1,t16),(3,1,t20)]).bind fun t21 =>
 (stN (newB (newB (newB h (256*c+0) (t0:Value).cells.toList) (256*c+1) (t1:Value).cells.toList) (256*c+2) [(.int .i64 0),(.int .i64 0),(.int .i64 0),(.int .i64 0)]) 4 (ptrTo (256*c+2)) t21).bind fun h1 =>
 (ldN h1 4 (ptrTo (256*c+2))).bind fun v2 =>
 some ⟨.ret,[v2],h1,(c+1+1),[]⟩
 else none)
 else none)
theorem Z7W (o:Orc H) (t0 t1:Value) (h:H) (c:Nat):jx P o 22 none ZhI (Z0g (List.range 2) [t0,t1]) h c [] (Kfn P Try.f65.results.toList)=ZaV o t0 t1 h c:=by kernel_rfl
theorem ZhH {t0 t1:Value} {h:FH} {c:Nat} {df:List Nat} {r:Rt FH} (e:ZaV G t0 t1 h c=some r):G (.fn 65) [t0,t1] h c df=some (gcR h c [] r):=Z0p (a:=Z7L) ZlC rfl (fun args h c=>by cases args <;> rfl) rfl ((Z7W G t0 t1 h c).trans e)
noncomputable def Z0L (o:Orc H) (rd:Option Nat) (t2 t3 t6 t7:Value) (h:H) (c:Nat) (df:List Nat):Option (Rt H) :=
 (Z00 P .lss 3 t7 (.int .i64 4)).bind fun t8 =>
 Z09 t8
 ((ixV 4 false 1 t6 t7).bind fun t10 =>
 (ixA 4 1 t3 t10).bind fun t13 =>
 (stN h 1 t13 t7).bind fun h1 =>
 (Z00 P .add 3 t7 (.int .i64 1)).bind fun t14 =>
 some ⟨.normal,[t2,t3,t6,t14],h1,(c+1+1+1+1),df⟩)
 (some ⟨(.exit 0),[t2,t3,t6,t7],h,(c+1),df⟩)
theorem Z1m (o:Orc H) (rd:Option Nat) (t2 t3 t6 t7:Value) (h:H) (c:Nat) (df:List Nat):jx P o 16 rd Z1b (Z0g [2,3,6,7] [t2,t3,t6,t7]) h c df (Klp [2,3,6,7])=Z0L o rd t2 t3 t6 t7 h c df:=by kernel_rfl
noncomputable def ZaU (o:Orc H) (t0:Value) (h:H) (c:Nat):Option (Rt H) :=
 (bif (t0:Value).cells.toList.all Z08 then
 (ldN (newB (newB (newB h (256*c+0) (t0:Value).cells.toList) (256*c+1) [(.int .i64 0),(.int .i64 0),(.int .i64 0),(.int .i64 0)]) (256*(c+1)+0) [(.int .i64 0),(.int .i64 0),(.int .i64 0),(.int .i64 0)]) 4 (ptrTo (256*c+0))).bind fun t6 =>
 (o (Z12 none) [(ptrTo (256*c+1)),(ptrTo (256*(c+1)+0)),t6,(.int .i64 0)] (newB (newB (newB h (256*c+0) (t0:Value).cells.toList) (256*c+1) [(.int .i64 0),(.int .i64 0),(.int .i64 0),(.int .i64 0)]) (256*(c+1)+0) [(.int .i64 0),(.int .i64 0),(.int .i64 0),(.int .i64 0)]) (c+1+1+1) []).bind fun r0 =>
 cond (Z0t r0.e (.exit 0))
 ((ldN r0.h 4 (r0.v 1)).bind fun t15 =>
 (stN r0.h 4 (r0.v 0) t15).bind fun h2 =>
 (Z07 h2 r0.df).bind fun h3 =>
 (ldN h3 4 (r0.v 0)).bind fun v4 =>
 some ⟨.ret,[v4],h3,(r0.c+1),[]⟩)
 (none)
 else none)
theorem Z7V (o:Orc H) (t0:Value) (h:H) (c:Nat):jx P o 16 none ZhG (Z0g (List.range 1) [t0]) h c [] (Kfn P Try.f66.results.toList)=ZaU o t0 h c:=by kernel_rfl
theorem ZhF {t0:Value} {h:FH} {c:Nat} {df:List Nat} {r:Rt FH} (e:ZaU G t0 h c=some r):G (.fn 66) [t0] h c df=some (gcR h c [] r):=Z0p (a:=Z7K) ZlB rfl (fun args h c=>by cases args <;> rfl) rfl ((Z7V G t0 h c).trans e)
theorem Z6O {rd:Option Nat} {t2 t3 t6 t7:Value} {h:FH} {c:Nat} {df:List Nat} {q r:Rt FH} (e:Z0L G rd t2 t3 t6 t7 h c df=some q) (hq:q.e = .normal) (k:G (Z12 rd) q.vs (gcR h c df q).h (gcR h c df q).c q.df=some r):G (Z12 rd) [t2,t3,t6,t7] h c df=some r:=Z0y ((Z1m G rd t2 t3 t6 t7 h c df).trans e) hq k
theorem Z6N {rd:Option Nat} {t2 t3 t6 t7:Value} {h:FH} {c:Nat} {df:List Nat} {q:Rt FH} (e:Z0L G rd t2 t3 t6 t7 h c df=some q) (hq:q.e ≠ .normal):G (Z12 rd) [t2,t3,t6,t7] h c df=some (gcR h c df q):=Z0z ((Z1m G rd t2 t3 t6 t7 h c df).trans e) hq
end Go.Proofs.Ytemkjcpfgmbibaa.Base

namespace Go.Proofs.Ytemkjcpfgmbibaa.Base
open Go Go.Ab Go.Proofs
theorem Z8Y (t:TypeId) (a b:Int):Z00 P .or t (.int .i64 a) (.int .i64 b)=some (.int .i64 (orB a b)):=by rw [Z0u]; simp [Z0H,Z1z,orB]; rfl
theorem Z5H (t:TypeId) (x:Int) (h:0<=x):Z00 P .shl t (.int .i64 1) (.int .i64 x)=some (.int .i64 (shB x)):=by
 rw [Z0u]
 have:¬ x<0:=by omega
 simp [Z0H,Z4a,shB,this]; rfl
theorem Z6k (p:List Int) (hp:p.length=4) (h:FH) (c:Nat) (df:List Nat):∀ (k i:Nat) (m:Int),i+k=4 →
 Ans (G (Z13 none) [.bool false,.int .i64 m,av p,.int .i64 i] h c df) fun r=>r.h=h/\r.c=c/\r.df=df ∧
  (match Z3y (p.drop i) m with
   | some m'=>r.e = .exit 0/\r.v 1 = .int .i64 m'
   | none=>r.e = .ret/\r.v 0 = .bool false):=by
 intro k
 induction k with
 | zero =>
  intro i m hi
  obtain rfl:i=4:=by omega
  rw [List.drop_of_length_le qO]
  have e1:¬ ((4:Nat):Int)<4:=by omega
  refine .intro (Z3Q (q:=⟨.exit 0,[.bool false,.int .i64 m,av p,.int .i64 (4:Nat)],h,c+1,df⟩) (by unfold Z0E; simp [e1]) (by simp)) ?_
  rw [Z0P (by simp)]
  simp [Z3y]
 | succ k ih =>
  intro i m hi
  have hlt:i<p.length:=by omega
  have e0:(i:Int)<4:=by omega
  rw [List.drop_eq_getElem_cons hlt]
  have hx:p.getD i 0=p[i]:=by simp [List.getD,List.getElem?_eq_getElem hlt]
  by_cases hc:p[i]<0 ∨ 3<p[i]
  · simp only [Z3y,hc,if_true]
    refine .intro (Z3Q (q:=⟨.ret,[.bool false,.int .i64 m,av p,.int .i64 i],h,_,df⟩) (by
     unfold Z0E
     by_cases h1:p[i]<0
     · simp (disch:=omega) [e0,Z7D,hx,h1,-List.getD_eq_getElem?_getD]; rfl
     · have h2:3<p[i]:=by omega
       simp (disch:=omega) [e0,Z7D,hx,h1,h2,-List.getD_eq_getElem?_getD] <;> rfl) (by simp)) ?_
    rw [Z0P (by simp)]
    simp
  · have h1:¬ p[i]<0:=by omega
    have h2:¬ 3<p[i]:=by omega
    simp only [Z3y,hc,if_false]
    obtain ⟨r,hr,hq⟩:=ih (i+1) (orB m (shB p[i])) qO
    refine .intro (Z6P (q:=⟨.normal,[.bool false,.int .i64 (orB m (shB p[i])),av p,.int .i64 (i+1:Nat)],h,c+1+1+1+1+1,df⟩) (by
     unfold Z0E
     simp (disch:=omega) [e0,Z7D,hx,h1,h2,Z5H _ p[i] qO,Z8Y,-List.getD_eq_getElem?_getD]) rfl ?_) hq
    rw [Z0P (by simp)]
    exact hr
theorem Zae (p:List Int) (hp:p.length=4) (h:FH) (c:Nat) (df:List Nat) :
 G (.fn 60) [av p] h c df=some ⟨.ret,[.bool (Z0n p)],h,c,[]⟩:=by
 refine Z1P (fun r e=>ZhP e) (by simp) ?_
 obtain ⟨⟨re,rv,rh,rc,rd⟩,hr,h1,h2,h3,h4⟩:=Z6k p hp (newB h (256*c) (ints p)) (c+1+1+1) [] 4 0 0 rfl
 simp only at h1 h2 h3
 subst h1 h2 h3
 unfold ZaW
 simp only [List.drop_zero] at h4
 have e1:p.take 4=p:=List.take_of_length_le qO
 simp only [Int.ofNat_eq_natCast,Int.cast_ofNat_Int] at hr
 unfold Z0n
 cases hv:Z3y p 0 with
 | none =>
  rw [hv] at h4
  obtain ⟨rfl,h5⟩:=h4
  simp [hr,e1,hp,h5]
 | some m =>
  rw [hv] at h4
  obtain ⟨rfl,h5⟩:=h4
  simp [hr,e1,hp,h5]
theorem Z4P (p:List Int) (hp:p.length=4) (hr:InR p) (h:FH) (b1 b3 c:Nat) (hb1:b1<256*c) (hb:b3<256*c) (df:List Nat):∀ (k i:Nat) (out:List Int),i+k=4->out.length=4 →
 G (Z12 none) [ptrTo b1,ptrTo b3,av p,.int .i64 i] (newB h b3 (ints out)) c df =
  some ⟨.exit 0,[ptrTo b1,ptrTo b3,av p,.int .i64 4],newB h b3 (ints (ZbR (p.drop i) i out)),c,df⟩:=by
 intro k
 induction k with
 | zero =>
  intro i out hi ho
  obtain rfl:i=4:=by omega
  rw [List.drop_of_length_le qO]
  refine (Z6N (q:=⟨.exit 0,[ptrTo b1,ptrTo b3,av p,.int .i64 4],newB h b3 (ints out),c+1,df⟩) (by unfold Z0L; simp) (by simp)).trans ?_
  rw [Z0P (by simp [hb1,hb])]
  rfl
 | succ k ih =>
  intro i out hi ho
  have hlt:i<p.length:=by omega
  have e0:(i:Int)<4:=by omega
  rw [List.drop_eq_getElem_cons hlt]
  have hx:p.getD i 0=p[i]:=by simp [List.getD,List.getElem?_eq_getElem hlt]
  have hxr:=hr p[i] (List.getElem_mem hlt)
  refine Z6O (q:=⟨.normal,[ptrTo b1,ptrTo b3,av p,.int .i64 (i+1:Nat)],newB h b3 (ints (out.set p[i].toNat i)),c+1+1+1+1,df⟩) ?_ rfl ?_
  · unfold Z0L
    simp (disch:=(first | omega | (simp <;> omega) | fail)) [e0,Z7D,hx,hxr,ho,-List.getD_eq_getElem?_getD]
  · rw [Z8D hb (by simp [hb1,hb]) (by simp)]
    exact ih (i+1) _ qO (by simpa using ho)
theorem Z6q (p:List Int) (hp:p.length=4) (hr:InR p) (h:FH) (c:Nat) (df:List Nat) :
 G (.fn 66) [av p] h c df=some ⟨.ret,[av (inv p)],h,c,[]⟩:=by
 refine Z1P (fun r e=>ZhF e) (by simp) ?_
 have e1:p.take 4=p:=List.take_of_length_le qO
 have hl:=Z4P p hp hr (newB (newB h (256*c) (ints p)) (256*c+1) (ints [0,0,0,0])) (256*c+1) (256*(c+1)) (c+1+1+1) qO qO [] 4 0 [0,0,0,0] rfl rfl
 have hl2:(ZbR p 0 [0,0,0,0]).length=4:=Z24 p 0 [0,0,0,0]
 have e2:(ZbR p 0 [0,0,0,0]).take 4=ZbR p 0 [0,0,0,0]:=List.take_of_length_le qO
 unfold ZaU
 simp only [Z8z,Zav,Int.ofNat_eq_natCast,Int.cast_ofNat_Int,List.drop_zero] at hl
 simp (disch:=(first | omega | (simp <;> omega) | fail)) [hl,e1,e2,hp,hl2,inv]
theorem Z7p (p q:List Int) (hp:p.length=4) (hq:q.length=4) (hr:InR q) (h:FH) (c:Nat) (df:List Nat) :
 G (.fn 65) [av p,av q] h c df=some ⟨.ret,[av (comp p q)],h,c,[]⟩:=by
 refine Z1P (fun r e=>ZhH e) (by simp) ?_
 have g:∀ i,i<4->0<=q.getD i 0/\q.getD i 0<4:=fun i hi=>by
  have:i<q.length:=by omega
  have:=hr q[i] (List.getElem_mem this)
  simpa [List.getD,List.getElem?_eq_getElem (by omega:i<q.length)] using this
 have g0:=g 0 qO
 have g1:=g 1 qO
 have g2:=g 2 qO
 have g3:=g 3 qO
 have e1:comp p q=[p.getD (q.getD 0 0).toNat 0,p.getD (q.getD 1 0).toNat 0,p.getD (q.getD 2 0).toNat 0,p.getD (q.getD 3 0).toNat 0]:=by
  match q,hq with
  | [a,b,d,e],_=>rfl
 rw [e1]
 unfold ZaV
 simp (disch:=(first | omega | (simp <;> omega) | fail)) [hp,hq,ZdD,bld4,g0,g1,g2,g3,-List.getD_eq_getElem?_getD,-ld1_newB_same]
end Go.Proofs.Ytemkjcpfgmbibaa.Base

namespace Go.Proofs.Ytemkjcpfgmbibaa.Base
open Go Go.Ab Go.Proofs
theorem Zbf:FnOK P ext:=by
 intro f args A c r e
 unfold ext at e
 cases args with
 | cons x xs=>cases e
 | nil=>cases e
noncomputable def h0:FH:=⟨fun _=>none⟩
noncomputable def purX (f:FuncId) (args:List Value):Option Value :=
 cond (Nat.beq f 60) (match args with | [v]=>ZbU v | _=>none)
  (cond (Nat.beq f 66) (match args with | [v]=>Zhx v | _=>none)
   (cond (Nat.beq f 65) (match args with | [v,w]=>Zey v w | _=>none) none))
noncomputable def extP {H:Type} [HeapC H]:Fo H:=fun f args h c=>(purX f args).bind fun v=>some ⟨.ret,[v],h,c,[]⟩
theorem extP_ok {H:Type} [HeapC H]:ZlL P (extP (H:=H)):=by
 intro f args A c r e
 simp only [extP,Option.bind_eq_some_iff] at e
 obtain ⟨v,e,hr⟩:=e
 cases hr
 unfold purX at e
 cases h1:Nat.beq f 60 with
 | true =>
  rw [h1] at e
  obtain rfl:=Nat.eq_of_beq_eq_true h1
  simp only [cond_true] at e
  split at e
  · obtain ⟨a,b,cc,d,hv,ha,hb,hc,hd,hr⟩:=Z97 e
    subst hv hr
    refine ⟨fun vs w=>Z2h Try.func60 (by kernel_rfl) rfl vs w,fun μ w args' ha' hR hf=>?_⟩
    exact Z7S (A0:=h0) (args0:=[]) rfl (fun μ args' h=>Zdf h) (fun μ μ' v' h=>Zie h) (fun μ w args' ha hR hf=>Z51 Zgy Zbf Zfg ((Zae _ rfl h0 0 []).trans (by rw [ZgL ‹a<4› hb hc hd])) ha hR hf) A c μ w args' ha' hR hf
  · cases e
 | false =>
  rw [h1] at e
  cases h2:Nat.beq f 66 with
  | true =>
   rw [h2] at e
   obtain rfl:=Nat.eq_of_beq_eq_true h2
   simp only [cond_true,cond_false] at e
   split at e
   · obtain ⟨a,b,cc,d,l,hv,g1,g2,g3,g4,hl,hr⟩:=ZbV e
     subst hv hr
     have hin:=inR4 g1 g2 g3 g4
     have hinv:=inv_eq g1 g2 g3 g4 hl
     refine ⟨fun vs w=>Z2h Try.func66 (by kernel_rfl) rfl vs w,fun μ w args' ha' hR hf=>?_⟩
     exact Z7S (A0:=h0) (args0:=[]) rfl (fun μ args' h=>Zdf h) (fun μ μ' v' h=>ZlF h) (fun μ w args' ha hR hf=>Z51 Zgy Zbf Zfg ((Z6q _ rfl hin h0 0 []).trans (by rw [hinv])) ha hR hf) A c μ w args' ha' hR hf
   · cases e
  | false =>
   rw [h2] at e
   cases h3:Nat.beq f 65 with
   | true =>
    rw [h3] at e
    obtain rfl:=Nat.eq_of_beq_eq_true h3
    simp only [cond_true,cond_false] at e
    split at e
    · obtain ⟨a,b,cc,d,x,y,z,u,hv,hw,g1,g2,g3,g4,hr⟩:=Zaz e
      subst hv hw hr
      have hin:=inR4 g1 g2 g3 g4
      refine ⟨fun vs w=>Z2h Try.func65 (by kernel_rfl) rfl vs w,fun μ w args' ha' hR hf=>?_⟩
      exact Z7S (A0:=h0) (args0:=[]) rfl (fun μ args' h=>ZnJ h) (fun μ μ' v' h=>ZlF h) (fun μ w args' ha hR hf=>Z51 Zgy Zbf Zfg (Z7p _ _ rfl rfl hin h0 0 []) ha hR hf) A c μ w args' ha' hR hf
    · cases e
   | false=>rw [h3] at e; cases e
end Go.Proofs.Ytemkjcpfgmbibaa.Base

namespace Go.Ab
open Go
inductive Tri where
 | leaf
 | node (b:Option ABlk) (l r:Tri)
def Tri.get:Tri->Nat->Option ABlk
 | .leaf,_=>none
 | .node b l r,i=>cond (Nat.beq i 0) b (cond (Nat.beq (i % 2) 1) (l.get (i / 2)) (r.get (i / 2-1)))
def Tri.upd:Nat->Tri->Nat->Option ABlk->Tri
 | 0,t,_,o=>match t with
  | .leaf=>.node o .leaf .leaf
  | .node _ l r=>.node o l r
 | n+1,t,i,o=>match t with
  | .leaf=>cond (Nat.beq i 0) (.node o .leaf .leaf) (cond (Nat.beq (i % 2) 1) (.node none (Tri.upd n .leaf (i / 2) o) .leaf) (.node none .leaf (Tri.upd n .leaf (i / 2-1) o)))
  | .node b l r=>cond (Nat.beq i 0) (.node o l r) (cond (Nat.beq (i % 2) 1) (.node b (Tri.upd n l (i / 2) o) r) (.node b l (Tri.upd n r (i / 2-1) o)))
theorem Tri.get_upd:∀ (n:Nat) (t:Tri) (i:Nat) (o:Option ABlk) (j:Nat),i<=n->(Tri.upd n t i o).get j=if j=i then o else t.get j:=by
 have key:∀ (b:Option ABlk) (l r:Tri) (i:Nat),(Tri.node b l r).get i=if i=0 then b else if i % 2=1 then l.get (i / 2) else r.get (i / 2-1):=by
  intro b l r i
  simp only [Tri.get]
  by_cases h0:i=0
  · subst h0; rfl
  · have:Nat.beq i 0=false:=by rw [Bool.eq_false_iff]; intro h; exact h0 (Nat.eq_of_beq_eq_true h)
    rw [this]
    simp only [h0,if_false,cond_false]
    by_cases h1:i % 2=1
    · simp [h1]
    · have:Nat.beq (i % 2) 1=false:=by rw [Bool.eq_false_iff]; intro h; exact h1 (Nat.eq_of_beq_eq_true h)
      simp [h1,this]
 have leafg:∀ j,Tri.leaf.get j=none:=fun _=>rfl
 intro n
 induction n with
 | zero =>
  intro t i o j hi
  have:i=0:=by omega
  subst this
  cases t with
  | leaf =>
   simp only [Tri.upd,key,leafg]
   split <;> simp
  | node b l r =>
   simp only [Tri.upd,key]
   by_cases h:j=0 <;> simp [h]
 | succ n ih =>
  intro t i o j hi
  by_cases h0:i=0
  · subst h0
    cases t with
    | leaf =>
     simp only [Tri.upd,Nat.beq_refl,cond_true,key,leafg]
     split <;> simp
    | node b l r =>
     simp only [Tri.upd,Nat.beq_refl,cond_true,key]
     by_cases h:j=0 <;> simp [h]
  · have hb0:Nat.beq i 0=false:=by rw [Bool.eq_false_iff]; intro h; exact h0 (Nat.eq_of_beq_eq_true h)
    by_cases h1:i % 2=1
    · have hb1:Nat.beq (i % 2) 1=true:=by rw [h1]; rfl
      cases t with
      | leaf =>
       simp only [Tri.upd,hb0,hb1,cond_true,cond_false,key,leafg]
       by_cases hj:j=0
       · subst hj; simp [Ne.symm h0]
       · simp only [hj,if_false]
         by_cases hj1:j % 2=1
         · simp only [hj1,if_true]
           rw [ih _ _ _ _ qO,leafg]
           by_cases e:j=i
           · simp [e]
           · rw [if_neg e,if_neg qO]
         · rw [if_neg hj1,if_neg qO]
      | node b l r =>
       simp only [Tri.upd,hb0,hb1,cond_true,cond_false,key]
       by_cases hj:j=0
       · subst hj; simp [Ne.symm h0]
       · simp only [hj,if_false]
         by_cases hj1:j % 2=1
         · simp only [hj1,if_true]
           rw [ih _ _ _ _ qO]
           by_cases e:j=i
           · simp [e]
           · rw [if_neg e,if_neg qO]
         · rw [if_neg hj1,if_neg (show ¬ j=i by omega),if_neg hj1]
    · have hb1:Nat.beq (i % 2) 1=false:=by rw [Bool.eq_false_iff]; intro h; exact h1 (Nat.eq_of_beq_eq_true h)
      cases t with
      | leaf =>
       simp only [Tri.upd,hb0,hb1,cond_true,cond_false,key,leafg]
       by_cases hj:j=0
       · subst hj; simp [Ne.symm h0]
       · simp only [hj,if_false]
         by_cases hj1:j % 2=1
         · rw [if_pos hj1,if_neg qO]
         · rw [if_neg hj1,ih _ _ _ _ qO,leafg]
           by_cases e:j=i
           · simp [e]
           · rw [if_neg e,if_neg qO]
      | node b l r =>
       simp only [Tri.upd,hb0,hb1,cond_true,cond_false,key]
       by_cases hj:j=0
       · subst hj; simp [Ne.symm h0]
       · simp only [hj,if_false]
         by_cases hj1:j % 2=1
         · rw [if_pos hj1,if_neg (show ¬ j=i by omega),if_pos hj1]
         · rw [if_neg hj1,ih _ _ _ _ qO]
           by_cases e:j=i
           · simp [e]
           · rw [if_neg e,if_neg qO,if_neg hj1]
def ZeX:Option Addr->Option Addr->Bool
 | none,none=>true
 | some ⟨a,b,none⟩,some ⟨c,d,none⟩=>Nat.beq a c && Nat.beq b d
 | _,_=>false
def Zmi:Value->Value->Bool
 | .bool a,.bool b=>a == b
 | .int k n,.int k' n'=>decide (k=k') && n == n'
 | .pointer a,.pointer b=>ZeX a b
 | .slice a l c,.slice b l' c'=>ZeX a b && Nat.beq l l' && Nat.beq c c'
 | .map (some a),.map (some b)=>Nat.beq a b
 | .map none,.map none=>true
 | .nilFunc,.nilFunc=>true
 | .nilIface,.nilIface=>true
 | _,_=>false
def Zdn:List Value->List Value->Bool
 | [],[]=>true
 | x::xs,y::ys=>Zmi x y && Zdn xs ys
 | _,_=>false
def Zao:Option Nat->Option Nat->Bool
 | none,none=>true
 | some a,some b=>Nat.beq a b
 | _,_=>false
def ZlA:Option ABlk->Option ABlk->Bool
 | none,none=>true
 | some (.cells ro o c),some (.cells ro' o' c')=>ro == ro' && Zao o o' && Zdn c c'
 | some .dead,some .dead=>true
 | some .dfr,some .dfr=>true
 | _,_=>false
theorem Zcb {a b:Option Addr} (h:ZeX a b=true):a=b:=by
 unfold ZeX at h
 split at h
 · rfl
 · simp only [Bool.and_eq_true] at h
   rw [Nat.eq_of_beq_eq_true h.1,Nat.eq_of_beq_eq_true h.2]
 · cases h
theorem Zip {a b:Value} (h:Zmi a b=true):a=b:=by
 unfold Zmi at h
 split at h
 · simp at h; rw [h]
 · simp at h; rw [h.1,h.2]
 · rw [Zcb h]
 · simp only [Bool.and_eq_true] at h
   rw [Zcb h.1.1,Nat.eq_of_beq_eq_true h.1.2,Nat.eq_of_beq_eq_true h.2]
 · rw [Nat.eq_of_beq_eq_true h]
 · rfl
 · rfl
 · rfl
 · cases h
theorem Zbv:∀ {a b:List Value},Zdn a b=true->a=b
 | [],[],_=>rfl
 | x::xs,y::ys,h=>by
  simp only [Zdn,Bool.and_eq_true] at h
  rw [Zip h.1,Zbv h.2]
 | [],y::ys,h=>by cases h
 | x::xs,[],h=>by cases h
theorem Zcw {a b:Option Nat} (h:Zao a b=true):a=b:=by
 unfold Zao at h
 split at h
 · rfl
 · rw [Nat.eq_of_beq_eq_true h]
 · cases h
theorem ZeV (a b:Option ABlk) (h:ZlA a b=true):a=b:=by
 unfold ZlA at h
 split at h
 · rfl
 · simp only [Bool.and_eq_true] at h
   have h1:=h.1.1
   rw [Zcw h.1.2,Zbv h.2]
   simp at h1
   rw [h1]
 · rfl
 · rfl
 · cases h
instance:HeapC Tri where
 get h i:=h.get i
 set h i b:=Tri.upd i h i (some b)
 del h i:=Tri.upd i h i none
 eqB:=ZlA
 eqB_eq:=ZeV
 get_set h i b j:=Tri.get_upd i h i (some b) j (Nat.le_refl _)
 get_del h i j:=Tri.get_upd i h i none j (Nat.le_refl _)
end Go.Ab

namespace Go.Ab
open Go
noncomputable def Zir (t:Tri):Nat->Option ABlk :=
 Tri.rec (motive:=fun _=>Nat->Option ABlk) (fun _=>none)
  (fun b _ _ l r i=>cond (Nat.beq i 0) b (cond (Nat.beq (Nat.mod i 2) 1) (l (Nat.div i 2)) (r (Nat.sub (Nat.div i 2) 1)))) t
theorem Zah:∀ (t:Tri) (i:Nat),Zir t i=t.get i
 | .leaf,i=>rfl
 | .node b l r,i=>by
  show cond (Nat.beq i 0) b (cond (Nat.beq (Nat.mod i 2) 1) (Zir l (Nat.div i 2)) (Zir r (Nat.sub (Nat.div i 2) 1)))=_
  rw [Zah l,Zah r]
  rfl
noncomputable def ZlM (o:Option ABlk) (n:Nat):Tri->Nat->Tri :=
 Nat.rec (motive:=fun _=>Tri->Nat->Tri)
  (fun t _=>Tri.rec (motive:=fun _=>Tri) (.node o .leaf .leaf) (fun _ l r _ _=>.node o l r) t)
  (fun _ ih t i=>Tri.rec (motive:=fun _=>Tri)
   (cond (Nat.beq i 0) (.node o .leaf .leaf) (cond (Nat.beq (Nat.mod i 2) 1) (.node none (ih .leaf (Nat.div i 2)) .leaf) (.node none .leaf (ih .leaf (Nat.sub (Nat.div i 2) 1)))))
   (fun b l r _ _=>cond (Nat.beq i 0) (.node o l r) (cond (Nat.beq (Nat.mod i 2) 1) (.node b (ih l (Nat.div i 2)) r) (.node b l (ih r (Nat.sub (Nat.div i 2) 1))))) t) n
theorem Z82 (o:Option ABlk):∀ (n:Nat) (t:Tri) (i:Nat),ZlM o n t i=Tri.upd n t i o
 | 0,.leaf,i=>rfl
 | 0,.node b l r,i=>rfl
 | n+1,.leaf,i=>by
  show (cond (Nat.beq i 0) (Tri.node o .leaf .leaf) (cond (Nat.beq (Nat.mod i 2) 1) (Tri.node none (ZlM o n .leaf (Nat.div i 2)) .leaf) (Tri.node none .leaf (ZlM o n .leaf (Nat.sub (Nat.div i 2) 1)))))=_
  rw [Z82 o n,Z82 o n]; rfl
 | n+1,.node b l r,i=>by
  show (cond (Nat.beq i 0) (Tri.node o l r) (cond (Nat.beq (Nat.mod i 2) 1) (Tri.node b (ZlM o n l (Nat.div i 2)) r) (Tri.node b l (ZlM o n r (Nat.sub (Nat.div i 2) 1)))))=_
  rw [Z82 o n,Z82 o n]; rfl
theorem ZgN (t:Tri) (i:Nat) (o:Option ABlk) (j:Nat):Zir (ZlM o i t i) j=if j=i then o else Zir t j:=by
 rw [Zah,Zah,Z82]
 exact Tri.get_upd i t i o j (Nat.le_refl _)
abbrev RC:=List (Nat × Option ABlk)
noncomputable def Z96 (i:Nat) (rc:RC):Option (Option ABlk) :=
 List.rec (motive:=fun _=>Option (Option ABlk)) none (fun x _ ih=>cond (Nat.beq i x.1) (some x.2) ih) rc
noncomputable def Zh0 (i:Nat) (o:Option ABlk) (rc:RC):RC :=
 List.rec (motive:=fun _=>RC) [] (fun x xs ih=>cond (Nat.beq i x.1) ((x.1,o)::xs) (x::ih)) rc
noncomputable def Zhw (rc:RC) (t:Tri):Tri :=
 List.rec (motive:=fun _=>Tri) t (fun x _ ih=>ZlM x.2 x.1 ih x.1) rc
theorem Z1H (i:Nat) (x:Nat × Option ABlk) (xs:RC):Z96 i (x::xs)=if i=x.1 then some x.2 else Z96 i xs:=by
 show cond (Nat.beq i x.1) (some x.2) (Z96 i xs)=_
 cases h:Nat.beq i x.1 with
 | true=>rw [if_pos (Nat.eq_of_beq_eq_true h)]; rfl
 | false=>rw [if_neg (fun e=>by rw [e,Nat.beq_refl] at h; cases h)]; rfl
theorem Zfa (i:Nat) (o:Option ABlk) (x:Nat × Option ABlk) (xs:RC):Zh0 i o (x::xs)=if i=x.1 then (x.1,o)::xs else x::Zh0 i o xs:=by
 show cond (Nat.beq i x.1) ((x.1,o)::xs) (x::Zh0 i o xs)=_
 cases h:Nat.beq i x.1 with
 | true=>rw [if_pos (Nat.eq_of_beq_eq_true h)]; rfl
 | false=>rw [if_neg (fun e=>by rw [e,Nat.beq_refl] at h; cases h)]; rfl
theorem Z8G (i:Nat) (o:Option ABlk) (j:Nat):∀ (rc:RC),Z96 i rc ≠ none->Z96 j (Zh0 i o rc)=if j=i then some o else Z96 j rc
 | [],h=>absurd rfl h
 | x::xs,h=>by
  rw [Z1H] at h
  rw [Zfa]
  by_cases e:i=x.1
  · rw [if_pos e,Z1H,Z1H]
    by_cases e2:j=x.1
    · rw [if_pos e2,if_pos (e2.trans e.symm)]
    · rw [if_neg e2,if_neg (fun h=>e2 (h.trans e)),if_neg e2]
  · rw [if_neg e] at h ⊢
    rw [Z1H,Z1H,Z8G i o j xs h]
    by_cases e2:j=x.1
    · rw [if_pos e2,if_pos e2,if_neg (fun h=>e (h.symm.trans e2))]
    · rw [if_neg e2,if_neg e2]
theorem Z9D (j:Nat) (t:Tri):∀ (rc:RC),Zir (Zhw rc t) j=(match Z96 j rc with | some o=>o | none=>Zir t j)
 | []=>rfl
 | x::xs=>by
  show Zir (ZlM x.2 x.1 (Zhw xs t) x.1) j=_
  rw [ZgN,Z1H]
  by_cases e:j=x.1
  · rw [if_pos e,if_pos e]
  · rw [if_neg e,if_neg e,Z9D j t xs]
structure TH where
 rc:RC
 n:Nat
 old:Tri
noncomputable def TH.put (h:TH) (i:Nat) (o:Option ABlk):TH :=
 match Z96 i h.rc with
 | some _=>{ rc:=Zh0 i o h.rc,n:=h.n,old:=h.old }
 | none=>cond (Nat.blt h.n 24) { rc:=(i,o)::h.rc,n:=Nat.add h.n 1,old:=h.old } { rc:=[(i,o)],n:=1,old:=Zhw h.rc h.old }
noncomputable def TH.look (h:TH) (i:Nat):Option ABlk :=
 match Z96 i h.rc with
 | some o=>o
 | none=>Zir h.old i
theorem TH.look_put (h:TH) (i:Nat) (o:Option ABlk) (j:Nat):(h.put i o).look j=if j=i then o else h.look j:=by
 unfold TH.put TH.look
 cases e:Z96 i h.rc with
 | some x =>
  dsimp only
  rw [Z8G i o j h.rc (by rw [e]; simp)]
  by_cases e2:j=i
  · rw [if_pos e2,if_pos e2]
  · rw [if_neg e2,if_neg e2]
 | none =>
  dsimp only
  cases Nat.blt h.n 24 with
  | true =>
   dsimp only [cond_true]
   rw [Z1H]
   by_cases e2:j=i
   · rw [if_pos e2,if_pos e2]
   · rw [if_neg e2,if_neg e2]
  | false =>
   dsimp only [cond_false]
   rw [Z1H]
   by_cases e2:j=i
   · rw [if_pos e2,if_pos e2]
   · rw [if_neg e2,if_neg e2]
     exact Z9D j h.old h.rc
noncomputable instance:HeapC TH where
 get h i:=h.look i
 set h i b:=h.put i (some b)
 del h i:=h.put i none
 eqB:=ZlA
 eqB_eq:=ZeV
 get_set h i b j:=TH.look_put h i (some b) j
 get_del h i j:=TH.look_put h i none j
noncomputable def TH.empty:TH:={ rc:=[],n:=0,old:=.leaf }
theorem TH.inv_empty (h:TH) (e:h=TH.empty) (i:Nat):HeapC.get h i=none:=by subst e; rfl
end Go.Ab
