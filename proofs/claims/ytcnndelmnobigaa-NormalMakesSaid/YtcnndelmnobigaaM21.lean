/- Parts of a proof: N10 N11 U11 B1 B2 AbRow2 AbRow3 AbApp2 AbApp3 B7 B8 B9 AbLab. Conditions: none. -/
import Derived.Test.YtcnndelmnobigaaM17
import Derived.Test.YtcnndelmnobigaaM19
import Derived.Test.YtcnndelmnobigaaM20
import Derived.Test.YtcnndelmnobigaaM18
import Derived.Test.YtcnndelmnobigaaM15
import Derived.Test.YtcnndelmnobigaaM8
import Derived.Test.YtcnndelmnobigaaM16
set_option linter.all false
set_option maxRecDepth 100000
namespace Go.Proofs.Ytcnndelmnobigaa
open Go Go.Ab Go.Proofs
theorem Zk0 (h:FH) (c:Nat):callF G 11 [] h c=some (.bool true,h,c):=Z05 (Zmb (f:=11) (args:=[]) (h:=h) (c:=c) (r:=⟨.ret,[.bool true],h,c,[]⟩) rfl)
theorem ZeQ (s:Value) (n:Nat) (Gl:List Int) (h:FH) (c:Nat) (hs:SlI h c s 20 n Gl):callF G 13 [.agg #[s]] h c=some (.int .i64 (if n<=1000/\Z0t Gl n=true then 0 else 7),h,c):=Z05 (Zly s n Gl h c [] hs)

theorem EqV.len {c0:Nat} {h:FH} {c n:Nat} {Gl:List Int} {v:Value} (e:EqV c0 h c n Gl v):Z0X v=some (.int .i64 (Z43 Gl n).length):=by
 obtain ⟨vals,⟨_,_,_,i,op,rfl,_⟩,_⟩:=e
 rfl
theorem EqV.okV {c0:Nat} {h:FH} {c n:Nat} {Gl:List Int} {v:Value} (e:EqV c0 h c n Gl v):OkV c v:=by
 obtain ⟨vals,⟨_,_,_,i,op,rfl,_,h6,_⟩,_⟩:=e
 exact OkV.sl h6
theorem EqV.mono {c0:Nat} {h:FH} {c c' n:Nat} {Gl:List Int} {v:Value} (hc:c<=c') (e:EqV c0 h c n Gl v):EqV c0 h c' n Gl v:=by
 obtain ⟨vals,h1,h2⟩:=e
 refine ⟨vals,h1.mono hc,fun k m hk=>?_⟩
 obtain ⟨x,x1,b,y1,y2,y3,y4⟩:=h2 k m hk
 exact ⟨x,x1,b,y1,y2,by omega,y4⟩
theorem EqV.at {c0:Nat} {h:FH} {c n:Nat} {Gl:List Int} {v:Value} (e:EqV c0 h c n Gl v) {i:Nat} (hi:i<(Z43 Gl n).length) :
 ∃ x p,ixS 1 v (.int .i64 i)=some p/\ld1 h p=some x/\Z0X x=some (.int .i64 (7*n:Nat))/\SlI h c x 1 (7*n) (Z4i n ((Z43 Gl n).getD i [])):=by
 obtain ⟨vals,⟨h1,h2,h3,b,op,rfl,h5,h6,h7,h8⟩,h9⟩:=e
 obtain ⟨x,x1,b',rfl,y2,y3,y4,y5,y6⟩:=h9 i _ (List.getElem?_eq_getElem hi)
 have hg:(Z43 Gl n).getD i []=(Z43 Gl n)[i]:=by simp [List.getD,List.getElem?_eq_getElem hi]
 rw [hg]
 refine ⟨.slice (some ⟨b',0,none⟩) (7*n) (7*n),.pointer (some ⟨b,0+(i:Int).toNat*1,none⟩),ixS_sl _ _ _ _ _ _ _ qO qO, ?_,rfl,⟨by rw [y5]; omega,by omega,_,_,rfl,.inr ⟨b',0,ints (Z4i n (Z43 Gl n)[i]),rfl,y3,⟨false,none,y4⟩, ?_⟩⟩⟩
 · rw [Z01 (cs:=vals) ⟨false,op,h7⟩]
   simpa using x1
 · rw [List.drop_zero,List.take_of_length_le (by simp [y5])]
theorem gi_get (V:List Int) {j:Nat} (hj:j<V.length):gi V (j:Nat)=V[j]:=by
 simp [gi,List.getD,List.getElem?_eq_getElem hj]
theorem Z47 {V:List Int}:Z0x V=true ↔ ∀ j,j<V.length->0<=gi V (j:Nat)/\gi V (j:Nat)<=1000000:=by
 constructor
 · intro h j _; exact Z4x h j
 · intro h
   refine List.all_eq_true.2 fun x hx=>?_
   obtain ⟨j,hj,rfl⟩:=List.getElem_of_mem hx
   have:=h j hj
   rw [gi_get V hj] at this
   simp [this.1,this.2]
theorem Zq0 {Gl V m:List Int} {n:Nat} (hok:Z0t Gl n=true) (hG:Gl.length=n*20) (hV:V.length=7*n) (hm:m ∈ Z43 Gl n):ZcM (Z4i n m) V=0 ↔ eqM V m=true:=by
 obtain ⟨t,f,i,ht,hf,hi,hne,hsk,rfl⟩:=Z7G hm
 obtain ⟨k1,k2,k3⟩:=ZaI hok hG ht hf hi hne hsk
 have hpf:=Z1N k3 hf
 have hpi:=Z1N k3 hi
 have hpn:=ZrZ k3 hi hf hne
 have t1:=Z0V (i:=(i:Int)) (f:=(f:Int)) qO qO qO qO qO
 have t2:=Z0V hpi.1 hpi.2 hpf.1 hpf.2 hpn
 rw [Zlq hV]
 · unfold eqM
   rw [decide_eq_true_eq]
   omega
 · show (7*(t:Int)+i).toNat<_
   omega
 · show (7*(t:Int)+4+ty i f).toNat<_
   omega
 · show (7*Z0L (Z03 Gl t f)+(Z0e (Z03 Gl t f)).getD i 0).toNat<_
   omega
 · show (7*Z0L (Z03 Gl t f)+4+ty ((Z0e (Z03 Gl t f)).getD i 0) ((Z0e (Z03 Gl t f)).getD f 0)).toNat<_
   omega

theorem Z6r {Gl:List Int} {n:Nat} {b:Bool} (hE:Z5b Gl n b=0):Z7p Gl n=0/\b=true:=by
 unfold Z5b at hE
 split at hE
 · rename_i h1
   split at hE
   · rename_i h2; exact ⟨h1,h2⟩
   · cases hE
 · rename_i h1; exact absurd hE h1
theorem Za0 {Gl V:List Int} {n:Nat} (ha:Z1h Gl n V=true):V.length=7*n/\Z0x V=true:=by
 unfold Z1h at ha
 simp only [Bool.and_eq_true,decide_eq_true_eq] at ha
 exact ⟨ha.1.1.1,ha.1.1.2⟩
theorem ZrN (s u v:Value) (n nu nv:Nat) (Gl U V:List Int) (sb:Nat) (h:FH) (c:Nat) (hs:SlI h c s 20 n Gl) (hu:SlI h c u 1 nu U) (hv:SlI h c v 1 nv V) (hxu:SlX h u 1 nu) (hxv:SlX h v 1 nv) (hnu:nu<=1000000) (hnv:nv<=1000000) (hsb:sb<256*c) (hh:Z09 h sb [u,v]) :
 callF G 47 [.agg #[s],.slice (some ⟨sb,0,none⟩) 2 2] h c=some (.int .i64 (Z5b Gl n (Z1h Gl n U && Z1h Gl n V)),h,c):=by
 have:=ZeO s n Gl [u,v] (fun j=>if j=0 then U else V) (fun j=>if j=0 then nu else nv) sb h c [] hs hsb hh (by simp) (fun j=>by split <;> omega) (fun j hj=>by
  match j,hj with
  | 0,_=>exact ⟨hu,hxu⟩
  | 1,_=>exact ⟨hv,hxv⟩)
 have e:((List.range [u,v].length).all fun i=>Z1h Gl n (if i=0 then U else V))=(Z1h Gl n U && Z1h Gl n V):=by
  show ((List.range 2).all fun i=>Z1h Gl n (if i=0 then U else V))=_
  simp [List.range_succ]
 rw [e] at this
 exact Z05 this
theorem ZjW (v8:Value) (v7 o:Value) (n nv:Nat) (O:List Int) (c:Nat) (h:FH) (hn:n<=60) (hnv:nv=7*n) (hs:SlI h c o 1 nv O) (hx:SlX h o 1 nv) (df:List Nat) (o8:OkV c v8) (o7:OkV c v7) :
 ∀ (k t:Nat),t+k=n->Ans (G (Zcz none) [v8,v7,o,.int .i64 n,.int .i64 t] h c df) fun r=>r.c=c/\r.df=df/\r.h=h ∧
  ((r.e = .exit 0/\r.vs=[v8,v7,o,.int .i64 n,.int .i64 n] /\ ∀ u,t<=u->u<n->Z7n (Z0y O u)=true) ∨
   (r.e = .ret/\r.v 0 = .slice none 0 0/\r.v 1 = .int .i64 1 /\ ∃ u,u<n/\Z7n (Z0y O u)=false)):=by
 intro k
 have o1:=hs.okV
 induction k with
 | zero =>
  intro t ht
  obtain rfl:t=n:=by omega
  refine Ans.lpG rfl rfl (Z84 ..) ?_
  unfold Z9t
  have fx:=True.intro
  refine Ans.go ?_
  clear fx
  (have fx:=ai o1 (ai o8 o7); refine Ans.ex0 ?_; clear fx)
  exact ⟨rfl,rfl,rfl,.inl ⟨rfl,rfl,fun u h1 h2=>by omega⟩⟩
 | succ k ih =>
  intro t ht
  have x1:=SlX.sub hs hx .i64 .i64 (7*(t:Int)+4) (7*(t:Int)+7) qO qO qO qO
  rw [show (7*(t:Int)+4).toNat=7*t+4 by omega,show (7*(t:Int)+7).toNat=7*t+7 by omega] at x1
  have x2:=SlI.sub hs (7*t+4) (7*t+7) qO qO qO
  rw [show 7*t+7-(7*t+4)=3 by omega,Nat.mul_one,Nat.mul_one] at x2
  have c1:=fun c' (hc:c<=c')=>Z05 (Zgl _ 3 _ h c' [] (x2.mono hc) qO)
  rw [show (O.drop (7*t+4)).take 3=Z0y O t from rfl] at c1
  refine Ans.lpG rfl rfl (Z84 ..) ?_
  unfold Z9t
  cases hq:Z7n (Z0y O t) with
  | true =>
   rw [hq] at c1
   have fx:=ai x1 c1
   refine Ans.go ?_
   clear fx
   (have fx:=ai o1 (ai o8 o7); refine Ans.nx0 ?_; clear fx)
   refine (ih (t+1) qO).mono ?_
   rintro r ⟨q1,q2,q3,q4⟩
   refine ⟨q1,q2,q3,q4.imp (fun ⟨a,b,e⟩=>⟨a,b,fun u u1 u2=>?_⟩) id⟩
   by_cases hu:u=t
   · rw [hu]; exact hq
   · exact e u qO u2
  | false =>
   rw [hq] at c1
   have fx:=ai x1 c1
   refine Ans.go ?_
   clear fx
   (have fx:=ai o1 (ai o8 o7); refine Ans.rt0 ?_; clear fx)
   exact ⟨rfl,rfl,rfl,.inr ⟨rfl,rfl,rfl,t,by omega,hq⟩⟩
def ZlY (Gl:List Int) (n:Nat) (U V:List Int):Int :=
 if Z5b Gl n (Z1h Gl n U && Z1h Gl n V)=0 then (if ((List.range n).all fun t=>Z7n (Z0y (Z9M U V) t))=true then (if Z0x (Z9M U V)=true then 0 else 2) else 1) else Z5b Gl n (Z1h Gl n U && Z1h Gl n V)
theorem Zm5 (h:FH) (b m:Nat) (X:List Int):SlX (newB h b (ints X)) (.slice (some ⟨b,0,none⟩) m m) 1 m:=by
 refine ⟨Nat.le_refl _, ?_⟩
 have:HeapC.get (newB h b (ints X)) b=some (.cells false none (ints X)):=get_newB_same _ _ _
 simp only [Za6,Ze4,this]
set_option maxHeartbeats 1000000 in
theorem sum_sp (s u v:Value) (n nu nv:Nat) (Gl U V:List Int) (h:FH) (c:Nat) (df:List Nat) (hs:SlI h c s 20 n Gl) (hu:SlI h c u 1 nu U) (hv:SlI h c v 1 nv V) (hxu:SlX h u 1 nu) (hxv:SlX h v 1 nv) (hnu:nu<=1000000) (hnv:nv<=1000000) :
 Ans (G (.fn 34) [.agg #[s],u,v] h c df) fun r=>r.e = .ret/\r.df=[]/\c<=r.c/\Z0u c h r.h ∧
  ((ZlY Gl n U V ≠ 0/\r.vs=[.tuple #[.slice none 0 0,.int .i64 (ZlY Gl n U V)]]) ∨
   (ZlY Gl n U V=0 /\ ∃ w,r.vs=[.tuple #[w,.int .i64 0]]/\SlI r.h r.c w 1 nu (Z9M U V)/\SlX r.h w 1 nu)):=by
 refine Ans.call' (fun r e=>f34_go e) ?_
 unfold Zrs
 rw [Z4s hs.flat,Z4m,Nat.add_zero]
 simp only [cond_true]
 have hbl:Z2T [(.slice none 0 0),(.slice none 0 0)] [(0,1,u),(1,1,v)]=some [u,v]:=by
  obtain ⟨_,_,a,cap,rfl,_⟩:=hv
  obtain ⟨_,_,a,cap,rfl,_⟩:=hu
  rfl
 obtain ⟨H,hH⟩:∃ H,H=newB (newB h (256*c) [s]) (256*(c+1)+3) [u,v]:=⟨_,rfl⟩
 have sH:Z0u c h H:=by rw [hH]; simp (disch:=omega)
 have hg:Z09 H (256*c) [s]:=by rw [hH]; exact (Z09.newB_same _ _ _).newB_ne qO
 have hq:Z09 H (256*(c+1)+3) [u,v]:=by rw [hH]; exact Z09.newB_same _ _ _
 have l0:ldN (newB h (256*c) [s]) 1 (.pointer (some ⟨256*c,0,none⟩))=some (.agg #[s]):=Z0p (Z09.newB_same _ _ _)
 have c1:=ZrN s u v n nu nv Gl U V (256*(c+1)+3) H (c+1+1) ((hs.same sH).mono qO) ((hu.same sH).mono qO) ((hv.same sH).mono qO) (SlX.keep hu sH hxu) (SlX.keep hv sH hxv) hnu hnv qO hq
 have hH':=hH.symm
 unfold ZlY
 obtain ⟨E,hE⟩:∃ E,Z5b Gl n (Z1h Gl n U && Z1h Gl n V)=E:=⟨_,rfl⟩
 rw [hE] at c1 ⊢
 by_cases h0:E=0
 case neg =>
  rw [if_neg h0]
  have fx:=ai l0 (ai hbl (ai hH' c1))
  refine Ans.go ?_
  clear fx
  exact .done ⟨rfl,rfl,(by show c<=c+1+1+1+1; omega),sH,.inl ⟨h0,rfl⟩⟩
 obtain ⟨hr0,ha⟩:=Z6r (hE.trans h0)
 obtain ⟨hn,hok⟩:=Z1f hr0
 rw [Bool.and_eq_true] at ha
 obtain ⟨a1,a2⟩:=Za0 ha.1
 obtain ⟨b1,b2⟩:=Za0 ha.2
 have hnv':nv=7*n:=by have:=hv.1; omega
 have hnu':nu=7*n:=by have:=hu.1; omega
 subst h0
 rw [if_pos rfl]
 have hadd:=Ans.eq (Zpv u v nu U V H (c+1+1+1+1) [] ((hu.same sH).mono qO) (by rw [hnu',← hnv']; exact (hv.same sH).mono qO) qO (Z46 a2) (Z46 b2))
 have ca:=Z05 hadd
 obtain ⟨ob,hob⟩:∃ ob,256*(c+1+1+1+1+1)+2=ob:=⟨_,rfl⟩
 rw [hob] at ca
 have hal:=Z2D U V
 have sx:=Zm5 H ob nu (Z9M U V)
 have sl:SlI (newB H ob (ints (Z9M U V))) (c+1+1+1+1+1+1+1+1) (.slice (some ⟨ob,0,none⟩) nu nu) 1 nu (Z9M U V):=by
  refine ⟨by omega,by omega,some ⟨ob,0,none⟩,nu,rfl,.inr ⟨ob,0,ints (Z9M U V),rfl,by omega,⟨false,none,by show (newB _ _ _:FH).f _=_; rw [Z08,if_pos rfl]⟩, ?_⟩⟩
  rw [List.drop_zero,List.take_of_length_le (by simp [hal]; omega)]
 obtain ⟨H2,hH2⟩:∃ H2,newB H ob (ints (Z9M U V))=H2:=⟨_,rfl⟩
 have s2:Z0u c h H2:=by rw [← hH2]; exact sH.trans (by intro b hb; rw [Z08,if_neg qO])
 have hg2:Z09 H2 (256*c) [s]:=hg.eqf (by rw [← hH2,Z08,if_neg qO])
 have l2:ld1 H2 (.pointer (some ⟨256*c,0,none⟩))=some s:=by rw [Z01 hg2]; rfl
 rw [hH2] at ca sx sl
 have ls:=hs.len
 have cw:=fun c' (hc:c+1+1+1+1+1+1+1+1<=c')=>Z05 (Z7s _ nu (Z9M U V) H2 c' [] (sl.mono hc) qO)
 have l1:=Z0p hg
 obtain ⟨O,hO⟩:∃ O,Z9M U V=O:=⟨_,rfl⟩
 rw [hO] at sl cw ⊢
 obtain ⟨⟨re,rv,rh,rc,rd⟩,hr,r1,r2,r3,r4⟩:=ZjW (.slice none 0 0) (.int .i64 0) _ n nu O (c+1+1+1+1+1+1+1+1+1) H2 hn hnu' (sl.mono qO) sx [] (by simp) (by simp) n 0 qO
 simp only at r1 r2 r3 r4
 subst r1 r2 r3
 simp only [Int.ofNat_eq_natCast,Int.cast_ofNat_Int] at hr
 rcases r4 with ⟨rfl,rfl,r5⟩ | ⟨rfl,r5,r6,w,w1,w2⟩
 · have e1:((List.range n).all fun t=>Z7n (Z0y O t))=true:=List.all_eq_true.2 fun t ht=>r5 t qO (by simpa using ht)
   rw [if_pos e1]
   cases hw:Z0x O with
   | true =>
    rw [hw] at cw
    have fx:=ai l0 (ai hbl (ai hH' (ai c1 (ai l1 (ai ca (ai l2 (ai ls (ai hr cw))))))))
    refine Ans.go ?_
    clear fx
    exact .done ⟨rfl,rfl,(by show c<=c+1+1+1+1+1+1+1+1+1+1+1; omega),s2,.inr ⟨rfl,_,rfl,sl.mono (by show _<=c+1+1+1+1+1+1+1+1+1+1+1; omega),sx⟩⟩
   | false =>
    rw [hw] at cw
    have fx:=ai l0 (ai hbl (ai hH' (ai c1 (ai l1 (ai ca (ai l2 (ai ls (ai hr cw))))))))
    refine Ans.go ?_
    clear fx
    exact .done ⟨rfl,rfl,(by show c<=c+1+1+1+1+1+1+1+1+1+1+1; omega),s2,.inl ⟨by simp,rfl⟩⟩
 · have e1:¬ ((List.range n).all fun t=>Z7n (Z0y O t))=true:=fun e=>by
    rw [List.all_eq_true] at e
    have:=e w (by simpa using w1)
    rw [w2] at this; cases this
   rw [if_neg e1]
   have fx:=ai l0 (ai hbl (ai hH' (ai c1 (ai l1 (ai ca (ai l2 (ai ls (ai hr (ai r5 r6)))))))))
   refine Ans.go ?_
   clear fx
   exact .done ⟨rfl,rfl,(by show c<=c+1+1+1+1+1+1+1+1+1; omega),s2,.inl ⟨by simp,(by show [Value.tuple #[_,_]]=_; rw [r5,r6])⟩⟩

theorem ZjT (i j:Nat) (h:FH) (c:Nat) (df:List Nat) (h1:i<j) (h2:j<4):G (.fn 20) [.int .i64 i,.int .i64 j] h c df=some ⟨.ret,[.int .i64 (ty i j)],h,c,[]⟩:=by
 refine Z0C (fun r e=>ZpZ e) (by simp) ?_
 have e:ty (i:Int) j=if i=0 then (j:Int)-1 else 5-i-j:=by
  have:(i=0/\j=1) ∨ (i=0/\j=2) ∨ (i=0/\j=3) ∨ (i=1/\j=2) ∨ (i=1/\j=3) ∨ (i=2/\j=3):=by omega
  rcases this with ⟨rfl,rfl⟩ | ⟨rfl,rfl⟩ | ⟨rfl,rfl⟩ | ⟨rfl,rfl⟩ | ⟨rfl,rfl⟩ | ⟨rfl,rfl⟩ <;> rfl
 unfold ZoZ
 rw [e]
 by_cases e0:i=0
 · rw [if_pos e0]
   subst e0
   have fx:=True.intro
   refine Ans.go ?_
   clear fx
   (have fx:=True.intro; exact Ans.pu)
 · rw [if_neg e0]
   have fx:=True.intro
   refine Ans.go ?_
   clear fx
   (have fx:=True.intro; exact Ans.pu)
theorem Zqi {i j:Nat} (hi:i<4) (hj:j<4):ty (i:Int) j=ty j i:=by
 have:∀ a b:Fin 4,ty ((a:Nat):Int) (b:Nat)=ty (b:Nat) (a:Nat):=by decide
 exact this ⟨i,hi⟩ ⟨j,hj⟩
theorem ZcZ (i j:Nat) (h:FH) (c:Nat) (df:List Nat) (hi:i<4) (hj:j<4) (hne:i ≠ j):G (.fn 20) [.int .i64 i,.int .i64 j] h c df=some ⟨.ret,[.int .i64 (ty i j)],h,c,[]⟩:=by
 by_cases hl:i<j
 · exact ZjT i j h c df hl hj
 · refine Z0C (fun r e=>ZpZ e) (by simp) ?_
   unfold ZoZ
   have ct:=fun c'=>Z05 (ZjT j i h c' [] qO hi)
   rw [Zqi hi hj]
   have fx:=ct
   refine Ans.go ?_
   clear fx
   (have fx:=True.intro; exact Ans.pu)

theorem Zdb (s:Value) (n:Nat) (Gl:List Int) (h:FH) (c:Nat) (df:List Nat) (hs:SlI h c s 20 n Gl):G (.fn 58) [.agg #[s]] h c df=some ⟨.ret,[.int .i64 (Z7p Gl n)],h,c,[]⟩:=by
 refine Z0C (fun r e=>f58_go e) (by simp) ?_
 unfold Zrh
 rw [Z4s hs.flat,Z4m,Nat.add_zero]
 simp only [cond_true]
 obtain ⟨H,hH⟩:∃ H,newB h (256*c) [s]=H:=⟨_,rfl⟩
 have sH:Z0u c h H:=by rw [← hH]; simp (disch:=omega)
 have hg:Z09 H (256*c) [s]:=by rw [← hH]; exact Z09.newB_same _ _ _
 have l0:=Z0p hg
 have l1:ld1 H (.pointer (some ⟨256*c,0,none⟩))=some s:=by rw [Z01 hg]; rfl
 have ll:=hs.len
 have ck:=fun c' (hc:c<=c')=>ZeQ s n Gl H c' ((hs.same sH).mono hc)
 have h2:=hs.2.1
 unfold Z7p
 by_cases h1:n<=1000/\Z0t Gl n=true
 · rw [if_pos h1] at ck ⊢
   by_cases h3:60<n
   · rw [if_pos h3]
     have fx:=ai hH (ai l0 (ai ck (ai l1 ll)))
     refine Ans.go ?_
     clear fx
     (have fx:=sH; exact Ans.pu)
   · rw [if_neg h3]
     have fx:=ai hH (ai l0 (ai ck (ai l1 ll)))
     refine Ans.go ?_
     clear fx
     (have fx:=sH; exact Ans.pu)
 · rw [if_neg h1] at ck ⊢
   have fx:=ai hH (ai l0 ck)
   refine Ans.go ?_
   clear fx
   (have fx:=sH; exact Ans.pu)
end Go.Proofs.Ytcnndelmnobigaa

namespace Go.Ab
open Go Go.ChangeShapes Go.RowKit
variable {P:Program}
theorem Zmn {W:World} {base:Nat} {t:TypeId} {fs:Array Field} {v:Value} {ts:List TypeId} (ht:P.underlying t=some (.struct fs)) (hts:P.cellTypes P.depth t=some ts) (hval:Value.okWide P W .any base t v) :
 ∃ cs,v = .agg cs/\cs.size=P.cellsOf t /\ ∀ i x,cs[i]? = some x -> ∃ u,ts[i % ts.length]? = some u/\Cell.okWide P W .any base u x:=by
 unfold Value.okWide at hval
 rw [ht] at hval
 obtain ⟨cs,rfl,h1,ts',h2,_,h3⟩:=hval
 rw [hts] at h2
 cases h2
 exact ⟨cs,rfl,h1,h3⟩
theorem ZqA {H:Type} {enc:TypeId × Value->H} {W:World} {base:Nat} {tG tS e:TypeId} {sz:Nat} {v:Value} {f0:Field} {d:DataW H} {ps:List MemPlace} (ht:P.underlying tG=some (.struct #[f0])) (hts:P.cellTypes P.depth tG=some [tS]) (hc:P.cellsOf tG=1)
 (hS:P.underlying tS=some (.slice e)) (h0:f0.type=tS) (o0:f0.offset=0) (hcS:P.cellsOf tS=1) (hf:Z5e P e sz) (hz:0<sz) (hval:Value.okWide P W .any base tG v) (hd:DataW.Trod enc P W 0 (fun _=>true) true tG v d ps) :
 ∃ s n Gl,v = .agg #[s]/\Z5c W s sz n Gl:=by
 obtain ⟨cs,rfl,h1,h2⟩:=Zmn ht hts hval
 rw [hc] at h1
 have hcs:∃ s,cs = #[s]:=by
  obtain ⟨l⟩:=cs
  match l,h1 with
  | [s],_=>exact ⟨s,rfl⟩
 match hcs with
 | ⟨s,hs⟩ =>
  subst hs
  obtain ⟨u,hu,hok⟩:=h2 0 s rfl
  simp at hu
  subst hu
  obtain ⟨fuel,hd⟩:=hd
  obtain ⟨y0,n,_,_,h3⟩:=trod_struct1 ht hd
  rw [h0,o0,hcS] at h3
  obtain ⟨n,Gl,ho⟩:=Zem hS hf hz hok (fuel:=n) (x:=y0) (by simpa [Value.cells] using h3)
  exact ⟨s,n,Gl,rfl,ho⟩
theorem Zqz {H:Type} {enc:TypeId × Value->H} {W:World} {base:Nat} {tS e:TypeId} {sz:Nat} {v:Value} {d:DataW H} {ps:List MemPlace} (hS:P.underlying tS=some (.slice e)) (hf:Z5e P e sz) (hz:0<sz)
 (hval:Value.okWide P W .any base tS v) (hd:DataW.Trod enc P W 0 (fun _=>true) true tS v d ps):∃ n Gl,Z5c W v sz n Gl:=by
 unfold Value.okWide at hval
 rw [hS] at hval
 obtain ⟨fuel,hd⟩:=hd
 have hcs:v.cells.toList=[v]:=by
  have hok:Cell.ok P W .any base tS v:=by
   unfold Cell.okWide at hval
   rw [hS] at hval
   cases v <;> exact hval
  unfold Cell.ok at hok
  rw [hS] at hok
  cases v <;> first | rfl | exact hok.elim
 exact Zem hS hf hz hval (fuel:=fuel) (x:=(d,ps)) (by rw [← hcs]; exact hd)
theorem VR.agg1 {μ:Mu} {a b:Value} (h:VR μ a b):VR μ (.agg #[a]) (.agg #[b]):=VR.agg_iff.2 (VRs.cons h (VRs.nil _))
def Zqd (W:World) (e:Ending) (W':World):Prop:=e = .returned (.bool true)/\Below W.heap.size W W'
end Go.Ab

namespace Go.Ab
open Go Go.ChangeShapes Go.RowKit
end Go.Ab

namespace Go.Ab
open Go Go.ChangeShapes Go.RowKit
def SlC (h:FH) (s:Value) (sz n:Nat) (L:List Int):Prop:=Z0N h sz s=some (ints L,n)
theorem Z5c.slc {W:World} {v:Value} {sz n:Nat} {Gl:List Int} (h:Z5c W v sz n Gl) {A:FH} {i:Nat} (ha:∀ m,ZpA v=some m->A.f i=some (.cells true none (ints Gl))):SlC A (ZlO i v) sz n Gl:=by
 obtain ⟨h1,h2,⟨rfl,rfl⟩ | ⟨b,o,cap,C,E,fr,rfl,g1,_,_⟩⟩:=h
 · have:Gl=[]:=List.eq_nil_of_length_eq_zero qO
   subst this
   rfl
 · have hg:HeapC.get A i=some (.cells true none (ints Gl)):=ha _ rfl
   have hb:Nat.ble (0+n*sz) (ints Gl).length=true:=Nat.ble_eq_true_of_le (by simp [h1])
   simp only [SlC,ZlO,Z0N,Z0Q,Z0n,hg,Option.bind_some,hb,cond_true,List.drop_zero]
   rw [List.take_of_length_le (by simp [h1])]
theorem Zil {h:FH} {c c':Nat} {s:Value} {sz n:Nat} {L:List Int} (hs:SlC h s sz n L) (hl:L.length=n*sz) (hz:0<sz) (by' i id:Nat) (hi:h.f i=some (.cells false none [])) (hi':i<256*c') (hid:256*c<=id) (hid':id<256*c') (hlim:n*(by'+1)<=17592186044416) :
 ∃ v' h',Z7q h id sz by' (.slice (some ⟨i,0,none⟩) 0 0) s=some (v',h')/\SlI h' c' v' sz n L/\SlX h' v' sz n/\SlC h' v' sz n L/\(∀ j,j ≠ id->h'.f j=h.f j)/\(0<n->v' = .slice (some ⟨id,0,none⟩) n n/\h'.f id=some (.cells false (some sz) (ints L))):=by
 have hn:n<=17592186044416:=by
  have:n*1<=n*(by'+1):=Nat.mul_le_mul_left _ qO
  omega
 have hg:HeapC.get h i=some (.cells false none []):=hi
 rcases Nat.eq_zero_or_pos n with rfl | hp
 · have:L=[]:=List.eq_nil_of_length_eq_zero qO
   subst this
   refine ⟨.slice (some ⟨i,0,none⟩) 0 0,h, ?_,⟨by simp,by omega,some ⟨i,0,none⟩,0,rfl,.inl ⟨rfl,OkV.sl hi'⟩⟩,⟨Nat.le_refl _, ?_⟩, ?_,fun _ _=>rfl,fun h=>by omega⟩
   · unfold SlC at hs
     simp only [Z7q,hs,Option.bind_some,appTo]
     rfl
   · simp only [Za6,Ze4,hg]
   · simp [SlC,Z0N,Z0Q,Z0n,hg]
     rfl
 · have hcap:Nat.ble n 0=false:=by rw [Bool.eq_false_iff]; intro hh; have:=Nat.le_of_ble_eq_true hh; omega
   have hlim':Nat.ble (n*(by'+1)) 17592186044416=true:=Nat.ble_eq_true_of_le hlim
   have hb0:Nat.ble 0 ([]:List Value).length=true:=rfl
   refine ⟨.slice (some ⟨id,0,none⟩) n n,HeapC.set h id (.cells false (some sz) (ints L)), ?_,⟨hl,by omega,some ⟨id,0,none⟩,n,rfl,.inr ⟨id,0,ints L,rfl,hid',⟨false,some sz, ?_⟩, ?_⟩⟩,⟨Nat.le_refl _, ?_⟩, ?_,fun j hj=>by rw [Z0g,if_neg hj],fun _=>⟨rfl,by rw [Z0g,if_pos rfl]⟩⟩
   · unfold SlC at hs
     simp only [Z7q,hs,Option.bind_some,appTo,hcap,cond_false,Z2g,hlim',Z1I,Bool.and_self,cond_true,Z0Q,Z0n,hg,hb0,Nat.zero_add,List.drop_zero,Nat.zero_mul,Nat.add_zero,List.take_zero,List.nil_append]
   · exact get_set_same _ _ _
   · rw [List.drop_zero,List.take_of_length_le (by simp [hl])]
   · simp only [Za6,Ze4,get_set_same,Nat.beq_refl]
   · have hb:Nat.ble (0+n*sz) (ints L).length=true:=Nat.ble_eq_true_of_le (by simp [hl])
     simp only [SlC,Z0N,Z0Q,Z0n,get_set_same,Option.bind_some,hb,cond_true,List.drop_zero]
     rw [List.take_of_length_le (by simp [hl])]
theorem SlI.slc {h:FH} {c:Nat} {s:Value} {sz n:Nat} {L:List Int} (hs:SlI h c s sz n L) (hn:0<n) (hz:0<sz):SlC h s sz n L:=by
 obtain ⟨g1,g2,a,cap,rfl,h4⟩:=hs
 rcases h4 with ⟨e,hv⟩ | ⟨b,o,cs,rfl,e2,⟨ro,op,e3⟩,e4⟩
 · omega
 · have hl:(ints L).length=n*sz:=by simp [g1]
   have h0:0<n*sz:=Nat.mul_pos hn hz
   have hle:o+n*sz<=cs.length:=by
    rw [← e4,List.length_take,List.length_drop] at hl
    omega
   have hb:Nat.ble (o+n*sz) cs.length=true:=Nat.ble_eq_true_of_le hle
   have hg:HeapC.get h b=some (.cells ro op cs):=e3
   simp only [SlC,Z0N,Z0Q,Z0n,hg,Option.bind_some,hb,cond_true,e4]
theorem Z2Q.appN {c0:Nat} {h:FH} {c c':Nat} {v s:Value} {n k:Nat} {cs:List Value} {X:List Int} (ha:Z2Q c0 h c v n cs) (hs:SlC h s 1 k X) (hk:0<k) (hX:X.length=k) (by' id:Nat) (hid:256*c<=id) (hc0:c0<=c)
 (hid':id<256*c') (hlim:(n+k)*(by'+1)<=17592186044416) :
 ∃ h',Z7q h id 1 by' v s=some (.slice (some ⟨id,0,none⟩) (n+k) (n+k),h')/\Z2Q c0 h' c' (.slice (some ⟨id,0,none⟩) (n+k) (n+k)) (n+k) (cs++ints X) ∧
  (∀ j,j<256*c->j ≠ Z0l v->h'.f j=h.f j):=by
 obtain ⟨h1,h2,h3,i,op,rfl,h5,h6,h7,h8⟩:=ha
 have hlim':Nat.ble ((n+k)*(by'+1)) 17592186044416=true:=Nat.ble_eq_true_of_le hlim
 have hn1:n+k<=17592186044416:=by
  have:(n+k)*1<=(n+k)*(by'+1):=Nat.mul_le_mul_left _ qO
  omega
 have hcap:Nat.ble (n+k) n=false:=by rw [Bool.eq_false_iff]; intro hh; have:=Nat.le_of_ble_eq_true hh; omega
 have hg:HeapC.get h i=some (.cells false op cs):=h7
 have hr:Nat.ble (0+n*1) cs.length=true:=Nat.ble_eq_true_of_le (by simp [h1])
 have ht:(cs.drop 0).take (n*1)=cs:=by rw [List.drop_zero,List.take_of_length_le qO]
 have hf:(cs++ints X).all Z0c=true:=by simp only [List.all_append,h3,Z1I,Bool.and_self]
 unfold SlC at hs
 rcases h8 with rfl | rfl
 · refine ⟨HeapC.set h id (.cells false (some 1) ((cs.drop 0).take (n*1)++ints X)), ?_,⟨by simp [h1,hX],by omega,hf,id,some 1,rfl,by omega,hid', ?_,.inr rfl⟩, ?_⟩
   · simp only [Z7q,hs,Option.bind_some,appTo,hcap,cond_false,Z2g,hlim',Z1I,Bool.and_self,cond_true,Z0Q,Z0n,hg,hr]
   · rw [Z0g,if_pos rfl,ht]
   · intro j hj hne'
     rw [Z0g,if_neg qO]
 · refine ⟨HeapC.set (HeapC.set h i .dead) id (.cells false (some 1) ((cs.drop 0).take (n*1)++ints X)), ?_,⟨by simp [h1,hX],by omega,hf,id,some 1,rfl,by omega,hid', ?_,.inr rfl⟩, ?_⟩
   · simp only [Z7q,hs,Option.bind_some,appTo,hcap,cond_false,Z2g,hlim',Z1I,Bool.and_self,cond_true,Z0Q,Z0n,hg,hr,Nat.beq_refl,Bool.not_false,Bool.and_true]
   · rw [Z0g,if_pos rfl,ht]
   · intro j hj hne'
     rw [blkOf_sl] at hne'
     rw [Z0g,if_neg qO,Z0g,if_neg hne']
end Go.Ab

namespace Go.Ab
open Go
def Ze6 (c0:Nat) (h:FH) (c:Nat) (v:Value) (n:Nat) (cs:List Value):Prop:=(v = .slice none 0 0/\n=0/\cs=[]) ∨ Z2Q c0 h c v n cs
theorem Ze6.mono {c0:Nat} {h:FH} {c c':Nat} {v:Value} {n:Nat} {cs:List Value} (hc:c<=c') (ha:Ze6 c0 h c v n cs):Ze6 c0 h c' v n cs:=ha.imp id (·.mono hc)
theorem Ze6.keep {c0:Nat} {h h':FH} {c:Nat} {v:Value} {n:Nat} {cs:List Value} (ha:Ze6 c0 h c v n cs) (hh:v ≠ .slice none 0 0->h'.f (Z0l v)=h.f (Z0l v)):Ze6 c0 h' c v n cs:=by
 rcases ha with ha | ha
 · exact .inl ha
 · refine .inr (ha.keep (hh ?_))
   obtain ⟨_,_,_,i,op,rfl,_⟩:=ha
   intro e; cases e
theorem Ze6.len {c0:Nat} {h:FH} {c:Nat} {v:Value} {n:Nat} {cs:List Value} (ha:Ze6 c0 h c v n cs):Z0X v=some (.int .i64 n):=by
 rcases ha with ⟨rfl,rfl,_⟩ | ⟨_,_,_,i,op,rfl,_⟩ <;> rfl
theorem Ze6.blk {c0:Nat} {h:FH} {c:Nat} {v:Value} {n:Nat} {cs:List Value} (ha:Ze6 c0 h c v n cs) (hv:v ≠ .slice none 0 0):256*c0<=Z0l v/\Z0l v<256*c:=by
 rcases ha with ⟨e,_⟩ | ha
 · exact absurd e hv
 · exact ha.blk
theorem Ze6.okV {c0:Nat} {h:FH} {c:Nat} {v:Value} {n:Nat} {cs:List Value} (ha:Ze6 c0 h c v n cs):OkV c v:=by
 rcases ha with ⟨rfl,_⟩ | ⟨_,_,_,i,op,rfl,_,h6,_⟩
 · exact OkV.sl0 _ _ _
 · exact OkV.sl h6
theorem Ze6.length {c0:Nat} {h:FH} {c:Nat} {v:Value} {n:Nat} {cs:List Value} (ha:Ze6 c0 h c v n cs):cs.length=n:=by
 rcases ha with ⟨_,rfl,rfl⟩ | ha
 · rfl
 · exact ha.1
theorem Ze6.app {c0:Nat} {h:FH} {c c':Nat} {v:Value} {n:Nat} {cs:List Value} (ha:Ze6 c0 h c v n cs) (x:Value) (hx:Z0c x=true) (by' b id:Nat) (hb:256*c<=b) (hid:256*c<=id) (hne:b ≠ id) (hc0:c0<=c)
 (hid':id<256*c') (hlim:(n+1)*(by'+1)<=17592186044416) :
 ∃ h',Z7q (newB h b [x]) id 1 by' v (.slice (some ⟨b,0,none⟩) 1 1)=some (.slice (some ⟨id,0,none⟩) (n+1) (n+1),h')/\Z2Q c0 h' c' (.slice (some ⟨id,0,none⟩) (n+1) (n+1)) (n+1) (cs++[x]) ∧
  (∀ j,j<256*c->(v ≠ .slice none 0 0->j ≠ Z0l v)->h'.f j=h.f j):=by
 rcases ha with ⟨rfl,rfl,rfl⟩ | ha
 · have hlim':Nat.ble ((0+1)*(by'+1)) 17592186044416=true:=Nat.ble_eq_true_of_le hlim
   have hsrc:Z0N (newB h b [x]) 1 (.slice (some ⟨b,0,none⟩) 1 1)=some ([x],1):=by
    have:Nat.ble (0+1*1) [x].length=true:=rfl
    simp only [Z0N,Z0Q,Z0n,get_newB_same,Option.bind_some,this,cond_true,List.drop_zero]
    rfl
   have hcap:Nat.ble (0+1) 0=false:=rfl
   have hfx:[x].all Z0c=true:=by simp [hx]
   refine ⟨HeapC.set (newB h b [x]) id (.cells false (some 1) [x]), ?_,⟨rfl,by omega,hfx,id,some 1,rfl,by omega,hid',by rw [Z0g,if_pos rfl]; rfl,.inr rfl⟩,fun j hj _=>?_⟩
   · simp only [Z7q,hsrc,Option.bind_some,appTo,hcap,cond_false,Z2g,hlim',hfx,Bool.and_self,cond_true,Nat.beq_refl]
   · rw [Z0g,if_neg qO,Z08,if_neg qO]
 · obtain ⟨h',e1,e2,e3⟩:=ha.app x hx by' b id hb hid hne hc0 hid' hlim
   refine ⟨h',e1,e2,fun j hj hv=>e3 j hj (hv ?_)⟩
   obtain ⟨_,_,_,i,op,rfl,_⟩:=ha
   intro e; cases e
end Go.Ab

namespace Go.Proofs.Ytcnndelmnobigaa
open Go Go.Ab Go.Proofs
def EqN (c0:Nat) (h:FH) (c n:Nat) (v:Value) (D:List (List Int)):Prop :=
 ∃ vals,Ze6 c0 h c v D.length vals /\ ∀ (k:Nat) (m:List Int),D[k]? = some m -> ∃ x,vals[k]? = some x/\RowV c0 h c x (7*n) (Z4i n m)/\Z0l x ≠ Z0l v
theorem EqN.nil (c0:Nat) (h:FH) (c n:Nat):EqN c0 h c n (.slice none 0 0) []:=⟨[],.inl ⟨rfl,rfl,rfl⟩,fun k m e=>by simp at e⟩
theorem EqN.mono {c0:Nat} {h:FH} {c c' n:Nat} {v:Value} {D:List (List Int)} (hc:c<=c') (e:EqN c0 h c n v D):EqN c0 h c' n v D:=by
 obtain ⟨vals,h1,h2⟩:=e
 refine ⟨vals,h1.mono hc,fun k m hk=>?_⟩
 obtain ⟨x,x1,⟨b,y1,y2,y3,y4⟩,x3⟩:=h2 k m hk
 exact ⟨x,x1,⟨b,y1,y2,by omega,y4⟩,x3⟩
theorem EqN.same {c0:Nat} {h h':FH} {c n:Nat} {v:Value} {D:List (List Int)} (hh:∀ b,256*c0<=b->b<256*c->h'.f b=h.f b) (e:EqN c0 h c n v D):EqN c0 h' c n v D:=by
 obtain ⟨vals,h1,h2⟩:=e
 refine ⟨vals,h1.keep fun hv=>hh _ (h1.blk hv).1 (h1.blk hv).2,fun k m hk=>?_⟩
 obtain ⟨x,x1,⟨b,y1,y2,y3,y4,y5⟩,x3⟩:=h2 k m hk
 exact ⟨x,x1,⟨b,y1,y2,y3,(hh b y2 y3).trans y4,y5⟩,x3⟩
def FrN (c0 cc:Nat) (v:Value) (h h':FH):Prop:=∀ b,b<256*cc->(256*c0<=b->v ≠ .slice none 0 0->b ≠ Z0l v)->h'.f b=h.f b
theorem FrN.low {c0 cc:Nat} {v:Value} {h h':FH} (f:FrN c0 cc v h h') (hc:c0<=cc):Z0u c0 h h':=fun b hb=>f b qO (fun q=>by omega)
set_option maxHeartbeats 4000000 in
theorem Zk9 (s:Value) (n:Nat) (Gl:List Int) (gb xb c0 t f:Nat) (df:List Nat) (hn:n<=60) (hok:Z0t Gl n=true) (hG:Gl.length=n*20) (ht:t<n) (hf:f<4) (hsk:Z1O Gl t f=false) (hgb:gb<256*c0) :
 ∀ (k i cc:Nat) (h:FH) (v:Value) (D:List (List Int)),i+k=4->c0<=cc->xb<256*cc->256*c0<=xb->(v ≠ .slice none 0 0->xb ≠ Z0l v)->Z09 h gb [s]->SlI h c0 s 20 n Gl->Z09 h xb (ints (Z03 Gl t f))->EqN c0 h cc n v D->D.length+k<=2000 →
 Ans (G (ZcB none) [ptrTo gb,v,.int .i64 t,.int .i64 f,ptrTo xb,.int .i64 i] h cc df) fun r=>r.e = .exit 4/\cc<=r.c/\r.df=df/\FrN c0 cc v h r.h /\ ∃ v',r.vs=[ptrTo gb,v',.int .i64 t,.int .i64 f,ptrTo xb,.int .i64 4]/\EqN c0 r.h r.c n v' (D++mI Gl t f k i)/\(v'=v ∨ v' ≠ .slice none 0 0/\256*cc<=Z0l v'):=by
 intro k
 induction k with
 | zero =>
  intro i cc h v D hi hc hx hx0 hxv hg hs hxh he hD
  obtain rfl:i=4:=by omega
  rw [mI,List.append_nil]
  refine Ans.lpN rfl rfl (Z5P ..) ?_
  unfold Z6Q
  have fx:=True.intro
  refine Ans.go ?_
  clear fx
  exact Ans.exitN ⟨rfl,(by show cc<=cc+1; omega),rfl,fun _ _ _=>rfl,v,rfl,he.mono (by show cc<=cc+1; omega),.inl rfl⟩
 | succ k ih =>
  intro i cc h v D hi hc hx hx0 hxv hg hs hxh he hD
  rw [mI]
  by_cases hif:i=f
  · rw [if_pos hif,]
    subst hif
    refine Ans.lpN rfl rfl (Z5P ..) ?_
    unfold Z6Q
    have fx:=True.intro
    refine Ans.go ?_
    clear fx
    refine Ans.nextN ?_
    refine (ih (i+1) _ h v D qO qO qO hx0 hxv hg hs hxh (he.mono qO) qO).mono ?_
    rintro r ⟨q1,q2,q3,q4,v',q5,q6,q7⟩
    exact ⟨q1,by omega,q3,fun b hb hv=>q4 b qO hv,v',q5,q6,q7.imp id (fun ⟨a,b⟩=>⟨a,by omega⟩)⟩
  rw [if_neg hif]
  have hif':¬ (i:Int)=f:=by omega
  have hi4:i<4:=by omega
  obtain ⟨k1,k2,k3⟩:=ZaI hok hG ht hf hi4 hif hsk
  have hpf:=Z1N k3 hf
  have hpi:=Z1N k3 hi4
  have hpn:=ZrZ k3 hi4 hf hif
  have hfl:=Z0o hG ht hf
  have b0:∀ H:FH,Z09 H xb (ints (Z03 Gl t f))->ld1 H (.pointer (some ⟨xb,0,none⟩))=some (.int .i64 (Z0L (Z03 Gl t f))):=fun H hH=>by rw [Z01 hH,ints_getD _ _ qO]; rfl
  have bp:∀ (H:FH) (x:Nat),Z09 H xb (ints (Z03 Gl t f))->x<4->ld1 H (.pointer (some ⟨xb,1+x,none⟩))=some (.int .i64 ((Z0e (Z03 Gl t f)).getD x 0)):=fun H x hH hx=>by
   rw [Z01 hH,ints_getD _ _ qO]
   unfold Z0e
   rw [Z26 _ _ _ qO,Z27]
  have m0:(Z2U Gl t f i).getD 0 0=t:=rfl
  have m1:(Z2U Gl t f i).getD 1 0=f:=rfl
  have m2:(Z2U Gl t f i).getD 2 0=i:=rfl
  have m3:(Z2U Gl t f i).getD 3 0=Z0L (Z03 Gl t f):=rfl
  have m4:(Z2U Gl t f i).getD 4 0=(Z0e (Z03 Gl t f)).getD f 0:=rfl
  have m5:(Z2U Gl t f i).getD 5 0=(Z0e (Z03 Gl t f)).getD i 0:=rfl
  obtain ⟨M,hM⟩:∃ M,Z2U Gl t f i=M:=⟨_,rfl⟩
  obtain ⟨F,hF⟩:∃ F,Z03 Gl t f=F:=⟨_,rfl⟩
  rw [hM] at m0 m1 m2 m3 m4 m5 ⊢
  rw [hF] at b0 bp hxh
  rw [hF] at k1 k2 hpf hpi hpn m3 m4 m5
  obtain ⟨U,hU⟩:∃ U:Nat,Z0L F=U:=⟨(Z0L F).toNat,by omega⟩
  obtain ⟨Y,hY⟩:∃ Y:Nat,(Z0e F).getD f 0=Y:=⟨((Z0e F).getD f 0).toNat,by omega⟩
  obtain ⟨Z,hZ⟩:∃ Z:Nat,(Z0e F).getD i 0=Z:=⟨((Z0e F).getD i 0).toNat,by omega⟩
  have bf:=fun H hH=>bp H f hH hf
  have bi:=fun H hH=>bp H i hH hi4
  rw [hU] at b0 k1 k2 m3
  rw [hY] at bf hpf m4 hpn
  rw [hZ] at bi hpi m5 hpn
  have ct1:=fun H c'=>Z05 (ZcZ i f H c' [] hi4 hf hif)
  have ct2:=fun H c'=>Z05 (ZcZ Z Y H c' [] qO qO qO)
  have e1:Z4i n M=Z64 (Z64 (Z64 (Z64 (List.replicate (7*n) 0) (7*(t:Int)+i).toNat 1) (7*(t:Int)+4+ty i f).toNat 1) (7*(U:Int)+Z).toNat (-1)) (7*(U:Int)+4+ty Z Y).toNat (-1):=by
   unfold Z4i
   rw [m0,m1,m2,m3,m4,m5]
  have tr1:=Z0V (i:=(i:Int)) (f:=(f:Int)) qO qO qO qO qO
  have tr2:=Z0V (i:=(Z:Int)) (f:=(Y:Int)) qO qO qO qO qO
  obtain ⟨T1,hT1⟩:∃ T:Nat,ty i f=T:=⟨(ty i f).toNat,by omega⟩
  obtain ⟨T2,hT2⟩:∃ T:Nat,ty Z Y=T:=⟨(ty Z Y).toNat,by omega⟩
  rw [hT1] at e1 tr1 ct1
  rw [hT2] at e1 tr2 ct2
  rw [show (7*(t:Int)+i).toNat=7*t+i by omega,show (7*(t:Int)+4+T1).toNat=7*t+4+T1 by omega,show (7*(U:Int)+Z).toNat=7*U+Z by omega,show (7*(U:Int)+4+T2).toNat=7*U+4+T2 by omega] at e1
  obtain ⟨L0,hL0⟩:∃ L,L=List.replicate (7*n) (0:Int):=⟨_,rfl⟩
  obtain ⟨L1,hL1⟩:∃ L,L=Z64 L0 (7*t+i) 1:=⟨_,rfl⟩
  obtain ⟨L2,hL2⟩:∃ L,L=Z64 L1 (7*t+4+T1) 1:=⟨_,rfl⟩
  obtain ⟨L3,hL3⟩:∃ L,L=Z64 L2 (7*U+Z) (-1):=⟨_,rfl⟩
  rw [← hL0,← hL1,← hL2,← hL3] at e1
  have n0:L0.length=7*n:=by rw [hL0]; simp
  have n1:L1.length=7*n:=by rw [hL1,Z0w,n0]
  have n2:L2.length=7*n:=by rw [hL2,Z0w,n1]
  have n3:L3.length=7*n:=by rw [hL3,Z0w,n2]
  have n4:=ZeJ n M
  have c0':∀ k,-(0:Int)<=L0.getD k 0/\L0.getD k 0<=0:=by rw [hL0]; exact Zbv _
  have c1:=Z1R c0' qO (7*t+i) 1 qO
  rw [← hL1] at c1
  have c2:=Z1R c1 qO (7*t+4+T1) 1 qO
  rw [← hL2] at c2
  have c3:=Z1R c2 qO (7*U+Z) (-1) qO
  rw [← hL3] at c3
  have g0:=c0' (7*t+i)
  have g1:=c1 (7*t+4+T1)
  have g2:=c2 (7*U+Z)
  have g3:=c3 (7*U+4+T2)
  clear c0' c1 c2 c3
  have lg:ld1 h (.pointer (some ⟨gb,0,none⟩))=some s:=by rw [Z01 hg]; rfl
  have ll:=hs.len
  have mk:=Z5m 1 8 .i64 .i64 (7*n) qO qO
  rw [← hL0,show ((7*n:Nat):Int)=7*(n:Int) by omega] at mk
  obtain ⟨rb,hrb⟩:∃ rb,256*(cc+1+1)+4=rb:=⟨_,rfl⟩
  have hxR:∀ L,Z09 (newB h rb L) xb (ints F):=fun L=>hxh.newB_ne qO
  have ldx:=fun L=>b0 _ (hxR L)
  have ldf:=fun L=>bf _ (hxR L)
  have ldi:=fun L=>bi _ (hxR L)
  have a1:ld1 (newB h rb (ints L0)) (.pointer (some ⟨rb,7*t+i,none⟩))=some (.int .i64 (L0.getD (7*t+i) 0)):=Zab _ _ _ _ qO
  have st0:stN (newB h rb (ints L0)) 1 (.pointer (some ⟨rb,7*t+i,none⟩)) (.int .i64 (L0.getD (7*t+i) 0+1))=some (newB h rb (ints L1)):=by
   rw [st1_int _ _ _ _ _ _ (by simp; omega),Z0K,hL1]; rfl
  have a2:ld1 (newB h rb (ints L1)) (.pointer (some ⟨rb,7*t+4+T1,none⟩))=some (.int .i64 (L1.getD (7*t+4+T1) 0)):=Zab _ _ _ _ qO
  have st1':stN (newB h rb (ints L1)) 1 (.pointer (some ⟨rb,7*t+4+T1,none⟩)) (.int .i64 (L1.getD (7*t+4+T1) 0+1))=some (newB h rb (ints L2)):=by
   rw [st1_int _ _ _ _ _ _ (by simp; omega),Z0K,hL2]; rfl
  have a3:ld1 (newB h rb (ints L2)) (.pointer (some ⟨rb,7*U+Z,none⟩))=some (.int .i64 (L2.getD (7*U+Z) 0)):=Zab _ _ _ _ qO
  have st2:stN (newB h rb (ints L2)) 1 (.pointer (some ⟨rb,7*U+Z,none⟩)) (.int .i64 (L2.getD (7*U+Z) 0-1))=some (newB h rb (ints L3)):=by
   rw [st1_int _ _ _ _ _ _ (by simp; omega),Z0K,hL3]; rfl
  have a4:ld1 (newB h rb (ints L3)) (.pointer (some ⟨rb,7*U+4+T2,none⟩))=some (.int .i64 (L3.getD (7*U+4+T2) 0)):=Zab _ _ _ _ qO
  have st3:stN (newB h rb (ints L3)) 1 (.pointer (some ⟨rb,7*U+4+T2,none⟩)) (.int .i64 (L3.getD (7*U+4+T2) 0-1))=some (newB h rb (ints (Z4i n M))):=by
   rw [st1_int _ _ _ _ _ _ (by simp; omega),Z0K,e1]; rfl
  obtain ⟨R4,hR4⟩:∃ R,newB h rb (ints (Z4i n M))=R:=⟨_,rfl⟩
  rw [hR4] at st3
  have fR:∀ b,b ≠ rb->R4.f b=h.f b:=fun b hb=>by rw [← hR4,Z08,if_neg hb]
  have fRb:R4.f rb=some (.cells false none (ints (Z4i n M))):=by rw [← hR4,Z08,if_pos rfl]
  have lx4:=b0 R4 (hxh.eqf (fR xb qO))
  obtain ⟨d0,hd0⟩:∃ d,L0.getD (7*t+i) 0=d:=⟨_,rfl⟩
  obtain ⟨d1,hd1⟩:∃ d,L1.getD (7*t+4+T1) 0=d:=⟨_,rfl⟩
  obtain ⟨d2,hd2⟩:∃ d,L2.getD (7*U+Z) 0=d:=⟨_,rfl⟩
  obtain ⟨d3,hd3⟩:∃ d,L3.getD (7*U+4+T2) 0=d:=⟨_,rfl⟩
  rw [hd0] at a1 st0 g0
  rw [hd1] at a2 st1' g1
  rw [hd2] at a3 st2 g2
  rw [hd3] at a4 st3 g3
  have z1:(7*(t:Int)+i).toNat=7*t+i:=by omega
  have z2:(7*(t:Int)+4+T1).toNat=7*t+4+T1:=by omega
  have z3:(7*(U:Int)+Z).toNat=7*U+Z:=by omega
  have z4:(7*(U:Int)+4+T2).toNat=7*U+4+T2:=by omega
  obtain ⟨vals,h1,h2⟩:=he
  have hvl:=h1.length
  have aR:Ze6 c0 R4 (cc+1+1+1) v D.length vals:=(h1.keep fun hv=>fR _ (by have:=(h1.blk hv).2; omega)).mono qO
  have hbl:Z2T [(.slice none 0 0)] [(0,1,(.slice (some ⟨rb,0,none⟩) (7*n) (7*n)))]=some [.slice (some ⟨rb,0,none⟩) (7*n) (7*n)]:=rfl
  obtain ⟨h',p1,p2,p3⟩:=(aR.mono (c':=cc+1+1+1+1+1+1+1+1+1) qO).app (c':=cc+1+1+1+1+1+1+1+1+1+1+1) (.slice (some ⟨rb,0,none⟩) (7*n) (7*n)) rfl 24 (256*(cc+1+1+1+1+1+1+1+1+1)+2) (256*(cc+1+1+1+1+1+1+1+1+1)+3) qO qO qO qO qO qO
  refine Ans.lpN rfl rfl (Z5P ..) ?_
  unfold Z6Q
  rw [hrb]
  have fx:=ai lg (ai ll (ai mk (ai ldx (ai ldf (ai ldi (ai z1 (ai z2 (ai z3 (ai z4 (ai a1 (ai st0 (ai ct1 (ai a2 (ai st1' (ai a3 (ai st2 (ai ct2 (ai a4 (ai st3 (ai lx4 (ai Z6v (ai hbl p1))))))))))))))))))))))
  refine Ans.go ?_
  clear fx
  refine Ans.nextN ?_
  have fin:FrN c0 cc v h h':=fun b hb hv=>by
   have:∀ hv':v ≠ .slice none 0 0,b ≠ Z0l v:=fun hv'=>by
    rcases Nat.lt_or_ge b (256*c0) with q | q
    · have:=(h1.blk hv').1; omega
    · exact hv q hv'
   rw [p3 b qO this,fR b qO]
  have lowc:Z0u c0 h h':=fin.low hc
  refine (ih (i+1) _ h' _ (D++[M]) qO qO qO hx0 (fun _=>by rw [blkOf_sl]; omega) (hg.same hgb lowc) (hs.same lowc) (hF ▸ hxh.eqf (fin xb hx (fun _ hv=>hxv hv))) ⟨vals++[.slice (some ⟨rb,0,none⟩) (7*n) (7*n)],.inr (by rw [List.length_append]; exact p2.mono qO),fun j m hj=>?_⟩ (by simp; omega)).mono ?_
  · rw [blkOf_sl]
    rcases Nat.lt_or_ge j D.length with q | q
    · rw [List.getElem?_append_left q] at hj
      obtain ⟨x,x1,⟨b,rfl,y2,y3,y4,y5⟩,x3⟩:=h2 j m hj
      rw [blkOf_sl] at x3
      exact ⟨_,by rw [List.getElem?_append_left qO]; exact x1,⟨b,rfl,y2,by omega,by rw [fin b y3 (fun _ _=>x3),y4],y5⟩,by rw [blkOf_sl]; omega⟩
    · rw [List.getElem?_append_right q] at hj
      obtain ⟨hj0,rfl⟩:j-D.length=0/\m=M:=by
       rcases hq:j-D.length with _ | q'
       · rw [hq] at hj; exact ⟨rfl,by simpa using hj.symm⟩
       · rw [hq] at hj; simp at hj
      refine ⟨.slice (some ⟨rb,0,none⟩) (7*n) (7*n),by rw [List.getElem?_append_right qO,hvl,show j-D.length=0 by omega]; rfl,⟨rb,rfl,by omega,by omega, ?_,n4,by omega⟩,by rw [blkOf_sl]; omega⟩
      rw [p3 rb qO (fun hv=>by have:=(h1.blk hv).2; omega),fRb]
  · rintro r ⟨q1,q2,q3,q4,v',q5,q6,q7⟩
    refine ⟨q1,by omega,q3,fun b hb hv=>?_,v',q5,by rw [List.append_assoc] at q6; exact q6,.inr ?_⟩
    · rw [q4 b qO (fun _ _=>by rw [blkOf_sl]; omega),fin b hb hv]
    · rcases q7 with rfl | ⟨q7,q8⟩
      · exact ⟨(fun e=>by cases e),by rw [blkOf_sl]; omega⟩
      · exact ⟨q7,by omega⟩

theorem ZkC (Gl:List Int) (t f:Nat):Z1O Gl t f=(decide (Z0L (Z03 Gl t f)<t) || (decide (Z0L (Z03 Gl t f)=t) && decide ((Z0e (Z03 Gl t f)).getD f 0<f))):=by
 unfold Z1O
 by_cases h:Z0L (Z03 Gl t f)<0
 · rw [decide_eq_true h,decide_eq_true (show Z0L (Z03 Gl t f)<t by omega)]; simp
 · rw [decide_eq_false h]; simp
set_option maxHeartbeats 2000000 in
theorem Zka (s:Value) (n:Nat) (Gl:List Int) (gb c0 t:Nat) (df:List Nat) (hn:n<=60) (hok:Z0t Gl n=true) (ht:t<n) (hgb:gb<256*c0) :
 ∀ (k f cc:Nat) (h:FH) (v:Value) (D:List (List Int)),f+k=4->c0<=cc->Z09 h gb [s]->SlI h c0 s 20 n Gl->EqN c0 h cc n v D->D.length+4*k<=1900 →
 Ans (G (Z6P none) [ptrTo gb,v,.int .i64 t,.int .i64 f] h cc df) fun r=>r.e = .exit 2/\cc<=r.c/\r.df=df/\FrN c0 cc v h r.h /\ ∃ v',r.vs=[ptrTo gb,v',.int .i64 t,.int .i64 4]/\EqN c0 r.h r.c n v' (D++mF Gl t k f)/\(v'=v ∨ v' ≠ .slice none 0 0/\256*cc<=Z0l v'):=by
 intro k
 induction k with
 | zero =>
  intro f cc h v D hf hc hg hs he hD
  obtain rfl:f=4:=by omega
  rw [mF,List.append_nil]
  refine Ans.lpN rfl rfl (Z5Q ..) ?_
  unfold Z6R
  have fx:=True.intro
  refine Ans.go ?_
  clear fx
  exact Ans.exitN ⟨rfl,(by show cc<=cc+1; omega),rfl,fun _ _ _=>rfl,v,rfl,he.mono (by show cc<=cc+1; omega),.inl rfl⟩
 | succ k ih =>
  intro f cc h v D hf hc hg hs he hD
  have hG:=hs.1
  have hf4:f<4:=by omega
  have hfl:=Z0o hG ht hf4
  have lg:ld1 h (.pointer (some ⟨gb,0,none⟩))=some s:=by rw [Z01 hg]; rfl
  have lf:=hs.face (t:Int) (f:Int) qO qO qO qO
  rw [Int.toNat_natCast,Int.toNat_natCast] at lf
  have hsx:=hs.ixs
  obtain ⟨xb,hxb⟩:∃ xb,256*(cc+1)+7=xb:=⟨_,rfl⟩
  obtain ⟨H,hH⟩:∃ H,newB h xb (ints (Z03 Gl t f))=H:=⟨_,rfl⟩
  have hst:stN (newB h xb [.int .i64 0,.int .i64 0,.int .i64 0,.int .i64 0,.int .i64 0]) 5 (.pointer (some ⟨xb,0,none⟩)) (av (Z03 Gl t f))=some H:=by rw [← hH]; exact stN_all _ _ 5 _ _ hfl rfl
  have fH:∀ b,b ≠ xb->H.f b=h.f b:=fun b hb=>by rw [← hH,Z08,if_neg hb]
  have hxh:Z09 H xb (ints (Z03 Gl t f)):=by rw [← hH]; exact Z09.newB_same _ _ _
  have b0:ld1 H (.pointer (some ⟨xb,0,none⟩))=some (.int .i64 (Z0L (Z03 Gl t f))):=by rw [Z01 hxh,ints_getD _ _ qO]; rfl
  have b1:ld1 H (.pointer (some ⟨xb,1+f,none⟩))=some (.int .i64 ((Z0e (Z03 Gl t f)).getD f 0)):=by
   rw [Z01 hxh,ints_getD _ _ qO]
   unfold Z0e
   rw [Z26 _ _ _ qO,Z27]
  have hsv:=ZkC Gl t f
  have hgH:Z09 H gb [s]:=hg.eqf (fH gb qO)
  have hsH:SlI H c0 s 20 n Gl:=hs.keep fun hp=>fH _ (by have:=hs.blk hp; omega)
  have heH:EqN c0 H cc n v D:=he.same fun b h1 h2=>fH b qO
  rw [mF]
  have stepS:Z1O Gl t f=true -> ∀ c',cc<=c'->Ans (G (Z6P none) [ptrTo gb,v,.int .i64 t,.int .i64 (f+1:Nat)] H c' df) fun r=>r.e = .exit 2/\cc<=r.c/\r.df=df/\FrN c0 cc v h r.h /\ ∃ v',r.vs=[ptrTo gb,v',.int .i64 t,.int .i64 4]/\EqN c0 r.h r.c n v' (D++((if Z1O Gl t f=true then [] else mI Gl t f 4 0)++mF Gl t k (f+1)))/\(v'=v ∨ v' ≠ .slice none 0 0/\256*cc<=Z0l v'):=fun hs' c' hc'=>by
   rw [if_pos hs',List.nil_append]
   refine (ih (f+1) c' H v D qO qO hgH hsH (heH.mono hc') qO).mono ?_
   rintro r ⟨q1,q2,q3,q4,v',q5,q6,q7⟩
   exact ⟨q1,by omega,q3,fun b hb hv=>by rw [q4 b qO hv,fH b qO],v',q5,q6,q7.imp id (fun ⟨a,b⟩=>⟨a,by omega⟩)⟩
  cases hsk:Z1O Gl t f with
  | true =>
   have stepS':=stepS hsk
   rw [hsk] at hsv stepS'
   obtain ⟨U,hU⟩:∃ U,Z0L (Z03 Gl t f)=U:=⟨_,rfl⟩
   obtain ⟨Q,hQ⟩:∃ Q,(Z0e (Z03 Gl t f)).getD f 0=Q:=⟨_,rfl⟩
   rw [hU] at b0 hsv
   rw [hQ] at b1 hsv
   refine Ans.lpN rfl rfl (Z5Q ..) ?_
   unfold Z6R
   by_cases h3:U<t
   · have fx:=ai lg (ai hsx (ai lf (ai hxb (ai hst b0))))
     refine Ans.go ?_
     clear fx
     refine Ans.nextN ?_
     exact stepS' _ qO
   · have h4:U=t:=by
      rw [decide_eq_false h3] at hsv
      simp only [Bool.false_or] at hsv
      have:=hsv.symm
      simp only [Bool.and_eq_true,decide_eq_true_eq] at this
      exact this.1
     have h5:Q<f:=by
      rw [decide_eq_false h3] at hsv
      simp only [Bool.false_or] at hsv
      have:=hsv.symm
      simp only [Bool.and_eq_true,decide_eq_true_eq] at this
      exact this.2
     have fx:=ai lg (ai hsx (ai lf (ai hxb (ai hst (ai b0 b1)))))
     refine Ans.go ?_
     clear fx
     refine Ans.nextN ?_
     exact stepS' _ qO
  | false =>
   rw [hsk] at hsv
   obtain ⟨⟨re,rv,rh,rc,rd⟩,hr,r1,r2,r3,r4,v',r5,r6,r7⟩:=Zk9 s n Gl gb xb c0 t f df hn hok hG ht hf4 hsk hgb 4 0 (cc+1+1+1+1) H v D qO qO qO qO (fun hv=>by
    obtain ⟨vals,a1,a2⟩:=he
    have:=(a1.blk hv).2; omega) hgH hsH hxh (heH.mono qO) qO
   simp only [Int.ofNat_eq_natCast,Int.cast_ofNat_Int] at hr
   simp only at r1 r2 r3 r4 r5 r6
   subst r1 r3 r5
   obtain ⟨U,hU⟩:∃ U,Z0L (Z03 Gl t f)=U:=⟨_,rfl⟩
   obtain ⟨Q,hQ⟩:∃ Q,(Z0e (Z03 Gl t f)).getD f 0=Q:=⟨_,rfl⟩
   rw [hU] at b0 hsv
   rw [hQ] at b1 hsv
   have h3:¬ U<t:=fun q=>by rw [decide_eq_true q] at hsv; cases hsv
   have fin:FrN c0 cc v h rh:=fun b hb hv=>by rw [r4 b qO hv,fH b qO]
   have lowc:=fin.low hc
   have hml:(mI Gl t f 4 0).length<=4:=ZaJ Gl t f 4 0
   have fin2:Ans (G (Z6P none) [ptrTo gb,v',.int .i64 t,.int .i64 (f+1:Nat)] rh (rc+1) rd) fun r=>r.e = .exit 2/\cc<=r.c/\r.df=rd/\FrN c0 cc v h r.h /\ ∃ v',r.vs=[ptrTo gb,v',.int .i64 t,.int .i64 4]/\EqN c0 r.h r.c n v' (D++(mI Gl t f 4 0++mF Gl t k (f+1)))/\(v'=v ∨ v' ≠ .slice none 0 0/\256*cc<=Z0l v'):=by
    refine (ih (f+1) (rc+1) rh v' (D++mI Gl t f 4 0) qO qO (hg.same hgb lowc) (hs.same lowc) (r6.mono qO) (by simp; omega)).mono ?_
    rintro r ⟨q1,q2,q3,q4,w,q5,q6,q7⟩
    refine ⟨q1,by omega,q3,fun b hb hv=>?_,w,q5,by rw [List.append_assoc] at q6; exact q6, ?_⟩
    · rw [q4 b qO (fun h1 h2=>?_),fin b hb hv]
      rcases r7 with rfl | ⟨r7,r8⟩
      · exact hv h1 h2
      · omega
    · rcases q7 with rfl | ⟨q7,q8⟩
      · rcases r7 with rfl | ⟨r7,r8⟩
        · exact .inl rfl
        · exact .inr ⟨r7,by omega⟩
      · exact .inr ⟨q7,by omega⟩
   refine Ans.lpN rfl rfl (Z5Q ..) ?_
   unfold Z6R
   by_cases h4:U=t
   · have h5:¬ Q<f:=fun q=>by rw [decide_eq_true h4,decide_eq_true q] at hsv; simp at hsv
     have fx:=ai lg (ai hsx (ai lf (ai hxb (ai hst (ai b0 (ai b1 hr))))))
     refine Ans.go ?_
     clear fx
     refine Ans.nextN ?_
     exact fin2
   · have fx:=ai lg (ai hsx (ai lf (ai hxb (ai hst (ai b0 (ai b1 hr))))))
     refine Ans.go ?_
     clear fx
     refine Ans.nextN ?_
     exact fin2
theorem Zk8 (s:Value) (n:Nat) (Gl:List Int) (gb c0:Nat) (df:List Nat) (hn:n<=60) (hok:Z0t Gl n=true) (hgb:gb<256*c0) :
 ∀ (k t cc:Nat) (h:FH) (v:Value) (D:List (List Int)),t+k=n->c0<=cc->Z09 h gb [s]->SlI h c0 s 20 n Gl->EqN c0 h cc n v D->D.length+16*k<=1000 →
 Ans (G (ZcC none) [ptrTo gb,v,.int .i64 t] h cc df) fun r=>r.e = .exit 0/\cc<=r.c/\r.df=df/\FrN c0 cc v h r.h /\ ∃ v',r.vs=[ptrTo gb,v',.int .i64 n]/\EqN c0 r.h r.c n v' (D++mT Gl k t)/\(v'=v ∨ v' ≠ .slice none 0 0/\256*cc<=Z0l v'):=by
 intro k
 induction k with
 | zero =>
  intro t cc h v D ht hc hg hs he hD
  obtain rfl:t=n:=by omega
  have lg:ld1 h (.pointer (some ⟨gb,0,none⟩))=some s:=by rw [Z01 hg]; rfl
  have ll:=hs.len
  rw [mT,List.append_nil]
  refine Ans.lpN rfl rfl (Z86 ..) ?_
  unfold Z9z
  have fx:=ai lg ll
  refine Ans.go ?_
  clear fx
  exact Ans.exitN ⟨rfl,(by show cc<=cc+1; omega),rfl,fun _ _ _=>rfl,v,rfl,he.mono (by show cc<=cc+1; omega),.inl rfl⟩
 | succ k ih =>
  intro t cc h v D ht hc hg hs he hD
  have lg:ld1 h (.pointer (some ⟨gb,0,none⟩))=some s:=by rw [Z01 hg]; rfl
  have ll:=hs.len
  obtain ⟨⟨re,rv,rh,rc,rd⟩,hr,r1,r2,r3,r4,v',r5,r6,r7⟩:=Zka s n Gl gb c0 t df hn hok qO hgb 4 0 (cc+1+1) h v D qO qO hg hs (he.mono qO) qO
  simp only [Int.ofNat_eq_natCast,Int.cast_ofNat_Int] at hr
  simp only at r1 r2 r3 r4 r5 r6
  subst r1 r3 r5
  have fin:FrN c0 cc v h rh:=fun b hb hv=>r4 b qO hv
  have lowc:=fin.low hc
  have hml:(mF Gl t 4 0).length<=4*4:=ZaK Gl t 4 0
  rw [mT]
  refine Ans.lpN rfl rfl (Z86 ..) ?_
  unfold Z9z
  have fx:=ai lg (ai ll hr)
  refine Ans.go ?_
  clear fx
  refine Ans.nextN ?_
  refine (ih (t+1) (rc+1) rh v' (D++mF Gl t 4 0) qO qO (hg.same hgb lowc) (hs.same lowc) (r6.mono qO) (by simp; omega)).mono ?_
  rintro r ⟨q1,q2,q3,q4,w,q5,q6,q7⟩
  refine ⟨q1,by omega,q3,fun b hb hv=>?_,w,q5,by rw [List.append_assoc] at q6; exact q6, ?_⟩
  · rw [q4 b qO (fun h1 h2=>?_),fin b hb hv]
    rcases r7 with rfl | ⟨r7,r8⟩
    · exact hv h1 h2
    · omega
  · rcases q7 with rfl | ⟨q7,q8⟩
    · rcases r7 with rfl | ⟨r7,r8⟩
      · exact .inl rfl
      · exact .inr ⟨r7,by omega⟩
    · exact .inr ⟨q7,by omega⟩
theorem Zqu (s:Value) (n:Nat) (Gl:List Int) (h:FH) (c:Nat) (df:List Nat) (hs:SlI h c s 20 n Gl) :
 Ans (G (.fn 26) [.agg #[s]] h c df) fun r=>r.e = .ret/\r.df=[]/\c<=r.c/\Z0u c h r.h ∧
  ((Z7p Gl n ≠ 0/\r.vs=[.tuple #[.slice none 0 0,.int .i64 (Z7p Gl n)]]) ∨ (Z7p Gl n=0 /\ ∃ v,r.vs=[.tuple #[v,.int .i64 0]]/\EqN c r.h r.c n v (Z43 Gl n))):=by
 refine Ans.call' (fun r e=>f26_go e) ?_
 unfold Zrv
 rw [Z4s hs.flat,Z4m,Nat.add_zero]
 simp only [cond_true]
 obtain ⟨H,hH⟩:∃ H,newB h (256*c) [s]=H:=⟨_,rfl⟩
 have sH:Z0u c h H:=by rw [← hH]; simp (disch:=omega)
 have hg:Z09 H (256*c) [s]:=by rw [← hH]; exact Z09.newB_same _ _ _
 have l0:=Z0p hg
 have cr:=fun c' (hc:c<=c')=>Z05 (Zdb s n Gl H c' [] ((hs.same sH).mono hc))
 by_cases h0:Z7p Gl n=0
 case neg =>
  obtain ⟨E,hE⟩:∃ E,Z7p Gl n=E:=⟨_,rfl⟩
  rw [hE] at cr h0 ⊢
  have fx:=ai hH (ai l0 cr)
  refine Ans.go ?_
  clear fx
  exact .done ⟨rfl,rfl,(by show c<=c+1+1+1+1; omega),sH,.inl ⟨h0,rfl⟩⟩
 obtain ⟨hn,hok⟩:=Z1f h0
 rw [h0] at cr
 obtain ⟨⟨re,rv,rh,rc,rd⟩,hr,r1,r2,r3,r4,v',r5,r6,r7⟩:=Zk8 s n Gl (256*c) (c+1) [] hn hok qO n 0 (c+1+1+1+1+1) H (.slice none 0 0) [] qO qO hg ((hs.same sH).mono qO) (EqN.nil _ _ _ _) (by simp; omega)
 simp only [Int.ofNat_eq_natCast,Int.cast_ofNat_Int] at hr
 simp only at r1 r2 r3 r4 r5 r6
 subst r1 r3 r5
 rw [List.nil_append] at r6
 have fx:=ai hH (ai l0 (ai cr hr))
 refine Ans.go ?_
 clear fx
 refine .done ⟨rfl,rfl,(by show c<=rc+1; omega),fun b hb=>?_,.inr ⟨h0,v',rfl, ?_⟩⟩
 · show rh.f b=_
   rw [r4 b qO (fun _ q=>absurd rfl q),sH b hb]
 · obtain ⟨vals,a1,a2⟩:=r6.mono (c':=rc+1) qO
   refine ⟨vals, ?_,fun k m hk=>?_⟩
   · rcases a1 with a1 | ⟨z1,z2,z3,i,op,z4,z5,z6,z7,z8⟩
     · exact .inl a1
     · exact .inr ⟨z1,z2,z3,i,op,z4,by omega,z6,z7,z8⟩
   · obtain ⟨x,x1,⟨b,y1,y2,y3,y4⟩,x3⟩:=a2 k m hk
     exact ⟨x,x1,⟨b,y1,by omega,y3,y4⟩,x3⟩

theorem Zpx (v:Value) (nv:Nat) (V:List Int) (gb c:Nat) (h:FH) (df:List Nat) (hnv:nv<=1000000) (hv:SlI h c v 1 nv V) (hgb:gb<256*c):∀ (r i:Nat),i+r=nv →
 Ans (G (Zcb none) [v,ptrTo gb,.bool false,.int .i64 i] h c df) fun q=>q.h=h/\q.c=c/\q.df=df ∧
  ((q.e = .exit 0/\q.vs=[v,ptrTo gb,.bool false,.int .i64 nv] /\ ∀ j,i<=j->j<nv->0<=V.getD j 0/\V.getD j 0<=1000000) ∨ (q.e = .ret/\q.v 2 = .bool false /\ ∃ j,j<nv /\ ¬ (0<=V.getD j 0/\V.getD j 0<=1000000))):=by
 intro r
 have o1:=hv.okV
 have ll:=hv.len
 induction r with
 | zero =>
  intro i hi
  obtain rfl:i=nv:=by omega
  refine Ans.lpG rfl rfl (Z2Y ..) ?_
  unfold Z4R
  have fx:=ll
  refine Ans.go ?_
  clear fx
  (have fx:=ai o1 hgb; refine Ans.ex0 ?_; clear fx)
  exact ⟨rfl,rfl,rfl,.inl ⟨rfl,rfl,fun j h1 h2=>by omega⟩⟩
 | succ r ih =>
  intro i hi
  have hin:i<nv:=by omega
  have l1:=hv.rdi (i:Int) qO qO
  rw [Z1y,Int.toNat_natCast] at l1
  obtain ⟨A,hA⟩:∃ A,V.getD i 0=A:=⟨_,rfl⟩
  rw [hA] at l1
  have bad:¬ (0<=A/\A<=1000000) -> ∃ j,j<nv /\ ¬ (0<=V.getD j 0/\V.getD j 0<=1000000):=fun h=>⟨i,hin,by rw [hA]; exact h⟩
  by_cases h1:A<0
  · refine Ans.lpG rfl rfl (Z2Y ..) ?_
    unfold Z4R
    have fx:=ai ll (ai hv.ixs1 l1)
    refine Ans.go ?_
    clear fx
    (have fx:=ai o1 hgb; refine Ans.rt0 ?_; clear fx)
    exact ⟨rfl,rfl,rfl,.inr ⟨rfl,rfl,bad qO⟩⟩
  · by_cases h2:1000000<A
    · refine Ans.lpG rfl rfl (Z2Y ..) ?_
      unfold Z4R
      have fx:=ai ll (ai hv.ixs1 l1)
      refine Ans.go ?_
      clear fx
      (have fx:=ai o1 hgb; refine Ans.rt0 ?_; clear fx)
      exact ⟨rfl,rfl,rfl,.inr ⟨rfl,rfl,bad qO⟩⟩
    · refine Ans.lpG rfl rfl (Z2Y ..) ?_
      unfold Z4R
      have fx:=ai ll (ai hv.ixs1 l1)
      refine Ans.go ?_
      clear fx
      (have fx:=ai o1 hgb; refine Ans.nx0 ?_; clear fx)
      refine (ih (i+1) qO).mono ?_
      rintro q ⟨q1,q2,q3,q4⟩
      refine ⟨q1,q2,q3,q4.imp (fun ⟨a,b,d⟩=>⟨a,b,fun j j1 j2=>?_⟩) id⟩
      by_cases e:j=i
      · rw [e,hA]; omega
      · exact d j qO j2
theorem Z4C {V:List Int} {n t:Nat} (hV:V.length=7*n) (ht:t<n):(Z0y V t).length=3:=by
 rw [Z0y,List.length_take,List.length_drop]; omega
theorem Z8m {V:List Int} {n t k:Nat} (hV:V.length=7*n) (ht:t<n) (hk:k<3):(Z0y V t).getD k 0=V.getD (7*t+4+k) 0:=by
 simp only [Z0y,List.getD_eq_getElem?_getD,List.getElem?_take_of_lt hk,List.getElem?_drop]
theorem adQ_in (v:Value) (nv n:Nat) (V:List Int) (gb t c:Nat) (h:FH) (df:List Nat) (hn:n<=60) (hnv:nv=7*n) (ht:t<n) (hv:SlI h c v 1 nv V) (hgb:gb<256*c):∀ (r k m:Nat),k+r=3->m<=k →
 Ans (G (Zc9 none) [v,ptrTo gb,.bool false,.int .i64 t,.int .i64 m,.int .i64 k] h c df) fun q=>q=⟨.exit 4,[v,ptrTo gb,.bool false,.int .i64 t,.int .i64 (m+nzC ((Z0y V t).drop k):Nat),.int .i64 3],h,c,df⟩:=by
 intro r
 have o1:=hv.okV
 have hV:V.length=7*n:=by have:=hv.1; omega
 have ql:=Z4C hV ht
 induction r with
 | zero =>
  intro k m hk hm
  obtain rfl:k=3:=by omega
  rw [List.drop_of_length_le qO,nzC,Nat.add_zero]
  refine Ans.lpG rfl rfl (Z5B ..) ?_
  unfold Z6H
  have fx:=True.intro
  refine Ans.go ?_
  clear fx
  (have fx:=ai o1 hgb; refine Ans.ex0 ?_; clear fx)
  rfl
 | succ r ih =>
  intro k m hk hm
  have hk3:k<3:=by omega
  have l1:=hv.rdi (7*(t:Int)+4+k) qO qO
  rw [gi,show (7*(t:Int)+4+k).toNat=7*t+4+k by omega] at l1
  have hd:=Za9 ql hk3
  rw [Z8m hV ht hk3] at hd
  rw [hd]
  have hk3':(k:Int)<3:=by omega
  have z1:(7*(t:Int)+4+k).toNat=7*t+4+k:=by omega
  obtain ⟨A,hA⟩:∃ A,V.getD (7*t+4+k) 0=A:=⟨_,rfl⟩
  rw [hA] at l1 ⊢
  by_cases e:A=0
  · rw [if_pos e,Nat.zero_add]
    refine Ans.lpG rfl rfl (Z5B ..) ?_
    unfold Z6H
    have fx:=ai hv.ixs1 (ai z1 l1)
    refine Ans.go ?_
    clear fx
    (have fx:=ai o1 hgb; refine Ans.nx0 ?_; clear fx)
    exact ih (k+1) m qO qO
  · rw [if_neg e,← Nat.add_assoc]
    refine Ans.lpG rfl rfl (Z5B ..) ?_
    unfold Z6H
    have fx:=ai hv.ixs1 (ai z1 l1)
    refine Ans.go ?_
    clear fx
    (have fx:=ai o1 hgb; refine Ans.nx0 ?_; clear fx)
    exact ih (k+1) (m+1) qO qO
theorem Zpy (s v:Value) (nv n:Nat) (Gl V:List Int) (gb c:Nat) (h:FH) (df:List Nat) (hn:n<=60) (hnv:nv=7*n) (hv:SlI h c v 1 nv V) (hs:SlI h c s 20 n Gl) (hg:Z09 h gb [s]) (hgb:gb<256*c):∀ (r t:Nat),t+r=n →
 Ans (G (Zca none) [v,ptrTo gb,.bool false,.int .i64 t] h c df) fun q=>q.h=h/\q.c=c/\q.df=df ∧
  ((q.e = .exit 2/\q.vs=[v,ptrTo gb,.bool false,.int .i64 n] /\ ∀ u,t<=u->u<n->Z7n (Z0y V u)=true) ∨ (q.e = .ret/\q.v 2 = .bool false /\ ∃ u,u<n/\Z7n (Z0y V u)=false)):=by
 intro r
 have o1:=hv.okV
 have ll:=hs.len
 have lg:ld1 h (.pointer (some ⟨gb,0,none⟩))=some s:=by rw [Z01 hg]; rfl
 have hV:V.length=7*n:=by have:=hv.1; omega
 induction r with
 | zero =>
  intro t ht
  obtain rfl:t=n:=by omega
  refine Ans.lpG rfl rfl (Z5C ..) ?_
  unfold Z6I
  have fx:=ai lg ll
  refine Ans.go ?_
  clear fx
  (have fx:=ai o1 hgb; refine Ans.ex0 ?_; clear fx)
  exact ⟨rfl,rfl,rfl,.inl ⟨rfl,rfl,fun u h1 h2=>by omega⟩⟩
 | succ r ih =>
  intro t ht
  have htn:t<n:=by omega
  have hin:=Ans.eq (adQ_in v nv n V gb t (c+1+1+1) h df hn hnv htn (hv.mono qO) qO 3 0 0 qO qO)
  rw [List.drop_zero,Nat.zero_add] at hin
  simp only [Int.ofNat_eq_natCast,Int.cast_ofNat_Int] at hin
  have hq:Z7n (Z0y V t)=decide (nzC (Z0y V t)<=1):=rfl
  have hle:=ZgH (Z0y V t)
  rw [Z4C hV htn] at hle
  obtain ⟨N,hN⟩:∃ N,nzC (Z0y V t)=N:=⟨_,rfl⟩
  rw [hN] at hin hq hle
  by_cases e:N<=1
  · have e':¬ (1:Int)<N:=by omega
    refine Ans.lpG rfl rfl (Z5C ..) ?_
    unfold Z6I
    have fx:=ai lg (ai ll hin)
    refine Ans.go ?_
    clear fx
    (have fx:=ai o1 hgb; refine Ans.nx0 ?_; clear fx)
    refine (ih (t+1) qO).mono ?_
    rintro q ⟨q1,q2,q3,q4⟩
    refine ⟨q1,q2,q3,q4.imp (fun ⟨a,b,d⟩=>⟨a,b,fun u j1 j2=>?_⟩) id⟩
    by_cases e2:u=t
    · rw [e2,hq,decide_eq_true e]
    · exact d u qO j2
  · have e':(1:Int)<N:=by omega
    refine Ans.lpG rfl rfl (Z5C ..) ?_
    unfold Z6I
    have fx:=ai lg (ai ll hin)
    refine Ans.go ?_
    clear fx
    (have fx:=ai o1 hgb; refine Ans.rt0 ?_; clear fx)
    exact ⟨rfl,rfl,rfl,.inr ⟨rfl,rfl,t,htn,by rw [hq,decide_eq_false e]⟩⟩
theorem EqN.at {c0:Nat} {h:FH} {c n:Nat} {v:Value} {D:List (List Int)} (e:EqN c0 h c n v D) {i:Nat} (hi:i<D.length) :
 ∃ x p b o,p = .pointer (some ⟨b,o,none⟩)/\b<256*c/\ixS 1 v (.int .i64 i)=some p/\ld1 h p=some x/\Z0X x=some (.int .i64 (7*n:Nat))/\SlI h c x 1 (7*n) (Z4i n (D.getD i [])):=by
 obtain ⟨vals,a1,a2⟩:=e
 rcases a1 with ⟨_,h0,_⟩ | ⟨h1,h2,h3,b,op,rfl,h5,h6,h7,h8⟩
 · omega
 obtain ⟨x,x1,⟨b',rfl,y2,y3,y4,y5,y6⟩,x3⟩:=a2 i _ (List.getElem?_eq_getElem hi)
 have hg:D.getD i []=D[i]:=by simp [List.getD,List.getElem?_eq_getElem hi]
 rw [hg]
 refine ⟨.slice (some ⟨b',0,none⟩) (7*n) (7*n),.pointer (some ⟨b,0+(i:Int).toNat*1,none⟩),_,_,rfl,h6,ixS_sl _ _ _ _ _ _ _ qO qO, ?_,rfl,⟨by rw [y5]; omega,by omega,_,_,rfl,.inr ⟨b',0,ints (Z4i n D[i]),rfl,y3,⟨false,none,y4⟩, ?_⟩⟩⟩
 · rw [Z01 (cs:=vals) ⟨false,op,h7⟩]
   simpa using x1
 · rw [List.drop_zero,List.take_of_length_le (by simp [y5])]
theorem EqN.len {c0:Nat} {h:FH} {c n:Nat} {v:Value} {D:List (List Int)} (e:EqN c0 h c n v D):Z0X v=some (.int .i64 D.length):=by
 obtain ⟨vals,a1,_⟩:=e; exact a1.len
theorem EqN.okV {c0:Nat} {h:FH} {c n:Nat} {v:Value} {D:List (List Int)} (e:EqN c0 h c n v D):OkV c v:=by
 obtain ⟨vals,a1,_⟩:=e; exact a1.okV
theorem Zpz (v tv:Value) (nv n:Nat) (V:List Int) (D:List (List Int)) (c0 c:Nat) (h:FH) (df:List Nat) (hn:n<=60) (hnv:nv=7*n) (hv:SlI h c v 1 nv V) (hW:Z0x V=true) (he:EqN c0 h c n tv D) (hl:D.length<=1000):∀ (r i:Nat),i+r=D.length →
 Ans (G (Zc8 none) [v,.bool false,tv,.int .i64 i] h c df) fun q=>q.h=h/\q.c=c/\q.df=df ∧
  ((q.e = .exit 6 /\ ∀ j,i<=j->j<D.length->ZcM (Z4i n (D.getD j [])) V=0) ∨ (q.e = .ret/\q.v 1 = .bool false /\ ∃ j,j<D.length/\ZcM (Z4i n (D.getD j [])) V ≠ 0)):=by
 intro r
 have o1:=hv.okV
 have o2:=he.okV
 have ll:=he.len
 induction r with
 | zero =>
  intro i hi
  obtain rfl:i=D.length:=by omega
  refine Ans.lpG rfl rfl (Z5A ..) ?_
  unfold Z6G
  have fx:=ll
  refine Ans.go ?_
  clear fx
  (have fx:=ai o1 o2; refine Ans.ex0 ?_; clear fx)
  exact ⟨rfl,rfl,rfl,.inl ⟨rfl,fun j h1 h2=>by omega⟩⟩
 | succ r ih =>
  intro i hi
  obtain ⟨x,p,b,o,rfl,hb,x1,x2,x3,x4⟩:=he.at (i:=i) qO
  have hbd:=Zg9 n (D.getD i [])
  have cd:=fun c' (hc:c<=c')=>Z05 (dot_sp x v (7*n) (Z4i n (D.getD i [])) V h c' [] qO (x4.mono hc) (by rw [← hnv]; exact hv.mono hc) hbd (fun k=>Z4x hW k))
  have hi':(i:Int)<D.length:=by omega
  obtain ⟨d,hd⟩:∃ d,ZcM (Z4i n (D.getD i [])) V=d:=⟨_,rfl⟩
  rw [hd] at cd
  by_cases h0:d=0
  · refine Ans.lpG rfl rfl (Z5A ..) ?_
    unfold Z6G
    have fx:=ai ll (ai x1 (ai x2 cd))
    refine Ans.go ?_
    clear fx
    (have fx:=ai o1 o2; refine Ans.nx0 ?_; clear fx)
    refine (ih (i+1) qO).mono ?_
    rintro q ⟨q1,q2,q3,q4⟩
    refine ⟨q1,q2,q3,q4.imp (fun ⟨a,d'⟩=>⟨a,fun j j1 j2=>?_⟩) id⟩
    by_cases e:j=i
    · rw [e,hd,h0]
    · exact d' j qO j2
  · refine Ans.lpG rfl rfl (Z5A ..) ?_
    unfold Z6G
    have fx:=ai ll (ai x1 (ai x2 cd))
    refine Ans.go ?_
    clear fx
    (have fx:=ai o1 o2; refine Ans.rt0 ?_; clear fx)
    exact ⟨rfl,rfl,rfl,.inr ⟨rfl,rfl,i,by omega,by rw [hd]; exact h0⟩⟩
set_option maxHeartbeats 2000000 in
theorem Zqa (s v:Value) (n nv:Nat) (Gl V:List Int) (h:FH) (c:Nat) (df:List Nat) (hs:SlI h c s 20 n Gl) (hv:SlI h c v 1 nv V) (hnv:nv<=1000000) (hr0:Z7p Gl n=0) :
 G (.fn 61) [.agg #[s],v] h c df=some ⟨.ret,[.bool (Z1h Gl n V)],h,c,[]⟩:=by
 obtain ⟨hn,hok⟩:=Z1f hr0
 have hG:=hs.1
 refine Z0C (fun r e=>f61_go e) (by simp) ?_
 unfold Zre
 rw [Z4s hs.flat,Z4m,Nat.add_zero]
 simp only [cond_true]
 have hvl:V.length=nv:=hv.1.trans (Nat.mul_one _)
 obtain ⟨H,hH⟩:∃ H,newB h (256*c) [s]=H:=⟨_,rfl⟩
 have sH:Z0u c h H:=by rw [← hH]; simp (disch:=omega)
 have hg:Z09 H (256*c) [s]:=by rw [← hH]; exact Z09.newB_same _ _ _
 have l1:ld1 H (.pointer (some ⟨256*c,0,none⟩))=some s:=by rw [Z01 hg]; rfl
 have ll:=hs.len
 have lv:=hv.len
 have fls:¬ (V.length=7*n/\Z0x V=true/\(∀ t,t<n->Z7n (Z0y V t)=true)/\((Z43 Gl n).all fun m=>eqM V m)=true)->Z1h Gl n V=false:=fun h=>by
  cases e:Z1h Gl n V with
  | false=>rfl
  | true=>exact absurd (Z38.1 e) h
 by_cases e1:nv=7*n
 case neg =>
  rw [fls (fun q=>e1 qO)]
  have e1':¬ (nv:Int)=7*(n:Int):=by omega
  have fx:=ai hH (ai l1 (ai ll lv))
  refine Ans.go ?_
  clear fx
  (have fx:=sH; exact Ans.pu)
 have e1':(nv:Int)=7*(n:Int):=by omega
 obtain ⟨⟨re,rv,rh,rc,rd⟩,w1,r1,r2,r3,r4⟩:=Zpx v nv V (256*c) (c+1+1+1) H [] hnv ((hv.same sH).mono qO) qO nv 0 qO
 simp only [Int.ofNat_eq_natCast,Int.cast_ofNat_Int] at w1
 simp only at r1 r2 r3 r4
 subst r1 r2 r3
 rcases r4 with ⟨rfl,rfl,r5⟩ | ⟨rfl,r5,j,j1,j2⟩
 case inr =>
  rw [fls (fun q=>j2 (by have:=Z4x q.2.1 j; rwa [Z1y] at this))]
  have fx:=ai hH (ai l1 (ai ll (ai lv w1)))
  refine Ans.go ?_
  clear fx
  rw [r5]
  (have fx:=sH; exact Ans.pu)
 have hW:Z0x V=true:=Z47.2 fun j hj=>by rw [Z1y]; exact r5 j qO qO
 obtain ⟨⟨re,rv,rh',rc,rd⟩,w2,q1,q2,q3,q4⟩:=Zpy s v nv n Gl V (256*c) (c+1+1+1+1) rh [] hn e1 ((hv.same sH).mono qO) ((hs.same sH).mono qO) hg qO n 0 qO
 simp only [Int.ofNat_eq_natCast,Int.cast_ofNat_Int] at w2
 simp only at q1 q2 q3 q4
 subst q1 q2 q3
 rcases q4 with ⟨rfl,rfl,q5⟩ | ⟨rfl,q5,u,u1,u2⟩
 case inr =>
  rw [fls (fun q=>by have:=q.2.2.1 u u1; rw [u2] at this; cases this)]
  have fx:=ai hH (ai l1 (ai ll (ai lv (ai w1 w2))))
  refine Ans.go ?_
  clear fx
  rw [q5]
  (have fx:=sH; exact Ans.pu)
 have lN:=Z0p hg
 obtain ⟨⟨re,rv,H2,k2,rd⟩,w3,t1,t2,t3,t4,t5⟩:=Zqu s n Gl rh' (c+1+1+1+1+1) [] ((hs.same sH).mono qO)
 simp only at t1 t2 t3 t4 t5
 subst t1 t2
 rcases t5 with ⟨e,_⟩ | ⟨_,tv,rfl,t6⟩
 · exact absurd hr0 e
 have c3:=Z05 w3
 have s2:Z0u c h H2:=sH.trans (t4.mono qO)
 have hml:=Zgm Gl n
 obtain ⟨⟨re,rv,rh,rc,rd⟩,w4,z1,z2,z3,z4⟩:=Zpz v tv nv n V (Z43 Gl n) (c+1+1+1+1+1) (k2+1) H2 [] hn e1 ((hv.same s2).mono qO) hW (t6.mono qO) qO (Z43 Gl n).length 0 qO
 simp only [Int.ofNat_eq_natCast,Int.cast_ofNat_Int] at w4
 simp only at z1 z2 z3 z4
 subst z1 z2 z3
 have hVl:V.length=7*n:=by omega
 rcases z4 with ⟨rfl,z5⟩ | ⟨rfl,z5,j,j1,j2⟩
 · have hA:Z1h Gl n V=true:=Z38.2 ⟨hVl,hW,fun t ht=>q5 t qO ht,List.all_eq_true.2 fun m hm=>by
    obtain ⟨j,hj,rfl⟩:=List.getElem_of_mem hm
    have:=z5 j qO hj
    have hg':(Z43 Gl n).getD j []=(Z43 Gl n)[j]:=by simp [List.getD,List.getElem?_eq_getElem hj]
    rw [hg'] at this
    exact (Zq0 hok hG hVl hm).1 this⟩
   rw [hA]
   have fx:=ai hH (ai l1 (ai ll (ai lv (ai w1 (ai w2 (ai lN (ai c3 w4)))))))
   refine Ans.go ?_
   clear fx
   (have fx:=s2; exact Ans.pu)
 · have hA:Z1h Gl n V=false:=fls (fun q=>j2 (by
    have hg':(Z43 Gl n).getD j []=(Z43 Gl n)[j]:=by simp [List.getD,List.getElem?_eq_getElem j1]
    rw [hg']
    exact (Zq0 hok hG hVl (List.getElem_mem _)).2 (List.all_eq_true.1 q.2.2.2 _ (List.getElem_mem _))))
   rw [hA]
   have fx:=ai hH (ai l1 (ai ll (ai lv (ai w1 (ai w2 (ai lN (ai c3 w4)))))))
   refine Ans.go ?_
   clear fx
   rw [z5]
   (have fx:=s2; exact Ans.pu)
theorem Z6U (s v:Value) (n nv:Nat) (Gl V:List Int) (h:FH) (c:Nat) (df:List Nat) (hs:SlI h c s 20 n Gl) (hv:SlI h c v 1 nv V) (hnv:nv<=1000000) :
 G (.fn 28) [.agg #[s],v] h c df=some ⟨.ret,[.int .i64 (Z5b Gl n (Z1h Gl n V))],h,c,[]⟩:=by
 refine Z0C (fun r e=>f28_go e) (by simp) ?_
 unfold Zru
 rw [Z4s hs.flat,Z4m,Nat.add_zero]
 simp only [cond_true]
 obtain ⟨H,hH⟩:∃ H,newB h (256*c) [s]=H:=⟨_,rfl⟩
 have sH:Z0u c h H:=by rw [← hH]; simp (disch:=omega)
 have hg:Z09 H (256*c) [s]:=by rw [← hH]; exact Z09.newB_same _ _ _
 have l0:=Z0p hg
 have cr:=fun c' (hc:c<=c')=>Z05 (Zdb s n Gl H c' [] ((hs.same sH).mono hc))
 unfold Z5b
 by_cases h0:Z7p Gl n=0
 · rw [if_pos h0]
   have ca:=fun c' (hc:c<=c')=>Z05 (Zqa s v n nv Gl V H c' [] ((hs.same sH).mono hc) ((hv.same sH).mono hc) hnv h0)
   rw [h0] at cr
   cases hA:Z1h Gl n V with
   | true =>
    rw [hA] at ca
    rw [if_pos rfl]
    have fx:=ai hH (ai l0 (ai cr ca))
    refine Ans.go ?_
    clear fx
    (have fx:=sH; exact Ans.pu)
   | false =>
    rw [hA] at ca
    rw [if_neg (by simp)]
    have fx:=ai hH (ai l0 (ai cr ca))
    refine Ans.go ?_
    clear fx
    (have fx:=sH; exact Ans.pu)
 · rw [if_neg h0]
   obtain ⟨E,hE⟩:∃ E,Z7p Gl n=E:=⟨_,rfl⟩
   rw [hE] at cr h0 ⊢
   have fx:=ai hH (ai l0 cr)
   refine Ans.go ?_
   clear fx
   (have fx:=sH; exact Ans.pu)
end Go.Proofs.Ytcnndelmnobigaa

namespace Go.Ab
open Go
def Z62 (C:List Int) (m:Nat):List Int:=(List.range m).map fun k=>((Z02 C k:Nat):Int)
theorem Z2p (C:List Int) (m:Nat):(Z62 C m).length=m:=by simp [Z62]
theorem Z6h (C:List Int) {m k:Nat} (h:k<m):(Z62 C m).getD k 0=(Z02 C k:Nat):=by simp [Z62,List.getD_eq_getElem?_getD,h]
theorem Z1g {A B:List Int} {m:Nat} (hA:A.length=m) (hB:B.length=m) (h:∀ k,k<m->A.getD k 0=B.getD k 0):A=B:=by
 refine List.ext_getElem qO fun j a b=>?_
 have:=h j qO
 simpa [List.getD_eq_getElem?_getD,List.getElem?_eq_getElem a,List.getElem?_eq_getElem b] using this
theorem ZiM (m:Nat):Z62 (Z0v m) m=Z0v m:=by
 refine Z1g (m:=m) (Z2p _ _) (by simp [Z0v]) fun k hk=>?_
 rw [Z6h _ hk,Z2n hk,Z1j (Z2n hk)]
def mgK (x y:Int):Nat->Nat->List Int->List Int
 | 0,_,L=>L
 | r+1,i,L=>mgK x y r (i+1) (if L.getD i 0=y then L.set i x else L)
theorem ZbK (x y:Int):∀ (r i:Nat) (L:List Int),(mgK x y r i L).length=L.length
 | 0,_,_=>rfl
 | r+1,i,L=>by rw [mgK,ZbK]; split <;> simp
theorem ZgJ (x y:Int) {m:Nat}:∀ (r i:Nat) (L:List Int),i+r=m->L.length=m -> ∀ j,j<m->(mgK x y r i L).getD j 0=if i<=j/\L.getD j 0=y then x else L.getD j 0
 | 0,i,L,h,hL,j,hj=>by rw [if_neg qO]; rfl
 | r+1,i,L,h,hL,j,hj=>by
  have key:∀ j,(if L.getD i 0=y then L.set i x else L).getD j 0=if j=i/\L.getD i 0=y then x else L.getD j 0:=fun j=>by
   by_cases e:L.getD i 0=y
   · rw [if_pos e,Z0m]
     by_cases e2:i=j
     · rw [if_pos ⟨e2,by omega⟩,if_pos ⟨e2.symm,e⟩]
     · rw [if_neg (fun q=>e2 q.1),if_neg (fun q=>e2 q.1.symm)]
   · rw [if_neg e,if_neg (fun q=>e q.2)]
  rw [mgK,ZgJ x y r (i+1) _ qO (by split <;> simp [hL]) j hj,key]
  by_cases e:j=i
  · subst e
    rw [if_neg qO]
    by_cases e2:L.getD j 0=y
    · rw [if_pos ⟨rfl,e2⟩,if_pos ⟨Nat.le_refl _,e2⟩]
    · rw [if_neg (fun q=>e2 q.2),if_neg (fun q=>e2 q.2)]
  · rw [if_neg (fun q:j=i/\_=>e q.1)]
    by_cases e2:L.getD j 0=y
    · by_cases e3:i<=j
      · rw [if_pos ⟨by omega,e2⟩,if_pos ⟨e3,e2⟩]
      · rw [if_neg qO,if_neg qO]
    · rw [if_neg (fun q=>e2 q.2),if_neg (fun q=>e2 q.2)]
theorem ZqE {C:List Int} {m a b:Nat} (hd:Z2I C m) (ha:a<m) (hb:b<m) :
 mgK ((min (Z02 C a) (Z02 C b):Nat):Int) ((max (Z02 C a) (Z02 C b):Nat):Int) m 0 (Z62 C m)=Z62 (Z1P C a b) m:=by
 refine Z1g (m:=m) (by rw [ZbK,Z2p]) (Z2p _ _) fun k hk=>?_
 rw [ZgJ _ _ m 0 _ qO (Z2p _ _) k hk,Z6h _ hk,Z6h _ hk,Z1B hd ha hb hk]
 by_cases e:Z02 C k=max (Z02 C a) (Z02 C b)
 · rw [if_pos e,if_pos ⟨by omega,by omega⟩]
 · rw [if_neg e,if_neg qO]
def Z11 (C:List Int) (i:Nat):Nat:=(Z0F C i).length
theorem Z7J (C:List Int) (i:Nat):Z11 C (i+1)=Z11 C i+if Z02 C i=i then 1 else 0:=by
 unfold Z11
 rw [Z1U,List.length_append]
 split <;> rfl
theorem Zex (C:List Int) {i:Nat}:∀ {j:Nat},i<=j->Z11 C i<=Z11 C j
 | 0,h=>by
  obtain rfl:i=0:=by omega
  exact Nat.le_refl _
 | j+1,h=>by
  by_cases e:i=j+1
  · rw [e]; exact Nat.le_refl _
  · rw [Z7J]
    have:=Zex C (i:=i) (j:=j) qO
    omega
theorem ZaQ (C:List Int) (i:Nat):Z11 C i<=i:=Z4f C i
def Ze5 (C:List Int) (m:Nat):List Int:=(List.range m).map fun k=>((Z11 C (Z02 C k):Nat):Int)
theorem Z13 (C:List Int) (m:Nat):(Ze5 C m).length=m:=by simp [Ze5]
theorem Z2L (C:List Int) {m k:Nat} (h:k<m):(Ze5 C m).getD k 0=(Z11 C (Z02 C k):Nat):=by simp [Ze5,List.getD_eq_getElem?_getD,h]
def Z7E (C:List Int) (m i:Nat):List Int:=(List.range m).map fun k=>if k<i then ((Z11 C (Z02 C k):Nat):Int) else 0
theorem Z1w (C:List Int) (m i:Nat):(Z7E C m i).length=m:=by simp [Z7E]
theorem Z4E (C:List Int) {m k:Nat} (i:Nat) (h:k<m):(Z7E C m i).getD k 0=if k<i then ((Z11 C (Z02 C k):Nat):Int) else 0:=by simp [Z7E,List.getD_eq_getElem?_getD,h]
theorem Zks (C:List Int) (m:Nat):Z7E C m 0=List.replicate m 0:=by
 refine Z1g (m:=m) (Z1w _ _ _) (by simp) fun k hk=>?_
 rw [Z4E C 0 hk,if_neg qO]
 simp [List.getD_eq_getElem?_getD,List.getElem?_replicate,hk]
theorem Zmp (C:List Int) (m:Nat):Z7E C m m=Ze5 C m:=by
 refine Z1g (m:=m) (Z1w _ _ _) (Z13 _ _) fun k hk=>?_
 rw [Z4E C m hk,if_pos hk,Z2L C hk]
theorem Zmo (C:List Int) {m i:Nat} (hi:i<m):∀ (x:Int),((Z7E C m i).set i x).set i ((Z11 C (Z02 C i):Nat):Int)=Z7E C m (i+1):=fun x=>by
 refine Z1g (m:=m) (by simp [Z1w]) (Z1w _ _ _) fun k hk=>?_
 rw [Z0m,Z0m,Z4E C _ hk,Z4E C _ hk,List.length_set,Z1w]
 by_cases e:i=k
 · subst e
   rw [if_pos ⟨rfl,hi⟩,if_pos qO]
 · rw [if_neg (fun q=>e q.1),if_neg (fun q=>e q.1)]
   by_cases h:k<i
   · rw [if_pos h,if_pos qO]
   · rw [if_neg h,if_neg qO]
theorem Zkt {C:List Int} {m i:Nat} (hd:Z2I C m) (hi:i<m):max (Z11 C i) (Z11 C (Z02 C i)+1)=Z11 C (i+1):=by
 have hle:=Z0B hd hi
 have hrr:=Z0Y hd hi
 rw [Z7J]
 by_cases e:Z02 C i=i
 · rw [if_pos e,e]; omega
 · rw [if_neg e]
   have h1:=Z7J C (Z02 C i)
   rw [if_pos hrr] at h1
   have h2:=Zex C (i:=Z02 C i+1) (j:=i) qO
   omega
end Go.Ab
