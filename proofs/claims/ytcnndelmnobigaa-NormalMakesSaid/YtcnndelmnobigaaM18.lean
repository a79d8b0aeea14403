/- Parts of a proof: U6 AbUf2 AbFill F1 U7 U8 U9 V1 F2 U10 D1. Conditions: none. -/
import Derived.Test.YtcnndelmnobigaaM17
import Derived.Test.YtcnndelmnobigaaM16
import Derived.Test.YtcnndelmnobigaaM15
import Derived.Test.YtcnndelmnobigaaM7
set_option linter.all false
set_option maxRecDepth 100000
namespace Go.Proofs.Ytcnndelmnobigaa
open Go Go.Ab Go.Proofs
theorem Zlw (s:Value) (n:Nat) (Gl:List Int) (gb g2 vc vs vu ec es eu c0 cb l:Nat) (hok:Z0t Gl n=true) (hn:n<=60)
 (hgb:gb<256*c0) (hg2:g2<256*cb) (hl:l<256*cb) (hc0:c0<=cb) (hvc:vc<256*cb) (hvs:vs<256*cb) (hvu:vu<256*cb) (hec:ec<256*cb) (hes:es<256*cb) (heu:eu<256*cb)
 (hgl:gb ≠ l) (hn1:gb ≠ vu/\gb ≠ eu/\g2 ≠ vu/\g2 ≠ eu/\vc ≠ vu/\vc ≠ eu/\ec ≠ vu/\ec ≠ eu/\vs ≠ eu/\es ≠ vu/\vu ≠ eu) (hn2:l ≠ g2/\l ≠ vc/\l ≠ vs/\l ≠ vu/\l ≠ ec/\l ≠ es/\l ≠ eu) (hls:0<n->Z0l s ≠ l/\Z0l s ≠ vu/\Z0l s ≠ eu) :
 RoundI s n Gl g2 l cb (Z7a 92 [1,5,6] #[25] Z1o Z1n [ptrTo gb,ptrTo vc,ptrTo ec] (l+1)) none [ptrTo gb,ptrTo vc,ptrTo ec] (ClI s n Gl gb g2 vc vs vu ec es eu c0 cb) (fun _ _ _=>False) where
 stab:=fun D O h c h' c' hi hc hs=>by
  have:=hi.lc
  obtain ⟨x1,x2,x3,x4,x5,x6,x7⟩:=hn2
  exact ⟨by omega,hi.g.eqf (hs _ qO hgl),hi.gg.eqf (hs _ qO (Ne.symm x1)),hi.sl.keep (fun hp=>hs _ (by have:=hi.sl.blk hp; omega) (hls hp).1),hi.pv.eqf (hs _ qO (Ne.symm x2)),hi.pe.eqf (hs _ qO (Ne.symm x5)),
   hi.uv.keep (hs _ qO (Ne.symm x3)) (hs _ qO (Ne.symm x4)),hi.ue.keep (hs _ qO (Ne.symm x6)) (hs _ qO (Ne.symm x7)),hi.own⟩
 jstab:=fun O h c h' c' hj hc hs=>hj
 own:=fun D O h c hi b hb=>by
  have:=hi.lc
  rw [hi.own] at hb
  rcases hb with rfl | rfl <;> omega
 ownJ:=fun O h c hj b hb=>hj.elim
 read:=fun D O h c hi=>⟨hi.gg,hi.sl.mono (by have:=hi.lc; omega)⟩
 step:=fun D O h c t f i ht hf hi hif hsk hpre hc hI hlp=>by
  obtain ⟨r,hr,q1,O',q2,q3,q4⟩:=Zpj s n Gl gb g2 vc vs vu ec es eu c0 cb l _ rfl rfl hok hn hgb hg2 hl hc0 hvc hvs hvu hec hes heu hgl hn1 hn2 hls ht hf hi hif hsk hI hlp
  exact ⟨r,Zjf hr,q1,O',q2,q3,.inl q4⟩
set_option maxHeartbeats 1000000 in
theorem ZcO (s:Value) (n:Nat) (Gl:List Int) (h:FH) (c:Nat) (df:List Nat) (hs:SlI h c s 20 n Gl) (hok:Z0t Gl n=true) (hn:n<=60) :
 Ans (G (.fn 44) [.agg #[s]] h c df) fun r=>r.e = .ret/\r.df=[]/\c<=r.c/\Z0u c h r.h /\ ∃ vs vu es eu,r.vs=[.tuple #[ptrTo vs,ptrTo es]]/\vs<256*r.c/\vu<256*r.c/\es<256*r.c/\eu<256*r.c ∧
  Uf r.h vs vu (4*n) (vCl n (Z43 Gl n))/\Uf r.h es eu (6*n) (eCl Gl n (Z43 Gl n)):=by
 refine Ans.call' (fun r e=>f44_go e) ?_
 unfold Zli
 rw [Z4s hs.flat,Z4m,Nat.add_zero]
 simp only [cond_true]
 obtain ⟨H,hH⟩:∃ H,H=newB h (256*c) [s]:=⟨_,rfl⟩
 have sH:Z0u c h H:=by rw [hH]; simp (disch:=omega)
 have hg:Z09 H (256*c) [s]:=by rw [hH]; exact Z09.newB_same _ _ _
 rw [← hH]
 clear hH
 have l1:ld1 H (.pointer (some ⟨256*c,0,none⟩))=some s:=by rw [Z01 hg]; rfl
 have ll:=hs.len
 obtain ⟨⟨re,rv,H1,rc,rd⟩,hr,r1,r2,r3⟩:=ZaD (4*n) H (c+1+1+1) [] qO
 simp only at r1 r2 r3
 obtain ⟨rfl,rfl,-,rfl,rfl⟩:=Rt.mk.inj r1
 clear r1
 have cu1:=Z05 hr
 rw [show ((4*n:Nat):Int)=4*(n:Int) by omega] at cu1
 obtain ⟨B0,hB0⟩:∃ B0,256*(c+1+1+1+1)+1=B0:=⟨_,rfl⟩
 rw [hB0] at cu1 r3
 obtain ⟨vs,hvs⟩:∃ vs,256*(c+1+1)+4=vs:=⟨_,rfl⟩
 obtain ⟨H2,hH2⟩:∃ H2,newB H1 vs [.slice (some ⟨B0,0,none⟩) (4*n) (4*n)]=H2:=⟨_,rfl⟩
 obtain ⟨⟨re,rv,H3,rc,rd⟩,hr',r1',r2',r3'⟩:=ZaD (6*n) H2 (c+1+1+1+1+1+1+1) [] qO
 simp only at r1' r2' r3'
 obtain ⟨rfl,rfl,-,rfl,rfl⟩:=Rt.mk.inj r1'
 clear r1'
 have cu2:=Z05 hr'
 rw [show ((6*n:Nat):Int)=6*(n:Int) by omega] at cu2
 obtain ⟨B1,hB1⟩:∃ B1,256*(c+1+1+1+1+1+1+1+1)+1=B1:=⟨_,rfl⟩
 rw [hB1] at cu2 r3'
 obtain ⟨es,hes⟩:∃ es,256*(c+1+1)+9=es:=⟨_,rfl⟩
 obtain ⟨vc,hvc⟩:∃ vc,256*(c+1+1)+10=vc:=⟨_,rfl⟩
 obtain ⟨ec,hec⟩:∃ ec,256*(c+1+1)+11=ec:=⟨_,rfl⟩
 have b1:Z4w [.slice none 0 0] [(0,1,.agg #[.slice (some ⟨B0,0,none⟩) (4*n) (4*n)])]=some (.agg #[.slice (some ⟨B0,0,none⟩) (4*n) (4*n)]):=rfl
 have b2:Z4w [.slice none 0 0] [(0,1,.agg #[.slice (some ⟨B1,0,none⟩) (6*n) (6*n)])]=some (.agg #[.slice (some ⟨B1,0,none⟩) (6*n) (6*n)]):=rfl
 obtain ⟨N,hN⟩:∃ N,N=newB (newB (newB H3 es [.slice (some ⟨B1,0,none⟩) (6*n) (6*n)]) vc [ptrTo vs]) ec [ptrTo es]:=⟨_,rfl⟩
 have st1:stN (newB (newB (newB H3 es [.slice (some ⟨B1,0,none⟩) (6*n) (6*n)]) vc [.pointer none]) ec [.pointer none]) 1 (.pointer (some ⟨vc,0,none⟩)) (.pointer (some ⟨vs,0,none⟩))=some (newB (newB (newB H3 es [.slice (some ⟨B1,0,none⟩) (6*n) (6*n)]) vc [ptrTo vs]) ec [.pointer none]):=by
  rw [Z12 (cs:=[.pointer none]) (op:=none) (by rw [get_newB_ne _ _ _ _ qO,get_newB_same]) (by simp) rfl rfl]
  congr 1
  apply FH.ext; intro j
  simp only [Z0g,Z08]
  have hve:vc ≠ ec:=by omega
  have hev:ec ≠ vc:=by omega
  by_cases e1:j=vc <;> by_cases e2:j=ec <;> (first | (exfalso; omega) | skip) <;> simp [e1,e2,ptrTo,hve,hev]
 have st2:stN (newB (newB (newB H3 es [.slice (some ⟨B1,0,none⟩) (6*n) (6*n)]) vc [ptrTo vs]) ec [.pointer none]) 1 (.pointer (some ⟨ec,0,none⟩)) (.pointer (some ⟨es,0,none⟩))=some N:=by
  rw [Z12 (cs:=[.pointer none]) (op:=none) (by rw [get_newB_same]) (by simp) rfl rfl,hN]
  congr 1
  apply FH.ext; intro j
  simp only [Z0g,Z08]
  have hve:vc ≠ ec:=by omega
  have hev:ec ≠ vc:=by omega
  by_cases e1:j=vc <;> by_cases e2:j=ec <;> (first | (exfalso; omega) | skip) <;> simp [e1,e2,ptrTo,hve,hev]
 have fN:∀ b,b ≠ es->b ≠ vc->b ≠ ec->N.f b=H3.f b:=fun b h1 h2 h3=>by rw [hN,Z08,if_neg h3,Z08,if_neg h2,Z08,if_neg h1]
 have fNe:N.f es=some (.cells false none [.slice (some ⟨B1,0,none⟩) (6*n) (6*n)]):=by rw [hN,Z08,if_neg qO,Z08,if_neg qO,Z08,if_pos rfl]
 have fNvc:N.f vc=some (.cells false none [ptrTo vs]):=by rw [hN,Z08,if_neg qO,Z08,if_pos rfl]
 have fNec:N.f ec=some (.cells false none [ptrTo es]):=by rw [hN,Z08,if_pos rfl]
 clear hN
 have fH2:∀ b,b ≠ vs->H2.f b=H1.f b:=fun b hb=>by rw [← hH2,Z08,if_neg hb]
 have fH2v:H2.f vs=some (.cells false none [.slice (some ⟨B0,0,none⟩) (4*n) (4*n)]):=by rw [← hH2,Z08,if_pos rfl]
 have low:∀ b,b<256*(c+1)->N.f b=H.f b:=fun b hb=>by rw [fN b qO qO qO,r2' b qO,fH2 b qO,r2 b qO]
 have fNvs:N.f vs=some (.cells false none [.slice (some ⟨B0,0,none⟩) (4*n) (4*n)]):=by rw [fN vs qO qO qO,r2' vs qO,fH2v]
 have fNvu:N.f B0=some (.cells false none (ints (Z0v (4*n)))):=by rw [fN B0 qO qO qO,r2' B0 qO,fH2 B0 qO,r3]
 have fNeu:N.f B1=some (.cells false none (ints (Z0v (6*n)))):=by rw [fN B1 qO qO qO,r3']
 have lN:=Z0p (hg.eqf (low _ qO))
 have cm:=Z9X s N (c+1+1+1+1+1+1+1+1+1+1+1+1) hs.flat
 have fl1:((Value.agg #[.slice (some ⟨B0,0,none⟩) (4*n) (4*n)]).cells.toList.all Z0c)=true:=rfl
 have fl2:((Value.agg #[.slice (some ⟨B1,0,none⟩) (6*n) (6*n)]).cells.toList.all Z0c)=true:=rfl
 rw [hvs,hes,hvc,hec]
 have fx:=ai Z4m (ai l1 (ai ll (ai cu1 (ai b1 (ai fl1 (ai hH2 (ai cu2 (ai b2 fl2))))))))
 refine Ans.go ?_
 clear fx
 rw [show (Value.agg #[.slice (some ⟨B1,0,none⟩) (6*n) (6*n)]).cells.toList=[.slice (some ⟨B1,0,none⟩) (6*n) (6*n)] from rfl]
 refine Ans.step st1 (Ans.step st2 ?_)
 have fx:=ai lN cm
 refine Ans.go ?_
 clear fx
 obtain ⟨g2,hg2⟩:∃ g2,256*(c+1+1+1+1+1+1+1+1+1+1+1+1)=g2:=⟨_,rfl⟩
 obtain ⟨l,hl⟩:∃ l,256*(c+1+1+1+1+1+1+1+1+1+1+1+1+1+1)=l:=⟨_,rfl⟩
 rw [hg2]
 obtain ⟨M,hM⟩:∃ M,M=newB N g2 [s]:=⟨_,rfl⟩
 rw [← hM]
 have fM:∀ b,b ≠ g2->M.f b=N.f b:=fun b hb=>by rw [hM,Z08,if_neg hb]
 have gM:M.f g2=some (.cells false none [s]):=by rw [hM,Z08,if_pos rfl]
 clear hM
 have hI:=Zlw s n Gl (256*c) g2 vc vs B0 ec es B1 (c+1) (c+1+1+1+1+1+1+1+1+1+1+1+1+1+1+1) l hok hn qO qO qO qO qO qO qO qO qO qO qO ⟨by omega,by omega,by omega,by omega,by omega,by omega,by omega,by omega,by omega,by omega,by omega⟩ ⟨by omega,by omega,by omega,by omega,by omega,by omega,by omega⟩
  (fun hp=>⟨by have:=hs.blk hp; omega,by have:=hs.blk hp; omega,by have:=hs.blk hp; omega⟩)
 have hEf:∀ b,b<l->(Z2N M (c+1+1+1+1+1+1+1+1+1+1+1+1+1+1) 92 [1,5,6] #[25] Z1o Z1n [ptrTo (256*c),ptrTo vc,ptrTo ec]).f b=M.f b:=fun b hb=>by
  rw [Z4q,if_neg qO,if_neg qO]
 have hI0:ClI s n Gl (256*c) g2 vc vs B0 ec es B1 (c+1) (c+1+1+1+1+1+1+1+1+1+1+1+1+1+1+1) [] (fun b=>b=B0 ∨ b=B1) (Z2N M (c+1+1+1+1+1+1+1+1+1+1+1+1+1+1) 92 [1,5,6] #[25] Z1o Z1n [ptrTo (256*c),ptrTo vc,ptrTo ec]) (c+1+1+1+1+1+1+1+1+1+1+1+1+1+1+1):=by
  refine ⟨Nat.le_refl _,hg.eqf (by rw [hEf _ qO,fM _ qO,low _ qO]),⟨false,none, ?_⟩, ?_,⟨false,none, ?_⟩,⟨false,none, ?_⟩,⟨?_, ?_,by omega,Z0O _,by omega⟩,⟨?_, ?_,by omega,Z0O _,by omega⟩,rfl⟩
  · show (Z2N _ _ _ _ _ _ _ _:FH).f _=_
    rw [hEf _ qO,gM]
  · exact ((hs.same sH).mono (by omega:c<=c+1)).keep (fun hp=>by have:=hs.blk hp; rw [hEf _ qO,fM _ qO,low _ qO])
  · show (Z2N _ _ _ _ _ _ _ _:FH).f _=_
    rw [hEf _ qO,fM _ qO,fNvc]
  · show (Z2N _ _ _ _ _ _ _ _:FH).f _=_
    rw [hEf _ qO,fM _ qO,fNec]
  · rw [hEf _ qO,fM _ qO,fNvs]
  · rw [hEf _ qO,fM _ qO,fNvu]; rfl
  · rw [hEf _ qO,fM _ qO,fNe]
  · rw [hEf _ qO,fM _ qO,fNeu]; rfl
 rw [← hl] at hI
 refine Ans.head (Z7z qO qO rfl hI (O:=fun b=>b=B0 ∨ b=B1) (fun b hb=>by omega) hI0) ?_
 rw [hl]
 rintro ⟨qe,qh,qc,qd⟩ ⟨qr,O',e1,e2,e3,e4,e5,e6⟩
 simp only [Prod.mk.injEq] at e1
 obtain ⟨rfl,-,rfl⟩:=e1
 simp only at e2 e6
 rcases e6 with ⟨rfl,hi⟩ | ⟨-,hj⟩
 case inr=>exact hj.elim
 have fd:∀ b,b ≠ l->(HeapC.del qr l).f b=qr.f b:=fun b hb=>by rw [Z9I,if_neg hb]
 have lv:ld1 (HeapC.del qr l) (.pointer (some ⟨vc,0,none⟩))=some (.pointer (some ⟨vs,0,none⟩)):=by rw [Z01 (hi.pv.eqf (fd vc qO))]; rfl
 have le:ld1 (HeapC.del qr l) (.pointer (some ⟨ec,0,none⟩))=some (.pointer (some ⟨es,0,none⟩)):=by rw [Z01 (hi.pe.eqf (fd ec qO))]; rfl
 obtain ⟨h9,t1,t2⟩:=Z6t (df:=[l+1]) (h:=HeapC.del qr l) (by simp) (fun d hd=>by
  rw [List.mem_singleton.1 hd,Z9I,if_neg qO]; exact e3)
 have k9:∀ b,b ≠ l->b ≠ l+1->h9.f b=qr.f b:=fun b h1 h2=>by
  rw [t2 b (by simpa using h2),fd b h1]
 have fx:=ai lv (ai le t1)
 refine Ans.go ?_
 clear fx
 refine .done ⟨rfl,rfl,(by show c<=qc+1; omega),fun b hb=>?_,vs,B0,es,B1,rfl, ?_, ?_, ?_, ?_, ?_, ?_⟩
 · show h9.f b=h.f b
   rw [k9 b qO qO,e5 b qO qO,fM b qO,low b qO,sH b hb]
 · show vs<256*(qc+1); omega
 · show B0<256*(qc+1); omega
 · show es<256*(qc+1); omega
 · show B1<256*(qc+1); omega
 · exact hi.uv.keep (k9 _ qO qO) (k9 _ qO qO)
 · exact hi.ue.keep (k9 _ qO qO) (k9 _ qO qO)
end Go.Proofs.Ytcnndelmnobigaa

namespace Go.Ab
open Go
theorem Zeh {L:List Int} {m:Nat} (hd:Z2I L m):∀ {k i:Nat},i<m->i<k->L.getD (Z7x L k i) 0=Z7x L k i
 | 0,i,_,h=>by omega
 | k+1,i,hi,h=>by
  rw [Z7x]
  split
  · assumption
  · have:=hd.2 i hi
    exact Zeh hd qO qO
theorem Zau {L:List Int} {m i:Nat} (hd:Z2I L m) (hi:i<m):L.getD (Z02 L i) 0=Z02 L i:=Zeh hd hi qO
theorem Z0Y {L:List Int} {m i:Nat} (hd:Z2I L m) (hi:i<m):Z02 L (Z02 L i)=Z02 L i:=Z1j (Zau hd hi)
theorem Z1B {L:List Int} {m i j:Nat} (hd:Z2I L m) (hi:i<m) (hj:j<m):∀ {k:Nat},k<m →
 Z02 (Z1P L i j) k=if Z02 L k=max (Z02 L i) (Z02 L j) then min (Z02 L i) (Z02 L j) else Z02 L k:=by
 have h1:=Z0B hd hi
 have h2:=Z0B hd hj
 have f1:=Zau hd hi
 have f2:=Zau hd hj
 have hd':=Z1k hd hi hj
 have hl:=hd.1
 obtain ⟨M,hM⟩:∃ M,max (Z02 L i) (Z02 L j)=M:=⟨_,rfl⟩
 obtain ⟨N,hN⟩:∃ N,min (Z02 L i) (Z02 L j)=N:=⟨_,rfl⟩
 have fM:L.getD M 0=M:=by
  rcases Nat.le_total (Z02 L i) (Z02 L j) with h | h
  · rw [show M=Z02 L j by omega]; exact f2
  · rw [show M=Z02 L i by omega]; exact f1
 have fN:L.getD N 0=N:=by
  rcases Nat.le_total (Z02 L i) (Z02 L j) with h | h
  · rw [show N=Z02 L i by omega]; exact f1
  · rw [show N=Z02 L j by omega]; exact f2
 have hg:∀ k,(Z1P L i j).getD k 0=if M=k/\M<L.length then (N:Int) else L.getD k 0:=fun k=>by
  unfold Z1P
  rw [Z0m,hM,hN]
 rw [hM,hN]
 have key:∀ (b k:Nat),k<b->k<m->Z02 (Z1P L i j) k=if Z02 L k=M then N else Z02 L k:=by
  intro b
  induction b with
  | zero=>intro k h; omega
  | succ b ih =>
   intro k hb hk
   by_cases e:k=M
   · subst e
     rw [Z1j fM,if_pos rfl]
     have e2:=hg k
     rw [if_pos ⟨rfl,by omega⟩] at e2
     by_cases e3:N=k
     · rw [Z1j (by rw [e2,e3])]; exact e3.symm
     · rw [Z6x hd' qO qO,e2,Int.toNat_natCast,ih N qO qO,Z1j fN,if_neg e3]
   · have e2:=hg k
     rw [if_neg (fun q=>e q.1.symm)] at e2
     by_cases e3:L.getD k 0=k
     · rw [Z1j (e2.trans e3),Z1j e3,if_neg e]
     · have d:=hd.2 k hk
       rw [Z6x hd' hk (by rw [e2]; exact e3),e2,ih _ qO qO,← Z6x hd hk e3]
 intro k hk
 exact key (k+1) k qO hk
theorem Zer {L:List Int} {m i j:Nat} (hd:Z2I L m) (hi:i<m) (hj:j<m):Z02 (Z1P L i j) i=Z02 (Z1P L i j) j:=by
 rw [Z1B hd hi hj hi,Z1B hd hi hj hj]
 split <;> split <;> omega
theorem Zes {L:List Int} {m i j a b:Nat} (hd:Z2I L m) (hi:i<m) (hj:j<m) (ha:a<m) (hb:b<m) (e:Z02 L a=Z02 L b):Z02 (Z1P L i j) a=Z02 (Z1P L i j) b:=by
 rw [Z1B hd hi hj ha,Z1B hd hi hj hb,e]
end Go.Ab

namespace Go.Ab
open Go
def zs (Q:List Nat):List Int:=Q.map fun k:Nat=>(k:Int)
theorem ZcW (Q:List Nat) (i:Nat):(zs Q).getD i 0=(Q.getD i 0:Nat):=by
 simp only [zs,List.getD_eq_getElem?_getD,List.getElem?_map]
 cases Q[i]? <;> rfl
def ZjC:List Bool->Nat
 | []=>0
 | b::l=>(if b=true then 1 else 0)+ZjC l
theorem Zlu:∀ l:List Bool,ZjC l<=l.length
 | []=>Nat.le_refl _
 | b::l=>by
  have:=Zlu l
  rw [ZjC,List.length_cons]; split <;> omega
theorem Zig:∀ {l:List Bool} {j:Nat},j<l.length->l.getD j false=false->ZjC (l.set j true)=ZjC l+1
 | [],j,h,_=>by simp at h
 | b::l,0,_,e=>by
  obtain rfl:b=false:=e
  show (if (true:Bool)=true then 1 else 0)+ZjC l=_
  rw [ZjC,if_pos rfl,if_neg (by simp)]; omega
 | b::l,j+1,h,e=>by
  show (if b=true then 1 else 0)+ZjC (l.set j true)=(if b=true then 1 else 0)+ZjC l+1
  rw [Zig (l:=l) (by simpa using h) e]; omega
theorem Zih:∀ {l:List Bool} {j:Nat},l.getD j false=true->0<ZjC l
 | [],j,h=>by simp at h
 | b::l,0,e=>by
  obtain rfl:b=true:=e
  rw [ZjC,if_pos rfl]; omega
 | b::l,j+1,e=>by
  have:=Zih (l:=l) (j:=j) e
  rw [ZjC]; omega
theorem Z2M (l:List Bool) (i j:Nat) (x:Bool):(l.set i x).getD j false=if i=j/\i<l.length then x else l.getD j false:=by
 simp only [List.getD_eq_getElem?_getD,List.getElem?_set]
 by_cases h:i=j
 · subst h
   by_cases h2:i<l.length
   · simp [h2]
   · simp [h2]
 · simp [h]
def ps (w:Nat):Nat:=w / 4*7+w % 4
theorem Z4D {v w:Nat} (h:ps v=ps w):v=w:=by unfold ps at h; omega
theorem ZiF {w n:Nat} (h:w<4*n):ps w<7*n:=by unfold ps; omega
theorem Zkj {t i:Nat} (hi:i<4):ps (4*t+i)=7*t+i:=by unfold ps; omega
theorem Zdd {w t k:Nat} (hk:k<3):ps w ≠ 7*t+4+k:=by unfold ps; omega
structure FSt where
 X:List Int
 K:List Bool
 Q:List Nat
 m:Int
def fU (Gl:List Int) (t f:Nat):Nat:=(Z0L (Z03 Gl t f)).toNat
def fJ (Gl:List Int) (t f i:Nat):Nat:=((Z0e (Z03 Gl t f)).getD i 0).toNat
def fV (Gl:List Int) (t f i:Nat):Nat:=4*fU Gl t f+fJ Gl t f i
def fW (Gl X:List Int) (t f i:Nat):Int:=Z7o X t f i-gi X (7*(fU Gl t f:Int)+4+ty (fJ Gl t f i) (fJ Gl t f f))
def Z2W (Gl:List Int) (chk:Bool) (t i f:Nat) (s:FSt):Option FSt :=
 if f=i ∨ Z0L (Z03 Gl t f)<0 then some s
 else if s.K.getD (fV Gl t f i) false=false then
  some ⟨s.X.set (7*fU Gl t f+fJ Gl t f i) (fW Gl s.X t f i),s.K.set (fV Gl t f i) true,s.Q++[fV Gl t f i],min s.m (fW Gl s.X t f i)⟩
 else if chk=true/\s.X.getD (7*fU Gl t f+fJ Gl t f i) 0 ≠ fW Gl s.X t f i then none else some s
def Z2i (Gl:List Int) (chk:Bool) (t i:Nat):Nat->Nat->FSt->Option FSt
 | 0,_,s=>some s
 | k+1,f,s=>(Z2W Gl chk t i f s).bind (Z2i Gl chk t i k (f+1))
def fQ (Gl:List Int) (chk:Bool):Nat->Nat->FSt->Option FSt
 | 0,_,s=>some s
 | r+1,k,s=>if k<s.Q.length then (Z2i Gl chk (s.Q.getD k 0 / 4) (s.Q.getD k 0 % 4) 4 0 s).bind (fQ Gl chk r (k+1)) else some s
def Za7 (m:Int):List Nat->List Int->List Int
 | [],X=>X
 | w::Q,X=>Za7 m Q (X.set (ps w) (X.getD (ps w) 0-m))
def Z79 (Gl:List Int) (chk:Bool) (n first:Nat) (X:List Int) (K:List Bool):Option (List Int × List Bool) :=
 (fQ Gl chk (4*n) 0 ⟨X,K.set first true,[first],0⟩).map fun s=>(Za7 s.m s.Q s.X,s.K)
def ZeD (Gl:List Int) (chk:Bool) (n:Nat):List Int->List Int->List Bool->Option (List Int)
 | [],X,_=>some X
 | x::F,X,K=>(Z79 Gl chk n x.toNat X K).bind fun r=>ZeD Gl chk n F r.1 r.2
def pq (Qd:List Int) (t:Nat) (X:List Int):List Int:=X.take (7*t+4)++(Qd.drop (3*t)).take 3++X.drop (7*t+7)
def pqK (Qd:List Int):Nat->Nat->List Int->List Int
 | 0,_,X=>X
 | k+1,t,X=>pqK Qd k (t+1) (pq Qd t X)
theorem Z7B {Qd X:List Int} {n t:Nat} (hq:Qd.length=3*n) (hX:X.length=7*n) (ht:t<n):(pq Qd t X).length=7*n:=by
 simp [pq]; omega
theorem ZbG {Qd:List Int} {n:Nat} (hq:Qd.length=3*n):∀ {k t:Nat} {X:List Int},t+k<=n->X.length=7*n->(pqK Qd k t X).length=7*n
 | 0,_,_,_,h=>h
 | k+1,t,X,h1,h=>by
  rw [pqK]
  exact ZbG hq qO (Z7B hq h qO)
theorem Zqx {Qd X:List Int} {n t:Nat} (hq:Qd.length=3*n) (hX:X.length=7*n) (ht:t<n) (u k:Nat) (hk:k<3):(pq Qd t X).getD (7*u+4+k) 0=if u=t then Qd.getD (3*t+k) 0 else X.getD (7*u+4+k) 0:=by
 unfold pq
 simp only [List.getD_eq_getElem?_getD]
 by_cases h1:u<t
 · rw [if_neg qO,List.getElem?_append_left (by simp; omega),List.getElem?_append_left (by simp; omega),List.getElem?_take_of_lt qO]
 · by_cases h2:u=t
   · subst h2
     rw [if_pos rfl,List.getElem?_append_left (by simp; omega),List.getElem?_append_right (by simp; omega),List.length_take,List.getElem?_take_of_lt qO,List.getElem?_drop]
     congr 2; omega
   · rw [if_neg h2,List.getElem?_append_right (by simp; omega),List.getElem?_drop]
     simp only [List.length_append,List.length_take,List.length_drop]
     congr 2; omega
theorem pq_tri {Qd X:List Int} {n t:Nat} (hq:Qd.length=3*n) (hX:X.length=7*n) (ht:t<n) (u i:Nat) (hi:i<4):(pq Qd t X).getD (7*u+i) 0=X.getD (7*u+i) 0:=by
 unfold pq
 simp only [List.getD_eq_getElem?_getD]
 by_cases h1:u<=t
 · rw [List.getElem?_append_left (by simp; omega),List.getElem?_append_left (by simp; omega),List.getElem?_take_of_lt qO]
 · rw [List.getElem?_append_right (by simp; omega),List.getElem?_drop]
   simp only [List.length_append,List.length_take,List.length_drop]
   congr 2; omega
theorem ZgD {Qd:List Int} {n:Nat} (hq:Qd.length=3*n):∀ {k t:Nat} {X:List Int},t+k<=n->X.length=7*n -> ∀ (u j:Nat),j<3->(pqK Qd k t X).getD (7*u+4+j) 0=if t<=u/\u<t+k then Qd.getD (3*u+j) 0 else X.getD (7*u+4+j) 0
 | 0,t,X,_,h,u,j,hj=>by rw [pqK,if_neg qO]
 | k+1,t,X,h1,h,u,j,hj=>by
  rw [pqK,ZgD hq qO (Z7B hq h qO) u j hj,Zqx hq h qO u j hj]
  by_cases e:u=t
  · subst e; rw [if_neg qO,if_pos rfl,if_pos qO]
  · rw [if_neg e]
    by_cases e2:t+1<=u/\u<t+1+k
    · rw [if_pos e2,if_pos qO]
    · rw [if_neg e2,if_neg qO]
theorem Zkk {Qd:List Int} {n:Nat} (hq:Qd.length=3*n):∀ {k t:Nat} {X:List Int},t+k<=n->X.length=7*n -> ∀ (u i:Nat),i<4->(pqK Qd k t X).getD (7*u+i) 0=X.getD (7*u+i) 0
 | 0,t,X,_,h,u,j,hj=>rfl
 | k+1,t,X,h1,h,u,j,hj=>by
  rw [pqK,Zkk hq qO (Z7B hq h qO) u j hj,pq_tri hq h qO u j hj]
structure FOk (n:Nat) (s:FSt) (B:Int):Prop where
 xl:s.X.length=7*n
 kl:s.K.length=4*n
 nd:s.Q.Nodup
 qk:∀ w ∈ s.Q,w<4*n/\s.K.getD w false=true
 qc:s.Q.length<=ZjC s.K
 xb:∀ j:Nat,-B<=s.X.getD j 0/\s.X.getD j 0<=B
 mb:-B<=s.m/\s.m<=0
 qd:∀ t k:Nat,k<3->0<=s.X.getD (7*t+4+k) 0/\s.X.getD (7*t+4+k) 0<=1000000
theorem FOk.ql {n:Nat} {s:FSt} {B:Int} (h:FOk n s B):s.Q.length<=4*n:=by
 have:=Zlu s.K
 have:=h.qc
 have:=h.kl
 omega
theorem FOk.mono {n:Nat} {s:FSt} {B B':Int} (h:FOk n s B) (hb:B<=B'):FOk n s B' :=
 ⟨h.xl,h.kl,h.nd,h.qk,h.qc,fun j=>by have:=h.xb j; omega,by have:=h.mb; omega,h.qd⟩
structure FGl (Gl:List Int) (n t f i:Nat):Prop where
 u:fU Gl t f<n
 uz:Z0L (Z03 Gl t f)=(fU Gl t f:Nat)
 j:fJ Gl t f i<4
 jz:(Z0e (Z03 Gl t f)).getD i 0=(fJ Gl t f i:Nat)
 h:fJ Gl t f f<4
 hz:(Z0e (Z03 Gl t f)).getD f 0=(fJ Gl t f f:Nat)
 ne:fJ Gl t f i ≠ fJ Gl t f f
theorem FGl.of {Gl:List Int} {n t f i:Nat} (hok:Z0t Gl n=true) (hG:Gl.length=n*20) (ht:t<n) (hf:f<4) (hi:i<4) (hne:i ≠ f) (hg:¬ Z0L (Z03 Gl t f)<0):FGl Gl n t f i:=by
 obtain ⟨h1,h2,h3,h4⟩:=Z6e (Z8o hok ht hf) hg
 have hp:=Zms (Z1S (Z0o hG ht hf)) h2
 have r1:=Z1N hp hi
 have r2:=Z1N hp hf
 have r3:=ZrZ hp hi hf hne
 exact ⟨by unfold fU; omega,by unfold fU; omega,by unfold fJ; omega,by unfold fJ; omega,by unfold fJ; omega,by unfold fJ; omega,by unfold fJ; omega⟩
theorem Zdt {Gl:List Int} {n t f i:Nat} {s:FSt} {B:Int} (h:FOk n s B) (ht:t<n) (hf:f<4) (hi:i<4) (hne:i ≠ f) (g:FGl Gl n t f i):-(B+1000000)<=fW Gl s.X t f i/\fW Gl s.X t f i<=B+1000000:=by
 unfold fW Z7o
 have r1:=Z0V (i:=(i:Int)) (f:=(f:Int)) qO qO qO qO qO
 have r2:=Z0V (i:=(fJ Gl t f i:Int)) (f:=(fJ Gl t f f:Int)) qO (by have:=g.j; omega) qO (by have:=g.h; omega) (by have:=g.ne; omega)
 have q1:=h.qd t (ty i f).toNat qO
 have q2:=h.qd (fU Gl t f) (ty (fJ Gl t f i) (fJ Gl t f f)).toNat qO
 have q3:=h.xb (7*t+i)
 unfold gi
 rw [show (7*(t:Int)+i).toNat=7*t+i by omega,show (7*(t:Int)+4+ty i f).toNat=7*t+4+(ty i f).toNat by omega,
  show (7*(fU Gl t f:Int)+4+ty (fJ Gl t f i) (fJ Gl t f f)).toNat=7*fU Gl t f+4+(ty (fJ Gl t f i) (fJ Gl t f f)).toNat by omega]
 omega
theorem FOk.push {Gl:List Int} {n t f i:Nat} {s:FSt} {B:Int} (h:FOk n s B) (hB:0<=B) (ht:t<n) (hf:f<4) (hi:i<4) (hne:i ≠ f) (g:FGl Gl n t f i) (hk:s.K.getD (fV Gl t f i) false=false) :
 FOk n ⟨s.X.set (7*fU Gl t f+fJ Gl t f i) (fW Gl s.X t f i),s.K.set (fV Gl t f i) true,s.Q++[fV Gl t f i],min s.m (fW Gl s.X t f i)⟩ (B+1000000):=by
 have hv:fV Gl t f i<4*n:=by have:=g.u; have:=g.j; unfold fV; omega
 have hw:=Zdt h ht hf hi hne g
 have hj:=g.j
 refine ⟨by simp [h.xl],by simp [h.kl], ?_,fun w hw=>?_, ?_,fun j=>?_, ?_,fun u k hk=>?_⟩
 · rw [List.nodup_append]
   refine ⟨h.nd,by simp,fun a ha b hb=>?_⟩
   rw [List.mem_singleton] at hb
   subst hb
   rintro rfl
   have:=(h.qk _ ha).2
   rw [hk] at this; cases this
 · rw [Z2M]
   rcases List.mem_append.1 hw with h1 | h1
   · refine ⟨(h.qk w h1).1, ?_⟩
     split
     · rfl
     · exact (h.qk w h1).2
   · rw [List.mem_singleton] at h1
     subst h1
     exact ⟨hv,by rw [if_pos ⟨rfl,by rw [h.kl]; exact hv⟩]⟩
 · have:=h.qc
   rw [Zig (by rw [h.kl]; exact hv) hk]; simp; omega
 · rw [Z0m]
   have:=h.xb j
   split <;> omega
 · have:=h.mb
   simp only
   omega
 · rw [Z0m,if_neg qO]
   exact h.qd u k hk
theorem Zdu {Gl:List Int} {chk:Bool} {n t f i:Nat} {s s':FSt} {B:Int} (hok:Z0t Gl n=true) (hG:Gl.length=n*20) (h:FOk n s B) (hB:0<=B) (ht:t<n) (hf:f<4) (hi:i<4) (e:Z2W Gl chk t i f s=some s'):FOk n s' (B+1000000):=by
 unfold Z2W at e
 split at e
 · obtain rfl:=Option.some.inj e
   exact h.mono qO
 · rename_i h1
   have g:=FGl.of hok hG ht hf hi (fun q=>h1 (.inl q.symm)) (fun q=>h1 (.inr q))
   split at e
   · rename_i h2
     obtain rfl:=Option.some.inj e
     exact h.push hB ht hf hi (fun q=>h1 (.inl q.symm)) g h2
   · split at e
     · cases e
     · obtain rfl:=Option.some.inj e
       exact h.mono qO
theorem Z4G {Gl:List Int} {chk:Bool} {n t i:Nat} (hok:Z0t Gl n=true) (hG:Gl.length=n*20) (ht:t<n) (hi:i<4):∀ {k f:Nat} {s s':FSt} {B:Int},f+k<=4->FOk n s B->0<=B->Z2i Gl chk t i k f s=some s'->FOk n s' (B+k*1000000)
 | 0,f,s,s',B,_,h,hB,e=>by
  obtain rfl:=Option.some.inj e
  exact h.mono qO
 | k+1,f,s,s',B,hf,h,hB,e=>by
  rw [Z2i] at e
  obtain ⟨s1,e1,e2⟩:=Option.bind_eq_some_iff.1 e
  exact (Z4G hok hG ht hi qO (Zdu hok hG h hB ht qO hi e1) qO e2).mono qO
theorem ZkT {Gl:List Int} {chk:Bool} {n:Nat} (hok:Z0t Gl n=true) (hG:Gl.length=n*20):∀ {r k:Nat} {s s':FSt} {B:Int},FOk n s B->0<=B->fQ Gl chk r k s=some s'->FOk n s' (B+r*4000000)
 | 0,k,s,s',B,h,hB,e=>by
  obtain rfl:=Option.some.inj e
  exact h.mono qO
 | r+1,k,s,s',B,h,hB,e=>by
  rw [fQ] at e
  split at e
  · rename_i hk
    obtain ⟨s1,e1,e2⟩:=Option.bind_eq_some_iff.1 e
    have hm:s.Q.getD k 0 ∈ s.Q:=by simp [List.getD_eq_getElem?_getD,List.getElem?_eq_getElem hk]
    have:=(h.qk _ hm).1
    exact (ZkT hok hG (Z4G hok hG qO qO qO h hB e1) qO e2).mono qO
  · obtain rfl:=Option.some.inj e
    exact h.mono qO
theorem FOk.start {n first:Nat} {X:List Int} {K:List Bool} {B:Int} (hX:X.length=7*n) (hK:K.length=4*n) (hf:first<4*n) (hB:0<=B) (xb:∀ j:Nat,-B<=X.getD j 0/\X.getD j 0<=B)
 (qd:∀ t k:Nat,k<3->0<=X.getD (7*t+4+k) 0/\X.getD (7*t+4+k) 0<=1000000):FOk n ⟨X,K.set first true,[first],0⟩ B:=by
 have hs:(K.set first true).getD first false=true:=by rw [Z2M,if_pos ⟨rfl,by omega⟩]
 refine ⟨hX,by simp [hK],by simp,fun w hw=>?_,Zih hs,xb,⟨by simp only; omega,Int.le_refl _⟩,qd⟩
 rw [List.mem_singleton] at hw
 subst hw
 exact ⟨hf,hs⟩
theorem Z2m (m:Int):∀ (Q:List Nat) (X:List Int),(Za7 m Q X).length=X.length
 | [],X=>rfl
 | w::Q,X=>by rw [Za7,Z2m]; simp
theorem Z4z (m:Int) {n:Nat}:∀ {Q:List Nat} {X:List Int},Q.Nodup->(∀ w ∈ Q,w<4*n)->X.length=7*n -> ∀ j,(∀ w,w ∈ Q->ps w=j->(Za7 m Q X).getD j 0=X.getD j 0-m)/\((∀ w,w ∈ Q->ps w ≠ j)->(Za7 m Q X).getD j 0=X.getD j 0)
 | [],X,_,_,_,j=>⟨fun w h=>(by simp at h),fun _=>rfl⟩
 | w::Q,X,nd,hr,hX,j=>by
  rw [List.nodup_cons] at nd
  have hw:=hr w (by simp)
  have ih:=Z4z m nd.2 (fun v hv=>hr v (by simp [hv])) (X:=X.set (ps w) (X.getD (ps w) 0-m)) (by simp [hX]) j
  rw [Za7]
  refine ⟨fun v hv e=>?_,fun hn=>?_⟩
  · by_cases hvw:v=w
    · subst hvw
      rw [ih.2 (fun x hx h=>by
       have:=Z4D (h.trans e.symm)
       subst this
       exact nd.1 hx),Z0m,if_pos ⟨e,by have:=ZiF hw; omega⟩,e]
    · have hv':v ∈ Q:=by simpa [hvw] using hv
      rw [ih.1 v hv' e,Z0m,if_neg (fun q=>hvw (Z4D (e.trans q.1.symm)))]
  · rw [ih.2 (fun x hx=>hn x (by simp [hx])),Z0m,if_neg (fun q=>hn w (by simp) q.1)]
theorem Z4A {n:Nat} {s:FSt} {B:Int} (h:FOk n s B) (j:Nat):-(2*B)<=(Za7 s.m s.Q s.X).getD j 0/\(Za7 s.m s.Q s.X).getD j 0<=2*B:=by
 have k:=Z4z s.m h.nd (fun w hw=>(h.qk w hw).1) h.xl j
 have b:=h.xb j
 have m:=h.mb
 by_cases e:∃ w,w ∈ s.Q/\ps w=j
 · obtain ⟨w,h1,h2⟩:=e
   rw [k.1 w h1 h2]; omega
 · rw [k.2 (fun w hw q=>e ⟨w,hw,q⟩)]; omega
theorem Z67 {n:Nat} {s:FSt} {B:Int} (h:FOk n s B) (t k:Nat) (hk:k<3):(Za7 s.m s.Q s.X).getD (7*t+4+k) 0=s.X.getD (7*t+4+k) 0 :=
 (Z4z s.m h.nd (fun w hw=>(h.qk w hw).1) h.xl _).2 (fun w _=>Zdd hk)
end Go.Ab

namespace Go.Proofs.Ytcnndelmnobigaa
open Go Go.Ab Go.Proofs
theorem Zpt (s:Value) (n:Nat) (V:List Int) (t f i:Int) (h:FH) (c:Nat) (df:List Nat) (hs:SlI h c s 1 n V) (ht:0<=t) (htn:7*t+7<=n) (hn:n<=1000000) (hf:0<=f) (hf4:f<4) (hi:0<=i) (hi4:i<4) (hne:i ≠ f)
 (hV:∀ j:Nat,-1000000000000000000<=V.getD j 0/\V.getD j 0<=1000000000000000000) :
 G (.fn 50) [s,.int .i64 t,.int .i64 f,.int .i64 i] h c df=some ⟨.ret,[.int .i64 (Z7o V t f i)],h,c,[]⟩:=by
 refine Z0C (fun r e=>ZpY e) (by simp) ?_
 unfold Zj9 Z7o
 have hr:=Z0V hi hi4 hf hf4 hne
 have k1:=hV (7*t+i).toNat
 have k2:=hV (7*t+4+ty i f).toNat
 rw [← gi] at k1 k2
 have l1:=hs.rdi (7*t+i) qO qO
 have l2:=hs.rdi (7*t+4+ty i f) qO qO
 have x1:=Z8s tyT 4 4 .i64 i hi qO rfl
 have hl4:((tyT.drop (i.toNat*4)).take 4).length=4:=by simp [tyT]; omega
 have x2:=ZaN ((tyT.drop (i.toNat*4)).take 4) 4 .i64 f hf qO hl4
 rw [show ((tyT.drop (i.toNat*4)).take 4).getD f.toNat 0=ty i f from rfl] at x2
 obtain ⟨R,hR⟩:∃ R,(tyT.drop (i.toNat*4)).take 4=R:=⟨_,rfl⟩
 rw [hR] at x1 x2
 obtain ⟨T,hT⟩:∃ T,ty i f=T:=⟨_,rfl⟩
 rw [hT] at x2 l2 k2 hr ⊢
 obtain ⟨A,hA⟩:∃ A,gi V (7*t+i)=A:=⟨_,rfl⟩
 obtain ⟨B,hB⟩:∃ B,gi V (7*t+4+T)=B:=⟨_,rfl⟩
 rw [hA] at l1 k1 ⊢
 rw [hB] at l2 k2 ⊢
 have fx:=ai hs.ixs1 (ai l1 (ai l2 (ai Z4j (ai x1 x2))))
 refine Ans.go ?_
 clear fx
 (have fx:=True.intro; exact Ans.pu)
def FcP (rb kb c1 cc:Nat) (h:FH) (df:List Nat) (vs:Value->Int->List Value) (o:Option FSt) (r:Rt FH):Prop :=
 cc<=r.c/\r.df=df/\(∀ b,b<256*c1->b ≠ rb->b ≠ kb->r.h.f b=h.f b)/\match o with
  | some S=>r.e = .exit 6 /\ ∃ v,r.vs=vs v S.m/\r.h.f rb=some (.cells false none (ints S.X))/\r.h.f kb=some (.cells false none (bools S.K))/\Z2Q c1 r.h r.c v S.Q.length (ints (zs S.Q))
  | none=>r.e = .ret/\r.v 1 = .slice none 0 0/\r.v 2 = .bool false
theorem FcP.mono {rb kb c1 cc cc':Nat} {h h':FH} {df:List Nat} {vs:Value->Int->List Value} {o:Option FSt} {r:Rt FH} (p:FcP rb kb c1 cc' h' df vs o r) (hc:cc<=cc') (hh:∀ b,b<256*c1->b ≠ rb->b ≠ kb->h'.f b=h.f b):FcP rb kb c1 cc h df vs o r :=
 ⟨Nat.le_trans hc p.1,p.2.1,fun b h1 h2 h3=>(p.2.2.1 b h1 h2 h3).trans (hh b h1 h2 h3),p.2.2.2⟩
theorem Z60 {h:FH} {rb c:Nat} {X:List Int} {m:Nat} (e:h.f rb=some (.cells false none (ints X))) (hl:X.length=m) (hm:m<=1000000) (hc:rb<256*c):SlI h c (.slice (some ⟨rb,0,none⟩) m m) 1 m X:=by
 refine ⟨by omega,by omega,some ⟨rb,0,none⟩,m,rfl,.inr ⟨rb,0,ints X,rfl,hc,⟨false,none,e⟩, ?_⟩⟩
 rw [List.drop_zero,List.take_of_length_le (by simp [hl])]
set_option maxHeartbeats 2000000 in
theorem ZqW (n:Nat) (Gl:List Int) (rb kb c1:Nat) (t2 t4 t5 t16 t62 t63 t64:Value) (t i:Nat) (df:List Nat) (hn:n<=60) (hok:Z0t Gl n=true) (hG:Gl.length=n*20) (hrb:rb<256*c1) (hkb:kb<256*c1) (hne:rb ≠ kb) (ht:t<n) (hi:i<4) :
 ∀ (k f cc:Nat) (h:FH) (t14:Value) (S:FSt) (B:Int),f+k=4->c1<=cc->h.f rb=some (.cells false none (ints S.X))->h.f kb=some (.cells false none (bools S.K))->Z2Q c1 h cc t14 S.Q.length (ints (zs S.Q))->FOk n S B->0<=B->B+k*1000000<=100000000000000000 →
 Ans (G (Zcd none) [t2,t4,t5,.slice (some ⟨rb,0,none⟩) (7*n) (7*n),.slice (some ⟨kb,0,none⟩) (4*n) (4*n),t14,.int .i64 S.m,t16,.int .i64 t,.int .i64 i,t62,t63,t64,av (Z73 Gl t),.int .i64 f] h cc df)
  (FcP rb kb c1 cc h df (fun v m=>[t2,t4,t5,.slice (some ⟨rb,0,none⟩) (7*n) (7*n),.slice (some ⟨kb,0,none⟩) (4*n) (4*n),v,.int .i64 m,t16,.int .i64 t,.int .i64 i,t62,t63,t64,av (Z73 Gl t),.int .i64 4]) (Z2i Gl true t i k f S)):=by
 intro k
 induction k with
 | zero =>
  intro f cc h t14 S B hf hc e1 e2 ha hS hB hB2
  obtain rfl:f=4:=by omega
  refine Ans.lpN rfl rfl (Z1b ..) ?_
  unfold Z1F
  have fx:=True.intro
  refine Ans.go ?_
  clear fx
  refine Ans.exitN ⟨(by show cc<=cc+1; omega),rfl,fun _ _ _ _=>rfl,rfl,t14,rfl,e1,e2,ha.mono (by show cc<=cc+1; omega)⟩
 | succ k ih =>
  intro f cc h t14 S B hf hc e1 e2 ha hS hB hB2
  have hf4:(f:Int)<4:=by omega
  have hrl:(Z73 Gl t).length=20:=Z5i hG ht
  have x1:=Z8s (Z73 Gl t) 4 5 .i64 (f:Int) qO qO hrl
  have hfr:((Z73 Gl t).drop ((f:Int).toNat*5)).take 5=Z03 Gl t f:=Zda qO
  rw [hfr] at x1
  have hfl:=Z0o hG ht (by omega:f<4)
  have hst:∀ b,stN (newB h b [.int .i64 0,.int .i64 0,.int .i64 0,.int .i64 0,.int .i64 0]) 5 (.pointer (some ⟨b,0,none⟩)) (av (Z03 Gl t f))=some (newB h b (ints (Z03 Gl t f))):=fun b=>stN_all _ _ 5 _ _ hfl rfl
  obtain ⟨H,hH⟩:∃ H,newB h (256*(cc+1)+2) (ints (Z03 Gl t f))=H:=⟨_,rfl⟩
  have fH:∀ b,b ≠ 256*(cc+1)+2->H.f b=h.f b:=fun b hb=>by rw [← hH,Z08,if_neg hb]
  have b0:ld1 H (.pointer (some ⟨256*(cc+1)+2,0,none⟩))=some (.int .i64 (Z0L (Z03 Gl t f))):=by rw [← hH,ld1_newB_same,ints_getD _ _ qO]; rfl
  have bp:∀ x:Nat,x<4->ld1 H (.pointer (some ⟨256*(cc+1)+2,1+x,none⟩))=some (.int .i64 ((Z0e (Z03 Gl t f)).getD x 0)):=fun x hx=>by
   rw [← hH,ld1_newB_same,ints_getD _ _ qO]
   unfold Z0e
   rw [Z26 _ _ _ qO,Z27]
  have b1:=bp i hi
  have b2:=bp f qO
  have kH:H.f rb=some (.cells false none (ints S.X)):=by rw [fH rb qO,e1]
  have kK:H.f kb=some (.cells false none (bools S.K)):=by rw [fH kb qO,e2]
  have bo:=ha.blk
  have aH:Z2Q c1 H cc t14 S.Q.length (ints (zs S.Q)):=ha.keep (fH _ qO)
  rw [Z2i]
  by_cases hfi:f=i
  · have es:Z2W Gl true t i f S=some S:=by unfold Z2W; rw [if_pos (.inl hfi)]
    rw [es]
    subst hfi
    refine Ans.lpN rfl rfl (Z1b ..) ?_
    unfold Z1F
    have fx:=ai x1 (ai hst hH)
    refine Ans.go ?_
    clear fx
    refine Ans.nextN ?_
    refine (ih (f+1) _ H t14 S B qO qO kH kK (aH.mono qO) hS hB qO).mono fun r p=>p.mono qO (fun b h1 h2 h3=>fH b qO)
  by_cases h0:Z0L (Z03 Gl t f)<0
  · have es:Z2W Gl true t i f S=some S:=by unfold Z2W; rw [if_pos (.inr h0)]
    rw [es]
    have hfi':¬ (f:Int)=i:=by omega
    obtain ⟨U,hU⟩:∃ U,Z0L (Z03 Gl t f)=U:=⟨_,rfl⟩
    rw [hU] at b0 h0
    refine Ans.lpN rfl rfl (Z1b ..) ?_
    unfold Z1F
    have fx:=ai x1 (ai hst (ai hH b0))
    refine Ans.go ?_
    clear fx
    refine Ans.nextN ?_
    refine (ih (f+1) _ H t14 S B qO qO kH kK (aH.mono qO) hS hB qO).mono fun r p=>p.mono qO (fun b h1 h2 h3=>fH b qO)
  have hfi':¬ (f:Int)=i:=by omega
  have g:=FGl.of hok hG ht (by omega:f<4) hi (fun q=>hfi q.symm) h0
  have hw:=Zdt hS ht (by omega:f<4) hi (fun q=>hfi q.symm) g
  have ca:=fun c' (hc':cc+1+1<=c')=>Z05 (Zpt (.slice (some ⟨rb,0,none⟩) (7*n) (7*n)) (7*n) S.X t f i H c' [] (Z60 kH hS.xl qO qO) qO qO qO qO qO qO qO qO (fun j=>by have:=hS.xb j; omega))
  have r1:=Z0V (i:=(i:Int)) (f:=(f:Int)) qO qO qO qO qO
  have r2:=Z0V (i:=(fJ Gl t f i:Int)) (f:=(fJ Gl t f f:Int)) qO (by have:=g.j; omega) qO (by have:=g.h; omega) (by have:=g.ne; omega)
  have q2:=hS.qd (fU Gl t f) (ty (fJ Gl t f i) (fJ Gl t f f)).toNat qO
  have hwe:Z7o S.X t f i-S.X.getD (7*fU Gl t f+4+(ty (fJ Gl t f i) (fJ Gl t f f)).toNat) 0=fW Gl S.X t f i:=by
   unfold fW
   rw [gi,show (7*(fU Gl t f:Int)+4+ty (fJ Gl t f i) (fJ Gl t f f)).toNat=7*fU Gl t f+4+(ty (fJ Gl t f i) (fJ Gl t f f)).toNat by omega]
  have es:Z2W Gl true t i f S=if S.K.getD (fV Gl t f i) false=false then
   some ⟨S.X.set (7*fU Gl t f+fJ Gl t f i) (fW Gl S.X t f i),S.K.set (fV Gl t f i) true,S.Q++[fV Gl t f i],min S.m (fW Gl S.X t f i)⟩
   else if true=true/\S.X.getD (7*fU Gl t f+fJ Gl t f i) 0 ≠ fW Gl S.X t f i then none else some S:=by
   unfold Z2W; rw [if_neg (fun q=>q.elim hfi h0)]
  have push:=hS.push (Gl:=Gl) hB ht (by omega:f<4) hi (fun q=>hfi q.symm) g
  rw [es]
  have hv:fV Gl t f i=4*fU Gl t f+fJ Gl t f i:=rfl
  rw [hv] at push ⊢
  have gu:=g.u
  have gj:=g.j
  have gh:=g.h
  have gne:=g.ne
  have guz:=g.uz
  have gjz:=g.jz
  have ghz:=g.hz
  clear g es hv
  rw [guz] at b0
  rw [gjz] at b1
  rw [ghz] at b2
  obtain ⟨U,hU⟩:∃ U,fU Gl t f=U:=⟨_,rfl⟩
  obtain ⟨J,hJ⟩:∃ J,fJ Gl t f i=J:=⟨_,rfl⟩
  obtain ⟨J',hJ'⟩:∃ J',fJ Gl t f f=J':=⟨_,rfl⟩
  rw [hU] at b0 gu hwe push q2 ⊢
  rw [hJ] at b1 gj gne r2 hwe push q2 ⊢
  rw [hJ'] at b2 gh gne r2 hwe q2
  have x3:=Z8s tyT 4 4 .i64 (J:Int) qO qO rfl
  have hl4:((tyT.drop ((J:Int).toNat*4)).take 4).length=4:=by simp [tyT]; omega
  have x4:=ZaN ((tyT.drop ((J:Int).toNat*4)).take 4) 4 .i64 (J':Int) qO qO hl4
  rw [show ((tyT.drop ((J:Int).toNat*4)).take 4).getD (J':Int).toNat 0=ty J J' from rfl] at x4
  obtain ⟨R,hR⟩:∃ R,(tyT.drop ((J:Int).toNat*4)).take 4=R:=⟨_,rfl⟩
  rw [hR] at x3 x4
  obtain ⟨T,hT⟩:∃ T,ty J J'=(T:Nat):=⟨(ty J J').toNat,by omega⟩
  rw [hT] at x4 hwe r2 q2
  rw [Int.toNat_natCast] at hwe q2
  have hwe':=hwe
  have k1:=hS.xb (7*U+4+T)
  have l2:ld1 H (.pointer (some ⟨rb,7*U+4+T,none⟩))=some (.int .i64 (S.X.getD (7*U+4+T) 0)):=by
   rw [Z01 ⟨false,none,kH⟩,ints_getD _ _ (by have:=hS.xl; omega)]
  have l3:ld1 H (.pointer (some ⟨kb,4*U+J,none⟩))=some (.bool (S.K.getD (4*U+J) false)):=by
   rw [Z01 ⟨false,none,kK⟩,Zb8 _ _ (by have:=hS.kl; omega)]
  have l4:ld1 H (.pointer (some ⟨rb,7*U+J,none⟩))=some (.int .i64 (S.X.getD (7*U+J) 0)):=by
   rw [Z01 ⟨false,none,kH⟩,ints_getD _ _ (by have:=hS.xl; omega)]
  obtain ⟨W,hW⟩:∃ W,fW Gl S.X t f i=W:=⟨_,rfl⟩
  rw [hW] at hw hwe push ⊢
  obtain ⟨A,hA⟩:∃ A,Z7o S.X t f i=A:=⟨_,rfl⟩
  rw [hA] at ca hwe
  obtain ⟨Y,hY⟩:∃ Y,S.X.getD (7*U+4+T) 0=Y:=⟨_,rfl⟩
  rw [hY] at l2 k1 hwe q2
  obtain ⟨Z,hZ⟩:∃ Z,S.X.getD (7*U+J) 0=Z:=⟨_,rfl⟩
  have k5:=hS.xb (7*U+J)
  rw [hZ] at l4 k5 ⊢
  have tz1:(7*(U:Int)+4+T).toNat=7*U+4+T:=by omega
  have tz2:(4*(U:Int)+J).toNat=4*U+J:=by omega
  have tz3:(7*(U:Int)+J).toNat=7*U+J:=by omega
  by_cases hk:S.K.getD (4*U+J) false=false
  · rw [if_pos hk]
    rw [hk] at l3
    have pu:=push hk
    obtain ⟨H1,hH1⟩:∃ H1,HeapC.set H kb (.cells false none (bools (S.K.set (4*U+J) true)))=H1:=⟨_,rfl⟩
    have w1:stN H 1 (.pointer (some ⟨kb,4*U+J,none⟩)) (.bool true)=some H1:=by
     rw [Z12 (show HeapC.get H kb=_ from kK) (by simp [bools]; have:=hS.kl; omega) rfl rfl,Z6s,hH1]
    have fH1:∀ b,b ≠ kb->H1.f b=H.f b:=fun b hb=>by rw [← hH1,Z0g,if_neg hb]
    have kK1:H1.f kb=some (.cells false none (bools (S.K.set (4*U+J) true))):=by rw [← hH1,Z0g,if_pos rfl]
    obtain ⟨H2,hH2⟩:∃ H2,HeapC.set H1 rb (.cells false none (ints (S.X.set (7*U+J) W)))=H2:=⟨_,rfl⟩
    have w2:stN H1 1 (.pointer (some ⟨rb,7*U+J,none⟩)) (.int .i64 W)=some H2:=by
     rw [Z12 (show HeapC.get H1 rb=_ from (fH1 rb hne).trans kH) (by simp; have:=hS.xl; omega) rfl rfl,Z0K,hH2]
    have fH2:∀ b,b ≠ rb->H2.f b=H1.f b:=fun b hb=>by rw [← hH2,Z0g,if_neg hb]
    have kH2:H2.f rb=some (.cells false none (ints (S.X.set (7*U+J) W))):=by rw [← hH2,Z0g,if_pos rfl]
    have mn:=Z5n .i64 S.m W
    rw [show (if W<S.m then W else S.m)=min S.m W by split <;> omega] at mn
    have hbl:Z2T [.int .i64 0] [(0,1,.int .i64 (4*(U:Int)+J))]=some [.int .i64 (4*(U:Int)+J)]:=rfl
    have hql:=hS.ql
    have a2:Z2Q c1 H2 (cc+1) t14 S.Q.length (ints (zs S.Q)):=(aH.keep (by rw [fH2 _ qO,fH1 _ qO])).mono qO
    obtain ⟨H3,p1,p2,p3⟩:=(a2.mono (c':=cc+1+1+1+1+1+1+1+1+1) qO).app (c':=cc+1+1+1+1+1+1+1+1+1+1) (.int .i64 (4*(U:Int)+J)) rfl 8 (256*(cc+1+1+1+1+1+1+1+1+1)+5) (256*(cc+1+1+1+1+1+1+1+1+1)+6) qO qO qO qO qO qO
    have low:∀ b,b<256*c1->H3.f b=H2.f b:=fun b hb=>p3 b qO qO
    have hzs:ints (zs S.Q)++[.int .i64 (4*(U:Int)+J)]=ints (zs (S.Q++[4*U+J])):=by
     simp [zs,ints]
    rw [hzs] at p2
    clear mn
    have mn:Z28 min2 [.int .i64 S.m,.int .i64 W]=some (.int .i64 (min S.m W)):=by
     rw [Z5n,show (if W<S.m then W else S.m)=min S.m W by split <;> omega]
    refine Ans.lpN rfl rfl (Z1b ..) ?_
    unfold Z1F
    have fx:=ai x1 (ai hst (ai hH (ai b0 (ai b1 (ai b2 (ai ca (ai Z4j (ai x3 (ai x4 (ai tz1 (ai tz2 (ai tz3 (ai l2 (ai l3 (ai hwe (ai w1 (ai w2 (ai mn (ai hbl p1)))))))))))))))))))
    refine Ans.go ?_
    clear fx
    refine Ans.nextN ?_
    refine (ih (f+1) _ H3 _ ⟨S.X.set (7*U+J) W,S.K.set (4*U+J) true,S.Q++[4*U+J],min S.m W⟩ (B+1000000) qO qO (by rw [low rb hrb,kH2]) (by rw [low kb hkb,fH2 kb (Ne.symm hne),kK1]) (by rw [List.length_append]; exact p2.mono qO) pu qO qO).mono fun r p=>p.mono qO (fun b h1 h2 h3=>by rw [low b h1,fH2 b h2,fH1 b h3,fH b qO])
  · rw [if_neg hk]
    have hk':S.K.getD (4*U+J) false=true:=by simpa using hk
    rw [hk'] at l3
    by_cases hz:Z=W
    · rw [if_neg (fun q=>q.2 hz)]
      refine Ans.lpN rfl rfl (Z1b ..) ?_
      unfold Z1F
      have fx:=ai x1 (ai hst (ai hH (ai b0 (ai b1 (ai b2 (ai ca (ai Z4j (ai x3 (ai x4 (ai tz1 (ai tz2 (ai tz3 (ai l2 (ai l3 (ai l4 hwe)))))))))))))))
      refine Ans.go ?_
      clear fx
      refine Ans.nextN ?_
      refine (ih (f+1) _ H t14 S B qO qO kH kK (aH.mono qO) hS hB qO).mono fun r p=>p.mono qO (fun b h1 h2 h3=>fH b qO)
    · rw [if_pos ⟨rfl,hz⟩]
      refine Ans.lpN rfl rfl (Z1b ..) ?_
      unfold Z1F
      have fx:=ai x1 (ai hst (ai hH (ai b0 (ai b1 (ai b2 (ai ca (ai Z4j (ai x3 (ai x4 (ai tz1 (ai tz2 (ai tz3 (ai l2 (ai l3 (ai l4 hwe)))))))))))))))
      refine Ans.go ?_
      clear fx
      exact Ans.retN ⟨(by show cc<=cc+1+1+1+1+1+1+1+1; omega),rfl,fun b h1 h2 h3=>fH b qO,rfl,rfl,rfl⟩

def edA (e:Int):Int:=((edL.drop (e.toNat*2)).take 2).getD 0 0
def edB (e:Int):Int:=((edL.drop (e.toNat*2)).take 2).getD 1 0


theorem Z46 {V:List Int} (h:Z0x V=true) (j:Int):0<=gi V j/\gi V j<=1000000:=by
 have:=Z4x h j.toNat
 unfold gi at this ⊢
 rwa [Int.toNat_natCast] at this
def Z9M (A B:List Int):List Int:=(List.range A.length).map fun k:Nat=>gi A k+gi B k
theorem Z2D (A B:List Int):(Z9M A B).length=A.length:=by simp [Z9M]
theorem ZlF {A B:List Int} {k:Nat} (hk:k<A.length):gi (Z9M A B) (k:Nat)=gi A k+gi B k:=by
 rw [Z1y,Z9M,List.getD_eq_getElem?_getD]
 simp [hk]
theorem Zpw (a b:Value) (m:Nat) (A B:List Int) (ob:Nat) (h0:FH) (c c0:Nat) (ha:SlI h0 c0 a 1 m A) (hb:SlI h0 c0 b 1 m B) (hob:ob<256*c) (hc0:c0<=c) (hlo:256*c0<=ob) (hm:m<=1000000) (hA:∀ j,0<=gi A j/\gi A j<=1000000) (hB:∀ j,0<=gi B j/\gi B j<=1000000) (df:List Nat) :
 ∀ (k i:Nat) (X:List Int),i+k=m->X.length=m->(∀ j,j<i->X.getD j 0=gi A j+gi B j) →
 Ans (G (Zc4 none) [a,b,.slice (some ⟨ob,0,none⟩) m m,.int .i64 m,.int .i64 i] (newB h0 ob (ints X)) c df) fun r=>r=⟨.exit 0,[a,b,.slice (some ⟨ob,0,none⟩) m m,.int .i64 m,.int .i64 m],newB h0 ob (ints (Z9M A B)),c,df⟩:=by
 intro k
 have o1:=(ha.mono hc0).okV
 have o2:=(hb.mono hc0).okV
 have hAl:=ha.1
 induction k with
 | zero =>
  intro i X hi hX hf
  obtain rfl:i=m:=by omega
  have e:X=Z9M A B:=by
   refine List.ext_getElem (by rw [hX,Z2D]; omega) fun j h1 h2=>?_
   have:=hf j qO
   rw [List.getD_eq_getElem?_getD,List.getElem?_eq_getElem h1] at this
   simp only [Option.getD_some] at this
   rw [this]; simp [Z9M]
  rw [e]
  refine Ans.lpG rfl rfl (Z7Q ..) ?_
  unfold Z8H
  have fx:=True.intro
  refine Ans.go ?_
  clear fx
  (have fx:=ai o1 (ai o2 hob); refine Ans.ex0 ?_; clear fx)
  rfl
 | succ k ih =>
  intro i X hi hX hf
  have s0:Z0u c0 h0 (newB h0 ob (ints X)):=fun q hq=>by rw [Z08,if_neg qO]
  have l1:=(ha.same s0).rdi i qO qO
  have l2:=(hb.same s0).rdi i qO qO
  simp only [Int.toNat_natCast] at l1 l2
  have vA:=hA i
  have vB:=hB i
  have hw:∀ x:Int,stN (newB h0 ob (ints X)) 1 (.pointer (some ⟨ob,i,none⟩)) (.int .i64 x)=some (newB h0 ob (ints (X.set i x))):=fun x=>by
   rw [st1_int _ _ _ _ _ _ (by simp; omega),Z0K]
  have hg:(X.set i (gi A i+gi B i)).length=m:=by simp [hX]
  have hn:∀ j,j<i+1->(X.set i (gi A i+gi B i)).getD j 0=gi A j+gi B j:=fun j hj=>by
   rw [Z0m]
   by_cases e:i=j
   · subst e; rw [if_pos ⟨rfl,by omega⟩]
   · rw [if_neg (fun q=>e q.1)]; exact hf j qO
  obtain ⟨x,hx⟩:∃ x,gi A i=x:=⟨_,rfl⟩
  obtain ⟨y,hy⟩:∃ y,gi B i=y:=⟨_,rfl⟩
  rw [hx] at l1 vA hg hn
  rw [hy] at l2 vB hg hn
  refine Ans.lpG rfl rfl (Z7Q ..) ?_
  unfold Z8H
  have fx:=ai ha.ixs1 (ai hb.ixs1 (ai l1 (ai l2 hw)))
  refine Ans.go ?_
  clear fx
  (have fx:=ai o1 (ai o2 hob); refine Ans.nxB (B:=newB h0 ob (ints (X.set i (x+y)))) ?_ ?_; exact (Z1A.both (Z1c.ints _ _) (Z1A.refl _ _) hob); clear fx)
  exact ih (i+1) _ qO hg hn
theorem Zpv (a b:Value) (m:Nat) (A B:List Int) (h:FH) (c:Nat) (df:List Nat) (ha:SlI h c a 1 m A) (hb:SlI h c b 1 m B) (hm:m<=1000000) (hA:∀ j,0<=gi A j/\gi A j<=1000000) (hB:∀ j,0<=gi B j/\gi B j<=1000000) :
 Ans (G (.fn 67) [a,b] h c df) fun r=>r=⟨.ret,[.slice (some ⟨256*(c+1)+2,0,none⟩) m m],newB h (256*(c+1)+2) (ints (Z9M A B)),c+1+1+1+1,[]⟩:=by
 refine Ans.call' (fun r e=>f67_go e) ?_
 unfold Zrb
 have l1:=ha.len
 have mk:=Z5m 1 8 .i64 .i64 m qO qO
 have hl:=Ans.eq (Zpw a b m A B (256*(c+1)+2) h (c+1+1+1) c ha hb qO qO qO hm hA hB [] m 0 (List.replicate m 0) qO (by simp) (fun j hj=>by omega))
 simp only [Int.ofNat_eq_natCast,Int.cast_ofNat_Int] at hl
 have fx:=ai l1 (ai mk hl)
 refine Ans.go ?_
 clear fx
 exact .done rfl
theorem Zq7 {h:FH} {c:Nat} {v:Value} {sz n:Nat} {V:List Int} (hv:SlI h c v sz n V):Z2T [(.slice none 0 0)] [(0,1,v)]=some [v]:=by
 obtain ⟨_,_,a,cap,rfl,_⟩:=hv
 rfl

def lkK (L:List Int) (first:Nat):Nat->Nat->List Int->List Int
 | 0,_,X=>X
 | r+1,x,X=>lkK L first r (x+1) (if Z02 L x=first then X.set (x / 4*7+x % 4) 1 else X)
def lkRow (L:List Int) (n:Nat) (first:Int):List Int:=lkK L first.toNat (4*n) 0 (List.replicate (7*n) 0)
theorem Z5l (x d:Nat) (hd:0<d) (hx:x<1000000000):Z00 P .quo 3 (.int .i64 (x:Int)) (.int .i64 (d:Int))=some (.int .i64 (x / d:Nat)):=by
 have h1:((x:Int).tdiv (d:Int))=((x / d:Nat):Int):=by rw [Int.tdiv_eq_ediv_of_nonneg qO]; rfl
 have h2:x / d<=x:=Nat.div_le_self _ _
 obtain ⟨y,hy⟩:∃ y,x / d=y:=⟨_,rfl⟩
 rw [hy] at h1 h2 ⊢
 rw [aBinOp_quo _ _ _ qO (by rw [h1]; omega) (by rw [h1]; omega),h1]
theorem Z5k (x d:Nat) (hd:0<d):Z00 P .rem 3 (.int .i64 (x:Int)) (.int .i64 (d:Int))=some (.int .i64 (x % d:Nat)):=by
 rw [aBinOp_rem _ _ _ qO,Int.tmod_eq_emod_of_nonneg qO]; rfl

def FqP (rb kb c1 cc:Nat) (h:FH) (df:List Nat) (vs:Value->Int->Nat->List Value) (o:Option FSt) (r:Rt FH):Prop :=
 cc<=r.c/\r.df=df/\(∀ b,b<256*c1->b ≠ rb->b ≠ kb->r.h.f b=h.f b)/\match o with
  | some S=>r.e = .exit 4 /\ ∃ v j,r.vs=vs v S.m j/\r.h.f rb=some (.cells false none (ints S.X))/\r.h.f kb=some (.cells false none (bools S.K))/\Z2Q c1 r.h r.c v S.Q.length (ints (zs S.Q))
  | none=>r.e = .ret/\r.v 1 = .slice none 0 0/\r.v 2 = .bool false
theorem FqP.mono {rb kb c1 cc cc':Nat} {h h':FH} {df:List Nat} {vs:Value->Int->Nat->List Value} {o:Option FSt} {r:Rt FH} (p:FqP rb kb c1 cc' h' df vs o r) (hc:cc<=cc') (hh:∀ b,b<256*c1->b ≠ rb->b ≠ kb->h'.f b=h.f b):FqP rb kb c1 cc h df vs o r :=
 ⟨Nat.le_trans hc p.1,p.2.1,fun b h1 h2 h3=>(p.2.2.1 b h1 h2 h3).trans (hh b h1 h2 h3),p.2.2.2⟩
set_option maxHeartbeats 2000000 in
theorem ZqT (s:Value) (n:Nat) (Gl:List Int) (gb rb kb c1:Nat) (t4 t5 t62 t63 t64:Value) (df:List Nat) (hn:n<=60) (hok:Z0t Gl n=true) (hgb:gb<256*c1) (hrb:rb<256*c1) (hkb:kb<256*c1) (hne:rb ≠ kb) (hg1:gb ≠ rb) (hg2:gb ≠ kb) (hsb:0<n->Z0l s ≠ rb/\Z0l s ≠ kb) :
 ∀ (r k cc:Nat) (h:FH) (t14:Value) (S:FSt) (B:Int),4*n<=r+k->k<=4*n->c1<=cc->Z09 h gb [s]->SlI h c1 s 20 n Gl->h.f rb=some (.cells false none (ints S.X))->h.f kb=some (.cells false none (bools S.K))->Z2Q c1 h cc t14 S.Q.length (ints (zs S.Q))->FOk n S B->0<=B->B+r*4000000<=50000000000000000 →
 Ans (G (Z8T none) [ptrTo gb,t4,t5,.slice (some ⟨rb,0,none⟩) (7*n) (7*n),.slice (some ⟨kb,0,none⟩) (4*n) (4*n),t14,.int .i64 S.m,.int .i64 k,t62,t63,t64] h cc df)
  (FqP rb kb c1 cc h df (fun v m j=>[ptrTo gb,t4,t5,.slice (some ⟨rb,0,none⟩) (7*n) (7*n),.slice (some ⟨kb,0,none⟩) (4*n) (4*n),v,.int .i64 m,.int .i64 j,t62,t63,t64]) (fQ Gl true r k S)):=by
 intro r
 have stop:∀ (r k cc:Nat) (h:FH) (t14:Value) (S:FSt) (B:Int),¬ k<S.Q.length->k<=4*n->c1<=cc->h.f rb=some (.cells false none (ints S.X))->h.f kb=some (.cells false none (bools S.K))->Z2Q c1 h cc t14 S.Q.length (ints (zs S.Q))->FOk n S B →
  Ans (G (Z8T none) [ptrTo gb,t4,t5,.slice (some ⟨rb,0,none⟩) (7*n) (7*n),.slice (some ⟨kb,0,none⟩) (4*n) (4*n),t14,.int .i64 S.m,.int .i64 k,t62,t63,t64] h cc df)
  (FqP rb kb c1 cc h df (fun v m j=>[ptrTo gb,t4,t5,.slice (some ⟨rb,0,none⟩) (7*n) (7*n),.slice (some ⟨kb,0,none⟩) (4*n) (4*n),v,.int .i64 m,.int .i64 j,t62,t63,t64]) (some S)):=by
  intro r k cc h t14 S B hk hk4 hc e1 e2 ha hS
  have ll:=ha.sl.len
  have hql:=hS.ql
  refine Ans.lpN rfl rfl (Z2Z ..) ?_
  unfold Z3u
  have fx:=ll
  refine Ans.go ?_
  clear fx
  exact Ans.exitN ⟨(by show cc<=cc+1; omega),rfl,fun _ _ _ _=>rfl,rfl,t14,k,rfl,e1,e2,ha.mono (by show cc<=cc+1; omega)⟩
 induction r with
 | zero =>
  intro k cc h t14 S B hr hk hc hg hs e1 e2 ha hS hB hB2
  have hql:=hS.ql
  exact stop 0 k cc h t14 S B qO hk hc e1 e2 ha hS
 | succ r ih =>
  intro k cc h t14 S B hr hk hc hg hs e1 e2 ha hS hB hB2
  rw [fQ]
  by_cases hkq:k<S.Q.length
  case neg=>rw [if_neg hkq]; exact stop (r+1) k cc h t14 S B hkq hk hc e1 e2 ha hS
  rw [if_pos hkq]
  have hql:=hS.ql
  have hm:S.Q.getD k 0 ∈ S.Q:=by simp [List.getD_eq_getElem?_getD,List.getElem?_eq_getElem hkq]
  have hw:=(hS.qk _ hm).1
  have sl:=ha.sl
  have ll:=sl.len
  have l1:=sl.rdi (k:Int) qO qO
  rw [Z1y,ZcW,Int.toNat_natCast] at l1
  have lg:ld1 h (.pointer (some ⟨gb,0,none⟩))=some s:=by rw [Z01 hg]; rfl
  obtain ⟨w,hw'⟩:∃ w,S.Q.getD k 0=w:=⟨_,rfl⟩
  rw [hw'] at l1 hw ⊢
  have q1:=Z5l w 4 qO qO
  have q2:=Z5k w 4 qO
  simp only [Int.ofNat_eq_natCast,Int.cast_ofNat_Int] at q1 q2
  have d1:w / 4<n:=by omega
  have d2:w % 4<4:=by omega
  obtain ⟨T,hT⟩:∃ T,w / 4=T:=⟨_,rfl⟩
  obtain ⟨E,hE⟩:∃ E,w % 4=E:=⟨_,rfl⟩
  rw [hT] at q1 d1 ⊢
  rw [hE] at q2 d2 ⊢
  have l5:=hs.row (T:Int) qO qO
  rw [Int.toNat_natCast] at l5
  obtain ⟨⟨re,rv,rh,rc,rd⟩,hfc,p1,p2,p3,p4⟩:=ZqW n Gl rb kb c1 (ptrTo gb) t4 t5 (.int .i64 k) t62 t63 t64 T E df hn hok hs.1 hrb hkb hne d1 d2 4 0 (cc+1+1+1) h t14 S B qO qO e1 e2 (ha.mono qO) hS hB qO
  simp only [Int.ofNat_eq_natCast,Int.cast_ofNat_Int] at hfc
  simp only at p1 p2 p3
  subst p2
  have hsx:=hs.ixs
  cases hF:Z2i Gl true T E 4 0 S with
  | none =>
   rw [hF] at p4
   obtain ⟨p4,p5,p6⟩:=p4
   simp only at p4
   subst p4
   refine Ans.lpN rfl rfl (Z2Z ..) ?_
   unfold Z3u
   have fx:=ai ll (ai sl.ixs1 (ai l1 (ai q1 (ai q2 (ai lg (ai hsx (ai l5 hfc)))))))
   refine Ans.go ?_
   clear fx
   exact Ans.retN ⟨(by show cc<=rc; omega),rfl,p3,rfl,p5,p6⟩
  | some S1 =>
   rw [hF] at p4
   obtain ⟨p4,v,p5,p6,p7,p8⟩:=p4
   simp only at p4 p5 p6 p7 p8
   subst p4 p5
   have o1:=Z4G hok hs.1 d1 d2 qO hS hB hF
   refine Ans.lpN rfl rfl (Z2Z ..) ?_
   unfold Z3u
   have fx:=ai ll (ai sl.ixs1 (ai l1 (ai q1 (ai q2 (ai lg (ai hsx (ai l5 hfc)))))))
   refine Ans.go ?_
   clear fx
   refine Ans.nextN ?_
   refine (ih (k+1) (rc+1) rh v S1 (B+4*1000000) qO qO qO (hg.eqf (p3 gb hgb hg1 hg2)) (hs.keep fun hp=>p3 _ (hs.blk hp) (hsb hp).1 (hsb hp).2) p6 p7 (p8.mono qO) o1 qO qO).mono fun r p=>p.mono qO p3
set_option maxHeartbeats 1000000 in
theorem ZqS (h0:FH) (n:Nat) (rb c:Nat) (t2 t4 t5 t11 t62 t63 t64 v:Value) (Q:List Nat) (m B:Int) (df:List Nat) (hn:n<=60) (hrb:rb<256*c) (hv:SlI h0 c v 1 Q.length (zs Q)) (hvb:Z0l v ≠ rb) (o2:OkV c t2) (o4:OkV c t4) (o5:OkV c t5) (o11:OkV c t11) (o62:OkV c t62) (o63:OkV c t63) (o64:OkV c t64)
 (nd:Q.Nodup) (hq:∀ w ∈ Q,w<4*n) (hl:Q.length<=4*n) (hm:-B<=m/\m<=B) (hB:B<=1000000000000000000) :
 ∀ (r k:Nat) (X:List Int),k+r=Q.length->X.length=7*n->(∀ w,w ∈ Q.drop k -> -B<=X.getD (ps w) 0/\X.getD (ps w) 0<=B) →
 Ans (G (Zcc none) [t2,t4,t5,.slice (some ⟨rb,0,none⟩) (7*n) (7*n),t11,.int .i64 m,t62,t63,t64,v,.int .i64 Q.length,.int .i64 k] (HeapC.set h0 rb (.cells false none (ints X))) c df)
  fun q=>q=⟨.exit 9,[t2,t4,t5,.slice (some ⟨rb,0,none⟩) (7*n) (7*n),t11,.int .i64 m,t62,t63,t64,v,.int .i64 Q.length,.int .i64 Q.length],HeapC.set h0 rb (.cells false none (ints (Za7 m (Q.drop k) X))),c,df⟩:=by
 intro r
 induction r with
 | zero =>
  intro k X hk hX hb
  obtain rfl:k=Q.length:=by omega
  have ov:=hv.okV
  rw [List.drop_length,Za7]
  refine Ans.lpG rfl rfl (Z5D ..) ?_
  unfold Z4S
  have fx:=True.intro
  refine Ans.go ?_
  clear fx
  (have fx:=ai o2 (ai o4 (ai o5 (ai o11 (ai o62 (ai o63 (ai o64 (ai hrb ov))))))); refine Ans.ex0 ?_; clear fx)
  rfl
 | succ r ih =>
  intro k X hk hX hb
  have ov:=hv.okV
  have hkq:k<Q.length:=by omega
  obtain ⟨H,hH⟩:∃ H,HeapC.set h0 rb (.cells false none (ints X))=H:=⟨_,rfl⟩
  have fH:H.f rb=some (.cells false none (ints X)):=by rw [← hH,Z0g,if_pos rfl]
  have hv':SlI H c v 1 Q.length (zs Q):=hv.keep fun _=>by rw [← hH,Z0g,if_neg hvb]
  have l1:=hv'.rdi (k:Int) qO qO
  rw [Z1y,ZcW,Int.toNat_natCast] at l1
  have hd:Q.drop k=Q.getD k 0::Q.drop (k+1):=by rw [List.drop_eq_getElem_cons hkq]; simp [List.getD_eq_getElem?_getD,List.getElem?_eq_getElem hkq]
  have nd':(Q.drop k).Nodup:=(List.drop_sublist k Q).nodup nd
  rw [hd] at nd' hb ⊢
  rw [List.nodup_cons] at nd'
  have hw:=hq (Q.getD k 0) (by simp [List.getD_eq_getElem?_getD,List.getElem?_eq_getElem hkq])
  obtain ⟨w,hw'⟩:∃ w,Q.getD k 0=w:=⟨_,rfl⟩
  rw [hw'] at l1 hw nd' hb ⊢
  rw [Za7]
  have q1:=Z5l w 4 qO qO
  have q2:=Z5k w 4 qO
  simp only [Int.ofNat_eq_natCast,Int.cast_ofNat_Int] at q1 q2
  have d1:w / 4<n:=by omega
  have d2:w % 4<4:=by omega
  have bw:=hb w (by simp)
  have hnx:∀ x,x ∈ Q.drop (k+1) -> -B<=(X.set (ps w) (X.getD (ps w) 0-m)).getD (ps x) 0/\(X.set (ps w) (X.getD (ps w) 0-m)).getD (ps x) 0<=B:=fun x hx=>by
   rw [Z0m,if_neg (fun q=>nd'.1 (by rw [Z4D q.1]; exact hx))]
   exact hb x (by simp [hx])
  have hps:ps w=w / 4*7+w % 4:=rfl
  obtain ⟨T,hT⟩:∃ T,w / 4=T:=⟨_,rfl⟩
  obtain ⟨E,hE⟩:∃ E,w % 4=E:=⟨_,rfl⟩
  rw [hT] at q1 d1 hps
  rw [hE] at q2 d2 hps
  rw [hps] at bw hnx ⊢
  have e7:((T:Int)*7+E).toNat=T*7+E:=by omega
  have l2:ld1 H (.pointer (some ⟨rb,T*7+E,none⟩))=some (.int .i64 (X.getD (T*7+E) 0)):=by
   rw [Z01 ⟨false,none,fH⟩,ints_getD _ _ qO]
  have hw2:∀ y:Int,stN H 1 (.pointer (some ⟨rb,T*7+E,none⟩)) (.int .i64 y)=some (HeapC.set H rb (.cells false none (ints (X.set (T*7+E) y)))):=fun y=>by
   rw [Z12 (show HeapC.get H rb=_ from fH) (by simp; omega) rfl rfl,Z0K]
  obtain ⟨Y,hY⟩:∃ Y,X.getD (T*7+E) 0=Y:=⟨_,rfl⟩
  rw [hY] at l2 bw hnx ⊢
  have hkl:(k:Int)<Q.length:=by omega
  rw [hH]
  refine Ans.lpG rfl rfl (Z5D ..) ?_
  unfold Z4S
  have fx:=ai hv'.ixs1 (ai l1 (ai q1 (ai q2 (ai e7 (ai l2 hw2)))))
  refine Ans.go ?_
  clear fx
  (have fx:=ai o2 (ai o4 (ai o5 (ai o11 (ai o62 (ai o63 (ai o64 (ai hrb ov))))))); refine Ans.nxB (B:=HeapC.set H rb (.cells false none (ints (X.set (T*7+E) (Y-m))))) ?_ ?_; exact (Z1A.set hrb (Z1c.ints _ _) (Z1A.refl _ _)); clear fx)
  rw [← hH,set_set]
  exact ih (k+1) _ qO (by simp [hX]) hnx

def sI (V:List Int) (t f:Nat):Nat->Nat->Int
 | 0,_=>0
 | r+1,i=>(if i=f then 0 else Z7o V t f i)+sI V t f r (i+1)
def eSkip (Gl:List Int) (t f:Nat):Bool:=decide (0<=Z0L (Z03 Gl t f)/\(Z0L (Z03 Gl t f)<t ∨ (Z0L (Z03 Gl t f)=t/\(Z0e (Z03 Gl t f)).getD f 0<f)))
def sF (Gl V:List Int) (t:Nat):Nat->Nat->Int
 | 0,_=>0
 | r+1,f=>(if eSkip Gl t f=true then 0 else sI V t f 4 0)+sF Gl V t r (f+1)
def sT (Gl V:List Int):Nat->Nat->Int
 | 0,_=>0
 | r+1,t=>sF Gl V t 4 0+sT Gl V r (t+1)

theorem Zkd (p:List Int) (hp:p.length=4) (h:FH) (b1 b3 c:Nat) (hb1:b1<256*c) (hb3:b3<256*c) (hne:b1 ≠ b3) (hh:Z09 h b1 (ints p)) (df:List Nat):∀ (k i:Nat) (m:List Bool),i+k=4->m.length=4 →
 Ans (G (Z4Z none) [ptrTo b1,.bool false,ptrTo b3,.int .i64 i] (newB h b3 (bools m)) c df) fun r=>r.c=c/\r.df=df/\(∃ cs,r.h=newB h b3 cs) ∧
  (if Zmd (p.drop i) m=true then r.e = .exit 0 else r.e = .ret/\r.v 1 = .bool false):=by
 intro k
 induction k with
 | zero =>
  intro i m hi hm
  obtain rfl:i=4:=by omega
  rw [List.drop_of_length_le qO]
  refine .intro (Z6K (q:=⟨.exit 0,[ptrTo b1,.bool false,ptrTo b3,.int .i64 (4:Nat)],newB h b3 (bools m),c+1,df⟩) (by unfold Z1p; simp) (by simp)) ?_
  rw [Z1C (by simp [hb1,hb3])]
  refine ⟨rfl,rfl,⟨_,rfl⟩, ?_⟩
  simp [Zmd]
 | succ k ih =>
  intro i m hi hm
  have hlt:i<p.length:=by omega
  have e0:(i:Int)<4:=by omega
  have hld:∀ j,j<4->ld1 (newB h b3 (bools m)) (.pointer (some ⟨b1,j,none⟩))=some (.int .i64 (p.getD j 0)):=fun j hj=>by
   rw [ld1_newB_ne _ _ _ _ _ hne]
   exact ld1_holds hh (by rw [ints_getD _ _ qO])
  have hldi:=hld i qO
  obtain ⟨x,hx⟩:∃ x,x=p.getD i 0:=⟨_,rfl⟩
  have hdr:p.drop i=x::p.drop (i+1):=by
   rw [List.drop_eq_getElem_cons hlt,hx]
   simp [List.getD,List.getElem?_eq_getElem hlt]
  rw [hdr,Zmd]
  rw [← hx] at hldi
  by_cases h1:x<0
  · rw [if_pos (Or.inl h1)]
    refine Ans.intro (Z6K (q:=⟨.ret,[ptrTo b1,.bool false,ptrTo b3,.int .i64 i],newB h b3 (bools m),_,df⟩) (Ans.eq (by
     unfold Z1p
     repeat (first | (with_reducible refine Ans.bt ?_ ?_; exact rfl) | (with_reducible refine Ans.bf ?_ ?_; exact rfl) | (with_reducible refine Ans.ct ?_ ?_; focus (simp; done)) | (with_reducible refine Ans.cf ?_ ?_; focus (simp; done)) | refine Ans.step (by simp (disch:=(first | omega | (simp <;> omega) | fail)) [e0,hldi,h1,-List.getD_eq_getElem?_getD] <;> rfl) ?_)
     exact .done rfl)) (by simp)) ?_
    rw [Z1C (by simp [hb1,hb3])]
    exact ⟨rfl,rfl,⟨_,rfl⟩,by simp⟩
  by_cases h2:3<x
  · rw [if_pos (Or.inr h2)]
    refine Ans.intro (Z6K (q:=⟨.ret,[ptrTo b1,.bool false,ptrTo b3,.int .i64 i],newB h b3 (bools m),_,df⟩) (Ans.eq (by
     unfold Z1p
     repeat (first | (with_reducible refine Ans.bt ?_ ?_; exact rfl) | (with_reducible refine Ans.bf ?_ ?_; exact rfl) | (with_reducible refine Ans.ct ?_ ?_; focus (simp; done)) | (with_reducible refine Ans.cf ?_ ?_; focus (simp; done)) | refine Ans.step (by simp (disch:=(first | omega | (simp <;> omega) | fail)) [e0,hldi,h1,h2,-List.getD_eq_getElem?_getD] <;> rfl) ?_)
     exact .done rfl)) (by simp)) ?_
    rw [Z1C (by simp [hb1,hb3])]
    exact ⟨rfl,rfl,⟨_,rfl⟩,by simp⟩
  rw [if_neg qO]
  have hldm:ld1 (newB h b3 (bools m)) (.pointer (some ⟨b3,x.toNat,none⟩))=some (.bool (m.getD x.toNat false)):=by
   rw [ld1_newB_same,Zb8 _ _ qO]
  by_cases h3:m.getD x.toNat false=true
  · rw [if_pos h3]
    rw [h3] at hldm
    refine Ans.intro (Z6K (q:=⟨.ret,[ptrTo b1,.bool false,ptrTo b3,.int .i64 i],newB h b3 (bools m),_,df⟩) (Ans.eq (by
     unfold Z1p
     repeat (first | (with_reducible refine Ans.bt ?_ ?_; exact rfl) | (with_reducible refine Ans.bf ?_ ?_; exact rfl) | (with_reducible refine Ans.ct ?_ ?_; focus (simp; done)) | (with_reducible refine Ans.cf ?_ ?_; focus (simp; done)) | refine Ans.step (by simp (disch:=(first | omega | (simp <;> omega) | fail)) [e0,hldi,h1,h2,hldm,-List.getD_eq_getElem?_getD] <;> rfl) ?_)
     exact .done rfl)) (by simp)) ?_
    rw [Z1C (by simp [hb1,hb3])]
    exact ⟨rfl,rfl,⟨_,rfl⟩,by simp⟩
  rw [if_neg h3]
  have h3':m.getD x.toNat false=false:=by simpa using h3
  rw [h3'] at hldm
  obtain ⟨r,hr,hq⟩:=ih (i+1) (m.set x.toNat true) qO (by simpa using hm)
  have hst:stN (newB h b3 (bools m)) 1 (.pointer (some ⟨b3,x.toNat,none⟩)) (.bool true)=some (newB h b3 (bools (m.set x.toNat true))):=by
   rw [st1_bool _ _ _ _ _ (by rw [ZeR]; omega),Z6s]
  refine .intro (Zji (q:=⟨.normal,[ptrTo b1,.bool false,ptrTo b3,.int .i64 (i+1:Nat)],newB h b3 (bools (m.set x.toNat true)),_,df⟩) (Ans.eq (by
   unfold Z1p
   repeat (first | (with_reducible refine Ans.bt ?_ ?_; exact rfl) | (with_reducible refine Ans.bf ?_ ?_; exact rfl) | (with_reducible refine Ans.ct ?_ ?_; focus (simp; done)) | (with_reducible refine Ans.cf ?_ ?_; focus (simp; done)) | refine Ans.step (by simp (disch:=(first | omega | (simp <;> omega) | fail)) [e0,hldi,h1,h2,hldm,hst,-List.getD_eq_getElem?_getD] <;> rfl) ?_)
   exact .done rfl)) rfl ?_) hq
  rw [Zfp hb3 (by simp [hb1,hb3]) (Z1c.bools _ _)]
  exact hr
theorem ZjS (p:List Int) (hp:p.length=4) (h:FH) (c:Nat) (df:List Nat) :
 G (.fn 41) [av p] h c df=some ⟨.ret,[.bool (Z1s p)],h,c,[]⟩:=by
 refine Z7h (fun r e=>f41_go e) (by simp) ?_
 obtain ⟨⟨re,rv,rh,rc,rd⟩,hr,h1,h2,⟨cs,h3⟩,h4⟩:=Zkd p hp (newB h (256*c) (ints p)) (256*c) (256*(c+1)) (c+1+1+1) qO qO qO (Z09.newB_same _ _ _) [] 4 0 [false,false,false,false] rfl rfl
 simp only at h1 h2 h3
 subst h1 h2 h3
 rw [← Zqv p hp]
 unfold Zll
 simp only [List.drop_zero] at h4
 simp only [Int.ofNat_eq_natCast,Int.cast_ofNat_Int] at hr
 have hb:bools [false,false,false,false]=[.bool false,.bool false,.bool false,.bool false]:=rfl
 rw [hb] at hr
 cases hv:Zmd p [false,false,false,false] with
 | true =>
  rw [hv,if_pos rfl] at h4
  subst h4
  simp (disch:=omega) [hr,hp]
 | false =>
  rw [hv,if_neg (by simp)] at h4
  obtain ⟨rfl,h5⟩:=h4
  simp (disch:=omega) [hr,hp,h5]
theorem Z1z (p:List Int) (hp:p.length=4) (h:FH) (c:Nat):callF G 41 [av p] h c=some (.bool (Z1s p),h,c):=Z05 (ZjS p hp h c [])
theorem Zdo (p:List Int) (hp:p.length=4) (hr:InR p) (h:FH) (b1 b2 b3 c:Nat) (hb1:b1<256*c) (hb2:b2<256*c) (hb3:b3<256*c) (hne:b1 ≠ b3) (hh:Z09 h b1 (ints p)) (df:List Nat):∀ (k i:Nat) (out:List Int),i+k=4->out.length=4 →
 G (Z4Y none) [ptrTo b1,ptrTo b2,ptrTo b3,.int .i64 i] (newB h b3 (ints out)) c df =
  some ⟨.exit 0,[ptrTo b1,ptrTo b2,ptrTo b3,.int .i64 4],newB h b3 (ints (ZiP (p.drop i) i out)),c,df⟩:=by
 intro k
 induction k with
 | zero =>
  intro i out hi ho
  obtain rfl:i=4:=by omega
  rw [List.drop_of_length_le qO]
  refine (Zjg (q:=⟨.exit 0,[ptrTo b1,ptrTo b2,ptrTo b3,.int .i64 4],newB h b3 (ints out),c+1,df⟩) (by unfold Z2v; simp) (by simp)).trans ?_
  rw [Z1C (by simp [hb1,hb2,hb3])]
  rfl
 | succ k ih =>
  intro i out hi ho
  have hlt:i<p.length:=by omega
  have e0:(i:Int)<4:=by omega
  have hld:ld1 (newB h b3 (ints out)) (.pointer (some ⟨b1,i,none⟩))=some (.int .i64 (p.getD i 0)):=by
   rw [ld1_newB_ne _ _ _ _ _ hne]
   exact ld1_holds hh (by rw [ints_getD _ _ qO])
  obtain ⟨x,hx⟩:∃ x,x=p.getD i 0:=⟨_,rfl⟩
  have hdr:p.drop i=x::p.drop (i+1):=by
   rw [List.drop_eq_getElem_cons hlt,hx]
   simp [List.getD,List.getElem?_eq_getElem hlt]
  have hxr:0<=x/\x<4:=by
   rw [hx]
   have:=hr p[i] (List.getElem_mem hlt)
   simpa [List.getD,List.getElem?_eq_getElem hlt] using this
  rw [hdr,ZiP]
  rw [← hx] at hld
  refine Zjh (q:=⟨.normal,[ptrTo b1,ptrTo b2,ptrTo b3,.int .i64 (i+1:Nat)],newB h b3 (ints (out.set x.toNat i)),_,df⟩) (Ans.eq (by
   unfold Z2v
   repeat (first | (with_reducible refine Ans.bt ?_ ?_; exact rfl) | (with_reducible refine Ans.bf ?_ ?_; exact rfl) | (with_reducible refine Ans.ct ?_ ?_; focus (simp; done)) | (with_reducible refine Ans.cf ?_ ?_; focus (simp; done)) | refine Ans.step (by simp (disch:=(first | omega | (simp <;> omega) | fail)) [e0,hld,hxr,ho,-List.getD_eq_getElem?_getD] <;> rfl) ?_)
   exact .done rfl)) rfl ?_
  rw [Zfp hb3 (by simp [hb1,hb2,hb3]) (by simp)]
  exact ih (i+1) _ qO (by simpa using ho)
def invR (p:List Int):List Int:=if Z1s p=true then inv p else [0,0,0,0]
theorem Zfm (p:List Int) (hp:p.length=4) (h:FH) (c:Nat) (df:List Nat) :
 G (.fn 42) [av p] h c df=some ⟨.ret,[av (invR p)],h,c,[]⟩:=by
 refine Z7h (fun r e=>f42_go e) (by simp) ?_
 have e1:p.take 4=p:=List.take_of_length_le qO
 have hv:=fun h c=>Z1z p hp h c
 unfold Zlk invR
 by_cases hb:Z1s p=true
 · rw [if_pos hb]
   rw [hb] at hv
   have hl:=Zdo p hp (Z2J hb) (newB (newB h (256*c) (ints p)) (256*c+1) (ints [0,0,0,0])) (256*c) (256*c+1) (256*(c+1)) (c+1+1+1+1) qO qO qO qO
    (Z09.newB_ne qO (Z09.newB_same _ _ _)) [] 4 0 [0,0,0,0] rfl rfl
   have hl2:(ZiP p 0 [0,0,0,0]).length=4:=Z4e p 0 [0,0,0,0]
   have e2:(ZiP p 0 [0,0,0,0]).take 4=ZiP p 0 [0,0,0,0]:=List.take_of_length_le qO
   simp only [Zeu,ZhA,Int.ofNat_eq_natCast,Int.cast_ofNat_Int,List.drop_zero] at hl
   simp (disch:=(first | omega | (simp <;> omega) | fail)) [hl,e1,e2,hp,hl2,inv,hv]
 · rw [if_neg hb]
   have hb':Z1s p=false:=by simpa using hb
   rw [hb'] at hv
   have hz:[Value.int .i64 0,Value.int .i64 0,Value.int .i64 0,Value.int .i64 0]=ints [0,0,0,0]:=rfl
   rw [hz]
   repeat (first | (with_reducible refine Ans.bt ?_ ?_; exact rfl) | (with_reducible refine Ans.bf ?_ ?_; exact rfl) | (with_reducible refine Ans.ct ?_ ?_; focus (simp; done)) | (with_reducible refine Ans.cf ?_ ?_; focus (simp; done)) | refine Ans.step (by simp (disch:=(first | omega | (simp <;> omega) | fail)) [e1,hp,hv,-List.getD_eq_getElem?_getD] <;> rfl) ?_)
   refine .done ⟨rfl,rfl, ?_,rfl⟩
   simp (disch:=omega)
end Go.Proofs.Ytcnndelmnobigaa
