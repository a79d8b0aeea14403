/- Parts of a proof: AbPm AbRn AbRow AbSub AbMat AbGrow AbUf AbUf2 AbUf3 AbFill AbLab AbJn K1 AbEd. Conditions: none. -/
import Derived.Test.YtdodippbpdechaaM11
import Derived.Test.YtdodippbpdechaaM7
import Derived.ProofKit
set_option linter.all false
set_option maxRecDepth 100000
namespace Go.Ab
open Go
def p24:List (List Int):=[[0,1,2,3],[0,1,3,2],[0,2,1,3],[0,2,3,1],[0,3,1,2],[0,3,2,1],[1,0,2,3],[1,0,3,2],[1,2,0,3],[1,2,3,0],[1,3,0,2],[1,3,2,0],[2,0,1,3],[2,0,3,1],[2,1,0,3],[2,1,3,0],[2,3,0,1],[2,3,1,0],[3,0,1,2],[3,0,2,1],[3,1,0,2],[3,1,2,0],[3,2,0,1],[3,2,1,0]]
theorem ZfW {p:List Int} (hp:p.length=4) (h:Z11 p=true):p ∈ p24:=by
 have hr:=Z2e h
 match p,hp with
 | [a,b,c,d],_ =>
  have ha:=hr a (by simp)
  have hb:=hr b (by simp)
  have hc:=hr c (by simp)
  have hd:=hr d (by simp)
  have:=Zkx (Q:=fun a b c d=>!Z11 [(a:Int),(b:Int),(c:Int),(d:Int)] || p24.contains [(a:Int),(b:Int),(c:Int),(d:Int)]) (by kernel_rfl)
   (a:=a.toNat) (b:=b.toNat) (c:=c.toNat) (d:=d.toNat) qO qO qO qO
  have ea:((a.toNat:Nat):Int)=a:=by omega
  have eb:((b.toNat:Nat):Int)=b:=by omega
  have ec:((c.toNat:Nat):Int)=c:=by omega
  have ed:((d.toNat:Nat):Int)=d:=by omega
  rw [ea,eb,ec,ed,h] at this
  simpa using this
theorem Zf6 {Q:List Int->Bool} (h:p24.all Q=true) {p:List Int} (hp:p ∈ p24):Q p=true:=List.all_eq_true.1 h p hp
theorem ZkH {p:List Int} (hp:p ∈ p24):Z11 p=true:=Zf6 (Q:=Z11) (by kernel_rfl) hp
theorem Zg4 {p:List Int} (hp:p ∈ p24):p.length=4:=by simpa using Zf6 (Q:=fun p=>p.length == 4) (by kernel_rfl) hp
theorem inv24 {p:List Int} (hp:p ∈ p24):inv p ∈ p24:=by simpa using Zf6 (Q:=fun p=>p24.contains (inv p)) (by kernel_rfl) hp
theorem Zjo {p:List Int} (hp:p ∈ p24):ZlT (inv p) p=[0,1,2,3]:=by simpa using Zf6 (Q:=fun p=>ZlT (inv p) p == [0,1,2,3]) (by kernel_rfl) hp
theorem Z9x {p:List Int} (hp:p ∈ p24) {i:Nat} (hi:i<4):0<=p.getD i 0/\p.getD i 0<4:=by
 have:=Zf6 (Q:=fun p=>(List.range 4).all fun i=>decide (0<=p.getD i 0) && decide (p.getD i 0<4)) (by kernel_rfl) hp
 rw [List.all_eq_true] at this
 simpa using this i (by simpa using hi)
theorem ZlS {p q:List Int} (hq:q.length=4) {i:Nat} (hi:i<4):(ZlT p q).getD i 0=p.getD (q.getD i 0).toNat 0:=by
 simp only [ZlT,List.getD_eq_getElem?_getD,List.getElem?_map]
 rw [List.getElem?_eq_getElem (by omega:i<q.length)]
 simp
theorem Z3D {Gl:List Int} {n t f:Nat} (h:Z0l Gl n t f=true) (ht:¬ Z0A (Z05 Gl t f)<0) :
 Z0A (Z05 Gl t f)<n/\Z11 (Z0s (Z05 Gl t f))=true /\ ¬ (Z0A (Z05 Gl t f)=t/\(Z0s (Z05 Gl t f)).getD f 0=f) ∧
  Z05 Gl (Z0A (Z05 Gl t f)).toNat ((Z0s (Z05 Gl t f)).getD f 0).toNat=(t:Int)::inv (Z0s (Z05 Gl t f)):=by
 unfold Z0l at h
 have h0:Z05 Gl t f ≠ Z6o:=fun e=>ht (by rw [e]; decide)
 simp only [h0,decide_false,Bool.false_or,Bool.and_eq_true,decide_eq_true_eq,Bool.not_eq_true'] at h
 obtain ⟨⟨⟨⟨h1,h2⟩,h3⟩,h4⟩,h5⟩:=h
 refine ⟨h2,h3,fun ⟨a,b⟩=>?_,h5⟩
 rw [decide_eq_true a,decide_eq_true b] at h4
 cases h4
theorem Z5i {Gl:List Int} {n t f:Nat} (h:Z15 Gl n=true) (ht:t<n) (hf:f<4):Z0l Gl n t f=true:=by
 have:=(Z56 Gl n).1 h (4*t+f) qO
 have e1:(4*t+f) / 4=t:=by omega
 have e2:(4*t+f) % 4=f:=by omega
 rwa [e1,e2] at this
def Zce (c0:Nat) (h:FH) (c:Nat) (v:Value) (sz n:Nat) (L:List Int):Prop :=
 L.length=n*sz/\n<=9223372036854775807/\((v = .slice none 0 0/\n=0) ∨
  ∃ i,v = .slice (some ⟨i,0,none⟩) n n/\256*c0<=i/\i<256*c/\h.f i=some (.cells false (some sz) (ints L)))
theorem Zce.nil (c0:Nat) (h:FH) (c sz:Nat):Zce c0 h c (.slice none 0 0) sz 0 []:=⟨by simp,by omega,.inl ⟨rfl,rfl⟩⟩
theorem Zce.flat {c0:Nat} {h:FH} {c:Nat} {v:Value} {sz n:Nat} {L:List Int} (ha:Zce c0 h c v sz n L):Z09 v=true/\v.cells = #[v]:=by
 obtain ⟨_,_,⟨rfl,_⟩ | ⟨i,rfl,_⟩⟩:=ha <;> exact ⟨rfl,rfl⟩
theorem Zce.sl {c0:Nat} {h:FH} {c:Nat} {v:Value} {sz n:Nat} {L:List Int} (ha:Zce c0 h c v sz n L):SlI h c v sz n L:=by
 obtain ⟨h1,h2,⟨rfl,rfl⟩ | ⟨i,rfl,h3,h4,h5⟩⟩:=ha
 · exact ⟨h1,h2,none,0,rfl,.inl ⟨rfl,OkV.sl0 _ _ _⟩⟩
 · refine ⟨h1,h2,some ⟨i,0,none⟩,n,rfl,.inr ⟨i,0,ints L,rfl,h4,⟨false,some sz,h5⟩, ?_⟩⟩
   rw [List.drop_zero,List.take_of_length_le (by simp [h1])]
theorem Zce.mono {c0:Nat} {h:FH} {c c':Nat} {v:Value} {sz n:Nat} {L:List Int} (hc:c<=c') (ha:Zce c0 h c v sz n L):Zce c0 h c' v sz n L:=by
 obtain ⟨h1,h2,h3 | ⟨i,rfl,h3,h4,h5⟩⟩:=ha
 · exact ⟨h1,h2,.inl h3⟩
 · exact ⟨h1,h2,.inr ⟨i,rfl,h3,by omega,h5⟩⟩
theorem Zce.keep {c0:Nat} {h h':FH} {c:Nat} {v:Value} {sz n:Nat} {L:List Int} (hh:∀ i,256*c0<=i->i<256*c->h'.f i=h.f i) (ha:Zce c0 h c v sz n L):Zce c0 h' c v sz n L:=by
 obtain ⟨h1,h2,h3 | ⟨i,rfl,h3,h4,h5⟩⟩:=ha
 · exact ⟨h1,h2,.inl h3⟩
 · exact ⟨h1,h2,.inr ⟨i,rfl,h3,h4,by rw [hh i h3 h4,h5]⟩⟩
theorem Zce.app {c0:Nat} {h:FH} {c c':Nat} {v:Value} {sz n:Nat} {L:List Int} (ha:Zce c0 h c v sz n L) (X:List Int) (hX:X.length=sz) (hsz:0<sz) (by' b id:Nat) (hb:256*c<=b) (hid:256*c<=id) (hne:b ≠ id) (hc0:c0<=c)
 (hid':id<256*c') (hlim:(n+1)*(by'+1)<=17592186044416) :
 ∃ v' h',Z6X (newB h b (ints X)) id sz by' v (.slice (some ⟨b,0,none⟩) 1 1)=some (v',h')/\Zce c0 h' c' v' sz (n+1) (L++X)/\Z0p c0 h h'/\v' = .slice (some ⟨id,0,none⟩) (n+1) (n+1):=by
 obtain ⟨h1,h2,h3⟩:=ha
 have hlim':Nat.ble ((n+1)*(by'+1)) 17592186044416=true:=Nat.ble_eq_true_of_le hlim
 have hsrc:Z0F (newB h b (ints X)) sz (.slice (some ⟨b,0,none⟩) 1 1)=some (ints X,1):=by
  have:Nat.ble (0+1*sz) (ints X).length=true:=Nat.ble_eq_true_of_le (by simp [hX])
  simp only [Z0F,Z0T,Z0m,get_newB_same,Option.bind_some,this,cond_true,List.drop_zero]
  rw [List.take_of_length_le (by simp [hX])]
 have hn1:n+1<=17592186044416:=by
  have:(n+1)*1<=(n+1)*(by'+1):=Nat.mul_le_mul_left _ qO
  omega
 have hcap:Nat.ble (n+1) n=false:=by rw [Bool.eq_false_iff]; intro hh; have:=Nat.le_of_ble_eq_true hh; omega
 rcases h3 with ⟨rfl,rfl⟩ | ⟨i,rfl,h3,h4,h5⟩
 · have hL:L=[]:=List.eq_nil_of_length_eq_zero (by simpa using h1)
   subst hL
   refine ⟨_,HeapC.set (newB h b (ints X)) id (.cells false (some sz) (ints X)), ?_,⟨by simp [hX],by omega,.inr ⟨id,rfl,by omega,hid', ?_⟩⟩, ?_,rfl⟩
   · simp only [Z6X,hsrc,Option.bind_some,appTo,hcap,cond_false,Z2a,hlim',Z1s,Bool.and_self,cond_true,Nat.beq_refl,Nat.zero_add]
   · rw [Z0g,if_pos rfl]; rfl
   · intro j hj
     rw [Z0g,if_neg qO,Z01,if_neg qO]
 · have hbi:i ≠ b:=by omega
   have hg:HeapC.get (newB h b (ints X)) i=some (.cells false (some sz) (ints L)):=by rw [get_newB_ne _ _ _ _ hbi]; exact h5
   have hr:Nat.ble (0+n*sz) (ints L).length=true:=Nat.ble_eq_true_of_le (by simp [h1])
   refine ⟨_,HeapC.set (HeapC.set (newB h b (ints X)) i .dead) id (.cells false (some sz) (((ints L).drop 0).take (n*sz)++ints X)), ?_,⟨?_,by omega,.inr ⟨id,rfl,by omega,hid', ?_⟩⟩, ?_,rfl⟩
   · simp only [Z6X,hsrc,Option.bind_some,appTo,hcap,cond_false,Z2a,hlim',Z1s,Bool.and_self,cond_true,Z0T,Z0m,hg,hr,Nat.beq_refl,Bool.not_false,Bool.and_true]
   · simp [h1,hX,Nat.succ_mul]
   · rw [Z0g,if_pos rfl,List.drop_zero,List.take_of_length_le (by simp [h1]),Z5J]
   · intro j hj
     rw [Z0g,if_neg qO,Z0g,if_neg qO,Z01,if_neg qO]
def rowTo (F:Nat->List Int):Nat->List Int
 | 0=>[]
 | f+1=>rowTo F f++F f
end Go.Ab

namespace Go.Ab
open Go
def ordF (Ord Pm:List Int) (n:Nat):Nat->Nat->List Bool->Bool
 | 0,_,_=>true
 | k+1,i,met=>if Ord.getD i 0<0 ∨ (n:Int)<=Ord.getD i 0 then false else if met.getD (Ord.getD i 0).toNat false=true then false else
  if Z11 (Z3C Pm i)=false then false else ordF Ord Pm n k (i+1) (met.set (Ord.getD i 0).toNat true)
def Zm2 (Ord Pm:List Int) (a b n:Nat):Bool:=decide (a=n) && decide (b=n) && ordF Ord Pm n n 0 (List.replicate n false)
theorem Z8x {Ord Pm:List Int} {n:Nat}:∀ {k i:Nat} {met:List Bool},ordF Ord Pm n k i met=true -> ∀ j,i<=j->j<i+k->0<=Ord.getD j 0/\Ord.getD j 0<n/\Z11 (Z3C Pm j)=true
 | 0,i,met,h,j,h1,h2=>by omega
 | k+1,i,met,h,j,h1,h2=>by
  unfold ordF at h
  split at h
  · cases h
  split at h
  · cases h
  split at h
  · cases h
  rename_i q1 q2 q3
  by_cases hj:j=i
  · subst hj
    exact ⟨by omega,by omega,by simpa using q3⟩
  · exact Z8x h j qO qO
def backL (Ord:List Int):Nat->Nat->List Int->List Int
 | 0,_,l=>l
 | k+1,i,l=>backL Ord k (i+1) (l.set (Ord.getD i 0).toNat i)
def back (Ord:List Int) (n:Nat):List Int:=backL Ord n 0 (List.replicate n 0)
def rnF (Gl Ord Pm Bk:List Int) (i f:Nat):List Int :=
 if Z0A (Z05 Gl (Ord.getD i 0).toNat ((Z3C Pm i).getD f 0).toNat)<0 then Z6o else
  Bk.getD (Z0A (Z05 Gl (Ord.getD i 0).toNat ((Z3C Pm i).getD f 0).toNat)).toNat 0 ::
   ZlT (inv (Z3C Pm (Bk.getD (Z0A (Z05 Gl (Ord.getD i 0).toNat ((Z3C Pm i).getD f 0).toNat)).toNat 0).toNat))
    (ZlT (Z0s (Z05 Gl (Ord.getD i 0).toNat ((Z3C Pm i).getD f 0).toNat)) (Z3C Pm i))
def rnL (Gl Ord Pm Bk:List Int):Nat->List Int
 | 0=>[]
 | i+1=>rnL Gl Ord Pm Bk i++rowTo (rnF Gl Ord Pm Bk i) 4
structure RnOk (Gl Ord Pm:List Int) (n:Nat):Prop where
 gl:Gl.length=n*20
 ol:Ord.length=n
 pl:Pm.length=n*4
 ok:Z15 Gl n=true
 rng:∀ j,j<n->0<=Ord.getD j 0/\Ord.getD j 0<n/\Z11 (Z3C Pm j)=true
theorem RnOk.p24 {Gl Ord Pm:List Int} {n:Nat} (h:RnOk Gl Ord Pm n) {j:Nat} (hj:j<n):Z3C Pm j ∈ Ab.p24:=ZfW (Z9A h.pl hj) (h.rng j hj).2.2
def rnE (Gl Ord Pm:List Int) (n a b:Nat):Int:=if n<=1000/\Z15 Gl n=true then (if Zm2 Ord Pm a b n=true then 0 else 1) else 7
def rnN (Gl Ord Pm:List Int) (n a b:Nat):Nat:=if n<=1000/\Z15 Gl n=true/\Zm2 Ord Pm a b n=true then n else 0
def rnR (Gl Ord Pm:List Int) (n a b:Nat):List Int:=if n<=1000/\Z15 Gl n=true/\Zm2 Ord Pm a b n=true then rnL Gl Ord Pm (back Ord n) n else []
theorem ZhQ {Ord Pm:List Int} {a b n:Nat}:Zm2 Ord Pm a b n=true ↔ a=n/\b=n/\ordF Ord Pm n n 0 (List.replicate n false)=true:=by
 simp [Zm2,and_assoc]
theorem RnOk.of {Gl Ord Pm:List Int} {n a b:Nat} (hG:Gl.length=n*20) (hO:Ord.length=a) (hP:Pm.length=b*4) (h2:Z15 Gl n=true) (h3:Zm2 Ord Pm a b n=true):RnOk Gl Ord Pm n:=by
 obtain ⟨rfl,rfl,h4⟩:=ZhQ.1 h3
 exact ⟨hG,hO,hP,h2,fun j hj=>Z8x h4 j qO qO⟩
@[simp] theorem st1_agg (h:FH) (i o:Nat) (cs:List Value) (v:Value) (ho:o<cs.length) (hv:Z09 v=true):stN (newB h i cs) 1 (.pointer (some ⟨i,o,none⟩)) (.agg #[v])=some (newB h i (cs.set o v)):=by
 rw [Z0j h 1 i o cs (.agg #[v]) rfl qO (by simp [Value.cells,hv])]
 show some (newB h i (Z0L cs o [v]))=_
 rw [Z3S cs o _ ho]
@[simp] theorem st1_sl (h:FH) (i o:Nat) (cs:List Value) (a:Option Addr) (n k:Nat) (ho:o<cs.length):stN (newB h i cs) 1 (.pointer (some ⟨i,o,none⟩)) (.slice a n k)=some (newB h i (cs.set o (.slice a n k))):=by
 rw [Z0j h 1 i o cs (.slice a n k) rfl qO rfl]
 show some (newB h i (Z0L cs o [.slice a n k]))=_
 rw [Z3S cs o _ ho]
theorem Z1k {h:FH} {b:Nat} {cs:List Value} {v:Value} (hg:Z0i h b (v::cs)):ldN h 1 (.pointer (some ⟨b,0,none⟩))=some (.agg #[v]):=by
 rw [ldN_holds hg (by simp)]; simp
def Zky (h:FH) (c:Nat) (Gl Ord Pm:List Int) (n a b:Nat) (r:Rt FH):Prop :=
 r.e = .ret/\r.df=[]/\c<=r.c/\Z0p c h r.h /\ ∃ v,r.vs=[.tuple #[.agg #[v],.int .i64 (rnE Gl Ord Pm n a b)]]/\SlI r.h r.c v 20 (rnN Gl Ord Pm n a b) (rnR Gl Ord Pm n a b)/\(0<rnN Gl Ord Pm n a b->256*c<=Z0x v)
theorem Zky.callF {o:Orc FH} {g:FuncId} {args:List Value} {h:FH} {c:Nat} {Gl Ord Pm:List Int} {n a b:Nat} (e:Ans (o (.fn g) args h c []) (Zky h c Gl Ord Pm n a b)) :
 ∃ v h' c',callF o g args h c=some (.tuple #[.agg #[v],.int .i64 (rnE Gl Ord Pm n a b)],h',c')/\c<=c'/\Z0p c h h'/\SlI h' c' v 20 (rnN Gl Ord Pm n a b) (rnR Gl Ord Pm n a b)/\(0<rnN Gl Ord Pm n a b->256*c<=Z0x v):=by
 obtain ⟨r,e1,r1,r2,r3,r4,v,r5,r6,r7⟩:=e
 refine ⟨v,r.h,r.c, ?_,r3,r4,r6,r7⟩
 simp only [Ab.callF,e1,Option.bind_some,r5]
end Go.Ab

namespace Go.Ab
open Go Go.ChangeShapes Go.RowKit
section post
variable {H:Type} {enc:TypeId × Value->H} {P:Program}
theorem Z8r:∀ {ts:List TypeId} {w:World} {vs:List Value} {ds:List (DataW H)} {ps:List MemPlace},DataW.TrodAll enc P w 0 (fun _=>true) true ts vs ds ps -> ∀ x ∈ ps,x.block<w.heap.size
 | [],w,vs,ds,ps,h,x,hx=>by
  obtain ⟨_,_,rfl⟩:=trodAll_nil h
  cases hx
 | t::ts,w,vs,ds,ps,h,x,hx=>by
  obtain ⟨v,vs',d,ds',p,q,rfl,rfl,rfl,h1,h2⟩:=trodAll_cons h
  rcases List.mem_append.1 hx with hx | hx
  · obtain ⟨n,h1⟩:=h1
    exact DataW.trod_lt n _ _ _ h1 x hx
  · exact Z8r h2 x hx
theorem Z5Q (hl:laidOutB P=true):∀ {ts:List TypeId} {w w':World} {sp:Nat->Bool} {vs:List Value} {ds:List (DataW H)} {ps:List MemPlace},(∀ t ∈ ts,P.readableRec t=true/\t<P.types.size) →
 DataW.TrodAll enc P w 0 (fun _=>true) true ts vs ds ps->(∀ p ∈ ps,w.sameAt w' p)->(∀ p ∈ ps,sp p.block=true)->DataW.TrodAll enc P w' 0 sp true ts vs ds ps
 | [],w,w',sp,vs,ds,ps,_,h,_,_=>by
  obtain ⟨rfl,rfl,rfl⟩:=trodAll_nil h
  exact rfl
 | t::ts,w,w',sp,vs,ds,ps,hr,h,h1,h2=>by
  obtain ⟨v,vs',d,ds',p,q,rfl,rfl,rfl,g1,g2⟩:=trodAll_cons h
  refine ⟨p,q, ?_, ?_,rfl⟩
  · exact WideElems.Trod_stays hl (hr t (by simp)).1 (hr t (by simp)).2 g1 (fun x hx=>h1 x (List.mem_append.2 (.inl hx))) (fun x hx=>h2 x (List.mem_append.2 (.inl hx)))
  · exact Z5Q hl (fun u hu=>hr u (by simp [hu])) g2 (fun x hx=>h1 x (List.mem_append.2 (.inr hx))) (fun x hx=>h2 x (List.mem_append.2 (.inr hx)))
theorem ZhM (hl:laidOutB P=true) {f:Func} {s:ChangeSpec} {apart fresh handsOn again:Bool} {W W':World} {args:Array Value} {ds gs:List (DataW H)} {before:List MemPlace} {tb:TypeId}
 (hts:∀ t ∈ f.params.toList,P.readableRec t=true/\t<P.types.size) (hvars:s.vars=[]) (hres:(s.fn H (ds++gs)).results=[.lit (.bool true)]) (hargs:(s.fn H (ds++gs)).args=ds) (hvs:(s.fn H (ds++gs)).vars=[])
 (hrt:f.resultTypes = #[tb]) (htb:P.underlying tb=some .bool) (hW:DataW.Whole enc P f.params.toList s.vars apart W args.toList ds gs before) (hB:Below W.heap.size W W') :
 s.post enc P f apart fresh handsOn again W args (.bool true) W':=by
 have hW0:=hW
 obtain ⟨p,q,hA,hV,rfl,hfz,hnd⟩:=hW
 rw [hvars] at hV
 have hgq:gs=[]/\q=[]:=by
  cases gs with
  | nil=>exact ⟨rfl,hV⟩
  | cons g gs=>exact hV.elim
 obtain ⟨rfl,rfl⟩:=hgq
 have hlt:=Z8r hA
 have hrl:Value.resultList f.resultTypes.size (.bool true)=[.bool true]:=by rw [hrt]; rfl
 have hR:∀ (b:Nat) (sp:Nat->Bool) (hd:Bool),DataW.TrodAll enc P W' b sp hd f.resultTypes.toList (Value.resultList f.resultTypes.size (.bool true)) (s.fn H (ds++[])).results []:=by
  intro b sp hd
  rw [hrl,hres,hrt]
  exact ⟨[],[],shut_bool htb true,rfl,rfl⟩
 have hS:∀ sp:Nat->Bool,(∀ x ∈ p,sp x.block=true)->DataW.TrodAll enc P W' 0 sp true f.params.toList args.toList (s.fn H (ds++[])).args p:=by
  intro sp hsp
  rw [hargs]
  exact Z5Q hl hts hA (fun x hx=>hB.same (hlt x hx)) hsp
 have hV':∀ sp:Nat->Bool,DataW.TrodVars enc P W' sp s.vars (s.fn H (ds++[])).vars []:=by
  intro sp; rw [hvars,hvs]; exact rfl
 have hfz':W'.noneFrozen (p++[]):=by
  intro b off hp
  have h1:=hfz b off hp
  have h2:W'.heap[b]? = W.heap[b]?:=hB.block b (hlt (.cell b off) (by simpa using hp))
  unfold World.frozen? at h1 ⊢
  simp only at h1 ⊢
  rw [h2]; exact h1
 have hok:∀ (j:Nat) (t:TypeId) (r:Value),f.resultTypes[j]? = some t->(Value.resultList f.resultTypes.size (.bool true))[j]? = some r->Value.okWide P W' .any 0 t r :=
  ok_one hrt rfl (by simp [Value.okWide,htb,Cell.okWide,Cell.ok])
 refine ⟨ds,[],p++[],[],p,[],hW0,hR _ _ _,hS _ (fun x hx=>by simpa using hlt x hx),hV' _, ?_,fun _=>?_⟩
 · refine ⟨hB.os,hB.output,fun i hi=>?_⟩
   rw [hB.block i hi]
   split
   · rename_i h1 h2
     rw [h1] at h2
     cases h2
     exact ⟨rfl,rfl,rfl,fun _ _=>rfl⟩
   · rename_i h1 h2
     rw [h1] at h2
     cases h2
     exact .inr ⟨rfl,rfl⟩
   · rfl
 · refine ⟨hok,_,_,([]++p)++[],⟨[]++p,[],trodAll_append (hS (fun _=>true) (fun _ _=>rfl)) (hR _ _ _),hV' _,rfl, ?_, ?_⟩, ?_⟩
   · intro b off hp
     exact hfz' b off (by simpa using hp)
   · intro ha
     have:=hnd ha
     simpa using this
   · intro x hx _
     simpa using hx
end post
def Z5M (W:World) (v:Value) (sz n:Nat) (Gl:List Int):Prop :=
 Gl.length=n*sz/\n<=9223372036854775807/\((v = .slice none 0 0/\n=0) ∨
  ∃ b o cap C E fr,v = .slice (some ⟨b,o,none⟩) n cap/\n<=cap/\W.heap[b]? = some (.cells C E fr) /\ ∀ j,j<Gl.length->C[o+j]? = some (.int .i64 (Gl.getD j 0)))
def Zhp (i:Nat) (v:Value):Value :=
 match v with
 | .slice (some _) n cap=>.slice (some ⟨i,0,none⟩) n cap
 | v=>v
def Zk4 (v:Value):Option ME :=
 match v with
 | .slice (some a) _ _=>some ⟨a.block,a.off,none⟩
 | _=>none
theorem Z5M.vr {W:World} {v:Value} {sz n:Nat} {Gl:List Int} (h:Z5M W v sz n Gl) {μ:Mu} {i:Nat} (hm:∀ m,Zk4 v=some m->μ i=some m):VR μ (Zhp i v) v:=by
 obtain ⟨h1,h2,⟨rfl,_⟩ | ⟨b,o,cap,C,E,fr,rfl,_,_,_⟩⟩:=h
 · exact .sl0 0 0
 · have:=hm ⟨b,o,none⟩ rfl
   exact VR.sl (i:=i) (o:=0) this (Nat.le_refl _) (.inl rfl)
theorem Z5M.sl {W:World} {v:Value} {sz n:Nat} {Gl:List Int} (h:Z5M W v sz n Gl) {A:FH} {i c:Nat} (hi:i<256*c) (ha:∀ m,Zk4 v=some m->A.f i=some (.cells true none (ints Gl))):SlI A c (Zhp i v) sz n Gl:=by
 obtain ⟨h1,h2,⟨rfl,rfl⟩ | ⟨b,o,cap,C,E,fr,rfl,_,_,_⟩⟩:=h
 · exact ⟨h1,h2,none,0,rfl,.inl ⟨rfl,OkV.sl0 _ _ _⟩⟩
 · refine ⟨h1,h2,some ⟨i,0,none⟩,cap,rfl,.inr ⟨i,0,ints Gl,rfl,hi,⟨true,none,ha _ rfl⟩, ?_⟩⟩
   rw [List.drop_zero,List.take_of_length_le (by simp [h1])]
theorem Z5M.blk {W:World} {v:Value} {sz n:Nat} {Gl:List Int} (h:Z5M W v sz n Gl) {μ:Mu} {m:ME} (hm:Zk4 v=some m):Z6g μ m W.heap (some (.cells true none (ints Gl)))/\m.b<W.heap.size:=by
 obtain ⟨h1,h2,⟨rfl,rfl⟩ | ⟨b,o,cap,C,E,fr,rfl,_,h3,h4⟩⟩:=h
 · cases hm
 · cases hm
   refine ⟨⟨C,E,fr,h3,fun k x hx=>?_,(fun h=>by cases h),rfl⟩,(Array.getElem?_eq_some_iff.1 h3).1⟩
   have hk:k<Gl.length:=by have:=(List.getElem?_eq_some_iff.1 hx).1; simpa using this
   rw [ints_getD _ _ hk] at hx
   cases hx
   exact ⟨_,h4 k hk,.int _ _⟩
def Z4X (P:Program) (e:TypeId) (sz:Nat):Prop :=
 P.cellsOf e=sz /\ ∀ (H:Type) (enc:TypeId × Value->H) (w:World) (base:Nat) (spare:Nat->Bool) (held:Bool) (fuel:Nat) (cs:List Value) (x:DataW H × List MemPlace),
  DataW.trod enc P w base spare held fuel e cs=some x->cs.length=sz /\ ∀ v ∈ cs,∃ n,v = .int .i64 n
section flat
variable {P:Program}
theorem Z4X.int {e:TypeId} (he:P.underlying e=some (.int .i64)) (hc:P.cellsOf e=1):Z4X P e 1:=by
 refine ⟨hc,fun H enc w base spare held fuel cs x h=>?_⟩
 obtain ⟨n,rfl,_,_⟩:=DataW.trod_int he h
 exact ⟨rfl,fun v hv=>⟨n,by simpa using hv⟩⟩
theorem Zcx {α β:Type} {f:α->Option β}:∀ {l:List α} {r:List β},l.mapM f=some r -> ∀ a ∈ l,∃ b,f a=some b
 | [],r,h,a,ha=>by cases ha
 | x::l,r,h,a,ha=>by
  rw [List.mapM_cons] at h
  simp only [Option.bind_eq_bind,Option.bind_eq_some_iff] at h
  obtain ⟨y,hy,ys,hys,_⟩:=h
  rcases List.mem_cons.1 ha with rfl | ha
  · exact ⟨y,hy⟩
  · exact Zcx hys a ha
theorem Z4X.array {t e:TypeId} {n z:Nat} (ht:P.underlying t=some (.array n e)) (hf:Z4X P e z) (hc:P.cellsOf t=n*z):Z4X P t (n*z):=by
 refine ⟨hc,fun H enc w base spare held fuel cs x h=>?_⟩
 cases fuel with
 | zero=>simp [DataW.trod] at h
 | succ fuel =>
  have h':(if cs.length=P.cellsOf t then ((List.range n).mapM fun i=>DataW.trod enc P w base spare held fuel e ((cs.drop (i*P.cellsOf e)).take (P.cellsOf e))).map fun xs=>((.agg (xs.map (·.1)),xs.flatMap (·.2)):DataW H × List MemPlace) else none)=some x:=by
   have h1:=h
   unfold DataW.trod at h1
   rw [ht] at h1
   split at h1 <;> first | exact h1 | (rename_i e1 _; cases e1) | (rename_i e1 _ _; cases e1) | (rename_i e1; cases e1) | skip
   all_goals first | exact h1 | (simp_all; done) | skip
  split at h'
  · rename_i hl
    rw [hc] at hl
    refine ⟨hl,fun v hv=>?_⟩
    cases hm:(List.range n).mapM fun i=>DataW.trod enc P w base spare held fuel e ((cs.drop (i*P.cellsOf e)).take (P.cellsOf e)) with
    | none=>rw [hm] at h'; cases h'
    | some ys =>
     obtain ⟨j,hj⟩:=List.getElem?_of_mem hv
     have hjl:j<n*z:=by have:=(List.getElem?_eq_some_iff.1 hj).1; omega
     have hz:0<z:=by
      rcases Nat.eq_zero_or_pos z with e | e
      · rw [e] at hjl; simp at hjl
      · exact e
     have hi:j / z<n:=by rw [Nat.div_lt_iff_lt_mul hz]; exact hjl
     obtain ⟨y,hy⟩:=Zcx hm (j / z) (by simpa using hi)
     rw [hf.1] at hy
     refine (hf.2 _ _ _ _ _ _ _ _ _ hy).2 v ?_
     refine List.mem_of_getElem? (i:=j % z) ?_
     rw [List.getElem?_take_of_lt (Nat.mod_lt _ hz),List.getElem?_drop,Nat.mul_comm,Nat.div_add_mod]
     exact hj
  · cases h'
theorem Z4X.struct2 {t:TypeId} {f0 f1:Field} {z0 z1:Nat} (ht:P.underlying t=some (.struct #[f0,f1])) (h0:Z4X P f0.type z0) (h1:Z4X P f1.type z1) (o0:f0.offset=0) (o1:f1.offset=z0) (hc:P.cellsOf t=z0+z1):Z4X P t (z0+z1):=by
 refine ⟨hc,fun H enc w base spare held fuel cs x h=>?_⟩
 obtain ⟨xs,n,rfl,_,hl,hxl,hf⟩:=DataW.trod_struct ht h
 rw [hc] at hl
 refine ⟨hl,fun v hv=>?_⟩
 have g0:=hf 0 f0 rfl
 have g1:=hf 1 f1 rfl
 have l2:xs.length=2:=hxl
 rw [List.getElem?_eq_getElem qO] at g0 g1
 rw [h0.1,o0,List.drop_zero] at g0
 rw [h1.1,o1] at g1
 obtain ⟨j,hj⟩:=List.getElem?_of_mem hv
 have hjl:j<z0+z1:=by have:=(List.getElem?_eq_some_iff.1 hj).1; omega
 by_cases hlt:j<z0
 · refine (h0.2 _ _ _ _ _ _ _ _ _ g0).2 v (List.mem_of_getElem? (i:=j) ?_)
   rw [List.getElem?_take_of_lt hlt]; exact hj
 · refine (h1.2 _ _ _ _ _ _ _ _ _ g1).2 v (List.mem_of_getElem? (i:=j-z0) ?_)
   rw [List.getElem?_take_of_lt qO,List.getElem?_drop,show z0+(j-z0)=j by omega]
   exact hj
theorem ZfI {H:Type} {enc:TypeId × Value->H} {W:World} {base:Nat} {t e:TypeId} {sz:Nat} {v:Value} {fuel:Nat} {x:DataW H × List MemPlace} (ht:P.underlying t=some (.slice e)) (hf:Z4X P e sz) (hz:0<sz)
 (hval:Cell.okWide P W .any base t v) (hd:DataW.trod enc P W 0 (fun _=>true) true fuel t [v]=some x):∃ n Gl,Z5M W v sz n Gl:=by
 rcases DataW.trod_slice ht hd with ⟨h1,_⟩ | ⟨a,len,cap,elems,rest,n,_,h1,_,hb,hl,hm,hlen,hel,_,_⟩
 · cases h1
   exact ⟨0,[],by simp,by omega,.inl ⟨rfl,rfl⟩⟩
 · cases h1
   have hok:Cell.ok P W .any base t (.slice (some a) len cap):=by
    unfold Cell.okWide at hval
    rw [ht] at hval
    exact hval
   unfold Cell.ok at hok
   rw [ht] at hok
   obtain ⟨_,_,_,hsp,row,cells,hsh,_⟩:=hok
   obtain ⟨b,o,sp⟩:=a
   simp only at hsp
   subst hsp
   unfold World.shape? at hsh
   have hblk:∃ C E fr,W.heap[b]? = some (.cells C E fr):=by
    split at hsh
    · rename_i c el fr hh; exact ⟨c,el,fr,hh⟩
    · cases hsh
   obtain ⟨C,E,fr,hC⟩:=hblk
   have hadd:∀ o k,(⟨b,o,none⟩:Addr).add k=⟨b,o+k,none⟩:=fun o k=>by unfold Addr.add; split <;> simp_all
   have hcell:∀ j,j<len*sz -> ∃ z,C[o+j]? = some (.int .i64 z):=by
    intro j hj
    have hi:j / sz<len:=by rw [Nat.div_lt_iff_lt_mul hz]; exact hj
    have h2:=hel (j / sz) hi
    rw [List.getElem?_eq_getElem qO] at h2
    simp only [Option.bind_eq_some_iff] at h2
    obtain ⟨cs,hcs,htr⟩:=h2
    rw [hf.1] at hcs
    obtain ⟨_,hcl,hcg⟩:=World.cells?_some hcs
    have h3:=hcg (j % sz) (Nat.mod_lt _ hz)
    have hfl:=hf.2 _ _ _ _ _ _ _ _ _ htr
    have hjm:j % sz<cs.length:=by rw [hcl]; exact Nat.mod_lt _ hz
    rw [List.getElem?_eq_getElem hjm] at h3
    obtain ⟨z,hz'⟩:=hfl.2 cs[j % sz] (List.getElem_mem hjm)
    rw [hz',hadd] at h3
    have:(⟨b,o+j / sz*sz,none⟩:Addr).add (j % sz)=⟨b,o+j,none⟩:=by
     rw [hadd]
     have:=Nat.div_add_mod j sz
     rw [Nat.mul_comm] at this
     congr 1; omega
    rw [this] at h3
    refine ⟨z, ?_⟩
    simpa [World.cell?,hC] using h3
   refine ⟨len,(List.range (len*sz)).map fun j=>(match C[o+j]? with | some (.int .i64 z)=>z | _=>0),by simp, ?_,.inr ⟨b,o,cap,C,E,fr,rfl,hl,hC,fun j hj=>?_⟩⟩
   · unfold maxLen at hm
     have:cap<=9223372036854775807:=by simp at hm; omega
     omega
   · have hj':j<len*sz:=by simpa using hj
     obtain ⟨z,hz'⟩:=hcell j hj'
     rw [hz']
     congr 2
     simp [List.getD,hj',hz']
end flat
end Go.Ab

namespace Go.Ab
open Go
def Zk3:Value->Option Addr
 | .slice a _ _=>a
 | _=>none
def SlX (h:FH) (s:Value) (sz n:Nat):Prop:=n<=capOf s/\Zhl h sz (Zk3 s)=true
def subS (sz lo hi:Nat):Value->Value
 | .slice (some ⟨b,o,none⟩) _ cap=>.slice (some ⟨b,o+lo*sz,none⟩) (hi-lo) (cap-lo)
 | v=>v
theorem SlX.sub {h:FH} {c:Nat} {s:Value} {sz n:Nat} {L:List Int} (hs:SlI h c s sz n L) (hx:SlX h s sz n) (k k':IntKind) (lo hi:Int) (h1:0<=lo) (h2:lo<=hi) (h3:hi<=(n:Int)) (hn:0<n) :
 slS h sz s (some (.int k lo)) (some (.int k' hi)) none=some (subS sz lo.toNat hi.toNat s):=by
 obtain ⟨g1,g2,a,cap,rfl,h4⟩:=hs
 obtain ⟨x1,x2⟩:=hx
 rcases h4 with ⟨e,hv⟩ | ⟨b,o,cs,rfl,e2,e3,e4⟩
 · omega
 · simp only [capOf,Zk3] at x1 x2
   have q0:Nat.ble cap cap=true:=Nat.ble_eq_true_of_le (Nat.le_refl _)
   have q1:(0:Int)<=hi:=by omega
   have q2:hi<=(cap:Int):=by omega
   have q3:lo<=(hi.toNat:Int):=by omega
   simp only [slS,x2,cond_true,ZjX,ZjY,q0,Option.bind_some,bnd,decide_eq_true q1,decide_eq_true q2,decide_eq_true h1,decide_eq_true q3,Bool.and_self,Option.isSome_none,Bool.false_and,cond_false,Zkc,subS]
theorem SlI.sub {h:FH} {c:Nat} {s:Value} {sz n:Nat} {L:List Int} (hs:SlI h c s sz n L) (lo hi:Nat) (h2:lo<=hi) (h3:hi<=n) (hn:0<n) :
 SlI h c (subS sz lo hi s) sz (hi-lo) ((L.drop (lo*sz)).take ((hi-lo)*sz)):=by
 obtain ⟨g1,g2,a,cap,rfl,h4⟩:=hs
 rcases h4 with ⟨e,hv⟩ | ⟨b,o,cs,rfl,e2,e3,e4⟩
 · omega
 · have hm:lo*sz+(hi-lo)*sz<=L.length:=by
    rw [g1,← Nat.add_mul]; exact Nat.mul_le_mul_right _ qO
   refine ⟨by rw [List.length_take,List.length_drop]; omega,by omega,_,_,rfl,.inr ⟨b,o+lo*sz,cs,rfl,e2,e3, ?_⟩⟩
   exact Zff e4 hm
theorem SlX.same {h h':FH} {c:Nat} {s:Value} {sz n:Nat} {L:List Int} (hs:SlI h c s sz n L) (hn:0<n) (hh:Z0p c h h') (hx:SlX h s sz n):SlX h' s sz n:=by
 obtain ⟨g1,g2,a,cap,rfl,h4⟩:=hs
 obtain ⟨x1,x2⟩:=hx
 rcases h4 with ⟨e,hv⟩ | ⟨b,o,cs,rfl,e2,e3,e4⟩
 · omega
 · refine ⟨x1, ?_⟩
   simp only [Zk3,Zhl] at x2 ⊢
   have:HeapC.get h' b=HeapC.get h b:=hh b e2
   rw [this]; exact x2
theorem Z5M.slx {W:World} {v:Value} {sz n:Nat} {Gl:List Int} (h:Z5M W v sz n Gl) {A:FH} {i:Nat} (ha:∀ m,Zk4 v=some m->A.f i=some (.cells true none (ints Gl))):SlX A (Zhp i v) sz n:=by
 obtain ⟨h1,h2,⟨rfl,rfl⟩ | ⟨b,o,cap,C,E,fr,rfl,g1,_,_⟩⟩:=h
 · exact ⟨Nat.zero_le _,rfl⟩
 · refine ⟨g1, ?_⟩
   have:HeapC.get A i=some (.cells true none (ints Gl)):=ha _ rfl
   simp only [Zhp,Zk3,Zhl,this]
def tyT:List Int:=[-1,0,1,2,0,-1,2,1,1,2,-1,0,2,1,0,-1]
def ty (i f:Int):Int:=((tyT.drop (i.toNat*4)).take 4).getD f.toNat 0
theorem Zci {i f:Int} (h1:0<=i) (h2:i<4) (h3:0<=f) (h4:f<4) (hne:i ≠ f):0<=ty i f/\ty i f<3:=by
 have:((List.range 4).all fun i=>(List.range 4).all fun f=>decide (i=f) || (decide (0<=ty (i:Nat) (f:Nat)) && decide (ty (i:Nat) (f:Nat)<3)))=true:=by decide
 rw [List.all_eq_true] at this
 have h5:=this i.toNat (by simp; omega)
 rw [List.all_eq_true] at h5
 have h6:=h5 f.toNat (by simp; omega)
 have e1:((i.toNat:Nat):Int)=i:=by omega
 have e2:((f.toNat:Nat):Int)=f:=by omega
 rw [e1,e2] at h6
 have h7:¬ i.toNat=f.toNat:=by omega
 simpa [h7] using h6
def arcV (V:List Int) (t f i:Int):Int:=gi V (7*t+i)+gi V (7*t+4+ty i f)
end Go.Ab

namespace Go.Ab
open Go
theorem ne24 {p:List Int} (hp:p ∈ p24) {i j:Nat} (hi:i<4) (hj:j<4) (hne:i ≠ j):p.getD i 0 ≠ p.getD j 0:=by
 have:=Zf6 (Q:=fun p=>(List.range 4).all fun i=>(List.range 4).all fun j=>decide (i=j) || decide (p.getD i 0 ≠ p.getD j 0)) (by kernel_rfl) hp
 rw [List.all_eq_true] at this
 have h1:=this i (by simpa using hi)
 rw [List.all_eq_true] at h1
 have h2:=h1 j (by simpa using hj)
 simpa [hne,-List.getD_eq_getElem?_getD] using h2
end Go.Ab

namespace Go.Ab
open Go
def Zb0 (c0:Nat) (h:FH) (c:Nat) (v:Value) (n:Nat) (cs:List Value):Prop :=
 cs.length=n/\n<=9223372036854775807/\cs.all Z09=true ∧
  ∃ i op,v = .slice (some ⟨i,0,none⟩) n n/\256*c0<=i/\i<256*c/\h.f i=some (.cells false op cs)/\(op=none ∨ op=some 1)
theorem Zb0.flat {c0:Nat} {h:FH} {c:Nat} {v:Value} {n:Nat} {cs:List Value} (ha:Zb0 c0 h c v n cs):Z09 v=true/\v.cells = #[v]:=by
 obtain ⟨_,_,_,i,op,rfl,_⟩:=ha; exact ⟨rfl,rfl⟩
theorem Zb0.mono {c0:Nat} {h:FH} {c c':Nat} {v:Value} {n:Nat} {cs:List Value} (hc:c<=c') (ha:Zb0 c0 h c v n cs):Zb0 c0 h c' v n cs:=by
 obtain ⟨h1,h2,h3,i,op,h4,h5,h6,h7⟩:=ha
 exact ⟨h1,h2,h3,i,op,h4,h5,by omega,h7⟩
theorem Zb0.blk {c0:Nat} {h:FH} {c:Nat} {v:Value} {n:Nat} {cs:List Value} (ha:Zb0 c0 h c v n cs):256*c0<=Z0x v/\Z0x v<256*c:=by
 obtain ⟨h1,h2,h3,i,op,rfl,h5,h6,h7⟩:=ha
 exact ⟨h5,h6⟩
theorem Zb0.keep {c0:Nat} {h h':FH} {c:Nat} {v:Value} {n:Nat} {cs:List Value} (ha:Zb0 c0 h c v n cs) (hh:h'.f (Z0x v)=h.f (Z0x v)):Zb0 c0 h' c v n cs:=by
 obtain ⟨h1,h2,h3,i,op,rfl,h5,h6,h7,h8⟩:=ha
 exact ⟨h1,h2,h3,i,op,rfl,h5,h6,hh.trans h7,h8⟩
theorem Zb0.app {c0:Nat} {h:FH} {c c':Nat} {v:Value} {n:Nat} {cs:List Value} (ha:Zb0 c0 h c v n cs) (x:Value) (hx:Z09 x=true) (by' b id:Nat) (hb:256*c<=b) (hid:256*c<=id) (hne:b ≠ id) (hc0:c0<=c)
 (hid':id<256*c') (hlim:(n+1)*(by'+1)<=17592186044416) :
 ∃ h',Z6X (newB h b [x]) id 1 by' v (.slice (some ⟨b,0,none⟩) 1 1)=some (.slice (some ⟨id,0,none⟩) (n+1) (n+1),h')/\Zb0 c0 h' c' (.slice (some ⟨id,0,none⟩) (n+1) (n+1)) (n+1) (cs++[x]) ∧
  (∀ j,j<256*c->j ≠ Z0x v->h'.f j=h.f j):=by
 obtain ⟨h1,h2,h3,i,op,rfl,h5,h6,h7,h8⟩:=ha
 have hlim':Nat.ble ((n+1)*(by'+1)) 17592186044416=true:=Nat.ble_eq_true_of_le hlim
 have hsrc:Z0F (newB h b [x]) 1 (.slice (some ⟨b,0,none⟩) 1 1)=some ([x],1):=by
  have:Nat.ble (0+1*1) [x].length=true:=rfl
  simp only [Z0F,Z0T,Z0m,get_newB_same,Option.bind_some,this,cond_true,List.drop_zero]
  rfl
 have hn1:n+1<=17592186044416:=by
  have:(n+1)*1<=(n+1)*(by'+1):=Nat.mul_le_mul_left _ qO
  omega
 have hcap:Nat.ble (n+1) n=false:=by rw [Bool.eq_false_iff]; intro hh; have:=Nat.le_of_ble_eq_true hh; omega
 have hfx:[x].all Z09=true:=by simp [hx]
 have hbi:i ≠ b:=by omega
 have hg:HeapC.get (newB h b [x]) i=some (.cells false op cs):=by rw [get_newB_ne _ _ _ _ hbi]; exact h7
 have hr:Nat.ble (0+n*1) cs.length=true:=Nat.ble_eq_true_of_le (by simp [h1])
 have ht:(cs.drop 0).take (n*1)=cs:=by rw [List.drop_zero,List.take_of_length_le qO]
 rcases h8 with rfl | rfl
 · refine ⟨HeapC.set (newB h b [x]) id (.cells false (some 1) ((cs.drop 0).take (n*1)++[x])), ?_,⟨by simp [h1],by omega,by simp only [List.all_append,h3,hfx,Bool.and_self],id,some 1,rfl,by omega,hid', ?_,.inr rfl⟩, ?_⟩
   · simp only [Z6X,hsrc,Option.bind_some,appTo,hcap,cond_false,Z2a,hlim',hfx,Bool.and_self,cond_true,Z0T,Z0m,hg,hr]
   · rw [Z0g,if_pos rfl,ht]
   · intro j hj hne'
     rw [Z0g,if_neg qO,Z01,if_neg qO]
 · refine ⟨HeapC.set (HeapC.set (newB h b [x]) i .dead) id (.cells false (some 1) ((cs.drop 0).take (n*1)++[x])), ?_,⟨by simp [h1],by omega,by simp only [List.all_append,h3,hfx,Bool.and_self],id,some 1,rfl,by omega,hid', ?_,.inr rfl⟩, ?_⟩
   · simp only [Z6X,hsrc,Option.bind_some,appTo,hcap,cond_false,Z2a,hlim',hfx,Bool.and_self,cond_true,Z0T,Z0m,hg,hr,Nat.beq_refl,Bool.not_false,Bool.and_true]
   · rw [Z0g,if_pos rfl,ht]
   · intro j hj hne'
     rw [blkOf_sl] at hne'
     rw [Z0g,if_neg qO,Z0g,if_neg hne',Z01,if_neg qO]
end Go.Ab

namespace Go.Ab
open Go
def Z3y (L:List Int) (m:Nat):Prop:=L.length=m /\ ∀ k,k<m->0<=L.getD k 0/\L.getD k 0<=k
def Z5T (L:List Int):Nat->Nat->Nat
 | 0,i=>i
 | k+1,i=>if L.getD i 0=i then i else Z5T L k (L.getD i 0).toNat
def Z06 (L:List Int) (i:Nat):Nat:=Z5T L (i+1) i
theorem Z8w {L:List Int} {m:Nat} (hd:Z3y L m):∀ {k k' i:Nat},i<m->i<k->i<k'->Z5T L k i=Z5T L k' i
 | 0,_,i,_,h,_=>by omega
 | k+1,0,i,_,_,h=>by omega
 | k+1,k'+1,i,hi,h1,h2=>by
  rw [Z5T,Z5T]
  by_cases e:L.getD i 0=i
  · rw [if_pos e,if_pos e]
  · rw [if_neg e,if_neg e]
    have:=hd.2 i hi
    exact Z8w hd qO qO qO
theorem Z0Q {L:List Int} {i:Nat} (e:L.getD i 0=i):Z06 L i=i:=by rw [Z06,Z5T,if_pos e]
theorem Z10 {L:List Int} {m i:Nat} (hd:Z3y L m) (hi:i<m) (e:¬ L.getD i 0=i):Z06 L i=Z06 L (L.getD i 0).toNat:=by
 have:=hd.2 i hi
 rw [Z06,Z5T,if_neg e,Z06]
 exact Z8w hd qO qO qO
theorem Zcr {L:List Int} {m:Nat} (hd:Z3y L m):∀ {k i:Nat},i<m->Z5T L k i<=i
 | 0,i,_=>by rw [Z5T]; omega
 | k+1,i,hi=>by
  rw [Z5T]
  split
  · omega
  · have:=hd.2 i hi
    have:=Zcr hd (k:=k) (i:=(L.getD i 0).toNat) qO
    omega
theorem Z1w {L:List Int} {m i:Nat} (hd:Z3y L m) (hi:i<m):Z06 L i<=i:=Zcr hd hi
def Z3z (L:List Int) (i j:Nat):List Int:=L.set (max (Z06 L i) (Z06 L j)) (min (Z06 L i) (Z06 L j):Nat)
theorem Z1R (l:List Int) (i j:Nat) (x:Int):(l.set i x).getD j 0=if i=j/\i<l.length then x else l.getD j 0:=by
 simp only [List.getD_eq_getElem?_getD,List.getElem?_set]
 by_cases h:i=j
 · subst h
   by_cases h2:i<l.length
   · simp [h2]
   · simp [h2]
 · simp [h]
theorem Z3y.set {L:List Int} {m i:Nat} {x:Nat} (hd:Z3y L m) (hi:i<m) (hx:x<=i):Z3y (L.set i x) m:=by
 refine ⟨by simp [hd.1],fun k hk=>?_⟩
 have hl:=hd.1
 rw [Z1R]
 split
 · rename_i h; obtain ⟨rfl,_⟩:=h; omega
 · exact hd.2 k hk
theorem Z3T {L:List Int} {m i j:Nat} (hd:Z3y L m) (hi:i<m) (hj:j<m):Z3y (Z3z L i j) m:=by
 have h1:=Z1w hd hi
 have h2:=Z1w hd hj
 exact hd.set qO qO
def Z0W (m:Nat):List Int:=(List.range m).map fun k:Nat=>(k:Int)
theorem Z7f {m k:Nat} (h:k<m):(Z0W m).getD k 0=k:=by
 simp [Z0W,List.getD_eq_getElem?_getD,h]
theorem Z0K (m:Nat):Z3y (Z0W m) m:=by
 refine ⟨by simp [Z0W],fun k hk=>?_⟩
 rw [Z7f hk]
 omega
def Z1z (L:List Int) (m:Nat):List Int:=((List.range m).filter fun k=>decide (Z06 L k=k)).map fun k:Nat=>(k:Int)
theorem Z59 (L:List Int) (i:Nat):Z1z L (i+1)=Z1z L i++(if Z06 L i=i then [(i:Int)] else []):=by
 unfold Z1z
 rw [List.range_succ,List.filter_append,List.map_append]
 congr 1
 by_cases h:Z06 L i=i <;> simp [h]
theorem Zbu (L:List Int) (m:Nat):(Z1z L m).length<=m:=by
 unfold Z1z
 rw [List.length_map]
 exact Nat.le_trans (List.length_filter_le _ _) (by simp)
theorem Zbn {L:List Int} {m:Nat} {x:Int} (h:x ∈ Z1z L m):∃ k:Nat,x=k/\k<m/\Z06 L k=k:=by
 unfold Z1z at h
 rw [List.mem_map] at h
 obtain ⟨k,h1,rfl⟩:=h
 rw [List.mem_filter] at h1
 exact ⟨k,rfl,by simpa using h1.1,by simpa using h1.2⟩
theorem Zb0.sl {c0:Nat} {h:FH} {c:Nat} {v:Value} {n:Nat} {L:List Int} (ha:Zb0 c0 h c v n (ints L)):SlI h c v 1 n L:=by
 obtain ⟨h1,h2,h3,i,op,rfl,h5,h6,h7,h8⟩:=ha
 have hl:L.length=n:=by simpa using h1
 refine ⟨by omega,h2,some ⟨i,0,none⟩,n,rfl,.inr ⟨i,0,ints L,rfl,h6,⟨false,op,h7⟩, ?_⟩⟩
 rw [List.drop_zero,List.take_of_length_le (by simp [hl])]
end Go.Ab

namespace Go.Ab
open Go
theorem Zay {L:List Int} {m:Nat} (hd:Z3y L m):∀ {k i:Nat},i<m->i<k->L.getD (Z5T L k i) 0=Z5T L k i
 | 0,i,_,h=>by omega
 | k+1,i,hi,h=>by
  rw [Z5T]
  split
  · assumption
  · have:=hd.2 i hi
    exact Zay hd qO qO
theorem Z7o {L:List Int} {m i:Nat} (hd:Z3y L m) (hi:i<m):L.getD (Z06 L i) 0=Z06 L i:=Zay hd hi qO
theorem Z1j {L:List Int} {m i:Nat} (hd:Z3y L m) (hi:i<m):Z06 L (Z06 L i)=Z06 L i:=Z0Q (Z7o hd hi)
theorem Z1C {L:List Int} {m i j:Nat} (hd:Z3y L m) (hi:i<m) (hj:j<m):∀ {k:Nat},k<m →
 Z06 (Z3z L i j) k=if Z06 L k=max (Z06 L i) (Z06 L j) then min (Z06 L i) (Z06 L j) else Z06 L k:=by
 have h1:=Z1w hd hi
 have h2:=Z1w hd hj
 have f1:=Z7o hd hi
 have f2:=Z7o hd hj
 have hd':=Z3T hd hi hj
 have hl:=hd.1
 obtain ⟨M,hM⟩:∃ M,max (Z06 L i) (Z06 L j)=M:=⟨_,rfl⟩
 obtain ⟨N,hN⟩:∃ N,min (Z06 L i) (Z06 L j)=N:=⟨_,rfl⟩
 have fM:L.getD M 0=M:=by
  rcases Nat.le_total (Z06 L i) (Z06 L j) with h | h
  · rw [show M=Z06 L j by omega]; exact f2
  · rw [show M=Z06 L i by omega]; exact f1
 have fN:L.getD N 0=N:=by
  rcases Nat.le_total (Z06 L i) (Z06 L j) with h | h
  · rw [show N=Z06 L i by omega]; exact f1
  · rw [show N=Z06 L j by omega]; exact f2
 have hg:∀ k,(Z3z L i j).getD k 0=if M=k/\M<L.length then (N:Int) else L.getD k 0:=fun k=>by
  unfold Z3z
  rw [Z1R,hM,hN]
 rw [hM,hN]
 have key:∀ (b k:Nat),k<b->k<m->Z06 (Z3z L i j) k=if Z06 L k=M then N else Z06 L k:=by
  intro b
  induction b with
  | zero=>intro k h; omega
  | succ b ih =>
   intro k hb hk
   by_cases e:k=M
   · subst e
     rw [Z0Q fM,if_pos rfl]
     have e2:=hg k
     rw [if_pos ⟨rfl,by omega⟩] at e2
     by_cases e3:N=k
     · rw [Z0Q (by rw [e2,e3])]; exact e3.symm
     · rw [Z10 hd' qO qO,e2,Int.toNat_natCast,ih N qO qO,Z0Q fN,if_neg e3]
   · have e2:=hg k
     rw [if_neg (fun q=>e q.1.symm)] at e2
     by_cases e3:L.getD k 0=k
     · rw [Z0Q (e2.trans e3),Z0Q e3,if_neg e]
     · have d:=hd.2 k hk
       rw [Z10 hd' hk (by rw [e2]; exact e3),e2,ih _ qO qO,← Z10 hd hk e3]
 intro k hk
 exact key (k+1) k qO hk
theorem Zg9 {L:List Int} {m i j:Nat} (hd:Z3y L m) (hi:i<m) (hj:j<m):Z06 (Z3z L i j) i=Z06 (Z3z L i j) j:=by
 rw [Z1C hd hi hj hi,Z1C hd hi hj hj]
 split <;> split <;> omega
theorem Zga {L:List Int} {m i j a b:Nat} (hd:Z3y L m) (hi:i<m) (hj:j<m) (ha:a<m) (hb:b<m) (e:Z06 L a=Z06 L b):Z06 (Z3z L i j) a=Z06 (Z3z L i j) b:=by
 rw [Z1C hd hi hj ha,Z1C hd hi hj hb,e]
end Go.Ab

namespace Go.Ab
open Go
def Z3w (L L':List Int) (m:Nat):Prop:=Z3y L' m /\ ∀ k,k<m->Z06 L' k=Z06 L k
theorem Z3w.refl {L:List Int} {m:Nat} (h:Z3y L m):Z3w L L m:=⟨h,fun _ _=>rfl⟩
theorem Z3w.trans {L L' L'':List Int} {m:Nat} (a:Z3w L L' m) (b:Z3w L' L'' m):Z3w L L'' m:=⟨b.1,fun k hk=>(b.2 k hk).trans (a.2 k hk)⟩
def Z6T (L:List Int) (i:Nat):List Int:=L.set i (L.getD (L.getD i 0).toNat 0)
theorem Z9O {L:List Int} {m:Nat} (hd:Z3y L m) {i:Nat} (hi:i<m) (k:Nat):(Z6T L i).getD k 0=if k=i then L.getD (L.getD i 0).toNat 0 else L.getD k 0:=by
 unfold Z6T
 rw [Z1R]
 by_cases e:k=i
 · subst e; rw [if_pos ⟨rfl,by rw [hd.1]; exact hi⟩,if_pos rfl]
 · rw [if_neg (fun q=>e q.1.symm),if_neg e]
theorem Zew {L:List Int} {m i:Nat} (hd:Z3y L m) (hi:i<m):Z3w L (Z6T L i) m:=by
 have di:=hd.2 i hi
 have dp:=hd.2 (L.getD i 0).toNat qO
 have hd':Z3y (Z6T L i) m:=by
  refine ⟨by unfold Z6T; rw [List.length_set,hd.1],fun k hk=>?_⟩
  rw [Z9O hd hi]
  by_cases e:k=i
  · rw [if_pos e]; omega
  · rw [if_neg e]; exact hd.2 k hk
 refine ⟨hd', ?_⟩
 have key:∀ (b k:Nat),k<b->k<m->Z06 (Z6T L i) k=Z06 L k:=by
  intro b
  induction b with
  | zero=>intro k h; omega
  | succ b ih =>
   intro k hb hk
   have dk:=hd.2 k hk
   have e1:=Z9O hd hi k
   by_cases e:k=i
   · subst e
     rw [if_pos rfl] at e1
     by_cases e2:L.getD k 0=k
     · rw [e2,Int.toNat_natCast,e2] at e1
       rw [Z0Q e1,Z0Q e2]
     · rw [Z10 hd hk e2]
       have hp:(L.getD k 0).toNat<k:=by omega
       by_cases e3:L.getD (L.getD k 0).toNat 0=(L.getD k 0).toNat
       · rw [Z10 hd' hk (by rw [e1,e3]; omega),e1,e3,Int.toNat_natCast,ih _ qO qO]
       · rw [Z10 hd qO e3,Z10 hd' hk (by rw [e1]; omega),e1,ih _ qO qO]
   · rw [if_neg e] at e1
     by_cases e2:L.getD k 0=k
     · rw [Z0Q (e1.trans e2),Z0Q e2]
     · rw [Z10 hd hk e2,Z10 hd' hk (by rw [e1]; exact e2),e1,ih _ qO qO]
 exact fun k hk=>key (k+1) k qO hk
theorem Zjs {L:List Int} {m i:Nat} (hd:Z3y L m) (hi:i<m) (hne:L.getD i 0 ≠ i):0<=L.getD (L.getD i 0).toNat 0/\(L.getD (L.getD i 0).toNat 0).toNat<i/\Z06 L (L.getD (L.getD i 0).toNat 0).toNat=Z06 L i:=by
 have di:=hd.2 i hi
 have dp:=hd.2 (L.getD i 0).toNat qO
 refine ⟨dp.1,by omega, ?_⟩
 rw [Z10 hd hi hne]
 by_cases e3:L.getD (L.getD i 0).toNat 0=(L.getD i 0).toNat
 · rw [e3,Int.toNat_natCast]
 · rw [Z10 hd qO e3]
theorem Z3w.join {L L':List Int} {m i j:Nat} (hd:Z3y L m) (s:Z3w L L' m) (hi:i<m) (hj:j<m):Z3w (Z3z L i j) (Z3z L' i j) m:=by
 refine ⟨Z3T s.1 hi hj,fun k hk=>?_⟩
 rw [Z1C hd hi hj hk,Z1C s.1 hi hj hk,s.2 i hi,s.2 j hj,s.2 k hk]
end Go.Ab

namespace Go.Ab
open Go
def zs (Q:List Nat):List Int:=Q.map fun k:Nat=>(k:Int)
def Zkw:List Bool->Nat
 | []=>0
 | b::l=>(if b=true then 1 else 0)+Zkw l
theorem Ze2:∀ {l:List Bool} {j:Nat},j<l.length->l.getD j false=false->Zkw (l.set j true)=Zkw l+1
 | [],j,h,_=>by simp at h
 | b::l,0,_,e=>by
  obtain rfl:b=false:=e
  show (if (true:Bool)=true then 1 else 0)+Zkw l=_
  rw [Zkw,if_pos rfl,if_neg (by simp)]; omega
 | b::l,j+1,h,e=>by
  show (if b=true then 1 else 0)+Zkw (l.set j true)=(if b=true then 1 else 0)+Zkw l+1
  rw [Ze2 (l:=l) (by simpa using h) e]; omega
theorem Zge (l:List Bool) (i j:Nat) (x:Bool):(l.set i x).getD j false=if i=j/\i<l.length then x else l.getD j false:=by
 simp only [List.getD_eq_getElem?_getD,List.getElem?_set]
 by_cases h:i=j
 · subst h
   by_cases h2:i<l.length
   · simp [h2]
   · simp [h2]
 · simp [h]
def ps (w:Nat):Nat:=w / 4*7+w % 4
structure FSt where
 X:List Int
 K:List Bool
 Q:List Nat
 m:Int
def fU (Gl:List Int) (t f:Nat):Nat:=(Z0A (Z05 Gl t f)).toNat
def fJ (Gl:List Int) (t f i:Nat):Nat:=((Z0s (Z05 Gl t f)).getD i 0).toNat
def fV (Gl:List Int) (t f i:Nat):Nat:=4*fU Gl t f+fJ Gl t f i
def fW (Gl X:List Int) (t f i:Nat):Int:=arcV X t f i-gi X (7*(fU Gl t f:Int)+4+ty (fJ Gl t f i) (fJ Gl t f f))
structure FOk (n:Nat) (s:FSt) (B:Int):Prop where
 xl:s.X.length=7*n
 kl:s.K.length=4*n
 nd:s.Q.Nodup
 qk:∀ w ∈ s.Q,w<4*n/\s.K.getD w false=true
 qc:s.Q.length<=Zkw s.K
 xb:∀ j:Nat,-B<=s.X.getD j 0/\s.X.getD j 0<=B
 mb:-B<=s.m/\s.m<=0
 qd:∀ t k:Nat,k<3->0<=s.X.getD (7*t+4+k) 0/\s.X.getD (7*t+4+k) 0<=1000000
theorem FOk.mono {n:Nat} {s:FSt} {B B':Int} (h:FOk n s B) (hb:B<=B'):FOk n s B' :=
 ⟨h.xl,h.kl,h.nd,h.qk,h.qc,fun j=>by have:=h.xb j; omega,by have:=h.mb; omega,h.qd⟩
structure FGl (Gl:List Int) (n t f i:Nat):Prop where
 u:fU Gl t f<n
 uz:Z0A (Z05 Gl t f)=(fU Gl t f:Nat)
 j:fJ Gl t f i<4
 jz:(Z0s (Z05 Gl t f)).getD i 0=(fJ Gl t f i:Nat)
 h:fJ Gl t f f<4
 hz:(Z0s (Z05 Gl t f)).getD f 0=(fJ Gl t f f:Nat)
 ne:fJ Gl t f i ≠ fJ Gl t f f
theorem FGl.of {Gl:List Int} {n t f i:Nat} (hok:Z15 Gl n=true) (hG:Gl.length=n*20) (ht:t<n) (hf:f<4) (hi:i<4) (hne:i ≠ f) (hg:¬ Z0A (Z05 Gl t f)<0):FGl Gl n t f i:=by
 obtain ⟨h1,h2,h3,h4⟩:=Z3D (Z5i hok ht hf) hg
 have hp:=ZfW (Z1D (Z0q hG ht hf)) h2
 have r1:=Z9x hp hi
 have r2:=Z9x hp hf
 have r3:=ne24 hp hi hf hne
 exact ⟨by unfold fU; omega,by unfold fU; omega,by unfold fJ; omega,by unfold fJ; omega,by unfold fJ; omega,by unfold fJ; omega,by unfold fJ; omega⟩
theorem ZjA {Gl:List Int} {n t f i:Nat} {s:FSt} {B:Int} (h:FOk n s B) (ht:t<n) (hf:f<4) (hi:i<4) (hne:i ≠ f) (g:FGl Gl n t f i):-(B+1000000)<=fW Gl s.X t f i/\fW Gl s.X t f i<=B+1000000:=by
 unfold fW arcV
 have r1:=Zci (i:=(i:Int)) (f:=(f:Int)) qO qO qO qO qO
 have r2:=Zci (i:=(fJ Gl t f i:Int)) (f:=(fJ Gl t f f:Int)) qO (by have:=g.j; omega) qO (by have:=g.h; omega) (by have:=g.ne; omega)
 have q1:=h.qd t (ty i f).toNat qO
 have q2:=h.qd (fU Gl t f) (ty (fJ Gl t f i) (fJ Gl t f f)).toNat qO
 have q3:=h.xb (7*t+i)
 unfold gi
 rw [show (7*(t:Int)+i).toNat=7*t+i by omega,show (7*(t:Int)+4+ty i f).toNat=7*t+4+(ty i f).toNat by omega,
  show (7*(fU Gl t f:Int)+4+ty (fJ Gl t f i) (fJ Gl t f f)).toNat=7*fU Gl t f+4+(ty (fJ Gl t f i) (fJ Gl t f f)).toNat by omega]
 omega
theorem FOk.push {Gl:List Int} {n t f i:Nat} {s:FSt} {B:Int} (h:FOk n s B) (hB:0<=B) (ht:t<n) (hf:f<4) (hi:i<4) (hne:i ≠ f) (g:FGl Gl n t f i) (hk:s.K.getD (fV Gl t f i) false=false) :
 FOk n ⟨s.X.set (7*fU Gl t f+fJ Gl t f i) (fW Gl s.X t f i),s.K.set (fV Gl t f i) true,s.Q++[fV Gl t f i],min s.m (fW Gl s.X t f i)⟩ (B+1000000):=by
 have hv:fV Gl t f i<4*n:=by have:=g.u; have:=g.j; unfold fV; omega
 have hw:=ZjA h ht hf hi hne g
 have hj:=g.j
 refine ⟨by simp [h.xl],by simp [h.kl], ?_,fun w hw=>?_, ?_,fun j=>?_, ?_,fun u k hk=>?_⟩
 · rw [List.nodup_append]
   refine ⟨h.nd,by simp,fun a ha b hb=>?_⟩
   rw [List.mem_singleton] at hb
   subst hb
   rintro rfl
   have:=(h.qk _ ha).2
   rw [hk] at this; cases this
 · rw [Zge]
   rcases List.mem_append.1 hw with h1 | h1
   · refine ⟨(h.qk w h1).1, ?_⟩
     split
     · rfl
     · exact (h.qk w h1).2
   · rw [List.mem_singleton] at h1
     subst h1
     exact ⟨hv,by rw [if_pos ⟨rfl,by rw [h.kl]; exact hv⟩]⟩
 · have:=h.qc
   rw [Ze2 (by rw [h.kl]; exact hv) hk]; simp; omega
 · rw [Z1R]
   have:=h.xb j
   split <;> omega
 · have:=h.mb
   simp only
   omega
 · rw [Z1R,if_neg qO]
   exact h.qd u k hk
end Go.Ab

namespace Go.Ab
open Go
theorem Z7B {A B:List Int} {m:Nat} (hA:A.length=m) (hB:B.length=m) (h:∀ k,k<m->A.getD k 0=B.getD k 0):A=B:=by
 refine List.ext_getElem qO fun j a b=>?_
 have:=h j qO
 simpa [List.getD_eq_getElem?_getD,List.getElem?_eq_getElem a,List.getElem?_eq_getElem b] using this
def Z1d (C:List Int) (i:Nat):Nat:=(Z1z C i).length
theorem Z7G (C:List Int) (i:Nat):Z1d C (i+1)=Z1d C i+if Z06 C i=i then 1 else 0:=by
 unfold Z1d
 rw [Z59,List.length_append]
 split <;> rfl
theorem Z2l (C:List Int) (i:Nat):Z1d C i<=i:=Zbu C i
def Zcv (C:List Int) (m:Nat):List Int:=(List.range m).map fun k=>((Z1d C (Z06 C k):Nat):Int)
theorem Z0E (C:List Int) (m:Nat):(Zcv C m).length=m:=by simp [Zcv]
theorem Z7w (C:List Int) {m k:Nat} (h:k<m):(Zcv C m).getD k 0=(Z1d C (Z06 C k):Nat):=by simp [Zcv,List.getD_eq_getElem?_getD,h]
def Z6L (C:List Int) (m i:Nat):List Int:=(List.range m).map fun k=>if k<i then ((Z1d C (Z06 C k):Nat):Int) else 0
theorem Z1y (C:List Int) (m i:Nat):(Z6L C m i).length=m:=by simp [Z6L]
theorem Z57 (C:List Int) {m k:Nat} (i:Nat) (h:k<m):(Z6L C m i).getD k 0=if k<i then ((Z1d C (Z06 C k):Nat):Int) else 0:=by simp [Z6L,List.getD_eq_getElem?_getD,h]
theorem ZfK (C:List Int) (m:Nat):Z6L C m 0=List.replicate m 0:=by
 refine Z7B (m:=m) (Z1y _ _ _) (by simp) fun k hk=>?_
 rw [Z57 C 0 hk,if_neg qO]
 simp [List.getD_eq_getElem?_getD,List.getElem?_replicate,hk]
theorem ZhU (C:List Int) (m:Nat):Z6L C m m=Zcv C m:=by
 refine Z7B (m:=m) (Z1y _ _ _) (Z0E _ _) fun k hk=>?_
 rw [Z57 C m hk,if_pos hk,Z7w C hk]
end Go.Ab

namespace Go.Ab
open Go
def jn:List (Nat × Nat)->List Int->List Int
 | [],L=>L
 | p::D,L=>jn D (Z3z L p.1 p.2)
theorem ZaG:∀ (D E:List (Nat × Nat)) (L:List Int),jn (D++E) L=jn E (jn D L)
 | [],E,L=>rfl
 | p::D,E,L=>by rw [List.cons_append,jn,jn,ZaG D E]
theorem Z4s {m:Nat}:∀ (D:List (Nat × Nat)) (L:List Int),Z3y L m->(∀ p,p ∈ D->p.1<m/\p.2<m) →
 Z3y (jn D L) m/\(∀ a b,a<m->b<m->Z06 L a=Z06 L b->Z06 (jn D L) a=Z06 (jn D L) b)/\(∀ p,p ∈ D->Z06 (jn D L) p.1=Z06 (jn D L) p.2)
 | [],L,hd,_=>⟨hd,fun a b _ _ e=>e,fun p h=>by cases h⟩
 | p::D,L,hd,hg=>by
  obtain ⟨g1,g2⟩:=hg p (by simp)
  obtain ⟨i1,i2,i3⟩:=Z4s D (Z3z L p.1 p.2) (Z3T hd g1 g2) (fun q hq=>hg q (by simp [hq]))
  refine ⟨i1,fun a b ha hb e=>i2 a b ha hb (Zga hd g1 g2 ha hb e),fun q hq=>?_⟩
  rcases List.mem_cons.1 hq with rfl | hq
  · exact i2 _ _ g1 g2 (Zg9 hd g1 g2)
  · exact i3 q hq
theorem Zdd {m:Nat} (S:Nat->Prop):∀ (D:List (Nat × Nat)) (L:List Int),Z3y L m->(∀ p,p ∈ D->p.1<m/\p.2<m/\(S p.1 ↔ S p.2))->(∀ a b,a<m->b<m->Z06 L a=Z06 L b->(S a ↔ S b)) →
 ∀ a b,a<m->b<m->Z06 (jn D L) a=Z06 (jn D L) b->(S a ↔ S b)
 | [],L,_,_,h=>h
 | p::D,L,hd,hg,h=>by
  obtain ⟨g1,g2,g3⟩:=hg p (by simp)
  refine Zdd S D (Z3z L p.1 p.2) (Z3T hd g1 g2) (fun q hq=>hg q (by simp [hq])) fun a b ha hb e=>?_
  rw [Z1C hd g1 g2 ha,Z1C hd g1 g2 hb] at e
  have ai:=h a p.1 ha g1
  have aj:=h a p.2 ha g2
  have bi:=h b p.1 hb g1
  have bj:=h b p.2 hb g2
  have ab:=h a b ha hb
  by_cases c1:Z06 L a=max (Z06 L p.1) (Z06 L p.2) <;> by_cases c2:Z06 L b=max (Z06 L p.1) (Z06 L p.2)
  · exact ab (c1.trans c2.symm)
  · rw [if_pos c1,if_neg c2] at e
    rcases Nat.le_total (Z06 L p.1) (Z06 L p.2) with q | q
    · exact (aj qO).trans (g3.symm.trans (bi qO).symm)
    · exact (ai qO).trans (g3.trans (bj qO).symm)
  · rw [if_neg c1,if_pos c2] at e
    rcases Nat.le_total (Z06 L p.1) (Z06 L p.2) with q | q
    · exact (ai qO).trans (g3.trans (bj qO).symm)
    · exact (aj qO).trans (g3.symm.trans (bi qO).symm)
  · rw [if_neg c1,if_neg c2] at e
    exact ab e
theorem Z6J {m k:Nat} (h:k<m):Z06 (Z0W m) k=k:=Z0Q (Z7f h)
theorem Z3I {m:Nat} (S:Nat->Prop) {D:List (Nat × Nat)} (hg:∀ p,p ∈ D->p.1<m/\p.2<m/\(S p.1 ↔ S p.2)) {a b:Nat} (ha:a<m) (hb:b<m) (e:Z06 (jn D (Z0W m)) a=Z06 (jn D (Z0W m)) b):S a ↔ S b :=
 Zdd S D (Z0W m) (Z0K _) hg (fun a b ha hb e=>by rw [Z6J ha,Z6J hb] at e; rw [e]) a b ha hb e
theorem Z4v {C:List Int}:∀ {m r:Nat},r<m->Z06 C r=r->(Z1z C m)[Z1d C r]? = some (r:Int)
 | 0,r,h,_=>by omega
 | m+1,r,h,e=>by
  rw [Z59]
  by_cases q:r=m
  · subst q
    rw [if_pos e,Z1d,List.getElem?_append_right (Nat.le_refl _)]
    simp
  · have ih:=Z4v (m:=m) (r:=r) qO e
    have hl:=(List.getElem?_eq_some_iff.1 ih).1
    rw [List.getElem?_append_left hl,ih]
theorem Z7I {C:List Int}:∀ {m i x:Nat},(Z1z C m)[i]? = some (x:Int)->Z1d C x=i
 | 0,i,x,h=>by simp [Z1z] at h
 | m+1,i,x,h=>by
  rw [Z59] at h
  rcases Nat.lt_or_ge i (Z1z C m).length with q | q
  · rw [List.getElem?_append_left q] at h
    exact Z7I h
  · rw [List.getElem?_append_right q] at h
    by_cases e:Z06 C m=m
    · rw [if_pos e] at h
      rcases hz:i-(Z1z C m).length with _ | z
      · rw [hz] at h
        have:(m:Int)=x:=by simpa using h
        obtain rfl:m=x:=by omega
        show (Z1z C m).length=i
        omega
      · rw [hz] at h; simp at h
    · rw [if_neg e] at h; simp at h
theorem Zbt {C:List Int} {m r:Nat} (h:r<m) (e:Z06 C r=r):Z1d C r<Z1d C m:=by
 have:=(List.getElem?_eq_some_iff.1 (Z4v h e)).1
 exact this
theorem Zjt {C:List Int} {m r s:Nat} (hr:r<m) (hs:s<m) (er:Z06 C r=r) (es:Z06 C s=s) (e:Z1d C r=Z1d C s):r=s:=by
 have h1:=Z4v hr er
 have h2:=Z4v hs es
 rw [e,h2] at h1
 have:=Option.some.inj h1
 omega
end Go.Ab

namespace Go.Proofs.Ytdodippbpdechaa
open Go Go.Ab Go.Proofs
theorem Zcw (k:IntKind) (a b:Int):Z4u max2 [.int k a,.int k b]=some (.int k (if a<b then b else a)):=by
 simp [Z4u,max2]
theorem ZhZ (k:IntKind) (a b:Int):Z4u min2 [.int k a,.int k b]=some (.int k (if b<a then b else a)):=by
 simp [Z4u,min2]
theorem Zcp {h:FH} {b:Nat} {w v:Value} (hg:h.f b=some (.cells false none [w])) (hf:Z09 v=true):stN h 1 (.pointer (some ⟨b,0,none⟩)) (.agg #[v])=some (newB h b [v]):=by
 have hg':HeapC.get h b=some (.cells false none [w]):=hg
 simp [stN,Z2m,Value.cells,Z2j,hg',hf,Z0L]
 rfl
theorem Zgo (h0:FH) (p b m c:Nat) (v2:Value) (df:List Nat) (hv:OkV c v2) (hp:p<256*c) (hb:b<256*c) (hne:p ≠ b) (hm:m<=1000000) (h1:h0.f p=some (.cells false none [.slice (some ⟨b,0,none⟩) m m])) :
 ∀ (k i:Nat) (X:List Int),i+k=m->X.length=m->(∀ j,j<i->X.getD j 0=j) →
 Ans (G (Z8O none) [v2,ptrTo p,.int .i64 m,.int .i64 i] (newB h0 b (ints X)) c df) fun r=>r=⟨.exit 0,[v2,ptrTo p,.int .i64 m,.int .i64 m],newB h0 b (ints (Z0W m)),c,df⟩:=by
 intro k
 induction k with
 | zero =>
  intro i X hi hX hf
  obtain rfl:i=m:=by omega
  have e:X=Z0W i:=by
   refine List.ext_getElem (by rw [hX]; simp [Z0W]) fun j h1 h2=>?_
   have:=hf j qO
   rw [List.getD_eq_getElem?_getD,List.getElem?_eq_getElem h1] at this
   simp only [Option.getD_some] at this
   rw [this]; simp [Z0W]
  rw [e]
  refine Ans.lpG rfl rfl (Z4A ..) ?_
  unfold Z3Z
  have fx:=True.intro
  refine Ans.go ?_
  clear fx
  (have fx:=hv; refine Ans.ex0 ?_; clear fx)
  rfl
 | succ k ih =>
  intro i X hi hX hf
  have ll:ld1 (newB h0 b (ints X)) (.pointer (some ⟨p,0,none⟩))=some (.slice (some ⟨b,0,none⟩) m m):=by
   rw [ld1_newB_ne _ _ _ _ _ hne,Z02 ⟨false,none,h1⟩]; rfl
  have hs:stN (newB h0 b (ints X)) 1 (.pointer (some ⟨b,i,none⟩)) (.int .i64 i)=some (newB h0 b (ints (X.set i i))):=by
   rw [st1_int _ _ _ _ _ _ (by simp; omega),Z2p]
  refine Ans.lpG rfl rfl (Z4A ..) ?_
  unfold Z3Z
  have fx:=ai ll hs
  refine Ans.go ?_
  clear fx
  (have fx:=ai hv (ai hp hb); refine Ans.nxB (B:=newB h0 b (ints (X.set i i))) ?_ ?_; exact (Z2n.both (Z1i.ints _ _) (Z2n.refl _ _) hb); clear fx)
  refine ih (i+1) (X.set i i) qO (by simp [hX]) (fun j hj=>?_)
  rw [Z1R]
  by_cases e:i=j
  · rw [if_pos ⟨e,by omega⟩,e]
  · rw [if_neg (fun q=>e q.1)]; exact hf j qO
theorem Z4r (m:Nat) (h:FH) (c:Nat) (df:List Nat) (hm:m<=1000000) :
 Ans (G (.fn 66) [.int .i64 m] h c df) fun r=>r=⟨.ret,[.agg #[.slice (some ⟨256*(c+1)+1,0,none⟩) m m]],r.h,c+1+1+1+1,[]⟩/\Z0p c h r.h/\r.h.f (256*(c+1)+1)=some (.cells false none (ints (Z0W m))):=by
 refine Ans.call' (fun r e=>f66_go e) ?_
 unfold ZgA
 have mk:=Z9F 1 8 .i64 .i64 m qO qO
 obtain ⟨B,hB⟩:∃ B,256*(c+1)+1=B:=⟨_,rfl⟩
 obtain ⟨Q,hQ⟩:∃ Q,256*(c+1)+3=Q:=⟨_,rfl⟩
 rw [hB,hQ]
 have hbl:Z1M [(.slice none 0 0)] [(0,1,(.slice (some ⟨B,0,none⟩) m m))]=some (.agg #[.slice (some ⟨B,0,none⟩) m m]):=rfl
 have st1:stN (newB (newB (newB h (256*c) [(.slice none 0 0)]) B (ints (List.replicate m 0))) Q [(.slice none 0 0)]) 1 (.pointer (some ⟨Q,0,none⟩)) (.agg #[.slice (some ⟨B,0,none⟩) m m])=some (newB (newB (newB h (256*c) [(.slice none 0 0)]) B (ints (List.replicate m 0))) Q [.slice (some ⟨B,0,none⟩) m m]):=by
  rw [Zcp (w:=.slice none 0 0) (by rw [Z01,if_pos rfl]) rfl,newB_newB]
 obtain ⟨h0,hh0⟩:∃ h0,h0=newB (newB h (256*c) [(.slice none 0 0)]) Q [.slice (some ⟨B,0,none⟩) m m]:=⟨_,rfl⟩
 have ec:newB (newB (newB h (256*c) [(.slice none 0 0)]) B (ints (List.replicate m 0))) Q [.slice (some ⟨B,0,none⟩) m m]=newB h0 B (ints (List.replicate m 0)):=by
  rw [hh0]
  apply FH.ext; intro j
  simp only [Z01]
  by_cases e1:j=Q <;> by_cases e2:j=B <;> simp [e1,e2] <;> omega
 rw [ec] at st1
 have hq:h0.f Q=some (.cells false none [.slice (some ⟨B,0,none⟩) m m]):=by rw [hh0,Z01,if_pos rfl]
 have hc':h0.f (256*c)=some (.cells false none [.slice none 0 0]):=by rw [hh0,Z01,if_neg qO,Z01,if_pos rfl]
 have hl:=fun v2 hv=>Ans.eq (Zgo h0 Q B m (c+1+1+1) v2 [] hv qO qO qO hm hq m 0 (List.replicate m 0) qO (by simp) (fun j hj=>by omega))
 have hl:=hl (ptrTo (256*c)) (OkV.ptrTo qO)
 simp only [Int.ofNat_eq_natCast,Int.cast_ofNat_Int] at hl
 have ll:∀ X,ld1 (newB h0 B X) (.pointer (some ⟨Q,0,none⟩))=some (.slice (some ⟨B,0,none⟩) m m):=fun X=>by rw [ld1_newB_ne _ _ _ _ _ qO,Z02 ⟨false,none,hq⟩]; rfl
 have lN:∀ X,ldN (newB h0 B X) 1 (.pointer (some ⟨Q,0,none⟩))=some (.agg #[.slice (some ⟨B,0,none⟩) m m]):=fun X=>by rw [ldN_newB_ne _ _ _ _ _ _ qO,Z1k ⟨false,none,hq⟩]
 have hfin:=Zcp (h:=newB h0 B (ints (Z0W m))) (b:=256*c) (w:=.slice none 0 0) (v:=.slice (some ⟨B,0,none⟩) m m) (by rw [Z01,if_neg qO,hc']) rfl
 obtain ⟨K,hK⟩:∃ K,newB (newB h0 B (ints (Z0W m))) (256*c) [.slice (some ⟨B,0,none⟩) m m]=K:=⟨_,rfl⟩
 rw [hK] at hfin
 have lK:ldN K 1 (.pointer (some ⟨256*c,0,none⟩))=some (.agg #[.slice (some ⟨B,0,none⟩) m m]):=Z1k ⟨false,none,by show K.f _=_; rw [← hK,Z01,if_pos rfl]⟩
 repeat' (first | ((with_reducible first | refine Ans.bz ?_ | refine Ans.r1 ?_ | refine Ans.pkT ?_ | refine Ans.pkF ?_); try dsimp only [v_zero,v_succ]) | (with_reducible first | refine Ans.btL ?_ | refine Ans.bfL ?_ | refine Ans.gyT ?_ | refine Ans.gyF ?_ | refine Ans.gyG ?_ | refine Ans.bb ?_ | refine Ans.bc ?_ | refine Ans.ba ?_) | ((with_reducible first | refine Ans.lsT ?_ ?_ | refine Ans.leT ?_ ?_ | refine Ans.grT ?_ ?_ | refine Ans.geT ?_ ?_ | refine Ans.eqT ?_ ?_ | refine Ans.neT ?_ ?_); (focus omega)) | ((with_reducible first | refine Ans.lsF ?_ ?_ | refine Ans.leF ?_ ?_ | refine Ans.grF ?_ ?_ | refine Ans.geF ?_ ?_ | refine Ans.eqF ?_ ?_ | refine Ans.neF ?_ ?_); (focus omega)) | (with_reducible first | refine Ans.lsS (fun _=>?_) (fun _=>?_) | refine Ans.leS (fun _=>?_) (fun _=>?_) | refine Ans.grS (fun _=>?_) (fun _=>?_) | refine Ans.geS (fun _=>?_) (fun _=>?_) | refine Ans.eqS (fun _=>?_) (fun _=>?_) | refine Ans.neS (fun _=>?_) (fun _=>?_)) | ((with_reducible first | refine Ans.addN ?_ ?_ | refine Ans.add ?_ ?_ | refine Ans.sub ?_ ?_ | refine Ans.mul ?_ ?_); (focus omega)) | ((with_reducible first | refine Ans.ct ?_ ?_); (focus (simp (disch:=(first | omega | with_reducible assumption | (simp <;> omega) | fail)) [mk,hbl,st1,ll,lN,hl,hfin,lK,-ldN_newB_same]; done))) | ((with_reducible first | refine Ans.cf ?_ ?_); (focus (simp (disch:=(first | omega | with_reducible assumption | (simp <;> omega) | fail)) [mk,hbl,st1,ll,lN,hl,hfin,lK,-ldN_newB_same]; done))) | (refine Ans.step (by simp (disch:=(first | omega | with_reducible assumption | (simp <;> omega) | fail)) [mk,hbl,st1,ll,lN,hl,hfin,lK,-ldN_newB_same,-List.getD_eq_getElem?_getD] <;> rfl) ?_; try dsimp only [v_zero,v_succ]) | fail)
 refine .done ⟨rfl, ?_, ?_⟩
 · intro b hb
   show K.f b=_
   rw [← hK,Z01,if_neg qO,Z01,if_neg qO,hh0,Z01,if_neg qO,Z01,if_neg qO]
 · show K.f B=_
   rw [← hK,Z01,if_neg qO,Z01,if_pos rfl]
structure Uo (h:FH) (cb o b m:Nat) (L:List Int):Prop where
 st:∃ cs,Z0i h cb cs/\cs[o]? = some (.slice (some ⟨b,0,none⟩) m m)
 up:h.f b=some (.cells false none (ints L))
 ne:cb ≠ b
 dn:Z3y L m
 le:m<=1000000
theorem Uo.ld {h:FH} {cb o b m:Nat} {L:List Int} (u:Uo h cb o b m L):ld1 h (.pointer (some ⟨cb,o,none⟩))=some (.slice (some ⟨b,0,none⟩) m m):=by
 obtain ⟨cs,h1,h2⟩:=u.st
 rw [Z02 h1,h2]
theorem Uo.rd {h:FH} {cb o b m:Nat} {L:List Int} (u:Uo h cb o b m L) {i:Nat} (hi:i<m):ld1 h (.pointer (some ⟨b,i,none⟩))=some (.int .i64 (L.getD i 0)):=by
 have:=u.dn.1
 rw [Z02 ⟨false,none,u.up⟩,ints_getD _ _ qO]
theorem Uo.keep {h h':FH} {cb o b m:Nat} {L:List Int} (u:Uo h cb o b m L) (h1:h'.f cb=h.f cb) (h2:h'.f b=h.f b):Uo h' cb o b m L:=by
 obtain ⟨⟨cs,⟨ro,op,e⟩,q⟩,a,b',d,f⟩:=u
 have e':h.f cb=some (.cells ro op cs):=e
 exact ⟨⟨cs,⟨ro,op,h1.trans e'⟩,q⟩,h2.trans a,b',d,f⟩
theorem Uo.upd {h:FH} {cb o b m:Nat} {L L':List Int} (u:Uo h cb o b m L) (hd:Z3y L' m):Uo (newB h b (ints L')) cb o b m L':=by
 obtain ⟨⟨cs,⟨ro,op,e⟩,q⟩,a,b',d,f⟩:=u
 have e':h.f cb=some (.cells ro op cs):=e
 exact ⟨⟨cs,⟨ro,op,by show (newB h b (ints L')).f cb=_; rw [Z01,if_neg b']; exact e'⟩,q⟩,by rw [Z01,if_pos rfl],b',hd,f⟩
theorem Z7y (h:FH) (b:Nat) (cs ds:List Value):newB (newB h b cs) b ds=newB h b ds:=by
 apply FH.ext; intro j
 rw [Z01,Z01,Z01]
 split <;> rfl
theorem Z8z {h:FH} {cb o b m:Nat} {L:List Int} (u:Uo h cb o b m L):newB h b (ints L)=h:=by
 apply FH.ext; intro j
 rw [Z01]
 split
 · rename_i e; rw [e,u.up]
 · rfl
theorem Zfy (cb o b m c:Nat) (h0:FH) (hcb:cb<256*c) (hb:b<256*c) (df:List Nat):∀ (k i:Nat) (L:List Int),i<k->i<m->Uo (newB h0 b (ints L)) cb o b m L →
 Ans (G (Z8N none) [.pointer (some ⟨cb,o,none⟩),.int .i64 i] (newB h0 b (ints L)) c df) fun r=>∃ L',Z3w L L' m/\r=⟨.exit 0,[.pointer (some ⟨cb,o,none⟩),.int .i64 (Z06 L i)],newB h0 b (ints L'),c,df⟩:=by
 intro k
 have op:OkV c (.pointer (some ⟨cb,o,none⟩)):=OkV.ptr hcb
 induction k with
 | zero=>intro i L h1; omega
 | succ k ih =>
  intro i L h1 hi u
  have l1:=u.ld
  have l2:=u.rd hi
  have d:=u.dn.2 i hi
  have hl:=u.dn.1
  refine Ans.lpG rfl rfl (Z63 ..) ?_
  unfold Z5l
  by_cases e:L.getD i 0=i
  · rw [Z0Q e]
    rw [e] at l2
    obtain ⟨H,hH⟩:∃ H,newB h0 b (ints L)=H:=⟨_,rfl⟩
    rw [hH] at l1 l2 ⊢
    have fx:=ai l1 l2
    refine Ans.go ?_
    clear fx
    (have fx:=op; refine Ans.ex0 ?_; clear fx)
    exact ⟨L,Z3w.refl u.dn,by rw [hH]⟩
  · have hs:=Zew u.dn hi
    have hu:=Zjs u.dn hi e
    have u':Uo (newB h0 b (ints (Z6T L i))) cb o b m (Z6T L i):=by
     have:=u.upd hs.1
     rwa [Z7y] at this
    have hk:=ih (L.getD (L.getD i 0).toNat 0).toNat (Z6T L i) qO qO u'
    have m1:=u'.ld
    have m2:=u'.rd hi
    rw [Z9O u.dn hi,if_pos rfl] at m2
    have l3:=u.rd (i:=(L.getD i 0).toNat) qO
    have hw:stN (newB h0 b (ints L)) 1 (.pointer (some ⟨b,i,none⟩)) (.int .i64 (L.getD (L.getD i 0).toNat 0))=some (newB h0 b (ints (Z6T L i))):=by
     rw [st1_int _ _ _ _ _ _ (by simp; omega),Z2p]; rfl
    rw [hs.2 _ qO,hu.2.2] at hk
    obtain ⟨y,hy⟩:∃ y:Nat,L.getD (L.getD i 0).toNat 0=y:=⟨(L.getD (L.getD i 0).toNat 0).toNat,by omega⟩
    rw [hy] at hw l3 m2 hk
    rw [Int.toNat_natCast] at hk
    obtain ⟨x,hx⟩:∃ x:Nat,L.getD i 0=x:=⟨(L.getD i 0).toNat,by omega⟩
    rw [hx] at l2 l3 d e
    rw [Int.toNat_natCast] at l3
    have e':¬ (x:Int)=i:=e
    obtain ⟨H,hH⟩:∃ H,newB h0 b (ints L)=H:=⟨_,rfl⟩
    obtain ⟨H',hH'⟩:∃ H,newB h0 b (ints (Z6T L i))=H:=⟨_,rfl⟩
    have eB:H'=HeapC.set H b (.cells false none (ints (Z6T L i))):=by
     rw [← hH',← hH]
     apply FH.ext; intro j
     rw [Z01,Z0g,Z01]
     split <;> rfl
    have up:Z2n c H H':=by rw [eB]; exact Z2n.set hb (Z1i.ints _ _) (Z2n.refl _ _)
    rw [hH] at l1 l2 l3 hw ⊢
    rw [hH'] at hw m1 m2 hk
    have fx:=ai l1 (ai l2 (ai l3 (ai hw (ai m1 m2))))
    refine Ans.go ?_
    clear fx
    (have fx:=op; refine Ans.nxB (B:=H') ?_ ?_; exact (up); clear fx)
    refine hk.mono ?_
    rintro r ⟨L',s1,rfl⟩
    exact ⟨L',hs.trans s1,rfl⟩
theorem Zb8 (h:FH) (cb o b m c:Nat) (L:List Int) (u:Uo h cb o b m L) (hcb:cb<256*c) (hb:b<256*c) (i:Nat) (hi:i<m) (df:List Nat) :
 ∃ L',Z3w L L' m/\G (.fn 68) [.pointer (some ⟨cb,o,none⟩),.int .i64 i] h c df=some ⟨.ret,[.int .i64 (Z06 L i)],newB h b (ints L'),c,[]⟩:=by
 have u':Uo (newB h b (ints L)) cb o b m L:=u.upd u.dn
 obtain ⟨r,hr,L',s1,rfl⟩:=Zfy cb o b m (c+1) h qO qO [] (i+1) i L qO hi u'
 rw [Z8z u] at hr
 refine ⟨L',s1, ?_⟩
 have hS:ZeF G (.pointer (some ⟨cb,o,none⟩)) (.int .i64 i) h c=some ⟨.ret,[.int .i64 (Z06 L i)],newB h b (ints L'),c+1+1,[]⟩:=by
  refine Ans.eq ?_
  unfold ZeF
  have fx:=hr
  refine Ans.go ?_
  clear fx
  exact .done rfl
 rw [f68_go hS,Zdi (B:=newB h b (ints L')) ?_ ?_ ?_]
 · exact Z1i.cons (OkV.int _ _ _) (Z1i.nil c)
 · exact fun _ _=>rfl
 · exact Z2n.old hb (Z1i.ints _ _) (Z2n.refl _ _)
theorem Z9L (h:FH) (cb o b m c:Nat) (L:List Int) (u:Uo h cb o b m L) (hcb:cb<256*c) (hb:b<256*c) (i j:Nat) (hi:i<m) (hj:j<m) (df:List Nat) :
 ∃ L',Z3w (Z3z L i j) L' m/\G (.fn 67) [.pointer (some ⟨cb,o,none⟩),.int .i64 i,.int .i64 j] h c df=some ⟨.ret,[.tuple #[]],newB h b (ints L'),c,[]⟩:=by
 obtain ⟨L1,s1,g1⟩:=Zb8 h cb o b m (c+1) L u qO qO i hi []
 have u1:Uo (newB h b (ints L1)) cb o b m L1:=u.upd s1.1
 obtain ⟨L2,s2,g2⟩:=Zb8 (newB h b (ints L1)) cb o b m (c+1) L1 u1 qO qO j hj []
 rw [Z7y] at g2
 rw [s1.2 j hj] at g2
 have s12:=s1.trans s2
 have u2:Uo (newB h b (ints L2)) cb o b m L2:=u.upd s2.1
 have c1:=Z08 g1
 have c2:=Z08 g2
 have r1:=Z1w u.dn hi
 have r2:=Z1w u.dn hj
 have l1:=u2.ld
 have e1:(if ((Z06 L i:Nat):Int)<(Z06 L j:Nat) then ((Z06 L j:Nat):Int) else (Z06 L i:Nat))=((max (Z06 L i) (Z06 L j):Nat):Int):=by split <;> omega
 have e2:(if ((Z06 L j:Nat):Int)<(Z06 L i:Nat) then ((Z06 L j:Nat):Int) else (Z06 L i:Nat))=((min (Z06 L i) (Z06 L j):Nat):Int):=by split <;> omega
 have m1:=Zcw .i64 (Z06 L i) (Z06 L j)
 have m2:=ZhZ .i64 (Z06 L i) (Z06 L j)
 rw [e1] at m1
 rw [e2] at m2
 clear e1 e2
 have hl:=s2.1.1
 have hj2:Z3z L2 i j=L2.set (max (Z06 L i) (Z06 L j)) (min (Z06 L i) (Z06 L j):Nat):=by
  unfold Z3z
  rw [s12.2 i hi,s12.2 j hj]
 have hw:stN (newB h b (ints L2)) 1 (.pointer (some ⟨b,max (Z06 L i) (Z06 L j),none⟩)) (.int .i64 (min (Z06 L i) (Z06 L j):Nat))=some (newB h b (ints (Z3z L2 i j))):=by
  rw [st1_int _ _ _ _ _ _ (by simp; omega),Z2p,hj2]
 refine ⟨Z3z L2 i j,Z3w.join u.dn s12 hi hj, ?_⟩
 obtain ⟨M,hM⟩:∃ M,max (Z06 L i) (Z06 L j)=M:=⟨_,rfl⟩
 obtain ⟨N,hN⟩:∃ N,min (Z06 L i) (Z06 L j)=N:=⟨_,rfl⟩
 rw [hM] at m1 hw
 rw [hN] at m2 hw
 obtain ⟨K1,hK1⟩:∃ K,newB h b (ints L1)=K:=⟨_,rfl⟩
 obtain ⟨K2,hK2⟩:∃ K,newB h b (ints L2)=K:=⟨_,rfl⟩
 obtain ⟨K3,hK3⟩:∃ K,newB h b (ints (Z3z L2 i j))=K:=⟨_,rfl⟩
 rw [hK1] at c1 c2
 rw [hK2] at c2 l1 hw
 rw [hK3] at hw
 have hML:(M:Int)<m:=by omega
 have hS:ZeG G (.pointer (some ⟨cb,o,none⟩)) (.int .i64 i) (.int .i64 j) h c=some ⟨.ret,[.tuple #[]],K3,c+1+1,[]⟩:=by
  refine Ans.eq ?_
  unfold ZeG
  have fx:=ai c1 (ai c2 (ai l1 (ai m1 (ai m2 hw))))
  refine Ans.go ?_
  clear fx
  exact .done rfl
 rw [hK3,f67_go hS,Zdi (B:=K3) ?_ ?_ ?_]
 · exact Z1i.cons ⟨.tuple #[],.tuple rfl (fun k x y h=>by simp at h)⟩ (Z1i.nil c)
 · exact fun _ _=>rfl
 · rw [← hK3]; exact Z2n.old hb (Z1i.ints _ _) (Z2n.refl _ _)
end Go.Proofs.Ytdodippbpdechaa

namespace Go.Ab
open Go
def edL:List Int:=[0,1,0,2,0,3,1,2,1,3,2,3]
def Zld (a b i j:Int):Bool:=decide (a=i/\b=j) || decide (a=j/\b=i)
def edI (i j:Int):Nat->Nat->Int
 | 0,_=>-1
 | k+1,m=>if Zld (edL.getD (2*m) 0) (edL.getD (2*m+1) 0) i j then (m:Int) else edI i j k (m+1)
def edN (i j:Int):Int:=edI i j 6 0
theorem Z7W {i j:Int} (h1:0<=i) (h2:i<4) (h3:0<=j) (h4:j<4) (hne:i ≠ j):0<=edN i j/\edN i j<6:=by
 have:((List.range 4).all fun i=>(List.range 4).all fun j=>decide (i=j) || (decide (0<=edN (i:Nat) (j:Nat)) && decide (edN (i:Nat) (j:Nat)<6)))=true:=by decide
 rw [List.all_eq_true] at this
 have h5:=this i.toNat (by simp; omega)
 rw [List.all_eq_true] at h5
 have h6:=h5 j.toNat (by simp; omega)
 have e1:((i.toNat:Nat):Int)=i:=by omega
 have e2:((j.toNat:Nat):Int)=j:=by omega
 rw [e1,e2] at h6
 have h7:¬ i.toNat=j.toNat:=by omega
 simpa [h7] using h6
def upL {α:Type} (g:Nat->List α):Nat->List α
 | 0=>[]
 | n+1=>upL g n++g n
theorem Z0z {α:Type} {g:Nat->List α} {x:α}:∀ {n:Nat},x ∈ upL g n ↔ ∃ i,i<n/\x ∈ g i
 | 0=>by simp [upL]
 | n+1=>by
  rw [upL,List.mem_append,Z0z (n:=n)]
  constructor
  · rintro (⟨i,h1,h2⟩ | h)
    · exact ⟨i,by omega,h2⟩
    · exact ⟨n,by omega,h⟩
  · rintro ⟨i,h1,h2⟩
    by_cases e:i=n
    · subst e; exact .inr h2
    · exact .inl ⟨i,by omega,h2⟩
abbrev Prs:=List (Nat × Nat)
def eNo (t i j:Nat):Nat:=6*t+(edN i j).toNat
def vI (Gl:List Int) (t f i:Nat):Prs:=if i=f then [] else [(4*t+i,4*fU Gl t f+fJ Gl t f i)]
def dJ (Gl:List Int) (t f i j:Nat):Prs:=if j ≠ f/\j ≠ i then [(16*t+4*i+j,16*fU Gl t f+4*fJ Gl t f i+fJ Gl t f j)] else []
def eJ (Gl:List Int) (t f i j:Nat):Prs:=if j ≠ f/\j ≠ i then [(eNo t i j,eNo (fU Gl t f) (fJ Gl t f i) (fJ Gl t f j))] else []
def dI (Gl:List Int) (t f i:Nat):Prs:=if i=f then [] else upL (dJ Gl t f i) 4
def eI (Gl:List Int) (t f i:Nat):Prs:=if i=f then [] else upL (eJ Gl t f i) 4
def tF (Gl:List Int) (t f:Nat):Prs:=if Z0A (Z05 Gl t f)<0 then [] else [(4*t+f,4*fU Gl t f+fJ Gl t f f)]
def vF (Gl:List Int) (t f:Nat):Prs:=if Z0A (Z05 Gl t f)<0 then [] else upL (vI Gl t f) 4
def dF (Gl:List Int) (t f:Nat):Prs:=if Z0A (Z05 Gl t f)<0 then [] else upL (dI Gl t f) 4
def eF (Gl:List Int) (t f:Nat):Prs:=if Z0A (Z05 Gl t f)<0 then [] else upL (eI Gl t f) 4
def tT (Gl:List Int) (t:Nat):Prs:=upL (tF Gl t) 4
def vT (Gl:List Int) (t:Nat):Prs:=upL (vF Gl t) 4
def dT (Gl:List Int) (t:Nat):Prs:=upL (dF Gl t) 4
def eT (Gl:List Int) (t:Nat):Prs:=upL (eF Gl t) 4
def tP (Gl:List Int) (n:Nat):Prs:=upL (tT Gl) n
def vP (Gl:List Int) (n:Nat):Prs:=upL (vT Gl) n
def dP (Gl:List Int) (n:Nat):Prs:=upL (dT Gl) n
def eP (Gl:List Int) (n:Nat):Prs:=upL (eT Gl) n
def vCs (Gl:List Int) (n:Nat):List Int:=jn (vP Gl n) (Z0W (4*n))
def dCs (Gl:List Int) (n:Nat):List Int:=jn (dP Gl n) (Z0W (16*n))
def eCs (Gl:List Int) (n:Nat):List Int:=jn (eP Gl n) (Z0W (6*n))
def tCs (Gl:List Int) (n:Nat):List Int:=jn (tP Gl n) (Z0W (4*n))
def Jn (D:Prs) (m:Nat) (L:List Int):Prop:=Z3w (jn D (Z0W m)) L m/\Z3y (jn D (Z0W m)) m
theorem Jn.nil (m:Nat):Jn [] m (Z0W m):=⟨Z3w.refl (Z0K m),Z0K m⟩
theorem Jn.snoc {D:Prs} {m:Nat} {L L':List Int} {i j:Nat} (h:Jn D m L) (hi:i<m) (hj:j<m) (s:Z3w (Z3z L i j) L' m):Jn (D++[(i,j)]) m L':=by
 have e:jn (D++[(i,j)]) (Z0W m)=Z3z (jn D (Z0W m)) i j:=by rw [ZaG]; rfl
 have hd:=Z3T h.2 hi hj
 refine ⟨?_,by rw [e]; exact hd⟩
 rw [e]
 exact (Z3w.join h.2 h.1 hi hj).trans s
theorem Jn.dn {D:Prs} {m:Nat} {L:List Int} (h:Jn D m L):Z3y L m:=h.1.1
end Go.Ab
