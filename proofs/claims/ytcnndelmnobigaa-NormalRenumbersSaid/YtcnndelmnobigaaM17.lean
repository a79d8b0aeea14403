/- Parts of a proof: N7 AbGrow N8 N9 AbTrie AbHeap. Conditions: none. -/
import Derived.Test.YtcnndelmnobigaaM16
import Derived.Test.YtcnndelmnobigaaM0
set_option linter.all false
set_option maxRecDepth 100000
namespace Go.Proofs.Ytcnndelmnobigaa
open Go Go.Ab Go.Proofs
def Zbq (Gl:List Int) (n:Nat) (all:Bool):Int:=if ZhL Gl n=0 then (if all=true then 0 else 130) else ZhL Gl n
theorem Z6f {Gl:List Int} {n:Nat} (h:ZhL Gl n=0):n<=60/\Z0w Gl n=true:=by
 unfold ZhL at h
 split at h
 · rename_i h1
   split at h
   · cases h
   · exact ⟨by omega,h1.2⟩
 · cases h
theorem SlX.keep {h h':FH} {c:Nat} {s:Value} {sz n:Nat} {L:List Int} (hs:SlI h c s sz n L) (hh:Z0E c h h') (hx:SlX h s sz n):SlX h' s sz n:=by
 obtain ⟨x1,x2⟩:=hx
 refine ⟨x1, ?_⟩
 obtain ⟨_,_,a,cap,rfl,hc4⟩:=hs
 rcases hc4 with ⟨e0,ov⟩ | ⟨b,o,cs,rfl,e2,_,_⟩
 · cases a with
   | none=>rfl
   | some a =>
    have hb:a.block<256*c:=by
     obtain ⟨v',hv'⟩:=ov
     cases hv' with
     | sl hh' _ _=>exact Z5a (by rw [hh']; simp)
     | slE hh'=>exact Z5a (by rw [hh']; simp)
    simp only [Z9j,Zcb] at x2 ⊢
    have:HeapC.get h' a.block=HeapC.get h a.block:=hh _ hb
    rw [this]; exact x2
 · simp only [Z9j,Zcb] at x2 ⊢
   have:HeapC.get h' b=HeapC.get h b:=hh _ e2
   rw [this]; exact x2
set_option maxHeartbeats 1000000 in
theorem Zj3 (s:Value) (n:Nat) (Gl:List Int) (ss:List Value) (Vs:Nat->List Int) (nvs:Nat->Nat) (sb:Nat) (h:FH) (c:Nat) (df:List Nat) (hs:SlI h c s 20 n Gl) (hsb:sb<256*c) (hh:Z07 h sb ss) (hl:ss.length<=1000) (hnv:∀ j,nvs j<=1000000)
 (hV:∀ j,j<ss.length->SlI h c (ss.getD j undef) 1 (nvs j) (Vs j)/\SlX h (ss.getD j undef) 1 (nvs j)) :
 G (.fn 47) [.agg #[s],.slice (some ⟨sb,0,none⟩) ss.length ss.length] h c df=some ⟨.ret,[.int .i64 (Zbq Gl n ((List.range ss.length).all fun i=>Z5h Gl n (Vs i)))],h,c,[]⟩:=by
 refine Z0u (fun r e=>f47_go e) (by simp) ?_
 unfold ZiI
 rw [Z96 hs.flat,Z8T,Nat.add_zero]
 simp only [cond_true]
 obtain ⟨H,hH⟩:∃ H,H=newB (newB h (256*c) [s]) (256*c+1) [.int .i64 0]:=⟨_,rfl⟩
 have sH:Z0E c h H:=by rw [hH]; simp (disch:=omega)
 have hg:Z07 H (256*c) [s]:=by rw [hH]; exact (Z07.newB_same _ _ _).newB_ne qO
 have hr:H.f (256*c+1)=some (.cells false none [.int .i64 0]):=by rw [hH,Z06,if_pos rfl]
 rw [← hH]
 clear hH
 have l1:=Z0F hg
 have l2:=SlI.len hs
 have c1:=Z0b (ZfY s n Gl H (c+1+1) [] ((hs.same sH).mono qO))
 obtain ⟨E,hE⟩:∃ E,ZhL Gl n=E:=⟨_,rfl⟩
 have hE0:E=0->n<=60/\Z0w Gl n=true:=fun e=>Z6f (hE.trans e)
 unfold Zbq
 rw [hE] at c1 ⊢
 by_cases h0:E=0
 case neg =>
  have w1:=Z1z (v:=.int .i64 E) (o:=0) (show HeapC.get H (256*c+1)=_ from hr) (by simp) rfl rfl
  have w2:ld1 (HeapC.set H (256*c+1) (.cells false none [.int .i64 E])) (.pointer (some ⟨256*c+1,0,none⟩))=some (.int .i64 E):=by
   rw [Z03 (cs:=[.int .i64 E]) ⟨_,_,get_set_same _ _ _⟩]; rfl
  rw [if_neg h0]
  have fx:=ai l1 (ai c1 (ai w1 w2))
  refine Ans.go ?_
  clear fx
  exact Ans.pure rfl (sH.set qO)
 obtain ⟨hn,hok⟩:=hE0 h0
 rw [if_pos h0]
 obtain ⟨⟨re,rv,rh,rc,rd⟩,hq,q1,q2,q3,q4,q5,q6⟩:=Zdp s n Gl ss Vs nvs (256*c) (256*c+1) sb (c+1+1+1+1) H hn hok qO qO qO qO qO hg ((hs.same sH).mono qO) (fun hp=>by have:=hs.blk hp; omega)
  (hh.same hsb sH) hl hnv (fun j hj=>⟨((hV j hj).1.same sH).mono qO,SlX.keep (hV j hj).1 sH (hV j hj).2,fun hp=>by have:=(hV j hj).1.blk hp; omega⟩) ss.length 0 (c+1+1+1+1) H [] qO qO (fun b _ _=>rfl) hr List.nodup_nil (fun d hd=>by cases hd)
 simp only at q1 q3 q4 q5 q6
 simp only [Int.ofNat_eq_natCast,Int.cast_ofNat_Int] at hq
 have hln:Z1B (.slice (some ⟨sb,0,none⟩) ss.length ss.length)=some (.int .i64 ss.length):=rfl
 have sR:∀ b,b<256*c->rh.f b=h.f b:=fun b hb=>by rw [q3 b qO qO,sH b hb]
 rcases q6 with ⟨rfl,q7,q8⟩ | ⟨rfl,q7,i,q8,q9⟩
 · have hall:((List.range ss.length).all fun i=>Z5h Gl n (Vs i))=true:=List.all_eq_true.2 fun i hi=>q8 i qO (by simpa using hi)
   rw [hall,if_pos rfl]
   have w1:=Z1z (v:=.int .i64 0) (o:=0) (show HeapC.get rh (256*c+1)=_ from q7) (by simp) rfl rfl
   obtain ⟨h9,t1,t2⟩:=Z5j (df:=rd) (h:=HeapC.set rh (256*c+1) (.cells false none [.int .i64 0])) q4 (fun d hd=>by have:=q5 d hd; rw [Z0r,if_neg qO]; exact this.1)
   have w2:ld1 h9 (.pointer (some ⟨256*c+1,0,none⟩))=some (.int .i64 0):=by
    rw [Z03 (cs:=[.int .i64 0]) ⟨false,none,(t2 _ (fun hm=>by have:=q5 _ hm; omega)).trans (by rw [Z0r,if_pos rfl])⟩]; rfl
   have q2':(⟨.exit 0,rv,rh,rc,rd⟩:Rt FH).v 1=ptrTo (256*c+1):=q2
   have fx:=ai l1 (ai c1 (ai hln (ai hq (ai q2' (ai w1 (ai t1 w2))))))
   refine Ans.go ?_
   clear fx
   refine Ans.pure rfl (fun b hb=>?_)
   show h9.f b=h.f b
   rw [t2 b (fun hm=>by have:=q5 _ hm; omega),Z0r,if_neg qO,sR b hb]
 · have hall:((List.range ss.length).all fun i=>Z5h Gl n (Vs i))=false:=by
    rw [← Bool.not_eq_true,List.all_eq_true]
    intro hall
    have:=hall i (by simpa using q8)
    rw [q9] at this; cases this
   rw [hall,if_neg (by simp)]
   obtain ⟨h9,t1,t2⟩:=Z5j (df:=rd) (h:=rh) q4 (fun d hd=>(q5 d hd).1)
   have w2:ld1 h9 (.pointer (some ⟨256*c+1,0,none⟩))=some (.int .i64 130):=by
    rw [Z03 (cs:=[.int .i64 130]) ⟨false,none,(t2 _ (fun hm=>by have:=q5 _ hm; omega)).trans q7⟩]; rfl
   have q2':(⟨.ret,rv,rh,rc,rd⟩:Rt FH).v 1=ptrTo (256*c+1):=q2
   have fx:=ai l1 (ai c1 (ai hln (ai hq (ai q2' (ai t1 w2)))))
   refine Ans.go ?_
   clear fx
   refine Ans.pure rfl (fun b hb=>?_)
   show h9.f b=h.f b
   rw [t2 b (fun hm=>by have:=q5 _ hm; omega),sR b hb]
theorem Zj8 (s v:Value) (n nv:Nat) (Gl V:List Int) (sb:Nat) (h:FH) (c:Nat) (hs:SlI h c s 20 n Gl) (hv:SlI h c v 1 nv V) (hx:SlX h v 1 nv) (hnv:nv<=1000000) (hsb:sb<256*c) (hh:Z07 h sb [v]) :
 callF G 47 [.agg #[s],.slice (some ⟨sb,0,none⟩) 1 1] h c=some (.int .i64 (Zbq Gl n (Z5h Gl n V)),h,c):=by
 have:=Zj3 s n Gl [v] (fun _=>V) (fun _=>nv) sb h c [] hs hsb hh (by simp) (fun _=>hnv) (fun j hj=>by
  match j,hj with
  | 0,_=>exact ⟨hv,hx⟩)
 have e:((List.range [v].length).all fun i=>Z5h Gl n V)=Z5h Gl n V:=by simp
 rw [e] at this
 exact Z0b this
theorem Zj7 (s v:Value) (n nv:Nat) (Gl V:List Int) (h:FH) (c:Nat) (df:List Nat) (hs:SlI h c s 20 n Gl) (hv:SlI h c v 1 nv V) (hx:SlX h v 1 nv) (hnv:nv<=1000000) :
 G (.fn 17) [.agg #[s],v] h c df=some ⟨.ret,[.int .i64 (Zbq Gl n (Z5h Gl n V))],h,c,[]⟩:=by
 refine Z0u (fun r e=>f17_go e) (by simp) ?_
 unfold ZiR
 rw [Z96 hs.flat,Z8T,Nat.add_zero]
 simp only [cond_true]
 have l1:ldN (newB h (256*c) [s]) 1 (.pointer (some ⟨256*c,0,none⟩))=some (.agg #[s]):=Z0F (Z07.newB_same _ _ _)
 have hbl:Z4Y [(.slice none 0 0)] [(0,1,v)]=some [v]:=by
  obtain ⟨_,_,a,cap,rfl,_⟩:=hv
  rfl
 have sH:Z0E c h (newB (newB h (256*c) [s]) (256*(c+1)+2) [v]):=by simp (disch:=omega)
 have c1:=Zj8 s v n nv Gl V (256*(c+1)+2) (newB (newB h (256*c) [s]) (256*(c+1)+2) [v]) (c+1+1) ((hs.same sH).mono qO) ((hv.same sH).mono qO) (SlX.keep hv sH hx) hnv qO (Z07.newB_same _ _ _)
 have fx:=ai l1 (ai hbl c1)
 refine Ans.go ?_
 clear fx
 exact Ans.pure rfl sH
end Go.Proofs.Ytcnndelmnobigaa

namespace Go.Ab
open Go
def Z67 (c0:Nat) (h:FH) (c:Nat) (v:Value) (n:Nat) (cs:List Value):Prop :=
 cs.length=n/\n<=9223372036854775807/\cs.all Z0d=true ∧
  ∃ i op,v = .slice (some ⟨i,0,none⟩) n n/\256*c0<=i/\i<256*c/\h.f i=some (.cells false op cs)/\(op=none ∨ op=some 1)
theorem Z67.flat {c0:Nat} {h:FH} {c:Nat} {v:Value} {n:Nat} {cs:List Value} (ha:Z67 c0 h c v n cs):Z0d v=true/\v.cells = #[v]:=by
 obtain ⟨_,_,_,i,op,rfl,_⟩:=ha; exact ⟨rfl,rfl⟩
theorem Z67.mono {c0:Nat} {h:FH} {c c':Nat} {v:Value} {n:Nat} {cs:List Value} (hc:c<=c') (ha:Z67 c0 h c v n cs):Z67 c0 h c' v n cs:=by
 obtain ⟨h1,h2,h3,i,op,h4,h5,h6,h7⟩:=ha
 exact ⟨h1,h2,h3,i,op,h4,h5,by omega,h7⟩
theorem Z67.blk {c0:Nat} {h:FH} {c:Nat} {v:Value} {n:Nat} {cs:List Value} (ha:Z67 c0 h c v n cs):256*c0<=Z0D v/\Z0D v<256*c:=by
 obtain ⟨h1,h2,h3,i,op,rfl,h5,h6,h7⟩:=ha
 exact ⟨h5,h6⟩
theorem Z67.keep {c0:Nat} {h h':FH} {c:Nat} {v:Value} {n:Nat} {cs:List Value} (ha:Z67 c0 h c v n cs) (hh:h'.f (Z0D v)=h.f (Z0D v)):Z67 c0 h' c v n cs:=by
 obtain ⟨h1,h2,h3,i,op,rfl,h5,h6,h7,h8⟩:=ha
 exact ⟨h1,h2,h3,i,op,rfl,h5,h6,hh.trans h7,h8⟩
theorem Z67.app {c0:Nat} {h:FH} {c c':Nat} {v:Value} {n:Nat} {cs:List Value} (ha:Z67 c0 h c v n cs) (x:Value) (hx:Z0d x=true) (by' b id:Nat) (hb:256*c<=b) (hid:256*c<=id) (hne:b ≠ id) (hc0:c0<=c)
 (hid':id<256*c') (hlim:(n+1)*(by'+1)<=17592186044416) :
 ∃ h',Z9h (newB h b [x]) id 1 by' v (.slice (some ⟨b,0,none⟩) 1 1)=some (.slice (some ⟨id,0,none⟩) (n+1) (n+1),h')/\Z67 c0 h' c' (.slice (some ⟨id,0,none⟩) (n+1) (n+1)) (n+1) (cs++[x]) ∧
  (∀ j,j<256*c->j ≠ Z0D v->h'.f j=h.f j):=by
 obtain ⟨h1,h2,h3,i,op,rfl,h5,h6,h7,h8⟩:=ha
 have hlim':Nat.ble ((n+1)*(by'+1)) 17592186044416=true:=Nat.ble_eq_true_of_le hlim
 have hsrc:Z0H (newB h b [x]) 1 (.slice (some ⟨b,0,none⟩) 1 1)=some ([x],1):=by
  have:Nat.ble (0+1*1) [x].length=true:=rfl
  simp only [Z0H,Z0Q,Z0k,get_newB_same,Option.bind_some,this,cond_true,List.drop_zero]
  rfl
 have hn1:n+1<=17592186044416:=by
  have:(n+1)*1<=(n+1)*(by'+1):=Nat.mul_le_mul_left _ qO
  omega
 have hcap:Nat.ble (n+1) n=false:=by rw [Bool.eq_false_iff]; intro hh; have:=Nat.le_of_ble_eq_true hh; omega
 have hfx:[x].all Z0d=true:=by simp [hx]
 have hbi:i ≠ b:=by omega
 have hg:HeapC.get (newB h b [x]) i=some (.cells false op cs):=by rw [get_newB_ne _ _ _ _ hbi]; exact h7
 have hr:Nat.ble (0+n*1) cs.length=true:=Nat.ble_eq_true_of_le (by simp [h1])
 have ht:(cs.drop 0).take (n*1)=cs:=by rw [List.drop_zero,List.take_of_length_le qO]
 rcases h8 with rfl | rfl
 · refine ⟨HeapC.set (newB h b [x]) id (.cells false (some 1) ((cs.drop 0).take (n*1)++[x])), ?_,⟨by simp [h1],by omega,by simp only [List.all_append,h3,hfx,Bool.and_self],id,some 1,rfl,by omega,hid', ?_,.inr rfl⟩, ?_⟩
   · simp only [Z9h,hsrc,Option.bind_some,appTo,hcap,cond_false,Z3B,hlim',hfx,Bool.and_self,cond_true,Z0Q,Z0k,hg,hr]
   · rw [Z0r,if_pos rfl,ht]
   · intro j hj hne'
     rw [Z0r,if_neg qO,Z06,if_neg qO]
 · refine ⟨HeapC.set (HeapC.set (newB h b [x]) i .dead) id (.cells false (some 1) ((cs.drop 0).take (n*1)++[x])), ?_,⟨by simp [h1],by omega,by simp only [List.all_append,h3,hfx,Bool.and_self],id,some 1,rfl,by omega,hid', ?_,.inr rfl⟩, ?_⟩
   · simp only [Z9h,hsrc,Option.bind_some,appTo,hcap,cond_false,Z3B,hlim',hfx,Bool.and_self,cond_true,Z0Q,Z0k,hg,hr,Nat.beq_refl,Bool.not_false,Bool.and_true]
   · rw [Z0r,if_pos rfl,ht]
   · intro j hj hne'
     rw [blkOf_sl] at hne'
     rw [Z0r,if_neg qO,Z0r,if_neg hne',Z06,if_neg qO]
def Zmf (L:List Int) (k:Nat) (d:Int):List Int:=L.set k (L.getD k 0+d)
def Zdh (n:Nat) (m:List Int):List Int :=
 Zmf (Zmf (Zmf (Zmf (List.replicate (7*n) 0) (7*m.getD 0 0+m.getD 2 0).toNat 1) (7*m.getD 0 0+4+ty (m.getD 2 0) (m.getD 1 0)).toNat 1)
  (7*m.getD 3 0+m.getD 5 0).toNat (-1)) (7*m.getD 3 0+4+ty (m.getD 5 0) (m.getD 4 0)).toNat (-1)
end Go.Ab

namespace Go.Proofs.Ytcnndelmnobigaa
open Go Go.Ab Go.Proofs
def RowV (c0:Nat) (h:FH) (c:Nat) (x:Value) (w:Nat) (L:List Int):Prop:=∃ b,x = .slice (some ⟨b,0,none⟩) w w/\256*c0<=b/\b<256*c/\h.f b=some (.cells false none (ints L))/\L.length=w/\w<=1000000
structure EqI (s:Value) (n:Nat) (Gl:List Int) (gb g2 ob l c0 cb:Nat) (D:List (List Int)) (O:Nat->Prop) (h:FH) (c:Nat):Prop where
 lc:cb<=c
 g:Z07 h gb [s]
 gg:Z07 h g2 [s]
 sl:SlI h c0 s 20 n Gl
 ng:¬ O g2
 out:∃ vo vals,O=(fun b=>b=ob ∨ b=Z0D vo)/\h.f ob=some (.cells false none [vo])/\Z67 c0 h c vo D.length vals/\Z0D vo ≠ ob/\Z0D vo ≠ l ∧
  ∀ (k:Nat) (m:List Int),D[k]? = some m -> ∃ x,vals[k]? = some x/\RowV c0 h c x (7*n) (Zdh n m)/\Z0D x ≠ ob/\Z0D x ≠ Z0D vo/\Z0D x ≠ l

def EqV (c0:Nat) (h:FH) (c n:Nat) (Gl:List Int) (v:Value):Prop :=
 ∃ vals,Z67 c0 h c v (Z2v Gl n).length vals /\ ∀ (k:Nat) (m:List Int),(Z2v Gl n)[k]? = some m -> ∃ x,vals[k]? = some x/\RowV c0 h c x (7*n) (Zdh n m)
end Go.Proofs.Ytcnndelmnobigaa

namespace Go.Ab
open Go
inductive Tri where
 | leaf
 | node (b:Option ABlk) (l r:Tri)
def Tri.get:Tri->Nat->Option ABlk
 | .leaf,_=>none
 | .node b l r,i=>cond (Nat.beq i 0) b (cond (Nat.beq (i % 2) 1) (l.get (i / 2)) (r.get (i / 2-1)))
def Tri.upd:Nat->Tri->Nat->Option ABlk->Tri
 | 0,t,_,o=>match t with
  | .leaf=>.node o .leaf .leaf
  | .node _ l r=>.node o l r
 | n+1,t,i,o=>match t with
  | .leaf=>cond (Nat.beq i 0) (.node o .leaf .leaf) (cond (Nat.beq (i % 2) 1) (.node none (Tri.upd n .leaf (i / 2) o) .leaf) (.node none .leaf (Tri.upd n .leaf (i / 2-1) o)))
  | .node b l r=>cond (Nat.beq i 0) (.node o l r) (cond (Nat.beq (i % 2) 1) (.node b (Tri.upd n l (i / 2) o) r) (.node b l (Tri.upd n r (i / 2-1) o)))
theorem Tri.get_upd:∀ (n:Nat) (t:Tri) (i:Nat) (o:Option ABlk) (j:Nat),i<=n->(Tri.upd n t i o).get j=if j=i then o else t.get j:=by
 have key:∀ (b:Option ABlk) (l r:Tri) (i:Nat),(Tri.node b l r).get i=if i=0 then b else if i % 2=1 then l.get (i / 2) else r.get (i / 2-1):=by
  intro b l r i
  simp only [Tri.get]
  by_cases h0:i=0
  · subst h0; rfl
  · have:Nat.beq i 0=false:=by rw [Bool.eq_false_iff]; intro h; exact h0 (Nat.eq_of_beq_eq_true h)
    rw [this]
    simp only [h0,if_false,cond_false]
    by_cases h1:i % 2=1
    · simp [h1]
    · have:Nat.beq (i % 2) 1=false:=by rw [Bool.eq_false_iff]; intro h; exact h1 (Nat.eq_of_beq_eq_true h)
      simp [h1,this]
 have leafg:∀ j,Tri.leaf.get j=none:=fun _=>rfl
 intro n
 induction n with
 | zero =>
  intro t i o j hi
  have:i=0:=by omega
  subst this
  cases t with
  | leaf =>
   simp only [Tri.upd,key,leafg]
   split <;> simp
  | node b l r =>
   simp only [Tri.upd,key]
   by_cases h:j=0 <;> simp [h]
 | succ n ih =>
  intro t i o j hi
  by_cases h0:i=0
  · subst h0
    cases t with
    | leaf =>
     simp only [Tri.upd,Nat.beq_refl,cond_true,key,leafg]
     split <;> simp
    | node b l r =>
     simp only [Tri.upd,Nat.beq_refl,cond_true,key]
     by_cases h:j=0 <;> simp [h]
  · have hb0:Nat.beq i 0=false:=by rw [Bool.eq_false_iff]; intro h; exact h0 (Nat.eq_of_beq_eq_true h)
    by_cases h1:i % 2=1
    · have hb1:Nat.beq (i % 2) 1=true:=by rw [h1]; rfl
      cases t with
      | leaf =>
       simp only [Tri.upd,hb0,hb1,cond_true,cond_false,key,leafg]
       by_cases hj:j=0
       · subst hj; simp [Ne.symm h0]
       · simp only [hj,if_false]
         by_cases hj1:j % 2=1
         · simp only [hj1,if_true]
           rw [ih _ _ _ _ qO,leafg]
           by_cases e:j=i
           · simp [e]
           · rw [if_neg e,if_neg qO]
         · rw [if_neg hj1,if_neg qO]
      | node b l r =>
       simp only [Tri.upd,hb0,hb1,cond_true,cond_false,key]
       by_cases hj:j=0
       · subst hj; simp [Ne.symm h0]
       · simp only [hj,if_false]
         by_cases hj1:j % 2=1
         · simp only [hj1,if_true]
           rw [ih _ _ _ _ qO]
           by_cases e:j=i
           · simp [e]
           · rw [if_neg e,if_neg qO]
         · rw [if_neg hj1,if_neg (show ¬ j=i by omega),if_neg hj1]
    · have hb1:Nat.beq (i % 2) 1=false:=by rw [Bool.eq_false_iff]; intro h; exact h1 (Nat.eq_of_beq_eq_true h)
      cases t with
      | leaf =>
       simp only [Tri.upd,hb0,hb1,cond_true,cond_false,key,leafg]
       by_cases hj:j=0
       · subst hj; simp [Ne.symm h0]
       · simp only [hj,if_false]
         by_cases hj1:j % 2=1
         · rw [if_pos hj1,if_neg qO]
         · rw [if_neg hj1,ih _ _ _ _ qO,leafg]
           by_cases e:j=i
           · simp [e]
           · rw [if_neg e,if_neg qO]
      | node b l r =>
       simp only [Tri.upd,hb0,hb1,cond_true,cond_false,key]
       by_cases hj:j=0
       · subst hj; simp [Ne.symm h0]
       · simp only [hj,if_false]
         by_cases hj1:j % 2=1
         · rw [if_pos hj1,if_neg (show ¬ j=i by omega),if_pos hj1]
         · rw [if_neg hj1,ih _ _ _ _ qO]
           by_cases e:j=i
           · simp [e]
           · rw [if_neg e,if_neg qO,if_neg hj1]
def ZfG:Option Addr->Option Addr->Bool
 | none,none=>true
 | some ⟨a,b,none⟩,some ⟨c,d,none⟩=>Nat.beq a c && Nat.beq b d
 | _,_=>false
def Zn0:Value->Value->Bool
 | .bool a,.bool b=>a == b
 | .int k n,.int k' n'=>decide (k=k') && n == n'
 | .pointer a,.pointer b=>ZfG a b
 | .slice a l c,.slice b l' c'=>ZfG a b && Nat.beq l l' && Nat.beq c c'
 | .map (some a),.map (some b)=>Nat.beq a b
 | .map none,.map none=>true
 | .nilFunc,.nilFunc=>true
 | .nilIface,.nilIface=>true
 | _,_=>false
def ZdB:List Value->List Value->Bool
 | [],[]=>true
 | x::xs,y::ys=>Zn0 x y && ZdB xs ys
 | _,_=>false
def ZaB:Option Nat->Option Nat->Bool
 | none,none=>true
 | some a,some b=>Nat.beq a b
 | _,_=>false
def Zm9:Option ABlk->Option ABlk->Bool
 | none,none=>true
 | some (.cells ro o c),some (.cells ro' o' c')=>ro == ro' && ZaB o o' && ZdB c c'
 | some .dead,some .dead=>true
 | some .dfr,some .dfr=>true
 | _,_=>false
theorem Zc3 {a b:Option Addr} (h:ZfG a b=true):a=b:=by
 unfold ZfG at h
 split at h
 · rfl
 · simp only [Bool.and_eq_true] at h
   rw [Nat.eq_of_beq_eq_true h.1,Nat.eq_of_beq_eq_true h.2]
 · cases h
theorem Zjm {a b:Value} (h:Zn0 a b=true):a=b:=by
 unfold Zn0 at h
 split at h
 · simp at h; rw [h]
 · simp at h; rw [h.1,h.2]
 · rw [Zc3 h]
 · simp only [Bool.and_eq_true] at h
   rw [Zc3 h.1.1,Nat.eq_of_beq_eq_true h.1.2,Nat.eq_of_beq_eq_true h.2]
 · rw [Nat.eq_of_beq_eq_true h]
 · rfl
 · rfl
 · rfl
 · cases h
theorem Zbt:∀ {a b:List Value},ZdB a b=true->a=b
 | [],[],_=>rfl
 | x::xs,y::ys,h=>by
  simp only [ZdB,Bool.and_eq_true] at h
  rw [Zjm h.1,Zbt h.2]
 | [],y::ys,h=>by cases h
 | x::xs,[],h=>by cases h
theorem Zcs {a b:Option Nat} (h:ZaB a b=true):a=b:=by
 unfold ZaB at h
 split at h
 · rfl
 · rw [Nat.eq_of_beq_eq_true h]
 · cases h
theorem ZfD (a b:Option ABlk) (h:Zm9 a b=true):a=b:=by
 unfold Zm9 at h
 split at h
 · rfl
 · simp only [Bool.and_eq_true] at h
   have h1:=h.1.1
   rw [Zcs h.1.2,Zbt h.2]
   simp at h1
   rw [h1]
 · rfl
 · rfl
 · cases h
instance:HeapC Tri where
 get h i:=h.get i
 set h i b:=Tri.upd i h i (some b)
 del h i:=Tri.upd i h i none
 eqB:=Zm9
 eqB_eq:=ZfD
 get_set h i b j:=Tri.get_upd i h i (some b) j (Nat.le_refl _)
 get_del h i j:=Tri.get_upd i h i none j (Nat.le_refl _)
end Go.Ab

namespace Go.Ab
open Go
noncomputable def Zjr (t:Tri):Nat->Option ABlk :=
 Tri.rec (motive:=fun _=>Nat->Option ABlk) (fun _=>none)
  (fun b _ _ l r i=>cond (Nat.beq i 0) b (cond (Nat.beq (Nat.mod i 2) 1) (l (Nat.div i 2)) (r (Nat.sub (Nat.div i 2) 1)))) t
theorem Zao:∀ (t:Tri) (i:Nat),Zjr t i=t.get i
 | .leaf,i=>rfl
 | .node b l r,i=>by
  show cond (Nat.beq i 0) b (cond (Nat.beq (Nat.mod i 2) 1) (Zjr l (Nat.div i 2)) (Zjr r (Nat.sub (Nat.div i 2) 1)))=_
  rw [Zao l,Zao r]
  rfl
noncomputable def Zmn (o:Option ABlk) (n:Nat):Tri->Nat->Tri :=
 Nat.rec (motive:=fun _=>Tri->Nat->Tri)
  (fun t _=>Tri.rec (motive:=fun _=>Tri) (.node o .leaf .leaf) (fun _ l r _ _=>.node o l r) t)
  (fun _ ih t i=>Tri.rec (motive:=fun _=>Tri)
   (cond (Nat.beq i 0) (.node o .leaf .leaf) (cond (Nat.beq (Nat.mod i 2) 1) (.node none (ih .leaf (Nat.div i 2)) .leaf) (.node none .leaf (ih .leaf (Nat.sub (Nat.div i 2) 1)))))
   (fun b l r _ _=>cond (Nat.beq i 0) (.node o l r) (cond (Nat.beq (Nat.mod i 2) 1) (.node b (ih l (Nat.div i 2)) r) (.node b l (ih r (Nat.sub (Nat.div i 2) 1))))) t) n
theorem Z86 (o:Option ABlk):∀ (n:Nat) (t:Tri) (i:Nat),Zmn o n t i=Tri.upd n t i o
 | 0,.leaf,i=>rfl
 | 0,.node b l r,i=>rfl
 | n+1,.leaf,i=>by
  show (cond (Nat.beq i 0) (Tri.node o .leaf .leaf) (cond (Nat.beq (Nat.mod i 2) 1) (Tri.node none (Zmn o n .leaf (Nat.div i 2)) .leaf) (Tri.node none .leaf (Zmn o n .leaf (Nat.sub (Nat.div i 2) 1)))))=_
  rw [Z86 o n,Z86 o n]; rfl
 | n+1,.node b l r,i=>by
  show (cond (Nat.beq i 0) (Tri.node o l r) (cond (Nat.beq (Nat.mod i 2) 1) (Tri.node b (Zmn o n l (Nat.div i 2)) r) (Tri.node b l (Zmn o n r (Nat.sub (Nat.div i 2) 1)))))=_
  rw [Z86 o n,Z86 o n]; rfl
theorem Zhp (t:Tri) (i:Nat) (o:Option ABlk) (j:Nat):Zjr (Zmn o i t i) j=if j=i then o else Zjr t j:=by
 rw [Zao,Zao,Z86]
 exact Tri.get_upd i t i o j (Nat.le_refl _)
abbrev RC:=List (Nat × Option ABlk)
noncomputable def Z97 (i:Nat) (rc:RC):Option (Option ABlk) :=
 List.rec (motive:=fun _=>Option (Option ABlk)) none (fun x _ ih=>cond (Nat.beq i x.1) (some x.2) ih) rc
noncomputable def ZhH (i:Nat) (o:Option ABlk) (rc:RC):RC :=
 List.rec (motive:=fun _=>RC) [] (fun x xs ih=>cond (Nat.beq i x.1) ((x.1,o)::xs) (x::ih)) rc
noncomputable def Zig (rc:RC) (t:Tri):Tri :=
 List.rec (motive:=fun _=>Tri) t (fun x _ ih=>Zmn x.2 x.1 ih x.1) rc
theorem Z1H (i:Nat) (x:Nat × Option ABlk) (xs:RC):Z97 i (x::xs)=if i=x.1 then some x.2 else Z97 i xs:=by
 show cond (Nat.beq i x.1) (some x.2) (Z97 i xs)=_
 cases h:Nat.beq i x.1 with
 | true=>rw [if_pos (Nat.eq_of_beq_eq_true h)]; rfl
 | false=>rw [if_neg (fun e=>by rw [e,Nat.beq_refl] at h; cases h)]; rfl
theorem ZfX (i:Nat) (o:Option ABlk) (x:Nat × Option ABlk) (xs:RC):ZhH i o (x::xs)=if i=x.1 then (x.1,o)::xs else x::ZhH i o xs:=by
 show cond (Nat.beq i x.1) ((x.1,o)::xs) (x::ZhH i o xs)=_
 cases h:Nat.beq i x.1 with
 | true=>rw [if_pos (Nat.eq_of_beq_eq_true h)]; rfl
 | false=>rw [if_neg (fun e=>by rw [e,Nat.beq_refl] at h; cases h)]; rfl
theorem Z8E (i:Nat) (o:Option ABlk) (j:Nat):∀ (rc:RC),Z97 i rc ≠ none->Z97 j (ZhH i o rc)=if j=i then some o else Z97 j rc
 | [],h=>absurd rfl h
 | x::xs,h=>by
  rw [Z1H] at h
  rw [ZfX]
  by_cases e:i=x.1
  · rw [if_pos e,Z1H,Z1H]
    by_cases e2:j=x.1
    · rw [if_pos e2,if_pos (e2.trans e.symm)]
    · rw [if_neg e2,if_neg (fun h=>e2 (h.trans e)),if_neg e2]
  · rw [if_neg e] at h ⊢
    rw [Z1H,Z1H,Z8E i o j xs h]
    by_cases e2:j=x.1
    · rw [if_pos e2,if_pos e2,if_neg (fun h=>e (h.symm.trans e2))]
    · rw [if_neg e2,if_neg e2]
theorem Z9F (j:Nat) (t:Tri):∀ (rc:RC),Zjr (Zig rc t) j=(match Z97 j rc with | some o=>o | none=>Zjr t j)
 | []=>rfl
 | x::xs=>by
  show Zjr (Zmn x.2 x.1 (Zig xs t) x.1) j=_
  rw [Zhp,Z1H]
  by_cases e:j=x.1
  · rw [if_pos e,if_pos e]
  · rw [if_neg e,if_neg e,Z9F j t xs]
structure TH where
 rc:RC
 n:Nat
 old:Tri
noncomputable def TH.put (h:TH) (i:Nat) (o:Option ABlk):TH :=
 match Z97 i h.rc with
 | some _=>{ rc:=ZhH i o h.rc,n:=h.n,old:=h.old }
 | none=>cond (Nat.blt h.n 24) { rc:=(i,o)::h.rc,n:=Nat.add h.n 1,old:=h.old } { rc:=[(i,o)],n:=1,old:=Zig h.rc h.old }
noncomputable def TH.look (h:TH) (i:Nat):Option ABlk :=
 match Z97 i h.rc with
 | some o=>o
 | none=>Zjr h.old i
theorem TH.look_put (h:TH) (i:Nat) (o:Option ABlk) (j:Nat):(h.put i o).look j=if j=i then o else h.look j:=by
 unfold TH.put TH.look
 cases e:Z97 i h.rc with
 | some x =>
  dsimp only
  rw [Z8E i o j h.rc (by rw [e]; simp)]
  by_cases e2:j=i
  · rw [if_pos e2,if_pos e2]
  · rw [if_neg e2,if_neg e2]
 | none =>
  dsimp only
  cases Nat.blt h.n 24 with
  | true =>
   dsimp only [cond_true]
   rw [Z1H]
   by_cases e2:j=i
   · rw [if_pos e2,if_pos e2]
   · rw [if_neg e2,if_neg e2]
  | false =>
   dsimp only [cond_false]
   rw [Z1H]
   by_cases e2:j=i
   · rw [if_pos e2,if_pos e2]
   · rw [if_neg e2,if_neg e2]
     exact Z9F j h.old h.rc
noncomputable instance:HeapC TH where
 get h i:=h.look i
 set h i b:=h.put i (some b)
 del h i:=h.put i none
 eqB:=Zm9
 eqB_eq:=ZfD
 get_set h i b j:=TH.look_put h i (some b) j
 get_del h i j:=TH.look_put h i none j
noncomputable def TH.empty:TH:={ rc:=[],n:=0,old:=.leaf }
theorem TH.inv_empty (h:TH) (e:h=TH.empty) (i:Nat):HeapC.get h i=none:=by subst e; rfl
end Go.Ab
