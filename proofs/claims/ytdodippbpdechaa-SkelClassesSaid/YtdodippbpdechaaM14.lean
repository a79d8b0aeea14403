/- Parts of a proof: AbRow AbSub AbMat AbGrow AbUf AbUf2 AbFill AbLab AbJn AbUf3 AbEd AbCount AbSk L1 C1. Conditions: none. -/
import Derived.Test.YtdodippbpdechaaM6
import Derived.ProofKit
import Derived.Test.YtdodippbpdechaaM13
set_option linter.all false
set_option maxRecDepth 100000
set_option maxHeartbeats 4000000
namespace Go.Ab
open Go Go.ChangeShapes Go.RowKit
section post
variable {H:Type} {enc:TypeId × Value->H} {P:Program}
theorem ZaS:∀ {ts:List TypeId} {w:World} {vs:List Value} {ds:List (DataW H)} {ps:List MemPlace},DataW.TrodAll enc P w 0 (fun _=>true) true ts vs ds ps -> ∀ x ∈ ps,x.block<w.heap.size
 | [],w,vs,ds,ps,h,x,hx=>by
  obtain ⟨_,_,rfl⟩:=trodAll_nil h
  cases hx
 | t::ts,w,vs,ds,ps,h,x,hx=>by
  obtain ⟨v,vs',d,ds',p,q,rfl,rfl,rfl,h1,h2⟩:=trodAll_cons h
  rcases List.mem_append.1 hx with hx | hx
  · obtain ⟨n,h1⟩:=h1
    exact DataW.trod_lt n _ _ _ h1 x hx
  · exact ZaS h2 x hx
theorem Z6F (hl:laidOutB P=true):∀ {ts:List TypeId} {w w':World} {sp:Nat->Bool} {vs:List Value} {ds:List (DataW H)} {ps:List MemPlace},(∀ t ∈ ts,P.readableRec t=true/\t<P.types.size) →
 DataW.TrodAll enc P w 0 (fun _=>true) true ts vs ds ps->(∀ p ∈ ps,w.sameAt w' p)->(∀ p ∈ ps,sp p.block=true)->DataW.TrodAll enc P w' 0 sp true ts vs ds ps
 | [],w,w',sp,vs,ds,ps,_,h,_,_=>by
  obtain ⟨rfl,rfl,rfl⟩:=trodAll_nil h
  exact rfl
 | t::ts,w,w',sp,vs,ds,ps,hr,h,h1,h2=>by
  obtain ⟨v,vs',d,ds',p,q,rfl,rfl,rfl,g1,g2⟩:=trodAll_cons h
  refine ⟨p,q, ?_, ?_,rfl⟩
  · exact WideElems.Trod_stays hl (hr t (by simp)).1 (hr t (by simp)).2 g1 (fun x hx=>h1 x (List.mem_append.2 (.inl hx))) (fun x hx=>h2 x (List.mem_append.2 (.inl hx)))
  · exact Z6F hl (fun u hu=>hr u (by simp [hu])) g2 (fun x hx=>h1 x (List.mem_append.2 (.inr hx))) (fun x hx=>h2 x (List.mem_append.2 (.inr hx)))
theorem ZkW (hl:laidOutB P=true) {f:Func} {s:ChangeSpec} {apart fresh handsOn again:Bool} {W W':World} {args:Array Value} {ds gs:List (DataW H)} {before:List MemPlace} {tb:TypeId}
 (hts:∀ t ∈ f.params.toList,P.readableRec t=true/\t<P.types.size) (hvars:s.vars=[]) (hres:(s.fn H (ds++gs)).results=[.lit (.bool true)]) (hargs:(s.fn H (ds++gs)).args=ds) (hvs:(s.fn H (ds++gs)).vars=[])
 (hrt:f.resultTypes = #[tb]) (htb:P.underlying tb=some .bool) (hW:DataW.Whole enc P f.params.toList s.vars apart W args.toList ds gs before) (hB:Below W.heap.size W W') :
 s.post enc P f apart fresh handsOn again W args (.bool true) W':=by
 have hW0:=hW
 obtain ⟨p,q,hA,hV,rfl,hfz,hnd⟩:=hW
 rw [hvars] at hV
 have hgq:gs=[]/\q=[]:=by
  cases gs with
  | nil=>exact ⟨rfl,hV⟩
  | cons g gs=>exact hV.elim
 obtain ⟨rfl,rfl⟩:=hgq
 have hlt:=ZaS hA
 have hrl:Value.resultList f.resultTypes.size (.bool true)=[.bool true]:=by rw [hrt]; rfl
 have hR:∀ (b:Nat) (sp:Nat->Bool) (hd:Bool),DataW.TrodAll enc P W' b sp hd f.resultTypes.toList (Value.resultList f.resultTypes.size (.bool true)) (s.fn H (ds++[])).results []:=by
  intro b sp hd
  rw [hrl,hres,hrt]
  exact ⟨[],[],shut_bool htb true,rfl,rfl⟩
 have hS:∀ sp:Nat->Bool,(∀ x ∈ p,sp x.block=true)->DataW.TrodAll enc P W' 0 sp true f.params.toList args.toList (s.fn H (ds++[])).args p:=by
  intro sp hsp
  rw [hargs]
  exact Z6F hl hts hA (fun x hx=>hB.same (hlt x hx)) hsp
 have hV':∀ sp:Nat->Bool,DataW.TrodVars enc P W' sp s.vars (s.fn H (ds++[])).vars []:=by
  intro sp; rw [hvars,hvs]; exact rfl
 have hfz':W'.noneFrozen (p++[]):=by
  intro b off hp
  have h1:=hfz b off hp
  have h2:W'.heap[b]? = W.heap[b]?:=hB.block b (hlt (.cell b off) (by simpa using hp))
  unfold World.frozen? at h1 ⊢
  simp only at h1 ⊢
  rw [h2]; exact h1
 have hok:∀ (j:Nat) (t:TypeId) (r:Value),f.resultTypes[j]? = some t->(Value.resultList f.resultTypes.size (.bool true))[j]? = some r->Value.okWide P W' .any 0 t r :=
  ok_one hrt rfl (by simp [Value.okWide,htb,Cell.okWide,Cell.ok])
 refine ⟨ds,[],p++[],[],p,[],hW0,hR _ _ _,hS _ (fun x hx=>by simpa using hlt x hx),hV' _, ?_,fun _=>?_⟩
 · refine ⟨hB.os,hB.output,fun i hi=>?_⟩
   rw [hB.block i hi]
   split
   · rename_i h1 h2
     rw [h1] at h2
     cases h2
     exact ⟨rfl,rfl,rfl,fun _ _=>rfl⟩
   · rename_i h1 h2
     rw [h1] at h2
     cases h2
     exact .inr ⟨rfl,rfl⟩
   · rfl
 · refine ⟨hok,_,_,([]++p)++[],⟨[]++p,[],trodAll_append (hS (fun _=>true) (fun _ _=>rfl)) (hR _ _ _),hV' _,rfl, ?_, ?_⟩, ?_⟩
   · intro b off hp
     exact hfz' b off (by simpa using hp)
   · intro ha
     have:=hnd ha
     simpa using this
   · intro x hx _
     simpa using hx
end post
def Z6B (W:World) (v:Value) (sz n:Nat) (Gl:List Int):Prop :=
 Gl.length=n*sz/\n<=9223372036854775807/\((v = .slice none 0 0/\n=0) ∨
  ∃ b o cap C E fr,v = .slice (some ⟨b,o,none⟩) n cap/\n<=cap/\W.heap[b]? = some (.cells C E fr) /\ ∀ j,j<Gl.length->C[o+j]? = some (.int .i64 (Gl.getD j 0)))
def Zku (i:Nat) (v:Value):Value :=
 match v with
 | .slice (some _) n cap=>.slice (some ⟨i,0,none⟩) n cap
 | v=>v
def Zo8 (v:Value):Option ME :=
 match v with
 | .slice (some a) _ _=>some ⟨a.block,a.off,none⟩
 | _=>none
theorem Z6B.vr {W:World} {v:Value} {sz n:Nat} {Gl:List Int} (h:Z6B W v sz n Gl) {μ:Mu} {i:Nat} (hm:∀ m,Zo8 v=some m->μ i=some m):VR μ (Zku i v) v:=by
 obtain ⟨h1,h2,⟨rfl,_⟩ | ⟨b,o,cap,C,E,fr,rfl,_,_,_⟩⟩:=h
 · exact .sl0 0 0
 · have:=hm ⟨b,o,none⟩ rfl
   exact VR.sl (i:=i) (o:=0) this (qG _) (.inl rfl)
theorem Z6B.sl {W:World} {v:Value} {sz n:Nat} {Gl:List Int} (h:Z6B W v sz n Gl) {A:FH} {i c:Nat} (hi:i<256*c) (ha:∀ m,Zo8 v=some m->A.f i=some (.cells true none (ints Gl))):SlI A c (Zku i v) sz n Gl:=by
 obtain ⟨h1,h2,⟨rfl,rfl⟩ | ⟨b,o,cap,C,E,fr,rfl,_,_,_⟩⟩:=h
 · exact ⟨h1,h2,none,0,rfl,.inl ⟨rfl,OkV.sl0 _ _ _⟩⟩
 · refine ⟨h1,h2,some ⟨i,0,none⟩,cap,rfl,.inr ⟨i,0,ints Gl,rfl,hi,⟨true,none,ha _ rfl⟩, ?_⟩⟩
   rw [qM,qH (by simp [h1])]
theorem Z6B.blk {W:World} {v:Value} {sz n:Nat} {Gl:List Int} (h:Z6B W v sz n Gl) {μ:Mu} {m:ME} (hm:Zo8 v=some m):Z7H μ m W.heap (some (.cells true none (ints Gl)))/\m.b<W.heap.size:=by
 obtain ⟨h1,h2,⟨rfl,rfl⟩ | ⟨b,o,cap,C,E,fr,rfl,_,h3,h4⟩⟩:=h
 · cases hm
 · cases hm
   refine ⟨⟨C,E,fr,h3,fun k x hx=>?_,(fun h=>by cases h),rfl⟩,(jD.1 h3).1⟩
   have hk:k<Gl.length:=by have:=(jC.1 hx).1; simpa using this
   rw [ints_getD _ _ hk] at hx
   cases hx
   exact ⟨_,h4 k hk,.int _ _⟩
def Z5y (P:Program) (e:TypeId) (sz:Nat):Prop :=
 P.cellsOf e=sz /\ ∀ (H:Type) (enc:TypeId × Value->H) (w:World) (base:Nat) (spare:Nat->Bool) (held:Bool) (fuel:Nat) (cs:List Value) (x:DataW H × List MemPlace),
  DataW.trod enc P w base spare held fuel e cs=some x->cs.length=sz /\ ∀ v ∈ cs,∃ n,v = .int .i64 n
section flat
variable {P:Program}
theorem Z5y.int {e:TypeId} (he:P.underlying e=some (.int .i64)) (hc:P.cellsOf e=1):Z5y P e 1:=by
 refine ⟨hc,fun H enc w base spare held fuel cs x h=>?_⟩
 obtain ⟨n,rfl,_,_⟩:=DataW.trod_int he h
 exact ⟨rfl,fun v hv=>⟨n,by simpa using hv⟩⟩
theorem ZfC {α β:Type} {f:α->Option β}:∀ {l:List α} {r:List β},l.mapM f=some r -> ∀ a ∈ l,∃ b,f a=some b
 | [],r,h,a,ha=>by cases ha
 | x::l,r,h,a,ha=>by
  rw [List.mapM_cons] at h
  simp only [Option.bind_eq_bind,qA] at h
  obtain ⟨y,hy,ys,hys,_⟩:=h
  rcases List.mem_cons.1 ha with rfl | ha
  · exact ⟨y,hy⟩
  · exact ZfC hys a ha
theorem Z5y.array {t e:TypeId} {n z:Nat} (ht:P.underlying t=some (.array n e)) (hf:Z5y P e z) (hc:P.cellsOf t=n*z):Z5y P t (n*z):=by
 refine ⟨hc,fun H enc w base spare held fuel cs x h=>?_⟩
 cases fuel with
 | zero=>simp [DataW.trod] at h
 | succ fuel =>
  have h':(if cs.length=P.cellsOf t then ((List.range n).mapM fun i=>DataW.trod enc P w base spare held fuel e ((cs.drop (i*P.cellsOf e)).take (P.cellsOf e))).map fun xs=>((.agg (xs.map (·.1)),xs.flatMap (·.2)):DataW H × List MemPlace) else none)=some x:=by
   have h1:=h
   unfold DataW.trod at h1
   rw [ht] at h1
   split at h1 <;> first | exact h1 | (rename_i e1 _; cases e1) | (rename_i e1 _ _; cases e1) | (rename_i e1; cases e1) | skip
   all_goals first | exact h1 | (simp_all; done) | skip
  split at h'
  · rename_i hl
    rw [hc] at hl
    refine ⟨hl,fun v hv=>?_⟩
    cases hm:(List.range n).mapM fun i=>DataW.trod enc P w base spare held fuel e ((cs.drop (i*P.cellsOf e)).take (P.cellsOf e)) with
    | none=>rw [hm] at h'; cases h'
    | some ys =>
     obtain ⟨j,hj⟩:=List.getElem?_of_mem hv
     have hjl:j<n*z:=by have:=(jC.1 hj).1; omega
     have hz:0<z:=by
      rcases Nat.eq_zero_or_pos z with e | e
      · rw [e] at hjl; simp at hjl
      · exact e
     have hi:j / z<n:=by rw [Nat.div_lt_iff_lt_mul hz]; exact hjl
     obtain ⟨y,hy⟩:=ZfC hm (j / z) (by simpa using hi)
     rw [hf.1] at hy
     refine (hf.2 _ _ _ _ _ _ _ _ _ hy).2 v ?_
     refine List.mem_of_getElem? (i:=j % z) ?_
     rw [List.getElem?_take_of_lt (Nat.mod_lt _ hz),List.getElem?_drop,Nat.mul_comm,Nat.div_add_mod]
     exact hj
  · cases h'
theorem Z5y.struct2 {t:TypeId} {f0 f1:Field} {z0 z1:Nat} (ht:P.underlying t=some (.struct #[f0,f1])) (h0:Z5y P f0.type z0) (h1:Z5y P f1.type z1) (o0:f0.offset=0) (o1:f1.offset=z0) (hc:P.cellsOf t=z0+z1):Z5y P t (z0+z1):=by
 refine ⟨hc,fun H enc w base spare held fuel cs x h=>?_⟩
 obtain ⟨xs,n,rfl,_,hl,hxl,hf⟩:=DataW.trod_struct ht h
 rw [hc] at hl
 refine ⟨hl,fun v hv=>?_⟩
 have g0:=hf 0 f0 rfl
 have g1:=hf 1 f1 rfl
 have l2:xs.length=2:=hxl
 rw [qI qO] at g0 g1
 rw [h0.1,o0,qM] at g0
 rw [h1.1,o1] at g1
 obtain ⟨j,hj⟩:=List.getElem?_of_mem hv
 have hjl:j<z0+z1:=by have:=(jC.1 hj).1; omega
 by_cases hlt:j<z0
 · refine (h0.2 _ _ _ _ _ _ _ _ _ g0).2 v (List.mem_of_getElem? (i:=j) ?_)
   rw [List.getElem?_take_of_lt hlt]; exact hj
 · refine (h1.2 _ _ _ _ _ _ _ _ _ g1).2 v (List.mem_of_getElem? (i:=j-z0) ?_)
   rw [List.getElem?_take_of_lt qO,List.getElem?_drop,show z0+(j-z0)=j by omega]
   exact hj
theorem ZiY {H:Type} {enc:TypeId × Value->H} {W:World} {base:Nat} {t e:TypeId} {sz:Nat} {v:Value} {fuel:Nat} {x:DataW H × List MemPlace} (ht:P.underlying t=some (.slice e)) (hf:Z5y P e sz) (hz:0<sz)
 (hval:Cell.okWide P W .any base t v) (hd:DataW.trod enc P W 0 (fun _=>true) true fuel t [v]=some x):∃ n Gl,Z6B W v sz n Gl:=by
 rcases DataW.trod_slice ht hd with ⟨h1,_⟩ | ⟨a,len,cap,elems,rest,n,_,h1,_,hb,hl,hm,hlen,hel,_,_⟩
 · cases h1
   exact ⟨0,[],by simp,qO,.inl ⟨rfl,rfl⟩⟩
 · cases h1
   have hok:Cell.ok P W .any base t (.slice (some a) len cap):=by
    unfold Cell.okWide at hval
    rw [ht] at hval
    exact hval
   unfold Cell.ok at hok
   rw [ht] at hok
   obtain ⟨_,_,_,hsp,row,cells,hsh,_⟩:=hok
   obtain ⟨b,o,sp⟩:=a
   simp only at hsp
   subst hsp
   unfold World.shape? at hsh
   have hblk:∃ C E fr,W.heap[b]? = some (.cells C E fr):=by
    split at hsh
    · rename_i c el fr hh; exact ⟨c,el,fr,hh⟩
    · cases hsh
   obtain ⟨C,E,fr,hC⟩:=hblk
   have hadd:∀ o k,(⟨b,o,none⟩:Addr).add k=⟨b,o+k,none⟩:=fun o k=>by unfold Addr.add; split <;> simp_all
   have hcell:∀ j,j<len*sz -> ∃ z,C[o+j]? = some (.int .i64 z):=by
    intro j hj
    have hi:j / sz<len:=by rw [Nat.div_lt_iff_lt_mul hz]; exact hj
    have h2:=hel (j / sz) hi
    rw [qI qO] at h2
    simp only [qA] at h2
    obtain ⟨cs,hcs,htr⟩:=h2
    rw [hf.1] at hcs
    obtain ⟨_,hcl,hcg⟩:=World.cells?_some hcs
    have h3:=hcg (j % sz) (Nat.mod_lt _ hz)
    have hfl:=hf.2 _ _ _ _ _ _ _ _ _ htr
    have hjm:j % sz<cs.length:=by rw [hcl]; exact Nat.mod_lt _ hz
    rw [qI hjm] at h3
    obtain ⟨z,hz'⟩:=hfl.2 cs[j % sz] (List.getElem_mem hjm)
    rw [hz',hadd] at h3
    have:(⟨b,o+j / sz*sz,none⟩:Addr).add (j % sz)=⟨b,o+j,none⟩:=by
     rw [hadd]
     have:=Nat.div_add_mod j sz
     rw [Nat.mul_comm] at this
     congr 1; omega
    rw [this] at h3
    refine ⟨z, ?_⟩
    simpa [World.cell?,hC] using h3
   refine ⟨len,(List.range (len*sz)).map fun j=>(match C[o+j]? with | some (.int .i64 z)=>z | _=>0),by simp, ?_,.inr ⟨b,o,cap,C,E,fr,rfl,hl,hC,fun j hj=>?_⟩⟩
   · unfold maxLen at hm
     have:cap<=9223372036854775807:=by simp at hm; omega
     omega
   · have hj':j<len*sz:=by simpa using hj
     obtain ⟨z,hz'⟩:=hcell j hj'
     rw [hz']
     congr 2
     simp [List.getD,hj',hz']
end flat
end Go.Ab

namespace Go.Ab
open Go
def Zo7:Value->Option Addr
 | .slice a _ _=>a
 | _=>none
def SlX (h:FH) (s:Value) (sz n:Nat):Prop:=n<=capOf s/\Zkr h sz (Zo7 s)=true
def subS (sz lo hi:Nat):Value->Value
 | .slice (some ⟨b,o,none⟩) _ cap=>.slice (some ⟨b,o+lo*sz,none⟩) (hi-lo) (cap-lo)
 | v=>v
theorem SlX.sub {h:FH} {c:Nat} {s:Value} {sz n:Nat} {L:List Int} (hs:SlI h c s sz n L) (hx:SlX h s sz n) (k k':IntKind) (lo hi:Int) (h1:0<=lo) (h2:lo<=hi) (h3:hi<=(n:Int)) (hn:0<n) :
 slS h sz s (some (.int k lo)) (some (.int k' hi)) none=some (subS sz lo.toNat hi.toNat s):=by
 obtain ⟨g1,g2,a,cap,rfl,h4⟩:=hs
 obtain ⟨x1,x2⟩:=hx
 rcases h4 with ⟨e,hv⟩ | ⟨b,o,cs,rfl,e2,e3,e4⟩
 · omega
 · simp only [capOf,Zo7] at x1 x2
   have q0:Nat.ble cap cap=true:=qK (qG _)
   have q1:(0:Int)<=hi:=qO
   have q2:hi<=(cap:Int):=qO
   have q3:lo<=(hi.toNat:Int):=qO
   simp only [slS,x2,cond_true,Zo2,Zo3,q0,qD,bnd,decide_eq_true q1,decide_eq_true q2,decide_eq_true h1,decide_eq_true q3,qV,Option.isSome_none,Bool.false_and,cond_false,Zoi,subS]
theorem SlI.sub {h:FH} {c:Nat} {s:Value} {sz n:Nat} {L:List Int} (hs:SlI h c s sz n L) (lo hi:Nat) (h2:lo<=hi) (h3:hi<=n) (hn:0<n) :
 SlI h c (subS sz lo hi s) sz (hi-lo) ((L.drop (lo*sz)).take ((hi-lo)*sz)):=by
 obtain ⟨g1,g2,a,cap,rfl,h4⟩:=hs
 rcases h4 with ⟨e,hv⟩ | ⟨b,o,cs,rfl,e2,e3,e4⟩
 · omega
 · have hm:lo*sz+(hi-lo)*sz<=L.length:=by
    rw [g1,← Nat.add_mul]; exact Nat.mul_le_mul_right _ qO
   refine ⟨by rw [qT,qS]; omega,qO,_,_,rfl,.inr ⟨b,o+lo*sz,cs,rfl,e2,e3, ?_⟩⟩
   exact Ziw e4 hm
theorem SlX.same {h h':FH} {c:Nat} {s:Value} {sz n:Nat} {L:List Int} (hs:SlI h c s sz n L) (hn:0<n) (hh:Z0l c h h') (hx:SlX h s sz n):SlX h' s sz n:=by
 obtain ⟨g1,g2,a,cap,rfl,h4⟩:=hs
 obtain ⟨x1,x2⟩:=hx
 rcases h4 with ⟨e,hv⟩ | ⟨b,o,cs,rfl,e2,e3,e4⟩
 · omega
 · refine ⟨x1, ?_⟩
   simp only [Zo7,Zkr] at x2 ⊢
   have:HeapC.get h' b=HeapC.get h b:=hh b e2
   rw [this]; exact x2
theorem Z6B.slx {W:World} {v:Value} {sz n:Nat} {Gl:List Int} (h:Z6B W v sz n Gl) {A:FH} {i:Nat} (ha:∀ m,Zo8 v=some m->A.f i=some (.cells true none (ints Gl))):SlX A (Zku i v) sz n:=by
 obtain ⟨h1,h2,⟨rfl,rfl⟩ | ⟨b,o,cap,C,E,fr,rfl,g1,_,_⟩⟩:=h
 · exact ⟨Nat.zero_le _,rfl⟩
 · refine ⟨g1, ?_⟩
   have:HeapC.get A i=some (.cells true none (ints Gl)):=ha _ rfl
   simp only [Zku,Zo7,Zkr,this]
def tyT:List Int:=[-1,0,1,2,0,-1,2,1,1,2,-1,0,2,1,0,-1]
def ty (i f:Int):Int:=((tyT.drop (i.toNat*4)).take 4).getD f.toNat 0
theorem Zfm {i f:Int} (h1:0<=i) (h2:i<4) (h3:0<=f) (h4:f<4) (hne:i ≠ f):0<=ty i f/\ty i f<3:=by
 have:((List.range 4).all fun i=>(List.range 4).all fun f=>decide (i=f) || (decide (0<=ty (i:Nat) (f:Nat)) && decide (ty (i:Nat) (f:Nat)<3)))=true:=by decide
 rw [List.all_eq_true] at this
 have h5:=this i.toNat (by simp; omega)
 rw [List.all_eq_true] at h5
 have h6:=h5 f.toNat (by simp; omega)
 have e1:((i.toNat:Nat):Int)=i:=qO
 have e2:((f.toNat:Nat):Int)=f:=qO
 rw [e1,e2] at h6
 have h7:¬ i.toNat=f.toNat:=qO
 simpa [h7] using h6
def arcV (V:List Int) (t f i:Int):Int:=gi V (7*t+i)+gi V (7*t+4+ty i f)
end Go.Ab

namespace Go.Ab
open Go
theorem ne24 {p:List Int} (hp:p ∈ p24) {i j:Nat} (hi:i<4) (hj:j<4) (hne:i ≠ j):p.getD i 0 ≠ p.getD j 0:=by
 have:=Zim (Q:=fun p=>(List.range 4).all fun i=>(List.range 4).all fun j=>decide (i=j) || decide (p.getD i 0 ≠ p.getD j 0)) (by kernel_rfl) hp
 rw [List.all_eq_true] at this
 have h1:=this i (by simpa using hi)
 rw [List.all_eq_true] at h1
 have h2:=h1 j (by simpa using hj)
 simpa [hne,-List.getD_eq_getElem?_getD] using h2
end Go.Ab

namespace Go.Ab
open Go
def Ze1 (c0:Nat) (h:FH) (c:Nat) (v:Value) (n:Nat) (cs:List Value):Prop :=
 cs.length=n/\n<=9223372036854775807/\cs.all Z08=true ∧
  ∃ i op,v = .slice (some ⟨i,0,none⟩) n n/\256*c0<=i/\i<256*c/\h.f i=some (.cells false op cs)/\(op=none ∨ op=some 1)
theorem Ze1.flat {c0:Nat} {h:FH} {c:Nat} {v:Value} {n:Nat} {cs:List Value} (ha:Ze1 c0 h c v n cs):Z08 v=true/\v.cells = #[v]:=by
 obtain ⟨_,_,_,i,op,rfl,_⟩:=ha; exact ⟨rfl,rfl⟩
theorem Ze1.mono {c0:Nat} {h:FH} {c c':Nat} {v:Value} {n:Nat} {cs:List Value} (hc:c<=c') (ha:Ze1 c0 h c v n cs):Ze1 c0 h c' v n cs:=by
 obtain ⟨h1,h2,h3,i,op,h4,h5,h6,h7⟩:=ha
 exact ⟨h1,h2,h3,i,op,h4,h5,qO,h7⟩
theorem Ze1.blk {c0:Nat} {h:FH} {c:Nat} {v:Value} {n:Nat} {cs:List Value} (ha:Ze1 c0 h c v n cs):256*c0<=Z0p v/\Z0p v<256*c:=by
 obtain ⟨h1,h2,h3,i,op,rfl,h5,h6,h7⟩:=ha
 exact ⟨h5,h6⟩
theorem Ze1.keep {c0:Nat} {h h':FH} {c:Nat} {v:Value} {n:Nat} {cs:List Value} (ha:Ze1 c0 h c v n cs) (hh:h'.f (Z0p v)=h.f (Z0p v)):Ze1 c0 h' c v n cs:=by
 obtain ⟨h1,h2,h3,i,op,rfl,h5,h6,h7,h8⟩:=ha
 exact ⟨h1,h2,h3,i,op,rfl,h5,h6,hh.trans h7,h8⟩
theorem Ze1.app {c0:Nat} {h:FH} {c c':Nat} {v:Value} {n:Nat} {cs:List Value} (ha:Ze1 c0 h c v n cs) (x:Value) (hx:Z08 x=true) (by' b id:Nat) (hb:256*c<=b) (hid:256*c<=id) (hne:b ≠ id) (hc0:c0<=c)
 (hid':id<256*c') (hlim:(n+1)*(by'+1)<=17592186044416) :
 ∃ h',Z5D (newB h b [x]) id 1 by' v (.slice (some ⟨b,0,none⟩) 1 1)=some (.slice (some ⟨id,0,none⟩) (n+1) (n+1),h')/\Ze1 c0 h' c' (.slice (some ⟨id,0,none⟩) (n+1) (n+1)) (n+1) (cs++[x]) ∧
  (∀ j,j<256*c->j ≠ Z0p v->h'.f j=h.f j):=by
 obtain ⟨h1,h2,h3,i,op,rfl,h5,h6,h7,h8⟩:=ha
 have hlim':Nat.ble ((n+1)*(by'+1)) 17592186044416=true:=qK hlim
 have hsrc:Z0M (newB h b [x]) 1 (.slice (some ⟨b,0,none⟩) 1 1)=some ([x],1):=by
  have:Nat.ble (0+1*1) [x].length=true:=rfl
  simp only [Z0M,Z0S,Z0s,get_newB_same,qD,this,cond_true,qM]
  rfl
 have hn1:n+1<=17592186044416:=by
  have:(n+1)*1<=(n+1)*(by'+1):=Nat.mul_le_mul_left _ qO
  omega
 have hcap:Nat.ble (n+1) n=false:=by rw [qY]; intro hh; have:=qP hh; omega
 have hfx:[x].all Z08=true:=by simp [hx]
 have hbi:i ≠ b:=qO
 have hg:HeapC.get (newB h b [x]) i=some (.cells false op cs):=by rw [get_newB_ne _ _ _ _ hbi]; exact h7
 have hr:Nat.ble (0+n*1) cs.length=true:=qK (by simp [h1])
 have ht:(cs.drop 0).take (n*1)=cs:=by rw [qM,qH qO]
 rcases h8 with rfl | rfl
 · refine ⟨HeapC.set (newB h b [x]) id (.cells false (some 1) ((cs.drop 0).take (n*1)++[x])), ?_,⟨by simp [h1],qO,by simp only [List.all_append,h3,hfx,qV],id,some 1,rfl,qO,hid', ?_,.inr rfl⟩, ?_⟩
   · simp only [Z5D,hsrc,qD,appTo,hcap,cond_false,Z1Q,hlim',hfx,qV,cond_true,Z0S,Z0s,hg,hr]
   · rw [Z0c,if_pos rfl,ht]
   · intro j hj hne'
     rw [Z0c,if_neg qO,Z01,if_neg qO]
 · refine ⟨HeapC.set (HeapC.set (newB h b [x]) i .dead) id (.cells false (some 1) ((cs.drop 0).take (n*1)++[x])), ?_,⟨by simp [h1],qO,by simp only [List.all_append,h3,hfx,qV],id,some 1,rfl,qO,hid', ?_,.inr rfl⟩, ?_⟩
   · simp only [Z5D,hsrc,qD,appTo,hcap,cond_false,Z1Q,hlim',hfx,qV,cond_true,Z0S,Z0s,hg,hr,Nat.beq_refl,Bool.not_false,Bool.and_true]
   · rw [Z0c,if_pos rfl,ht]
   · intro j hj hne'
     rw [blkOf_sl] at hne'
     rw [Z0c,if_neg qO,Z0c,if_neg hne',Z01,if_neg qO]
end Go.Ab

namespace Go.Ab
open Go
def Z2h (L:List Int) (m:Nat):Prop:=L.length=m /\ ∀ k,k<m->0<=L.getD k 0/\L.getD k 0<=k
def Z6J (L:List Int):Nat->Nat->Nat
 | 0,i=>i
 | k+1,i=>if L.getD i 0=i then i else Z6J L k (L.getD i 0).toNat
def Z07 (L:List Int) (i:Nat):Nat:=Z6J L (i+1) i
theorem ZaY {L:List Int} {m:Nat} (hd:Z2h L m):∀ {k k' i:Nat},i<m->i<k->i<k'->Z6J L k i=Z6J L k' i
 | 0,_,i,_,h,_=>qO
 | k+1,0,i,_,_,h=>qO
 | k+1,k'+1,i,hi,h1,h2=>by
  rw [Z6J,Z6J]
  by_cases e:L.getD i 0=i
  · rw [if_pos e,if_pos e]
  · rw [if_neg e,if_neg e]
    have:=hd.2 i hi
    exact ZaY hd qO qO qO
theorem Z0W {L:List Int} {i:Nat} (e:L.getD i 0=i):Z07 L i=i:=by rw [Z07,Z6J,if_pos e]
theorem Z14 {L:List Int} {m i:Nat} (hd:Z2h L m) (hi:i<m) (e:¬ L.getD i 0=i):Z07 L i=Z07 L (L.getD i 0).toNat:=by
 have:=hd.2 i hi
 rw [Z07,Z6J,if_neg e,Z07]
 exact ZaY hd qO qO qO
theorem Zfv {L:List Int} {m:Nat} (hd:Z2h L m):∀ {k i:Nat},i<m->Z6J L k i<=i
 | 0,i,_=>by rw [Z6J]; omega
 | k+1,i,hi=>by
  rw [Z6J]
  split
  · omega
  · have:=hd.2 i hi
    have:=Zfv hd (k:=k) (i:=(L.getD i 0).toNat) qO
    omega
theorem Z16 {L:List Int} {m i:Nat} (hd:Z2h L m) (hi:i<m):Z07 L i<=i:=Zfv hd hi
def Z1k (L:List Int) (i j:Nat):List Int:=L.set (max (Z07 L i) (Z07 L j)) (min (Z07 L i) (Z07 L j):Nat)
theorem Z0I (l:List Int) (i j:Nat) (x:Int):(l.set i x).getD j 0=if i=j/\i<l.length then x else l.getD j 0:=by
 simp only [qB,List.getElem?_set]
 by_cases h:i=j
 · subst h
   by_cases h2:i<l.length
   · simp [h2]
   · simp [h2]
 · simp [h]
theorem Z2h.set {L:List Int} {m i:Nat} {x:Nat} (hd:Z2h L m) (hi:i<m) (hx:x<=i):Z2h (L.set i x) m:=by
 refine ⟨by simp [hd.1],fun k hk=>?_⟩
 have hl:=hd.1
 rw [Z0I]
 split
 · rename_i h; obtain ⟨rfl,_⟩:=h; omega
 · exact hd.2 k hk
theorem Z35 {L:List Int} {m i j:Nat} (hd:Z2h L m) (hi:i<m) (hj:j<m):Z2h (Z1k L i j) m:=by
 have h1:=Z16 hd hi
 have h2:=Z16 hd hj
 exact hd.set qO qO
def Z0g (m:Nat):List Int:=(List.range m).map fun k:Nat=>(k:Int)
theorem Z6r {m k:Nat} (h:k<m):(Z0g m).getD k 0=k:=by
 simp [Z0g,qB,h]
theorem Z0B (m:Nat):Z2h (Z0g m) m:=by
 refine ⟨by simp [Z0g],fun k hk=>?_⟩
 rw [Z6r hk]
 omega
def Z4Y (L:List Int) (m:Nat):List Int:=((List.range m).filter fun k=>decide (Z07 L k=k)).map fun k:Nat=>(k:Int)
theorem Z47 (L:List Int) (i:Nat):Z4Y L (i+1)=Z4Y L i++(if Z07 L i=i then [(i:Int)] else []):=by
 unfold Z4Y
 rw [List.range_succ,List.filter_append,List.map_append]
 congr 1
 by_cases h:Z07 L i=i <;> simp [h]
theorem Zev (L:List Int) (m:Nat):(Z4Y L m).length<=m:=by
 unfold Z4Y
 rw [List.length_map]
 exact Nat.le_trans (List.length_filter_le _ _) (by simp)
theorem Ze1.sl {c0:Nat} {h:FH} {c:Nat} {v:Value} {n:Nat} {L:List Int} (ha:Ze1 c0 h c v n (ints L)):SlI h c v 1 n L:=by
 obtain ⟨h1,h2,h3,i,op,rfl,h5,h6,h7,h8⟩:=ha
 have hl:L.length=n:=by simpa using h1
 refine ⟨qO,h2,some ⟨i,0,none⟩,n,rfl,.inr ⟨i,0,ints L,rfl,h6,⟨false,op,h7⟩, ?_⟩⟩
 rw [qM,qH (by simp [hl])]
end Go.Ab

namespace Go.Ab
open Go
theorem Zdx {L:List Int} {m:Nat} (hd:Z2h L m):∀ {k i:Nat},i<m->i<k->L.getD (Z6J L k i) 0=Z6J L k i
 | 0,i,_,h=>qO
 | k+1,i,hi,h=>by
  rw [Z6J]
  split
  · assumption
  · have:=hd.2 i hi
    exact Zdx hd qO qO
theorem Za0 {L:List Int} {m i:Nat} (hd:Z2h L m) (hi:i<m):L.getD (Z07 L i) 0=Z07 L i:=Zdx hd hi qO
theorem Z2l {L:List Int} {m i:Nat} (hd:Z2h L m) (hi:i<m):Z07 L (Z07 L i)=Z07 L i:=Z0W (Za0 hd hi)
theorem Z1R {L:List Int} {m i j:Nat} (hd:Z2h L m) (hi:i<m) (hj:j<m):∀ {k:Nat},k<m →
 Z07 (Z1k L i j) k=if Z07 L k=max (Z07 L i) (Z07 L j) then min (Z07 L i) (Z07 L j) else Z07 L k:=by
 have h1:=Z16 hd hi
 have h2:=Z16 hd hj
 have f1:=Za0 hd hi
 have f2:=Za0 hd hj
 have hd':=Z35 hd hi hj
 have hl:=hd.1
 obtain ⟨M,hM⟩:=jN (max (Z07 L i) (Z07 L j))
 obtain ⟨N,hN⟩:=jN (min (Z07 L i) (Z07 L j))
 have fM:L.getD M 0=M:=by
  rcases Nat.le_total (Z07 L i) (Z07 L j) with h | h
  · rw [show M=Z07 L j by omega]; exact f2
  · rw [show M=Z07 L i by omega]; exact f1
 have fN:L.getD N 0=N:=by
  rcases Nat.le_total (Z07 L i) (Z07 L j) with h | h
  · rw [show N=Z07 L i by omega]; exact f1
  · rw [show N=Z07 L j by omega]; exact f2
 have hg:∀ k,(Z1k L i j).getD k 0=if M=k/\M<L.length then (N:Int) else L.getD k 0:=fun k=>by
  unfold Z1k
  rw [Z0I,hM,hN]
 rw [hM,hN]
 have key:∀ (b k:Nat),k<b->k<m->Z07 (Z1k L i j) k=if Z07 L k=M then N else Z07 L k:=by
  intro b
  induction b with
  | zero=>intro k h; omega
  | succ b ih =>
   intro k hb hk
   by_cases e:k=M
   · subst e
     rw [Z0W fM,if_pos rfl]
     have e2:=hg k
     rw [if_pos ⟨rfl,qO⟩] at e2
     by_cases e3:N=k
     · rw [Z0W (by rw [e2,e3])]; exact e3.symm
     · rw [Z14 hd' qO qO,e2,qE,ih N qO qO,Z0W fN,if_neg e3]
   · have e2:=hg k
     rw [if_neg (fun q=>e q.1.symm)] at e2
     by_cases e3:L.getD k 0=k
     · rw [Z0W (e2.trans e3),Z0W e3,if_neg e]
     · have d:=hd.2 k hk
       rw [Z14 hd' hk (by rw [e2]; exact e3),e2,ih _ qO qO,← Z14 hd hk e3]
 intro k hk
 exact key (k+1) k qO hk
theorem Zjg {L:List Int} {m i j:Nat} (hd:Z2h L m) (hi:i<m) (hj:j<m):Z07 (Z1k L i j) i=Z07 (Z1k L i j) j:=by
 rw [Z1R hd hi hj hi,Z1R hd hi hj hj]
 split <;> split <;> omega
theorem Zjh {L:List Int} {m i j a b:Nat} (hd:Z2h L m) (hi:i<m) (hj:j<m) (ha:a<m) (hb:b<m) (e:Z07 L a=Z07 L b):Z07 (Z1k L i j) a=Z07 (Z1k L i j) b:=by
 rw [Z1R hd hi hj ha,Z1R hd hi hj hb,e]
end Go.Ab

namespace Go.Ab
open Go
def zs (Q:List Nat):List Int:=Q.map fun k:Nat=>(k:Int)
def ZoE:List Bool->Nat
 | []=>0
 | b::l=>(if b=true then 1 else 0)+ZoE l
theorem Zh6:∀ {l:List Bool} {j:Nat},j<l.length->l.getD j false=false->ZoE (l.set j true)=ZoE l+1
 | [],j,h,_=>by simp at h
 | b::l,0,_,e=>by
  obtain rfl:b=false:=e
  show (if (true:Bool)=true then 1 else 0)+ZoE l=_
  rw [ZoE,if_pos rfl,if_neg (by simp)]; omega
 | b::l,j+1,h,e=>by
  show (if b=true then 1 else 0)+ZoE (l.set j true)=(if b=true then 1 else 0)+ZoE l+1
  rw [Zh6 (l:=l) (by simpa using h) e]; omega
theorem Zjj (l:List Bool) (i j:Nat) (x:Bool):(l.set i x).getD j false=if i=j/\i<l.length then x else l.getD j false:=by
 simp only [qB,List.getElem?_set]
 by_cases h:i=j
 · subst h
   by_cases h2:i<l.length
   · simp [h2]
   · simp [h2]
 · simp [h]
def ps (w:Nat):Nat:=w / 4*7+w % 4
structure FSt where
 X:List Int
 K:List Bool
 Q:List Nat
 m:Int
def fU (Gl:List Int) (t f:Nat):Nat:=(Z0D (Z04 Gl t f)).toNat
def fJ (Gl:List Int) (t f i:Nat):Nat:=((Z0v (Z04 Gl t f)).getD i 0).toNat
def fV (Gl:List Int) (t f i:Nat):Nat:=4*fU Gl t f+fJ Gl t f i
def fW (Gl X:List Int) (t f i:Nat):Int:=arcV X t f i-gi X (7*(fU Gl t f:Int)+4+ty (fJ Gl t f i) (fJ Gl t f f))
structure FOk (n:Nat) (s:FSt) (B:Int):Prop where
 xl:s.X.length=7*n
 kl:s.K.length=4*n
 nd:s.Q.Nodup
 qk:∀ w ∈ s.Q,w<4*n/\s.K.getD w false=true
 qc:s.Q.length<=ZoE s.K
 xb:∀ j:Nat,-B<=s.X.getD j 0/\s.X.getD j 0<=B
 mb:-B<=s.m/\s.m<=0
 qd:∀ t k:Nat,k<3->0<=s.X.getD (7*t+4+k) 0/\s.X.getD (7*t+4+k) 0<=1000000
theorem FOk.mono {n:Nat} {s:FSt} {B B':Int} (h:FOk n s B) (hb:B<=B'):FOk n s B' :=
 ⟨h.xl,h.kl,h.nd,h.qk,h.qc,fun j=>by have:=h.xb j; omega,by have:=h.mb; omega,h.qd⟩
structure FGl (Gl:List Int) (n t f i:Nat):Prop where
 u:fU Gl t f<n
 uz:Z0D (Z04 Gl t f)=(fU Gl t f:Nat)
 j:fJ Gl t f i<4
 jz:(Z0v (Z04 Gl t f)).getD i 0=(fJ Gl t f i:Nat)
 h:fJ Gl t f f<4
 hz:(Z0v (Z04 Gl t f)).getD f 0=(fJ Gl t f f:Nat)
 ne:fJ Gl t f i ≠ fJ Gl t f f
theorem FGl.of {Gl:List Int} {n t f i:Nat} (hok:Z0w Gl n=true) (hG:Gl.length=n*20) (ht:t<n) (hf:f<4) (hi:i<4) (hne:i ≠ f) (hg:¬ Z0D (Z04 Gl t f)<0):FGl Gl n t f i:=by
 obtain ⟨h1,h2,h3,h4⟩:=Z1S (Z33 hok ht hf) hg
 have hp:=Zeq (Z1g (Z0i hG ht hf)) h2
 have r1:=Z7Q hp hi
 have r2:=Z7Q hp hf
 have r3:=ne24 hp hi hf hne
 exact ⟨by unfold fU; omega,by unfold fU; omega,by unfold fJ; omega,by unfold fJ; omega,by unfold fJ; omega,by unfold fJ; omega,by unfold fJ; omega⟩
theorem ZmP {Gl:List Int} {n t f i:Nat} {s:FSt} {B:Int} (h:FOk n s B) (ht:t<n) (hf:f<4) (hi:i<4) (hne:i ≠ f) (g:FGl Gl n t f i):-(B+1000000)<=fW Gl s.X t f i/\fW Gl s.X t f i<=B+1000000:=by
 unfold fW arcV
 have r1:=Zfm (i:=(i:Int)) (f:=(f:Int)) qO qO qO qO qO
 have r2:=Zfm (i:=(fJ Gl t f i:Int)) (f:=(fJ Gl t f f:Int)) qO (by have:=g.j; omega) qO (by have:=g.h; omega) (by have:=g.ne; omega)
 have q1:=h.qd t (ty i f).toNat qO
 have q2:=h.qd (fU Gl t f) (ty (fJ Gl t f i) (fJ Gl t f f)).toNat qO
 have q3:=h.xb (7*t+i)
 unfold gi
 rw [show (7*(t:Int)+i).toNat=7*t+i by omega,show (7*(t:Int)+4+ty i f).toNat=7*t+4+(ty i f).toNat by omega,
  show (7*(fU Gl t f:Int)+4+ty (fJ Gl t f i) (fJ Gl t f f)).toNat=7*fU Gl t f+4+(ty (fJ Gl t f i) (fJ Gl t f f)).toNat by omega]
 omega
theorem FOk.push {Gl:List Int} {n t f i:Nat} {s:FSt} {B:Int} (h:FOk n s B) (hB:0<=B) (ht:t<n) (hf:f<4) (hi:i<4) (hne:i ≠ f) (g:FGl Gl n t f i) (hk:s.K.getD (fV Gl t f i) false=false) :
 FOk n ⟨s.X.set (7*fU Gl t f+fJ Gl t f i) (fW Gl s.X t f i),s.K.set (fV Gl t f i) true,s.Q++[fV Gl t f i],min s.m (fW Gl s.X t f i)⟩ (B+1000000):=by
 have hv:fV Gl t f i<4*n:=by have:=g.u; have:=g.j; unfold fV; omega
 have hw:=ZmP h ht hf hi hne g
 have hj:=g.j
 refine ⟨by simp [h.xl],by simp [h.kl], ?_,fun w hw=>?_, ?_,fun j=>?_, ?_,fun u k hk=>?_⟩
 · rw [List.nodup_append]
   refine ⟨h.nd,by simp,fun a ha b hb=>?_⟩
   rw [jG] at hb
   subst hb
   rintro rfl
   have:=(h.qk _ ha).2
   rw [hk] at this; cases this
 · rw [Zjj]
   rcases List.mem_append.1 hw with h1 | h1
   · refine ⟨(h.qk w h1).1, ?_⟩
     split
     · rfl
     · exact (h.qk w h1).2
   · rw [jG] at h1
     subst h1
     exact ⟨hv,by rw [if_pos ⟨rfl,by rw [h.kl]; exact hv⟩]⟩
 · have:=h.qc
   rw [Zh6 (by rw [h.kl]; exact hv) hk]; simp; omega
 · rw [Z0I]
   have:=h.xb j
   split <;> omega
 · have:=h.mb
   simp only
   omega
 · rw [Z0I,if_neg qO]
   exact h.qd u k hk
end Go.Ab

namespace Go.Ab
open Go
theorem Z1w {A B:List Int} {m:Nat} (hA:A.length=m) (hB:B.length=m) (h:∀ k,k<m->A.getD k 0=B.getD k 0):A=B:=by
 refine List.ext_getElem qO fun j a b=>?_
 have:=h j qO
 simpa [qB,qI a,qI b] using this
def Z1x (C:List Int) (i:Nat):Nat:=(Z4Y C i).length
theorem ZdL (C:List Int) (i:Nat):Z1x C (i+1)=Z1x C i+if Z07 C i=i then 1 else 0:=by
 unfold Z1x
 rw [Z47,jI]
 split <;> rfl
theorem Z1o (C:List Int) (i:Nat):Z1x C i<=i:=Zev C i
def Z6N (C:List Int) (m:Nat):List Int:=(List.range m).map fun k=>((Z1x C (Z07 C k):Nat):Int)
theorem Z0n (C:List Int) (m:Nat):(Z6N C m).length=m:=by simp [Z6N]
theorem Z4i (C:List Int) {m k:Nat} (h:k<m):(Z6N C m).getD k 0=(Z1x C (Z07 C k):Nat):=by simp [Z6N,qB,h]
def Z3Y (C:List Int) (m i:Nat):List Int:=(List.range m).map fun k=>if k<i then ((Z1x C (Z07 C k):Nat):Int) else 0
theorem Z11 (C:List Int) (m i:Nat):(Z3Y C m i).length=m:=by simp [Z3Y]
theorem Z5K (C:List Int) {m k:Nat} (i:Nat) (h:k<m):(Z3Y C m i).getD k 0=if k<i then ((Z1x C (Z07 C k):Nat):Int) else 0:=by simp [Z3Y,qB,h]
theorem Zj0 (C:List Int) (m:Nat):Z3Y C m 0=List.replicate m 0:=by
 refine Z1w (m:=m) (Z11 _ _ _) (by simp) fun k hk=>?_
 rw [Z5K C 0 hk,if_neg qO]
 simp [qB,jM,hk]
theorem Zl7 (C:List Int) (m:Nat):Z3Y C m m=Z6N C m:=by
 refine Z1w (m:=m) (Z11 _ _ _) (Z0n _ _) fun k hk=>?_
 rw [Z5K C m hk,if_pos hk,Z4i C hk]
end Go.Ab

namespace Go.Ab
open Go
def jn:List (Nat × Nat)->List Int->List Int
 | [],L=>L
 | p::D,L=>jn D (Z1k L p.1 p.2)
theorem Zae:∀ (D E:List (Nat × Nat)) (L:List Int),jn (D++E) L=jn E (jn D L)
 | [],E,L=>rfl
 | p::D,E,L=>by rw [List.cons_append,jn,jn,Zae D E]
theorem Z2o {m:Nat}:∀ (D:List (Nat × Nat)) (L:List Int),Z2h L m->(∀ p,p ∈ D->p.1<m/\p.2<m) →
 Z2h (jn D L) m/\(∀ a b,a<m->b<m->Z07 L a=Z07 L b->Z07 (jn D L) a=Z07 (jn D L) b)/\(∀ p,p ∈ D->Z07 (jn D L) p.1=Z07 (jn D L) p.2)
 | [],L,hd,_=>⟨hd,fun a b _ _ e=>e,fun p h=>by cases h⟩
 | p::D,L,hd,hg=>by
  obtain ⟨g1,g2⟩:=hg p (by simp)
  obtain ⟨i1,i2,i3⟩:=Z2o D (Z1k L p.1 p.2) (Z35 hd g1 g2) (fun q hq=>hg q (by simp [hq]))
  refine ⟨i1,fun a b ha hb e=>i2 a b ha hb (Zjh hd g1 g2 ha hb e),fun q hq=>?_⟩
  rcases List.mem_cons.1 hq with rfl | hq
  · exact i2 _ _ g1 g2 (Zjg hd g1 g2)
  · exact i3 q hq
theorem Zgj {m:Nat} (S:Nat->Prop):∀ (D:List (Nat × Nat)) (L:List Int),Z2h L m->(∀ p,p ∈ D->p.1<m/\p.2<m/\(S p.1 ↔ S p.2))->(∀ a b,a<m->b<m->Z07 L a=Z07 L b->(S a ↔ S b)) →
 ∀ a b,a<m->b<m->Z07 (jn D L) a=Z07 (jn D L) b->(S a ↔ S b)
 | [],L,_,_,h=>h
 | p::D,L,hd,hg,h=>by
  obtain ⟨g1,g2,g3⟩:=hg p (by simp)
  refine Zgj S D (Z1k L p.1 p.2) (Z35 hd g1 g2) (fun q hq=>hg q (by simp [hq])) fun a b ha hb e=>?_
  rw [Z1R hd g1 g2 ha,Z1R hd g1 g2 hb] at e
  have ai:=h a p.1 ha g1
  have aj:=h a p.2 ha g2
  have bi:=h b p.1 hb g1
  have bj:=h b p.2 hb g2
  have ab:=h a b ha hb
  by_cases c1:Z07 L a=max (Z07 L p.1) (Z07 L p.2) <;> by_cases c2:Z07 L b=max (Z07 L p.1) (Z07 L p.2)
  · exact ab (c1.trans c2.symm)
  · rw [if_pos c1,if_neg c2] at e
    rcases Nat.le_total (Z07 L p.1) (Z07 L p.2) with q | q
    · exact (aj qO).trans (g3.symm.trans (bi qO).symm)
    · exact (ai qO).trans (g3.trans (bj qO).symm)
  · rw [if_neg c1,if_pos c2] at e
    rcases Nat.le_total (Z07 L p.1) (Z07 L p.2) with q | q
    · exact (ai qO).trans (g3.trans (bj qO).symm)
    · exact (aj qO).trans (g3.symm.trans (bi qO).symm)
  · rw [if_neg c1,if_neg c2] at e
    exact ab e
theorem Z9p {m k:Nat} (h:k<m):Z07 (Z0g m) k=k:=Z0W (Z6r h)
theorem Z4b {m:Nat} (S:Nat->Prop) {D:List (Nat × Nat)} (hg:∀ p,p ∈ D->p.1<m/\p.2<m/\(S p.1 ↔ S p.2)) {a b:Nat} (ha:a<m) (hb:b<m) (e:Z07 (jn D (Z0g m)) a=Z07 (jn D (Z0g m)) b):S a ↔ S b :=
 Zgj S D (Z0g m) (Z0B _) hg (fun a b ha hb e=>by rw [Z9p ha,Z9p hb] at e; rw [e]) a b ha hb e
theorem jn_eq {m:Nat} {D E:List (Nat × Nat)} (hD:∀ p,p ∈ D->p.1<m/\p.2<m) (hE:∀ p,p ∈ E->p.1<m/\p.2<m)
 (h1:∀ p,p ∈ D->Z07 (jn E (Z0g m)) p.1=Z07 (jn E (Z0g m)) p.2) (h2:∀ p,p ∈ E->Z07 (jn D (Z0g m)) p.1=Z07 (jn D (Z0g m)) p.2) {k:Nat} (hk:k<m) :
 Z07 (jn D (Z0g m)) k=Z07 (jn E (Z0g m)) k:=by
 obtain ⟨d1,_,d3⟩:=Z2o D (Z0g m) (Z0B _) hD
 obtain ⟨e1,_,e3⟩:=Z2o E (Z0g m) (Z0B _) hE
 have kD:=Z16 d1 hk
 have kE:=Z16 e1 hk
 have rD:=Z2l d1 hk
 have rE:=Z2l e1 hk
 have a1:=Z4b (fun w=>Z07 (jn E (Z0g m)) w=Z07 (jn E (Z0g m)) k) (D:=D) (fun p hp=>⟨(hD p hp).1,(hD p hp).2,by show _=_ ↔ _=_; rw [h1 p hp]⟩) (a:=Z07 (jn D (Z0g m)) k) (b:=k) qO hk rD
 have a2:=Z4b (fun w=>Z07 (jn D (Z0g m)) w=Z07 (jn D (Z0g m)) k) (D:=E) (fun p hp=>⟨(hE p hp).1,(hE p hp).2,by show _=_ ↔ _=_; rw [h2 p hp]⟩) (a:=Z07 (jn E (Z0g m)) k) (b:=k) qO hk rE
 have b1:=a1.2 rfl
 have b2:=a2.2 rfl
 have c1:=Z16 e1 (i:=Z07 (jn D (Z0g m)) k) qO
 have c2:=Z16 d1 (i:=Z07 (jn E (Z0g m)) k) qO
 omega
theorem Z6U {C C':List Int}:∀ {i:Nat},(∀ k,k<i->Z07 C k=Z07 C' k)->Z4Y C i=Z4Y C' i
 | 0,_=>rfl
 | i+1,h=>by rw [Z47,Z47,Z6U (fun k hk=>h k qO),h i qO]
theorem Zb6 {C C':List Int} {i:Nat} (h:∀ k,k<i->Z07 C k=Z07 C' k):Z1x C i=Z1x C' i:=by unfold Z1x; rw [Z6U h]
theorem Zhx {C C':List Int} {m:Nat} (hd:Z2h C m) (h:∀ k,k<m->Z07 C k=Z07 C' k):Z6N C m=Z6N C' m:=by
 refine Z1w (m:=m) (Z0n _ _) (Z0n _ _) fun k hk=>?_
 have:=Z16 hd hk
 rw [Z4i _ hk,Z4i _ hk,← h k hk,Zb6 (C':=C') fun j hj=>h j qO]
theorem Z4X {C:List Int}:∀ {m r:Nat},r<m->Z07 C r=r->(Z4Y C m)[Z1x C r]? = some (r:Int)
 | 0,r,h,_=>qO
 | m+1,r,h,e=>by
  rw [Z47]
  by_cases q:r=m
  · subst q
    rw [if_pos e,Z1x,List.getElem?_append_right (qG _)]
    simp
  · have ih:=Z4X (m:=m) (r:=r) qO e
    have hl:=(jC.1 ih).1
    rw [jE hl,ih]
theorem Zpy {C:List Int} {m r:Nat} (h:r<m) (e:Z07 C r=r):Z1x C r<Z1x C m:=by
 have:=(jC.1 (Z4X h e)).1
 exact this
theorem ZmH {C:List Int} {m r s:Nat} (hr:r<m) (hs:s<m) (er:Z07 C r=r) (es:Z07 C s=s) (e:Z1x C r=Z1x C s):r=s:=by
 have h1:=Z4X hr er
 have h2:=Z4X hs es
 rw [e,h2] at h1
 have:=Option.some.inj h1
 omega
end Go.Ab

namespace Go.Ab
open Go
def Z44 (L L':List Int) (m:Nat):Prop:=Z2h L' m /\ ∀ k,k<m->Z07 L' k=Z07 L k
theorem Z44.refl {L:List Int} {m:Nat} (h:Z2h L m):Z44 L L m:=⟨h,fun _ _=>rfl⟩
theorem Z44.trans {L L' L'':List Int} {m:Nat} (a:Z44 L L' m) (b:Z44 L' L'' m):Z44 L L'' m:=⟨b.1,fun k hk=>(b.2 k hk).trans (a.2 k hk)⟩
def Z9y (L:List Int) (i:Nat):List Int:=L.set i (L.getD (L.getD i 0).toNat 0)
theorem ZcQ {L:List Int} {m:Nat} (hd:Z2h L m) {i:Nat} (hi:i<m) (k:Nat):(Z9y L i).getD k 0=if k=i then L.getD (L.getD i 0).toNat 0 else L.getD k 0:=by
 unfold Z9y
 rw [Z0I]
 by_cases e:k=i
 · subst e; rw [if_pos ⟨rfl,by rw [hd.1]; exact hi⟩,if_pos rfl]
 · rw [if_neg (fun q=>e q.1.symm),if_neg e]
theorem ZhI {L:List Int} {m i:Nat} (hd:Z2h L m) (hi:i<m):Z44 L (Z9y L i) m:=by
 have di:=hd.2 i hi
 have dp:=hd.2 (L.getD i 0).toNat qO
 have hd':Z2h (Z9y L i) m:=by
  refine ⟨by unfold Z9y; rw [jL,hd.1],fun k hk=>?_⟩
  rw [ZcQ hd hi]
  by_cases e:k=i
  · rw [if_pos e]; omega
  · rw [if_neg e]; exact hd.2 k hk
 refine ⟨hd', ?_⟩
 have key:∀ (b k:Nat),k<b->k<m->Z07 (Z9y L i) k=Z07 L k:=by
  intro b
  induction b with
  | zero=>intro k h; omega
  | succ b ih =>
   intro k hb hk
   have dk:=hd.2 k hk
   have e1:=ZcQ hd hi k
   by_cases e:k=i
   · subst e
     rw [if_pos rfl] at e1
     by_cases e2:L.getD k 0=k
     · rw [e2,qE,e2] at e1
       rw [Z0W e1,Z0W e2]
     · rw [Z14 hd hk e2]
       have hp:(L.getD k 0).toNat<k:=qO
       by_cases e3:L.getD (L.getD k 0).toNat 0=(L.getD k 0).toNat
       · rw [Z14 hd' hk (by rw [e1,e3]; omega),e1,e3,qE,ih _ qO qO]
       · rw [Z14 hd qO e3,Z14 hd' hk (by rw [e1]; omega),e1,ih _ qO qO]
   · rw [if_neg e] at e1
     by_cases e2:L.getD k 0=k
     · rw [Z0W (e1.trans e2),Z0W e2]
     · rw [Z14 hd hk e2,Z14 hd' hk (by rw [e1]; exact e2),e1,ih _ qO qO]
 exact fun k hk=>key (k+1) k qO hk
theorem ZmG {L:List Int} {m i:Nat} (hd:Z2h L m) (hi:i<m) (hne:L.getD i 0 ≠ i):0<=L.getD (L.getD i 0).toNat 0/\(L.getD (L.getD i 0).toNat 0).toNat<i/\Z07 L (L.getD (L.getD i 0).toNat 0).toNat=Z07 L i:=by
 have di:=hd.2 i hi
 have dp:=hd.2 (L.getD i 0).toNat qO
 refine ⟨dp.1,qO, ?_⟩
 rw [Z14 hd hi hne]
 by_cases e3:L.getD (L.getD i 0).toNat 0=(L.getD i 0).toNat
 · rw [e3,qE]
 · rw [Z14 hd qO e3]
theorem Z44.join {L L':List Int} {m i j:Nat} (hd:Z2h L m) (s:Z44 L L' m) (hi:i<m) (hj:j<m):Z44 (Z1k L i j) (Z1k L' i j) m:=by
 refine ⟨Z35 s.1 hi hj,fun k hk=>?_⟩
 rw [Z1R hd hi hj hk,Z1R s.1 hi hj hk,s.2 i hi,s.2 j hj,s.2 k hk]
end Go.Ab

namespace Go.Ab
open Go
def edL:List Int:=[0,1,0,2,0,3,1,2,1,3,2,3]
def ZmC (a b i j:Int):Bool:=decide (a=i/\b=j) || decide (a=j/\b=i)
def edI (i j:Int):Nat->Nat->Int
 | 0,_=>-1
 | k+1,m=>if ZmC (edL.getD (2*m) 0) (edL.getD (2*m+1) 0) i j then (m:Int) else edI i j k (m+1)
def edN (i j:Int):Int:=edI i j 6 0
theorem Z4N {i j:Int} (h1:0<=i) (h2:i<4) (h3:0<=j) (h4:j<4) (hne:i ≠ j):0<=edN i j/\edN i j<6:=by
 have:((List.range 4).all fun i=>(List.range 4).all fun j=>decide (i=j) || (decide (0<=edN (i:Nat) (j:Nat)) && decide (edN (i:Nat) (j:Nat)<6)))=true:=by decide
 rw [List.all_eq_true] at this
 have h5:=this i.toNat (by simp; omega)
 rw [List.all_eq_true] at h5
 have h6:=h5 j.toNat (by simp; omega)
 have e1:((i.toNat:Nat):Int)=i:=qO
 have e2:((j.toNat:Nat):Int)=j:=qO
 rw [e1,e2] at h6
 have h7:¬ i.toNat=j.toNat:=qO
 simpa [h7] using h6
def edA (e:Int):Int:=((edL.drop (e.toNat*2)).take 2).getD 0 0
def edB (e:Int):Int:=((edL.drop (e.toNat*2)).take 2).getD 1 0
theorem Zf4 {e:Int} (h1:0<=e) (h2:e<6):0<=edA e/\edA e<4/\0<=edB e/\edB e<4/\edA e ≠ edB e:=by
 have:((List.range 6).all fun e=>decide (0<=edA (e:Nat)/\edA (e:Nat)<4/\0<=edB (e:Nat)/\edB (e:Nat)<4/\edA (e:Nat) ≠ edB (e:Nat)))=true:=by decide
 rw [List.all_eq_true] at this
 have h5:=this e.toNat (by simp; omega)
 have e1:((e.toNat:Nat):Int)=e:=qO
 rw [e1] at h5
 exact of_decide_eq_true h5
theorem edN_ed {e:Nat} (h:e<6):edN (edA e) (edB e)=e:=by
 have:∀ a:Fin 6,edN (edA (a:Nat)) (edB (a:Nat))=(a:Nat):=by decide
 exact this ⟨e,h⟩
theorem Zh1 {i j:Nat} (hi:i<4) (hj:j<4):edN (i:Int) j=edN j i:=by
 have:∀ a b:Fin 4,edN ((a:Nat):Int) (b:Nat)=edN (b:Nat) (a:Nat):=by decide
 exact this ⟨i,hi⟩ ⟨j,hj⟩
theorem Zox {i j:Nat} (hi:i<4) (hj:j<4) (hne:i ≠ j):edA (edN i j)=(min i j:Nat)/\edB (edN i j)=(max i j:Nat):=by
 have:∀ a b:Fin 4,a ≠ b->edA (edN ((a:Nat):Int) (b:Nat))=(min (a:Nat) b:Nat)/\edB (edN ((a:Nat):Int) (b:Nat))=(max (a:Nat) b:Nat):=by decide
 exact this ⟨i,hi⟩ ⟨j,hj⟩ (fun e=>hne (congrArg Fin.val e))
def upL {α:Type} (g:Nat->List α):Nat->List α
 | 0=>[]
 | n+1=>upL g n++g n
theorem Z0x {α:Type} {g:Nat->List α} {x:α}:∀ {n:Nat},x ∈ upL g n ↔ ∃ i,i<n/\x ∈ g i
 | 0=>by simp [upL]
 | n+1=>by
  rw [upL,List.mem_append,Z0x (n:=n)]
  constructor
  · rintro (⟨i,h1,h2⟩ | h)
    · exact ⟨i,qO,h2⟩
    · exact ⟨n,qO,h⟩
  · rintro ⟨i,h1,h2⟩
    by_cases e:i=n
    · subst e; exact .inr h2
    · exact .inl ⟨i,qO,h2⟩
abbrev Prs:=List (Nat × Nat)
def eNo (t i j:Nat):Nat:=6*t+(edN i j).toNat
def vI (Gl:List Int) (t f i:Nat):Prs:=if i=f then [] else [(4*t+i,4*fU Gl t f+fJ Gl t f i)]
def dJ (Gl:List Int) (t f i j:Nat):Prs:=if j ≠ f/\j ≠ i then [(16*t+4*i+j,16*fU Gl t f+4*fJ Gl t f i+fJ Gl t f j)] else []
def eJ (Gl:List Int) (t f i j:Nat):Prs:=if j ≠ f/\j ≠ i then [(eNo t i j,eNo (fU Gl t f) (fJ Gl t f i) (fJ Gl t f j))] else []
def dI (Gl:List Int) (t f i:Nat):Prs:=if i=f then [] else upL (dJ Gl t f i) 4
def eI (Gl:List Int) (t f i:Nat):Prs:=if i=f then [] else upL (eJ Gl t f i) 4
def tF (Gl:List Int) (t f:Nat):Prs:=if Z0D (Z04 Gl t f)<0 then [] else [(4*t+f,4*fU Gl t f+fJ Gl t f f)]
def vF (Gl:List Int) (t f:Nat):Prs:=if Z0D (Z04 Gl t f)<0 then [] else upL (vI Gl t f) 4
def dF (Gl:List Int) (t f:Nat):Prs:=if Z0D (Z04 Gl t f)<0 then [] else upL (dI Gl t f) 4
def eF (Gl:List Int) (t f:Nat):Prs:=if Z0D (Z04 Gl t f)<0 then [] else upL (eI Gl t f) 4
def tT (Gl:List Int) (t:Nat):Prs:=upL (tF Gl t) 4
def vT (Gl:List Int) (t:Nat):Prs:=upL (vF Gl t) 4
def dT (Gl:List Int) (t:Nat):Prs:=upL (dF Gl t) 4
def eT (Gl:List Int) (t:Nat):Prs:=upL (eF Gl t) 4
def tP (Gl:List Int) (n:Nat):Prs:=upL (tT Gl) n
def vP (Gl:List Int) (n:Nat):Prs:=upL (vT Gl) n
def dP (Gl:List Int) (n:Nat):Prs:=upL (dT Gl) n
def eP (Gl:List Int) (n:Nat):Prs:=upL (eT Gl) n
def vCs (Gl:List Int) (n:Nat):List Int:=jn (vP Gl n) (Z0g (4*n))
def dCs (Gl:List Int) (n:Nat):List Int:=jn (dP Gl n) (Z0g (16*n))
def eCs (Gl:List Int) (n:Nat):List Int:=jn (eP Gl n) (Z0g (6*n))
def tCs (Gl:List Int) (n:Nat):List Int:=jn (tP Gl n) (Z0g (4*n))
def Jn (D:Prs) (m:Nat) (L:List Int):Prop:=Z44 (jn D (Z0g m)) L m/\Z2h (jn D (Z0g m)) m
theorem Jn.nil (m:Nat):Jn [] m (Z0g m):=⟨Z44.refl (Z0B m),Z0B m⟩
theorem Jn.snoc {D:Prs} {m:Nat} {L L':List Int} {i j:Nat} (h:Jn D m L) (hi:i<m) (hj:j<m) (s:Z44 (Z1k L i j) L' m):Jn (D++[(i,j)]) m L':=by
 have e:jn (D++[(i,j)]) (Z0g m)=Z1k (jn D (Z0g m)) i j:=by rw [Zae]; rfl
 have hd:=Z35 h.2 hi hj
 refine ⟨?_,by rw [e]; exact hd⟩
 rw [e]
 exact (Z44.join h.2 h.1 hi hj).trans s
theorem Jn.dn {D:Prs} {m:Nat} {L:List Int} (h:Jn D m L):Z2h L m:=h.1.1
end Go.Ab

namespace Go.Ab
def Ze5 (f:Nat->Int):Nat->Int
 | 0=>0
 | n+1=>Ze5 f n+f n
theorem ZaV {f g:Nat->Int}:∀ {n:Nat},(∀ a,a<n->f a=g a)->Ze5 f n=Ze5 g n
 | 0,_=>rfl
 | n+1,h=>by rw [Ze5,Ze5,ZaV (n:=n) (fun a ha=>h a qO),h n qO]
theorem ZaU (k:Int):∀ (n:Nat),Ze5 (fun _=>k) n=n*k
 | 0=>by simp [Ze5]
 | n+1=>by rw [Ze5,ZaU k n,jH,Int.add_mul]; simp
theorem ZiB (n:Nat):Ze5 (fun _=>0) n=0:=by rw [ZaU]; simp
end Go.Ab

namespace Go.Ab
open Go
theorem ZiC {p:Nat->Prop} [DecidablePred p] {N:Nat} (h:∀ a,a<N -> ¬ p a):Ze5 (fun a=>if p a then (1:Int) else 0) N=0:=by
 rw [ZaV (g:=fun _=>0) fun a ha=>if_neg (h a ha),ZiB]
def cl (C:List Int) (x:Nat):Nat:=Z1x C (Z07 C x)
section
variable {C:List Int} {m:Nat} (hd:Z2h C m)
 include hd
theorem ZiN {x:Nat} (hx:x<m):Z07 C x<m:=by have:=Z16 hd hx; omega
theorem cl_eq {x y:Nat} (hx:x<m) (hy:y<m):cl C x=cl C y ↔ Z07 C x=Z07 C y :=
 ⟨fun e=>ZmH (ZiN hd hx) (ZiN hd hy) (Z2l hd hx) (Z2l hd hy) e,fun e=>by unfold cl; rw [e]⟩
end
theorem Zeo (C:List Int) {m k:Nat} (h:k<m):(Z6N C m).getD k 0=(cl C k:Nat):=Z4i C h
structure GB (Gl:List Int) (n t f:Nat):Prop where
 u:fU Gl t f<n
 j:∀ i,i<4->fJ Gl t f i<4
 inj:∀ i k,i<4->k<4->fJ Gl t f i=fJ Gl t f k->i=k
 ne:¬ (fU Gl t f=t/\fJ Gl t f f=f)
 g:¬ Z0D (Z04 Gl (fU Gl t f) (fJ Gl t f f))<0
 bu:fU Gl (fU Gl t f) (fJ Gl t f f)=t
 bj:∀ i,i<4->fJ Gl (fU Gl t f) (fJ Gl t f f) (fJ Gl t f i)=i
theorem Z2L {Gl:List Int} {n t f:Nat} (hok:Z0w Gl n=true) (hG:Gl.length=n*20) (ht:t<n) (hf:f<4) (hg:¬ Z0D (Z04 Gl t f)<0):GB Gl n t f:=by
 obtain ⟨k1,k2,k3,k4⟩:=Z1S (Z33 hok ht hf) hg
 have hp:=Zeq (Z1g (Z0i hG ht hf)) k2
 have hJ:∀ i,i<4->(Z0v (Z04 Gl t f)).getD i 0=(fJ Gl t f i:Nat)/\fJ Gl t f i<4:=fun i hi=>by
  have:=Z7Q hp hi
  unfold fJ; omega
 have hfl:=hJ f hf
 have hU:Z0D (Z04 Gl t f)=(fU Gl t f:Nat):=by unfold fU; omega
 have hb:Z04 Gl (fU Gl t f) (fJ Gl t f f)=(t:Int)::inv (Z0v (Z04 Gl t f)):=k4
 have h4:=ZhA (inv24 hp)
 have hp':Z0v ((t:Int)::inv (Z0v (Z04 Gl t f)))=inv (Z0v (Z04 Gl t f)):=by
  show (inv _).take 4=_
  exact qH qO
 refine ⟨qO,fun i hi=>(hJ i hi).2,fun i k hi hk e=>?_,fun ⟨e1,e2⟩=>k3 ⟨qO,qO⟩, ?_, ?_,fun i hi=>?_⟩
 · by_cases z:i=k
   · exact z
   · have:=ne24 hp hi hk z
     have:=hJ i hi
     have:=hJ k hk
     omega
 · rw [hb]
   show ¬ (t:Int)<0
   omega
 · rw [fU,hb]
   show ((t:Int)).toNat=t
   omega
 · rw [fJ,hb,hp']
   have e:(Zo0 (inv (Z0v (Z04 Gl t f))) (Z0v (Z04 Gl t f))).getD i 0=[0,1,2,3].getD i (0:Int):=by rw [ZmD hp]
   rw [Zqt (ZhA hp) hi,(hJ i hi).1,qE] at e
   rw [e]
   match i,hi with
   | 0,_=>rfl
   | 1,_=>rfl
   | 2,_=>rfl
   | 3,_=>rfl
section
variable {Gl:List Int} {n:Nat} {p:Nat × Nat}
theorem Z0z {α:Type} {c:Prop} [Decidable c] {x:α} {l:List α}:x ∈ (if c then [] else l) ↔ ¬ c/\x ∈ l:=by
 by_cases h:c
 · rw [if_pos h]; simp [h]
 · rw [if_neg h]; simp [h]
theorem Z1T {α:Type} {c:Prop} [Decidable c] {x y:α}:x ∈ (if c then [y] else []) ↔ c/\x=y:=by
 by_cases h:c
 · rw [if_pos h]; simp [h]
 · rw [if_neg h]; simp [h]
theorem mem_tP:p ∈ tP Gl n ↔ ∃ t f,t<n/\f<4 /\ ¬ Z0D (Z04 Gl t f)<0/\p=(4*t+f,4*fU Gl t f+fJ Gl t f f):=by
 unfold tP tT tF
 constructor
 · intro h
   obtain ⟨t,ht,h⟩:=Z0x.1 h
   obtain ⟨f,hf,h⟩:=Z0x.1 h
   obtain ⟨h1,h2⟩:=Z0z.1 h
   exact ⟨t,f,ht,hf,h1,jG.1 h2⟩
 · rintro ⟨t,f,ht,hf,h1,rfl⟩
   exact Z0x.2 ⟨t,ht,Z0x.2 ⟨f,hf,Z0z.2 ⟨h1,by simp⟩⟩⟩
theorem Zoo:p ∈ vP Gl n ↔ ∃ t f i,t<n/\f<4/\i<4 /\ ¬ Z0D (Z04 Gl t f)<0/\i ≠ f/\p=(4*t+i,4*fU Gl t f+fJ Gl t f i):=by
 unfold vP vT vF vI
 constructor
 · intro h
   obtain ⟨t,ht,h⟩:=Z0x.1 h
   obtain ⟨f,hf,h⟩:=Z0x.1 h
   obtain ⟨h1,h⟩:=Z0z.1 h
   obtain ⟨i,hi,h⟩:=Z0x.1 h
   obtain ⟨h2,h3⟩:=Z0z.1 h
   exact ⟨t,f,i,ht,hf,hi,h1,h2,jG.1 h3⟩
 · rintro ⟨t,f,i,ht,hf,hi,h1,h2,rfl⟩
   exact Z0x.2 ⟨t,ht,Z0x.2 ⟨f,hf,Z0z.2 ⟨h1,Z0x.2 ⟨i,hi,Z0z.2 ⟨h2,by simp⟩⟩⟩⟩⟩
theorem mem_dP:p ∈ dP Gl n ↔ ∃ t f i j,t<n/\f<4/\i<4/\j<4 /\ ¬ Z0D (Z04 Gl t f)<0/\i ≠ f/\j ≠ f/\j ≠ i/\p=(16*t+4*i+j,16*fU Gl t f+4*fJ Gl t f i+fJ Gl t f j):=by
 unfold dP dT dF dI dJ
 constructor
 · intro h
   obtain ⟨t,ht,h⟩:=Z0x.1 h
   obtain ⟨f,hf,h⟩:=Z0x.1 h
   obtain ⟨h1,h⟩:=Z0z.1 h
   obtain ⟨i,hi,h⟩:=Z0x.1 h
   obtain ⟨h2,h⟩:=Z0z.1 h
   obtain ⟨j,hj,h⟩:=Z0x.1 h
   obtain ⟨h3,h4⟩:=Z1T.1 h
   exact ⟨t,f,i,j,ht,hf,hi,hj,h1,h2,h3.1,h3.2,h4⟩
 · rintro ⟨t,f,i,j,ht,hf,hi,hj,h1,h2,h3,h4,rfl⟩
   exact Z0x.2 ⟨t,ht,Z0x.2 ⟨f,hf,Z0z.2 ⟨h1,Z0x.2 ⟨i,hi,Z0z.2 ⟨h2,Z0x.2 ⟨j,hj,Z1T.2 ⟨⟨h3,h4⟩,rfl⟩⟩⟩⟩⟩⟩⟩
theorem Zj9:p ∈ eP Gl n ↔ ∃ t f i j,t<n/\f<4/\i<4/\j<4 /\ ¬ Z0D (Z04 Gl t f)<0/\i ≠ f/\j ≠ f/\j ≠ i/\p=(eNo t i j,eNo (fU Gl t f) (fJ Gl t f i) (fJ Gl t f j)):=by
 unfold eP eT eF eI eJ
 constructor
 · intro h
   obtain ⟨t,ht,h⟩:=Z0x.1 h
   obtain ⟨f,hf,h⟩:=Z0x.1 h
   obtain ⟨h1,h⟩:=Z0z.1 h
   obtain ⟨i,hi,h⟩:=Z0x.1 h
   obtain ⟨h2,h⟩:=Z0z.1 h
   obtain ⟨j,hj,h⟩:=Z0x.1 h
   obtain ⟨h3,h4⟩:=Z1T.1 h
   exact ⟨t,f,i,j,ht,hf,hi,hj,h1,h2,h3.1,h3.2,h4⟩
 · rintro ⟨t,f,i,j,ht,hf,hi,hj,h1,h2,h3,h4,rfl⟩
   exact Z0x.2 ⟨t,ht,Z0x.2 ⟨f,hf,Z0z.2 ⟨h1,Z0x.2 ⟨i,hi,Z0z.2 ⟨h2,Z0x.2 ⟨j,hj,Z1T.2 ⟨⟨h3,h4⟩,rfl⟩⟩⟩⟩⟩⟩⟩
end
theorem Zkc {t i j:Nat} (hi:i<4) (hj:j<4) (hne:j ≠ i):∃ k,k<6/\eNo t i j=6*t+k:=by
 have:=Z4N (i:=(i:Int)) (j:=(j:Int)) qO qO qO qO qO
 exact ⟨(edN i j).toNat,qO,rfl⟩
section
variable {Gl:List Int} {n:Nat} (hok:Z0w Gl n=true) (hG:Gl.length=n*20)
 include hok hG
theorem tP_lt:∀ p,p ∈ tP Gl n->p.1<4*n/\p.2<4*n:=fun p hp=>by
 obtain ⟨t,f,ht,hf,hg,rfl⟩:=mem_tP.1 hp
 have b:=Z2L hok hG ht hf hg
 have:=b.u
 have:=b.j f hf
 exact ⟨by dsimp only; omega,by dsimp only; omega⟩
theorem vP_lt:∀ p,p ∈ vP Gl n->p.1<4*n/\p.2<4*n:=fun p hp=>by
 obtain ⟨t,f,i,ht,hf,hi,hg,hif,rfl⟩:=Zoo.1 hp
 have b:=Z2L hok hG ht hf hg
 have:=b.u
 have:=b.j i hi
 exact ⟨by dsimp only; omega,by dsimp only; omega⟩
theorem dP_lt:∀ p,p ∈ dP Gl n->p.1<16*n/\p.2<16*n:=fun p hp=>by
 obtain ⟨t,f,i,j,ht,hf,hi,hj,hg,_,_,_,rfl⟩:=mem_dP.1 hp
 have b:=Z2L hok hG ht hf hg
 have:=b.u
 have:=b.j i hi
 have:=b.j j hj
 exact ⟨by dsimp only; omega,by dsimp only; omega⟩
theorem ZnS:∀ p,p ∈ eP Gl n->p.1<6*n/\p.2<6*n:=fun p hp=>by
 obtain ⟨t,f,i,j,ht,hf,hi,hj,hg,_,_,hji,rfl⟩:=Zj9.1 hp
 have b:=Z2L hok hG ht hf hg
 have:=b.u
 obtain ⟨k,hk,e⟩:=Zkc (t:=t) hi hj hji
 obtain ⟨k',hk',e'⟩:=Zkc (t:=fU Gl t f) (b.j i hi) (b.j j hj) (fun q=>hji (b.inj j i hj hi q))
 exact ⟨by dsimp only; omega,by dsimp only; omega⟩
theorem Zfl:Z2h (vCs Gl n) (4*n):=(Z2o _ _ (Z0B _) (vP_lt hok hG)).1
theorem Zh4:Z2h (dCs Gl n) (16*n):=(Z2o _ _ (Z0B _) (dP_lt hok hG)).1
theorem ZnT:Z2h (eCs Gl n) (6*n):=(Z2o _ _ (Z0B _) (ZnS hok hG)).1
theorem ZkF:Z2h (tCs Gl n) (4*n):=(Z2o _ _ (Z0B _) (tP_lt hok hG)).1
theorem ZkB {t f i:Nat} (ht:t<n) (hf:f<4) (hi:i<4) (hg:¬ Z0D (Z04 Gl t f)<0) (hif:i ≠ f):Z07 (vCs Gl n) (4*t+i)=Z07 (vCs Gl n) (4*fU Gl t f+fJ Gl t f i) :=
 (Z2o _ _ (Z0B _) (vP_lt hok hG)).2.2 _ (Zoo.2 ⟨t,f,i,ht,hf,hi,hg,hif,rfl⟩)
end
end Go.Ab

namespace Go.Proofs.Ytdodippbpdechaa
open Go Go.Ab Go.Proofs
theorem Z6w (b m:Nat) (k:IntKind) (i:Nat) (h:i<m):ixS 1 (.slice (some ⟨b,0,none⟩) m m) (.int k (i:Int))=some (.pointer (some ⟨b,i,none⟩)):=by
 rw [ixS_sl 1 b 0 m m k (i:Int) qO qO,Nat.zero_add,Nat.mul_one,qE]
theorem Zoj {h:FH} {b i:Nat} {L:List Int} (hf:h.f b=some (.cells false none (ints L))) (hi:i<L.length):ld1 h (.pointer (some ⟨b,i,none⟩))=some (.int .i64 (L.getD i 0)):=by
 rw [Z02 (cs:=ints L) ⟨false,none,hf⟩,ints_getD _ _ hi]
theorem Zdh {h:FH} {b i:Nat} {L:List Int} (hf:h.f b=some (.cells false none (ints L))) (hi:i<L.length) (x:Int):stN h 1 (.pointer (some ⟨b,i,none⟩)) (.int .i64 x)=some (newB h b (ints (L.set i x))):=by
 rw [Z0L (show HeapC.get h b=_ from hf) (by simpa using hi) rfl rfl,Z1r];rfl
theorem ZdD (h:FH) (b:Nat) (cs ds:List Value):newB (newB h b cs) b ds=newB h b ds:=by
 apply FH.ext; intro j;rw [Z01,Z01,Z01]
 split <;> rfl
theorem Zdp (h0:FH) (b m c:Nat) (df:List Nat) (hb:b<256*c) (hm:m<=1000000) :
 ∀ (k i:Nat) (X:List Int),i+k=m->X.length=m->(∀ j,j<i->X.getD j 0=j) →
 Ans (G (Zbp none) [.slice (some ⟨b,0,none⟩) m m,.int .i64 m,.int .i64 i] (newB h0 b (ints X)) c df) fun r=>r=⟨.exit 0,[.slice (some ⟨b,0,none⟩) m m,.int .i64 m,.int .i64 m],newB h0 b (ints (Z0g m)),c,df⟩:=by
 intro k
 induction k with
 | zero =>
  intro i X hi hX hf;obtain rfl:i=m:=qO;have e:X=Z0g i:=Z1w (m:=i) hX (by simp [Z0g]) fun j hj=>by rw [hf j hj,Z6r hj]
  rw [e];refine Ans.lpG rfl rfl (Z73 ..) ?_;unfold Z8d;have fx:=True.intro;refine Ans.go ?_;clear fx
  (have fx:=hb; refine Ans.ex0 ?_; clear fx)
  rfl
 | succ k ih =>
  intro i X hi hX hf;have ix:=Z6w b m .i64 i qO;have hs:=Zdh (h:=newB h0 b (ints X)) (b:=b) (i:=i) (L:=X) (by rw [Z01,if_pos rfl]) qO i;rw [ZdD] at hs;refine Ans.lpG rfl rfl (Z73 ..) ?_;unfold Z8d;have fx:=ai ix hs;refine Ans.go ?_;clear fx
  (have fx:=hb; refine Ans.nxB (B:=newB h0 b (ints (X.set i i))) ?_ ?_; exact (Z0G.both (Z0Q.ints _ _) (Z0G.refl _ _) hb); clear fx)
  refine ih (i+1) (X.set i i) qO (by simp [hX]) (fun j hj=>?_);rw [Z0I]
  by_cases e:i=j
  · rw [if_pos ⟨e,qO⟩,e]
  · rw [if_neg (fun q=>e q.1)]; exact hf j qO
theorem Z4h (m:Nat) (h:FH) (c:Nat) (df:List Nat) (hm:m<=1000000) :
 G (.fn 80) [.int .i64 m] h c df=some ⟨.ret,[.slice (some ⟨256*(c+1)+1,0,none⟩) m m],newB h (256*(c+1)+1) (ints (Z0g m)),c+1+1+1+1,[]⟩:=by
 refine f80_go (Ans.eq ?_);unfold ZpK;have mk:=Z5L 1 8 .i64 .i64 m qO qO;obtain ⟨b,hb⟩:=jN (256*(c+1)+1);rw [hb];have hl:=Ans.eq (Zdp h b m (c+1+1+1) [] qO hm m 0 (List.replicate m 0) qO (by simp) (fun j hj=>qO));simp only [qC,qF] at hl;have fx:=ai mk hl;refine Ans.go ?_;clear fx;exact .done rfl
theorem Zhs (b m c:Nat) (h:FH) (L:List Int) (hd:Z2h L m) (hf:h.f b=some (.cells false none (ints L))) (hb:b<256*c) (hm:m<=1000000) (df:List Nat):∀ (k i:Nat),i<k->i<m →
 Ans (G (Zbh none) [.slice (some ⟨b,0,none⟩) m m,.int .i64 i] h c df) fun r=>r=⟨.exit 0,[.slice (some ⟨b,0,none⟩) m m,.int .i64 (Z07 L i)],h,c,df⟩:=by
 intro k;have hl:=hd.1
 induction k with
 | zero=>intro i h1; omega
 | succ k ih =>
  intro i h1 hi;have ix:=Z6w b m .i64 i hi;have l1:=Zoj hf (i:=i) qO;have d:=hd.2 i hi;refine Ans.lpG rfl rfl (ZcU ..) ?_;unfold Zbi
  by_cases e:L.getD i 0=i
  · rw [Z0W e];rw [e] at l1;have fx:=ai ix l1;refine Ans.go ?_;clear fx
    (have fx:=hb; refine Ans.ex0 ?_; clear fx)
    rfl
  · rw [Z14 hd hi e];obtain ⟨x,hx⟩:∃ x:Nat,L.getD i 0=x:=⟨(L.getD i 0).toNat,qO⟩;rw [hx] at l1 d e;have hk:=ih x qO qO;rw [hx,qE];have fx:=ai ix l1;refine Ans.go ?_;clear fx
    (have fx:=hb; refine Ans.nx0 ?_; clear fx)
    exact hk
theorem Z5T (b m:Nat) (L:List Int) (hd:Z2h L m) (h:FH) (c:Nat) (df:List Nat) (hf:h.f b=some (.cells false none (ints L))) (hb:b<256*c) (hm:m<=1000000) (i:Nat) (hi:i<m) :
 G (.fn 87) [.slice (some ⟨b,0,none⟩) m m,.int .i64 i] h c df=some ⟨.ret,[.int .i64 (Z07 L i)],h,c,[]⟩:=by
 refine Z0t (fun r e=>f87_go e) (by simp) ?_;unfold ZpG;have hl:=Ans.eq (Zhs b m (c+1) h L hd hf qO hm [] (i+1) i qO hi);have fx:=hl;refine Ans.go ?_;clear fx
 (have fx:=True.intro; exact Ans.pu)
theorem Z41 (b m:Nat) (L:List Int) (hd:Z2h L m) (h:FH) (c:Nat) (df:List Nat) (hf:h.f b=some (.cells false none (ints L))) (hb:b<256*c) (hm:m<=1000000) (i j:Nat) (hi:i<m) (hj:j<m) :
 G (.fn 81) [.slice (some ⟨b,0,none⟩) m m,.int .i64 i,.int .i64 j] h c df=some ⟨.ret,[.tuple #[]],newB h b (ints (Z1k L i j)),c,[]⟩:=by
 have c1:=fun c' (hc:b<256*c')=>Z05 (Z5T b m L hd h c' [] hf hc hm i hi)
 have c2:=fun c' (hc:b<256*c')=>Z05 (Z5T b m L hd h c' [] hf hc hm j hj)
 have c1:=c1 (c+1) qO;have c2:=c2 (c+1+1) qO;have r1:=Z16 hd hi;have r2:=Z16 hd hj;have hl:=hd.1;have hS:Zn2 G (.slice (some ⟨b,0,none⟩) m m) (.int .i64 i) (.int .i64 j) h c=some ⟨.ret,[.tuple #[]],newB h b (ints (Z1k L i j)),c+1+1+1+1,[]⟩:=by
  refine Ans.eq ?_;unfold Zn2
  by_cases q:Z07 L i<Z07 L j
  · have ix:=Z6w b m .i64 (Z07 L j) qO;have hw:=Zdh hf (i:=Z07 L j) qO (Z07 L i);have e:Z1k L i j=L.set (Z07 L j) (Z07 L i:Nat):=by
     unfold Z1k;rw [Nat.max_eq_right qO,Nat.min_eq_left qO]
    rw [← e] at hw;obtain ⟨K,hK⟩:=jN (newB h b (ints (Z1k L i j)));rw [hK] at hw ⊢;obtain ⟨A,hA⟩:=jN (Z07 L i);obtain ⟨B,hB⟩:=jN (Z07 L j);rw [hA] at c1 hw r1 q;rw [hB] at c2 hw r2 q ix;have q':(A:Int)<B:=qO;have fx:=ai c1 (ai c2 (ai ix hw));refine Ans.go ?_;clear fx;exact .done rfl
  · have ix:=Z6w b m .i64 (Z07 L i) qO;have hw:=Zdh hf (i:=Z07 L i) qO (Z07 L j);have e:Z1k L i j=L.set (Z07 L i) (Z07 L j:Nat):=by
     unfold Z1k;rw [Nat.max_eq_left qO,Nat.min_eq_right qO]
    rw [← e] at hw;obtain ⟨K,hK⟩:=jN (newB h b (ints (Z1k L i j)));rw [hK] at hw ⊢;obtain ⟨A,hA⟩:=jN (Z07 L i);obtain ⟨B,hB⟩:=jN (Z07 L j);rw [hA] at c1 hw r1 q ix;rw [hB] at c2 hw r2 q;have q':¬ (A:Int)<B:=qO;have fx:=ai c1 (ai c2 (ai ix hw));refine Ans.go ?_;clear fx;exact .done rfl
 rw [f81_go hS,ZdK (B:=newB h b (ints (Z1k L i j))) ?_ ?_ ?_]
 · exact Z0Q.cons ⟨.tuple #[],.tuple rfl (fun k x y h=>by simp at h)⟩ (Z0Q.nil c)
 · exact fun _ _=>rfl
 · exact Z0G.old hb (Z0Q.ints _ _) (Z0G.refl _ _)
theorem ZcI (b ob m c:Nat) (L:List Int) (hd:Z2h L m) (h0:FH) (hf:h0.f b=some (.cells false none (ints L))) (hne:b ≠ ob) (hb:b<256*c) (hob:ob<256*c) (hm:m<=1000000) (df:List Nat) :
 ∀ (k i:Nat),i+k=m->Ans (G (Zbo none) [.slice (some ⟨b,0,none⟩) m m,.slice (some ⟨ob,0,none⟩) m m,.int .i64 (Z1x L i),.int .i64 m,.int .i64 i] (newB h0 ob (ints (Z3Y L m i))) c df) fun r =>
  r=⟨.exit 0,[.slice (some ⟨b,0,none⟩) m m,.slice (some ⟨ob,0,none⟩) m m,.int .i64 (Z1x L m),.int .i64 m,.int .i64 m],newB h0 ob (ints (Z6N L m)),c,df⟩:=by
 intro k
 induction k with
 | zero =>
  intro i hi;obtain rfl:i=m:=qO;have e:Z3Y L i i=Z6N L i:=Z1w (m:=i) (Z11 _ _ _) (Z0n _ _) fun k hk=>by
   rw [Z4i _ hk];simp [Z3Y,qB,hk]
  rw [e];refine Ans.lpG rfl rfl (Z72 ..) ?_;unfold Z8b;have fx:=True.intro;refine Ans.go ?_;clear fx
  (have fx:=ai hb hob; refine Ans.ex0 ?_; clear fx)
  rfl
 | succ k ih =>
  intro i hi;have him:i<m:=qO;have hk:=ih (i+1) qO;have hfo:(newB h0 ob (ints (Z3Y L m i))).f b=some (.cells false none (ints L)):=by rw [Z01,if_neg hne]; exact hf
  have c1:=Z05 (Z5T b m L hd (newB h0 ob (ints (Z3Y L m i))) (c+1+1+1) [] hfo qO hm i him);have hl:=Z11 L m i;have ix:=Z6w ob m .i64 i him;have hr:=Z16 hd him;have fo:(newB h0 ob (ints (Z3Y L m i))).f ob=some (.cells false none (ints (Z3Y L m i))):=by rw [Z01,if_pos rfl]
  have hw:=fun x=>Zdh fo (i:=i) qO x
  simp only [ZdD] at hw;have hP:(Z3Y L m i).set i (Z1x L (Z07 L i):Nat)=Z3Y L m (i+1):=Z1w (m:=m) (by rw [jL]; exact hl) (Z11 _ _ _) fun j hj=>by
   rw [Z0I];have e1:∀ i',(Z3Y L m i').getD j 0=if j<i' then ((Z1x L (Z07 L j):Nat):Int) else 0:=fun i'=>by
    simp [Z3Y,qB,hj]
   rw [e1,e1]
   by_cases q:i=j
   · subst q; rw [if_pos ⟨rfl,qO⟩,if_pos qO]
   · rw [if_neg (fun z=>q z.1)]
     by_cases q2:j<i
     · rw [if_pos q2,if_pos qO]
     · rw [if_neg q2,if_neg qO]
  have up:Z0G c (newB h0 ob (ints (Z3Y L m i))) (newB h0 ob (ints (Z3Y L m (i+1)))):=Z0G.both (Z0Q.ints _ _) (Z0G.refl _ _) hob;have hfl:Z1x L i<=i:=Z1o _ _;rw [ZdL] at hk;refine Ans.lpG rfl rfl (Z72 ..) ?_;unfold Z8b
  by_cases e:Z07 L i=i
  · have hw1:=hw (Z1x L i:Nat);rw [e] at c1 hP;rw [hP] at hw1;rw [if_pos e] at hk;obtain ⟨F,hF⟩:=jN (Z1x L i);rw [hF] at hw1 hk hfl ⊢;obtain ⟨S,hS⟩:=jN (newB h0 ob (ints (Z3Y L m i)));obtain ⟨S',hS'⟩:=jN (newB h0 ob (ints (Z3Y L m (i+1))));rw [hS] at c1 hw1 up ⊢;rw [hS'] at hw1 up hk;have fx:=ai c1 (ai ix hw1);refine Ans.go ?_;clear fx
    (have fx:=ai hb hob; refine Ans.nxB (B:=S') ?_ ?_; exact (up); clear fx)
    exact hk
  · have hr2:Z07 L i<i:=qO;have ix2:=Z6w ob m .i64 (Z07 L i) qO;have rd:=Zoj fo (i:=Z07 L i) qO;have ev:(Z3Y L m i).getD (Z07 L i) 0=(Z1x L (Z07 L i):Nat):=by
     have h1:Z07 L i<m:=qO;have h2:=Z2l hd him;simp [Z3Y,qB,h1,hr2,h2]
    rw [ev] at rd;have hw1:=hw (Z1x L (Z07 L i):Nat);rw [hP] at hw1;rw [if_neg e,qW] at hk;obtain ⟨F,hF⟩:=jN (Z1x L i);obtain ⟨E,hE⟩:=jN (Z1x L (Z07 L i));rw [hF] at hk hfl ⊢;rw [hE] at rd hw1;obtain ⟨R,hR⟩:=jN (Z07 L i);rw [hR] at c1 ix2 rd hr2;have hr3:¬ (R:Int)=i:=qO;obtain ⟨S,hS⟩:=jN (newB h0 ob (ints (Z3Y L m i)));obtain ⟨S',hS'⟩:=jN (newB h0 ob (ints (Z3Y L m (i+1))));rw [hS] at c1 hw1 up rd ⊢;rw [hS'] at hw1 up hk;have fx:=ai c1 (ai ix2 (ai rd (ai ix hw1)));refine Ans.go ?_;clear fx
    (have fx:=ai hb hob; refine Ans.nxB (B:=S') ?_ ?_; exact (up); clear fx)
    exact hk
theorem Z6v (b m:Nat) (L:List Int) (hd:Z2h L m) (h:FH) (c:Nat) (df:List Nat) (hf:h.f b=some (.cells false none (ints L))) (hb:b<256*c) (hm:m<=1000000) :
 G (.fn 82) [.slice (some ⟨b,0,none⟩) m m] h c df=some ⟨.ret,[.tuple #[.slice (some ⟨256*(c+1)+2,0,none⟩) m m,.int .i64 (Z1x L m)]],newB h (256*(c+1)+2) (ints (Z6N L m)),c+1+1+1+1+1,[]⟩:=by
 refine f82_go (Ans.eq ?_);unfold ZpJ;have mk:=Z5L 1 8 .i64 .i64 m qO qO;obtain ⟨ob,hob⟩:=jN (256*(c+1)+2);rw [hob];have e0:Z3Y L m 0=List.replicate m 0:=Z1w (m:=m) (Z11 _ _ _) (by simp) fun j hj=>by
  simp [Z3Y,qB,hj]
 have hl:=Ans.eq (ZcI b ob m (c+1+1+1+1) L hd h hf qO qO qO hm [] m 0 qO);rw [e0,show Z1x L 0=0 from rfl] at hl;simp only [qC,qF] at hl;have fx:=ai mk hl;refine Ans.go ?_;clear fx;exact .done rfl

theorem Zkp (t:TypeId) (a b:Int):Z00 P .or t (.int .i64 a) (.int .i64 b)=some (.int .i64 (orB a b)):=by rw [Z0A]; simp [Z0O,Z1U,orB]; rfl
theorem Zff (t:TypeId) (x:Int) (h:0<=x):Z00 P .shl t (.int .i64 1) (.int .i64 x)=some (.int .i64 (shB x)):=by
 rw [Z0A];have:¬ x<0:=qO;simp [Z0O,Z5R,shB,this]; rfl
theorem Zhf (p:List Int) (hp:p.length=4) (h:FH) (c:Nat) (df:List Nat):∀ (k i:Nat) (m:Int),i+k=4 →
 Ans (G (Z4w none) [.bool false,.int .i64 m,av p,.int .i64 i] h c df) fun r=>r.h=h/\r.c=c/\r.df=df ∧
  (match Z6E (p.drop i) m with
   | some m'=>r.e = .exit 0/\r.v 1 = .int .i64 m'
   | none=>r.e = .ret/\r.v 0 = .bool false):=by
 intro k
 induction k with
 | zero =>
  intro i m hi;obtain rfl:i=4:=qO;rw [qU qO];have e1:¬ ((4:Nat):Int)<4:=qO;refine .intro (ZbP (q:=⟨.exit 0,[.bool false,.int .i64 m,av p,.int .i64 (4:Nat)],h,c+1,df⟩) (by unfold Z1Z; simp [e1]) (by simp)) ?_;rw [Z1z (by simp)];simp [Z6E]
 | succ k ih =>
  intro i m hi;have hlt:i<p.length:=qO;have e0:(i:Int)<4:=qO;rw [List.drop_eq_getElem_cons hlt];have hx:p.getD i 0=p[i]:=by simp [List.getD,qI hlt]
  by_cases hc:p[i]<0 ∨ 3<p[i]
  · simp only [Z6E,hc,if_true];refine .intro (ZbP (q:=⟨.ret,[.bool false,.int .i64 m,av p,.int .i64 i],h,_,df⟩) (by
     unfold Z1Z
     by_cases h1:p[i]<0
     · simp (disch:=omega) [e0,Zgk,hx,h1,-List.getD_eq_getElem?_getD]; rfl
     · have h2:3<p[i]:=qO;simp (disch:=omega) [e0,Zgk,hx,h1,h2,-List.getD_eq_getElem?_getD] <;> rfl) (by simp)) ?_
    rw [Z1z (by simp)];simp
  · have h1:¬ p[i]<0:=qO;have h2:¬ 3<p[i]:=qO;simp only [Z6E,hc,if_false];obtain ⟨r,hr,hq⟩:=ih (i+1) (orB m (shB p[i])) qO;refine .intro (Zi1 (q:=⟨.normal,[.bool false,.int .i64 (orB m (shB p[i])),av p,.int .i64 (i+1:Nat)],h,c+1+1+1+1+1,df⟩) (by
     unfold Z1Z;simp (disch:=omega) [e0,Zgk,hx,h1,h2,Zff _ p[i] qO,Zkp,-List.getD_eq_getElem?_getD]) rfl ?_) hq
    rw [Z1z (by simp)];exact hr
theorem Zkz (p:List Int) (hp:p.length=4) (h:FH) (c:Nat) (df:List Nat) :
 G (.fn 56) [av p] h c df=some ⟨.ret,[.bool (Z1f p)],h,c,[]⟩:=by
 refine Z6u (fun r e=>f56_go e) (by simp) ?_;obtain ⟨⟨re,rv,rh,rc,rd⟩,hr,h1,h2,h3,h4⟩:=Zhf p hp (newB h (256*c) (ints p)) (c+1+1+1) [] 4 0 0 rfl;simp only at h1 h2 h3;subst h1 h2 h3;unfold ZjM;simp only [qM] at h4;have e1:p.take 4=p:=qH qO;simp only [qC,qF] at hr;unfold Z1f
 cases hv:Z6E p 0 with
 | none =>
  rw [hv] at h4;obtain ⟨rfl,h5⟩:=h4;simp [hr,e1,hp,h5]
 | some m =>
  rw [hv] at h4;obtain ⟨rfl,h5⟩:=h4;simp [hr,e1,hp,h5]
theorem ZdG (p:List Int) (hp:p.length=4) (hr:InR p) (h:FH) (b1 b3 c:Nat) (hb1:b1<256*c) (hb:b3<256*c) (df:List Nat):∀ (k i:Nat) (out:List Int),i+k=4->out.length=4 →
 G (Z4s none) [ptrTo b1,ptrTo b3,av p,.int .i64 i] (newB h b3 (ints out)) c df =
  some ⟨.exit 0,[ptrTo b1,ptrTo b3,av p,.int .i64 4],newB h b3 (ints (ZhF (p.drop i) i out)),c,df⟩:=by
 intro k
 induction k with
 | zero =>
  intro i out hi ho;obtain rfl:i=4:=qO;rw [qU qO];refine (ZhV (q:=⟨.exit 0,[ptrTo b1,ptrTo b3,av p,.int .i64 4],newB h b3 (ints out),c+1,df⟩) (by unfold Z2t; simp) (by simp)).trans ?_;rw [Z1z (by simp [hb1,hb])];rfl
 | succ k ih =>
  intro i out hi ho;have hlt:i<p.length:=qO;have e0:(i:Int)<4:=qO;rw [List.drop_eq_getElem_cons hlt];have hx:p.getD i 0=p[i]:=by simp [List.getD,qI hlt]
  have hxr:=hr p[i] (List.getElem_mem hlt);refine ZhW (q:=⟨.normal,[ptrTo b1,ptrTo b3,av p,.int .i64 (i+1:Nat)],newB h b3 (ints (out.set p[i].toNat i)),c+1+1+1+1,df⟩) ?_ rfl ?_
  · unfold Z2t;simp (disch:=(first | omega | (simp <;> omega) | fail)) [e0,Zgk,hx,hxr,ho,-List.getD_eq_getElem?_getD]
  · rw [Zeu hb (by simp [hb1,hb]) (by simp)];exact ih (i+1) _ qO (by simpa using ho)
theorem ZhE (p:List Int) (hp:p.length=4) (hr:InR p) (h:FH) (c:Nat) (df:List Nat) :
 G (.fn 64) [av p] h c df=some ⟨.ret,[av (inv p)],h,c,[]⟩:=by
 refine Z6u (fun r e=>f64_go e) (by simp) ?_;have e1:p.take 4=p:=qH qO;have hl:=ZdG p hp hr (newB (newB h (256*c) (ints p)) (256*c+1) (ints [0,0,0,0])) (256*c+1) (256*(c+1)) (c+1+1+1) qO qO [] 4 0 [0,0,0,0] rfl rfl;have hl2:(ZhF p 0 [0,0,0,0]).length=4:=Z40 p 0 [0,0,0,0];have e2:(ZhF p 0 [0,0,0,0]).take 4=ZhF p 0 [0,0,0,0]:=qH qO;unfold ZjI;simp only [ZdH,Zgm,qC,qF,qM] at hl;simp (disch:=(first | omega | (simp <;> omega) | fail)) [hl,e1,e2,hp,hl2,inv]
end Go.Proofs.Ytdodippbpdechaa
