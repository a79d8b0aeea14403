/- Parts of a proof: AbRow AbSub AbMat AbGrow AbUf AbUf2 AbUf3 AbFill AbLab AbJn K1 AbEd K2 C1. Conditions: none. -/
import Derived.Test.YtdodippbpdechaaM7
import Derived.ProofKit
import Derived.Test.YtdodippbpdechaaM13
set_option linter.all false
set_option maxRecDepth 100000
namespace Go.Ab
open Go Go.ChangeShapes Go.RowKit
section post
variable {H:Type} {enc:TypeId × Value->H} {P:Program}
theorem Z9q:∀ {ts:List TypeId} {w:World} {vs:List Value} {ds:List (DataW H)} {ps:List MemPlace},DataW.TrodAll enc P w 0 (fun _=>true) true ts vs ds ps -> ∀ x ∈ ps,x.block<w.heap.size
 | [],w,vs,ds,ps,h,x,hx=>by
  obtain ⟨_,_,rfl⟩:=trodAll_nil h
  cases hx
 | t::ts,w,vs,ds,ps,h,x,hx=>by
  obtain ⟨v,vs',d,ds',p,q,rfl,rfl,rfl,h1,h2⟩:=trodAll_cons h
  rcases List.mem_append.1 hx with hx | hx
  · obtain ⟨n,h1⟩:=h1
    exact DataW.trod_lt n _ _ _ h1 x hx
  · exact Z9q h2 x hx
theorem Z6j (hl:laidOutB P=true):∀ {ts:List TypeId} {w w':World} {sp:Nat->Bool} {vs:List Value} {ds:List (DataW H)} {ps:List MemPlace},(∀ t ∈ ts,P.readableRec t=true/\t<P.types.size) →
 DataW.TrodAll enc P w 0 (fun _=>true) true ts vs ds ps->(∀ p ∈ ps,w.sameAt w' p)->(∀ p ∈ ps,sp p.block=true)->DataW.TrodAll enc P w' 0 sp true ts vs ds ps
 | [],w,w',sp,vs,ds,ps,_,h,_,_=>by
  obtain ⟨rfl,rfl,rfl⟩:=trodAll_nil h
  exact rfl
 | t::ts,w,w',sp,vs,ds,ps,hr,h,h1,h2=>by
  obtain ⟨v,vs',d,ds',p,q,rfl,rfl,rfl,g1,g2⟩:=trodAll_cons h
  refine ⟨p,q, ?_, ?_,rfl⟩
  · exact WideElems.Trod_stays hl (hr t (by simp)).1 (hr t (by simp)).2 g1 (fun x hx=>h1 x (List.mem_append.2 (.inl hx))) (fun x hx=>h2 x (List.mem_append.2 (.inl hx)))
  · exact Z6j hl (fun u hu=>hr u (by simp [hu])) g2 (fun x hx=>h1 x (List.mem_append.2 (.inr hx))) (fun x hx=>h2 x (List.mem_append.2 (.inr hx)))
theorem ZiH (hl:laidOutB P=true) {f:Func} {s:ChangeSpec} {apart fresh handsOn again:Bool} {W W':World} {args:Array Value} {ds gs:List (DataW H)} {before:List MemPlace} {tb:TypeId}
 (hts:∀ t ∈ f.params.toList,P.readableRec t=true/\t<P.types.size) (hvars:s.vars=[]) (hres:(s.fn H (ds++gs)).results=[.lit (.bool true)]) (hargs:(s.fn H (ds++gs)).args=ds) (hvs:(s.fn H (ds++gs)).vars=[])
 (hrt:f.resultTypes = #[tb]) (htb:P.underlying tb=some .bool) (hW:DataW.Whole enc P f.params.toList s.vars apart W args.toList ds gs before) (hB:Below W.heap.size W W') :
 s.post enc P f apart fresh handsOn again W args (.bool true) W':=by
 have hW0:=hW
 obtain ⟨p,q,hA,hV,rfl,hfz,hnd⟩:=hW
 rw [hvars] at hV
 have hgq:gs=[]/\q=[]:=by
  cases gs with
  | nil=>exact ⟨rfl,hV⟩
  | cons g gs=>exact hV.elim
 obtain ⟨rfl,rfl⟩:=hgq
 have hlt:=Z9q hA
 have hrl:Value.resultList f.resultTypes.size (.bool true)=[.bool true]:=by rw [hrt]; rfl
 have hR:∀ (b:Nat) (sp:Nat->Bool) (hd:Bool),DataW.TrodAll enc P W' b sp hd f.resultTypes.toList (Value.resultList f.resultTypes.size (.bool true)) (s.fn H (ds++[])).results []:=by
  intro b sp hd
  rw [hrl,hres,hrt]
  exact ⟨[],[],shut_bool htb true,rfl,rfl⟩
 have hS:∀ sp:Nat->Bool,(∀ x ∈ p,sp x.block=true)->DataW.TrodAll enc P W' 0 sp true f.params.toList args.toList (s.fn H (ds++[])).args p:=by
  intro sp hsp
  rw [hargs]
  exact Z6j hl hts hA (fun x hx=>hB.same (hlt x hx)) hsp
 have hV':∀ sp:Nat->Bool,DataW.TrodVars enc P W' sp s.vars (s.fn H (ds++[])).vars []:=by
  intro sp; rw [hvars,hvs]; exact rfl
 have hfz':W'.noneFrozen (p++[]):=by
  intro b off hp
  have h1:=hfz b off hp
  have h2:W'.heap[b]? = W.heap[b]?:=hB.block b (hlt (.cell b off) (by simpa using hp))
  unfold World.frozen? at h1 ⊢
  simp only at h1 ⊢
  rw [h2]; exact h1
 have hok:∀ (j:Nat) (t:TypeId) (r:Value),f.resultTypes[j]? = some t->(Value.resultList f.resultTypes.size (.bool true))[j]? = some r->Value.okWide P W' .any 0 t r :=
  ok_one hrt rfl (by simp [Value.okWide,htb,Cell.okWide,Cell.ok])
 refine ⟨ds,[],p++[],[],p,[],hW0,hR _ _ _,hS _ (fun x hx=>by simpa using hlt x hx),hV' _, ?_,fun _=>?_⟩
 · refine ⟨hB.os,hB.output,fun i hi=>?_⟩
   rw [hB.block i hi]
   split
   · rename_i h1 h2
     rw [h1] at h2
     cases h2
     exact ⟨rfl,rfl,rfl,fun _ _=>rfl⟩
   · rename_i h1 h2
     rw [h1] at h2
     cases h2
     exact .inr ⟨rfl,rfl⟩
   · rfl
 · refine ⟨hok,_,_,([]++p)++[],⟨[]++p,[],trodAll_append (hS (fun _=>true) (fun _ _=>rfl)) (hR _ _ _),hV' _,rfl, ?_, ?_⟩, ?_⟩
   · intro b off hp
     exact hfz' b off (by simpa using hp)
   · intro ha
     have:=hnd ha
     simpa using this
   · intro x hx _
     simpa using hx
end post
def Z6f (W:World) (v:Value) (sz n:Nat) (Gl:List Int):Prop :=
 Gl.length=n*sz/\n<=9223372036854775807/\((v = .slice none 0 0/\n=0) ∨
  ∃ b o cap C E fr,v = .slice (some ⟨b,o,none⟩) n cap/\n<=cap/\W.heap[b]? = some (.cells C E fr) /\ ∀ j,j<Gl.length->C[o+j]? = some (.int .i64 (Gl.getD j 0)))
def Zim (i:Nat) (v:Value):Value :=
 match v with
 | .slice (some _) n cap=>.slice (some ⟨i,0,none⟩) n cap
 | v=>v
def Zls (v:Value):Option ME :=
 match v with
 | .slice (some a) _ _=>some ⟨a.block,a.off,none⟩
 | _=>none
theorem Z6f.vr {W:World} {v:Value} {sz n:Nat} {Gl:List Int} (h:Z6f W v sz n Gl) {μ:Mu} {i:Nat} (hm:∀ m,Zls v=some m->μ i=some m):VR μ (Zim i v) v:=by
 obtain ⟨h1,h2,⟨rfl,_⟩ | ⟨b,o,cap,C,E,fr,rfl,_,_,_⟩⟩:=h
 · exact .sl0 0 0
 · have:=hm ⟨b,o,none⟩ rfl
   exact VR.sl (i:=i) (o:=0) this (Nat.le_refl _) (.inl rfl)
theorem Z6f.sl {W:World} {v:Value} {sz n:Nat} {Gl:List Int} (h:Z6f W v sz n Gl) {A:FH} {i c:Nat} (hi:i<256*c) (ha:∀ m,Zls v=some m->A.f i=some (.cells true none (ints Gl))):SlI A c (Zim i v) sz n Gl:=by
 obtain ⟨h1,h2,⟨rfl,rfl⟩ | ⟨b,o,cap,C,E,fr,rfl,_,_,_⟩⟩:=h
 · exact ⟨h1,h2,none,0,rfl,.inl ⟨rfl,OkV.sl0 _ _ _⟩⟩
 · refine ⟨h1,h2,some ⟨i,0,none⟩,cap,rfl,.inr ⟨i,0,ints Gl,rfl,hi,⟨true,none,ha _ rfl⟩, ?_⟩⟩
   rw [List.drop_zero,List.take_of_length_le (by simp [h1])]
theorem Z6f.blk {W:World} {v:Value} {sz n:Nat} {Gl:List Int} (h:Z6f W v sz n Gl) {μ:Mu} {m:ME} (hm:Zls v=some m):Z6P μ m W.heap (some (.cells true none (ints Gl)))/\m.b<W.heap.size:=by
 obtain ⟨h1,h2,⟨rfl,rfl⟩ | ⟨b,o,cap,C,E,fr,rfl,_,h3,h4⟩⟩:=h
 · cases hm
 · cases hm
   refine ⟨⟨C,E,fr,h3,fun k x hx=>?_,(fun h=>by cases h),rfl⟩,(Array.getElem?_eq_some_iff.1 h3).1⟩
   have hk:k<Gl.length:=by have:=(List.getElem?_eq_some_iff.1 hx).1; simpa using this
   rw [ints_getD _ _ hk] at hx
   cases hx
   exact ⟨_,h4 k hk,.int _ _⟩
def Z4C (P:Program) (e:TypeId) (sz:Nat):Prop :=
 P.cellsOf e=sz /\ ∀ (H:Type) (enc:TypeId × Value->H) (w:World) (base:Nat) (spare:Nat->Bool) (held:Bool) (fuel:Nat) (cs:List Value) (x:DataW H × List MemPlace),
  DataW.trod enc P w base spare held fuel e cs=some x->cs.length=sz /\ ∀ v ∈ cs,∃ n,v = .int .i64 n
section flat
variable {P:Program}
theorem Z4C.int {e:TypeId} (he:P.underlying e=some (.int .i64)) (hc:P.cellsOf e=1):Z4C P e 1:=by
 refine ⟨hc,fun H enc w base spare held fuel cs x h=>?_⟩
 obtain ⟨n,rfl,_,_⟩:=DataW.trod_int he h
 exact ⟨rfl,fun v hv=>⟨n,by simpa using hv⟩⟩
theorem Zdx {α β:Type} {f:α->Option β}:∀ {l:List α} {r:List β},l.mapM f=some r -> ∀ a ∈ l,∃ b,f a=some b
 | [],r,h,a,ha=>by cases ha
 | x::l,r,h,a,ha=>by
  rw [List.mapM_cons] at h
  simp only [Option.bind_eq_bind,Option.bind_eq_some_iff] at h
  obtain ⟨y,hy,ys,hys,_⟩:=h
  rcases List.mem_cons.1 ha with rfl | ha
  · exact ⟨y,hy⟩
  · exact Zdx hys a ha
theorem Z4C.array {t e:TypeId} {n z:Nat} (ht:P.underlying t=some (.array n e)) (hf:Z4C P e z) (hc:P.cellsOf t=n*z):Z4C P t (n*z):=by
 refine ⟨hc,fun H enc w base spare held fuel cs x h=>?_⟩
 cases fuel with
 | zero=>simp [DataW.trod] at h
 | succ fuel =>
  have h':(if cs.length=P.cellsOf t then ((List.range n).mapM fun i=>DataW.trod enc P w base spare held fuel e ((cs.drop (i*P.cellsOf e)).take (P.cellsOf e))).map fun xs=>((.agg (xs.map (·.1)),xs.flatMap (·.2)):DataW H × List MemPlace) else none)=some x:=by
   have h1:=h
   unfold DataW.trod at h1
   rw [ht] at h1
   split at h1 <;> first | exact h1 | (rename_i e1 _; cases e1) | (rename_i e1 _ _; cases e1) | (rename_i e1; cases e1) | skip
   all_goals first | exact h1 | (simp_all; done) | skip
  split at h'
  · rename_i hl
    rw [hc] at hl
    refine ⟨hl,fun v hv=>?_⟩
    cases hm:(List.range n).mapM fun i=>DataW.trod enc P w base spare held fuel e ((cs.drop (i*P.cellsOf e)).take (P.cellsOf e)) with
    | none=>rw [hm] at h'; cases h'
    | some ys =>
     obtain ⟨j,hj⟩:=List.getElem?_of_mem hv
     have hjl:j<n*z:=by have:=(List.getElem?_eq_some_iff.1 hj).1; omega
     have hz:0<z:=by
      rcases Nat.eq_zero_or_pos z with e | e
      · rw [e] at hjl; simp at hjl
      · exact e
     have hi:j / z<n:=by rw [Nat.div_lt_iff_lt_mul hz]; exact hjl
     obtain ⟨y,hy⟩:=Zdx hm (j / z) (by simpa using hi)
     rw [hf.1] at hy
     refine (hf.2 _ _ _ _ _ _ _ _ _ hy).2 v ?_
     refine List.mem_of_getElem? (i:=j % z) ?_
     rw [List.getElem?_take_of_lt (Nat.mod_lt _ hz),List.getElem?_drop,Nat.mul_comm,Nat.div_add_mod]
     exact hj
  · cases h'
theorem Z4C.struct2 {t:TypeId} {f0 f1:Field} {z0 z1:Nat} (ht:P.underlying t=some (.struct #[f0,f1])) (h0:Z4C P f0.type z0) (h1:Z4C P f1.type z1) (o0:f0.offset=0) (o1:f1.offset=z0) (hc:P.cellsOf t=z0+z1):Z4C P t (z0+z1):=by
 refine ⟨hc,fun H enc w base spare held fuel cs x h=>?_⟩
 obtain ⟨xs,n,rfl,_,hl,hxl,hf⟩:=DataW.trod_struct ht h
 rw [hc] at hl
 refine ⟨hl,fun v hv=>?_⟩
 have g0:=hf 0 f0 rfl
 have g1:=hf 1 f1 rfl
 have l2:xs.length=2:=hxl
 rw [List.getElem?_eq_getElem qO] at g0 g1
 rw [h0.1,o0,List.drop_zero] at g0
 rw [h1.1,o1] at g1
 obtain ⟨j,hj⟩:=List.getElem?_of_mem hv
 have hjl:j<z0+z1:=by have:=(List.getElem?_eq_some_iff.1 hj).1; omega
 by_cases hlt:j<z0
 · refine (h0.2 _ _ _ _ _ _ _ _ _ g0).2 v (List.mem_of_getElem? (i:=j) ?_)
   rw [List.getElem?_take_of_lt hlt]; exact hj
 · refine (h1.2 _ _ _ _ _ _ _ _ _ g1).2 v (List.mem_of_getElem? (i:=j-z0) ?_)
   rw [List.getElem?_take_of_lt qO,List.getElem?_drop,show z0+(j-z0)=j by omega]
   exact hj
theorem ZgN {H:Type} {enc:TypeId × Value->H} {W:World} {base:Nat} {t e:TypeId} {sz:Nat} {v:Value} {fuel:Nat} {x:DataW H × List MemPlace} (ht:P.underlying t=some (.slice e)) (hf:Z4C P e sz) (hz:0<sz)
 (hval:Cell.okWide P W .any base t v) (hd:DataW.trod enc P W 0 (fun _=>true) true fuel t [v]=some x):∃ n Gl,Z6f W v sz n Gl:=by
 rcases DataW.trod_slice ht hd with ⟨h1,_⟩ | ⟨a,len,cap,elems,rest,n,_,h1,_,hb,hl,hm,hlen,hel,_,_⟩
 · cases h1
   exact ⟨0,[],by simp,by omega,.inl ⟨rfl,rfl⟩⟩
 · cases h1
   have hok:Cell.ok P W .any base t (.slice (some a) len cap):=by
    unfold Cell.okWide at hval
    rw [ht] at hval
    exact hval
   unfold Cell.ok at hok
   rw [ht] at hok
   obtain ⟨_,_,_,hsp,row,cells,hsh,_⟩:=hok
   obtain ⟨b,o,sp⟩:=a
   simp only at hsp
   subst hsp
   unfold World.shape? at hsh
   have hblk:∃ C E fr,W.heap[b]? = some (.cells C E fr):=by
    split at hsh
    · rename_i c el fr hh; exact ⟨c,el,fr,hh⟩
    · cases hsh
   obtain ⟨C,E,fr,hC⟩:=hblk
   have hadd:∀ o k,(⟨b,o,none⟩:Addr).add k=⟨b,o+k,none⟩:=fun o k=>by unfold Addr.add; split <;> simp_all
   have hcell:∀ j,j<len*sz -> ∃ z,C[o+j]? = some (.int .i64 z):=by
    intro j hj
    have hi:j / sz<len:=by rw [Nat.div_lt_iff_lt_mul hz]; exact hj
    have h2:=hel (j / sz) hi
    rw [List.getElem?_eq_getElem qO] at h2
    simp only [Option.bind_eq_some_iff] at h2
    obtain ⟨cs,hcs,htr⟩:=h2
    rw [hf.1] at hcs
    obtain ⟨_,hcl,hcg⟩:=World.cells?_some hcs
    have h3:=hcg (j % sz) (Nat.mod_lt _ hz)
    have hfl:=hf.2 _ _ _ _ _ _ _ _ _ htr
    have hjm:j % sz<cs.length:=by rw [hcl]; exact Nat.mod_lt _ hz
    rw [List.getElem?_eq_getElem hjm] at h3
    obtain ⟨z,hz'⟩:=hfl.2 cs[j % sz] (List.getElem_mem hjm)
    rw [hz',hadd] at h3
    have:(⟨b,o+j / sz*sz,none⟩:Addr).add (j % sz)=⟨b,o+j,none⟩:=by
     rw [hadd]
     have:=Nat.div_add_mod j sz
     rw [Nat.mul_comm] at this
     congr 1; omega
    rw [this] at h3
    refine ⟨z, ?_⟩
    simpa [World.cell?,hC] using h3
   refine ⟨len,(List.range (len*sz)).map fun j=>(match C[o+j]? with | some (.int .i64 z)=>z | _=>0),by simp, ?_,.inr ⟨b,o,cap,C,E,fr,rfl,hl,hC,fun j hj=>?_⟩⟩
   · unfold maxLen at hm
     have:cap<=9223372036854775807:=by simp at hm; omega
     omega
   · have hj':j<len*sz:=by simpa using hj
     obtain ⟨z,hz'⟩:=hcell j hj'
     rw [hz']
     congr 2
     simp [List.getD,hj',hz']
end flat
end Go.Ab

namespace Go.Ab
open Go
def Zlr:Value->Option Addr
 | .slice a _ _=>a
 | _=>none
def SlX (h:FH) (s:Value) (sz n:Nat):Prop:=n<=capOf s/\Zii h sz (Zlr s)=true
def subS (sz lo hi:Nat):Value->Value
 | .slice (some ⟨b,o,none⟩) _ cap=>.slice (some ⟨b,o+lo*sz,none⟩) (hi-lo) (cap-lo)
 | v=>v
theorem SlX.sub {h:FH} {c:Nat} {s:Value} {sz n:Nat} {L:List Int} (hs:SlI h c s sz n L) (hx:SlX h s sz n) (k k':IntKind) (lo hi:Int) (h1:0<=lo) (h2:lo<=hi) (h3:hi<=(n:Int)) (hn:0<n) :
 slS h sz s (some (.int k lo)) (some (.int k' hi)) none=some (subS sz lo.toNat hi.toNat s):=by
 obtain ⟨g1,g2,a,cap,rfl,h4⟩:=hs
 obtain ⟨x1,x2⟩:=hx
 rcases h4 with ⟨e,hv⟩ | ⟨b,o,cs,rfl,e2,e3,e4⟩
 · omega
 · simp only [capOf,Zlr] at x1 x2
   have q0:Nat.ble cap cap=true:=Nat.ble_eq_true_of_le (Nat.le_refl _)
   have q1:(0:Int)<=hi:=by omega
   have q2:hi<=(cap:Int):=by omega
   have q3:lo<=(hi.toNat:Int):=by omega
   simp only [slS,x2,cond_true,Zll,Zlm,q0,Option.bind_some,bnd,decide_eq_true q1,decide_eq_true q2,decide_eq_true h1,decide_eq_true q3,Bool.and_self,Option.isSome_none,Bool.false_and,cond_false,ZlB,subS]
theorem SlI.sub {h:FH} {c:Nat} {s:Value} {sz n:Nat} {L:List Int} (hs:SlI h c s sz n L) (lo hi:Nat) (h2:lo<=hi) (h3:hi<=n) (hn:0<n) :
 SlI h c (subS sz lo hi s) sz (hi-lo) ((L.drop (lo*sz)).take ((hi-lo)*sz)):=by
 obtain ⟨g1,g2,a,cap,rfl,h4⟩:=hs
 rcases h4 with ⟨e,hv⟩ | ⟨b,o,cs,rfl,e2,e3,e4⟩
 · omega
 · have hm:lo*sz+(hi-lo)*sz<=L.length:=by
    rw [g1,← Nat.add_mul]; exact Nat.mul_le_mul_right _ qO
   refine ⟨by rw [List.length_take,List.length_drop]; omega,by omega,_,_,rfl,.inr ⟨b,o+lo*sz,cs,rfl,e2,e3, ?_⟩⟩
   exact Zgi e4 hm
theorem SlX.same {h h':FH} {c:Nat} {s:Value} {sz n:Nat} {L:List Int} (hs:SlI h c s sz n L) (hn:0<n) (hh:Z0s c h h') (hx:SlX h s sz n):SlX h' s sz n:=by
 obtain ⟨g1,g2,a,cap,rfl,h4⟩:=hs
 obtain ⟨x1,x2⟩:=hx
 rcases h4 with ⟨e,hv⟩ | ⟨b,o,cs,rfl,e2,e3,e4⟩
 · omega
 · refine ⟨x1, ?_⟩
   simp only [Zlr,Zii] at x2 ⊢
   have:HeapC.get h' b=HeapC.get h b:=hh b e2
   rw [this]; exact x2
theorem Z6f.slx {W:World} {v:Value} {sz n:Nat} {Gl:List Int} (h:Z6f W v sz n Gl) {A:FH} {i:Nat} (ha:∀ m,Zls v=some m->A.f i=some (.cells true none (ints Gl))):SlX A (Zim i v) sz n:=by
 obtain ⟨h1,h2,⟨rfl,rfl⟩ | ⟨b,o,cap,C,E,fr,rfl,g1,_,_⟩⟩:=h
 · exact ⟨Nat.zero_le _,rfl⟩
 · refine ⟨g1, ?_⟩
   have:HeapC.get A i=some (.cells true none (ints Gl)):=ha _ rfl
   simp only [Zim,Zlr,Zii,this]
def tyT:List Int:=[-1,0,1,2,0,-1,2,1,1,2,-1,0,2,1,0,-1]
def ty (i f:Int):Int:=((tyT.drop (i.toNat*4)).take 4).getD f.toNat 0
theorem Zdk {i f:Int} (h1:0<=i) (h2:i<4) (h3:0<=f) (h4:f<4) (hne:i ≠ f):0<=ty i f/\ty i f<3:=by
 have:((List.range 4).all fun i=>(List.range 4).all fun f=>decide (i=f) || (decide (0<=ty (i:Nat) (f:Nat)) && decide (ty (i:Nat) (f:Nat)<3)))=true:=by decide
 rw [List.all_eq_true] at this
 have h5:=this i.toNat (by simp; omega)
 rw [List.all_eq_true] at h5
 have h6:=h5 f.toNat (by simp; omega)
 have e1:((i.toNat:Nat):Int)=i:=by omega
 have e2:((f.toNat:Nat):Int)=f:=by omega
 rw [e1,e2] at h6
 have h7:¬ i.toNat=f.toNat:=by omega
 simpa [h7] using h6
def arcV (V:List Int) (t f i:Int):Int:=gi V (7*t+i)+gi V (7*t+4+ty i f)
theorem Z6T:∀ {df:List Nat} {h:FH},df.Nodup->(∀ d ∈ df,h.f d=some .dfr) -> ∃ h',Z09 h df=some h' /\ ∀ i,i ∉ df->h'.f i=h.f i
 | [],h,_,_=>⟨h,rfl,fun _ _=>rfl⟩
 | d::df,h,hn,hd=>by
  have h1:=hd d (by simp)
  have hg:HeapC.get h d=some .dfr:=h1
  obtain ⟨hn1,hn2⟩:=List.nodup_cons.1 hn
  obtain ⟨h',e,k⟩:=Z6T (df:=df) (h:=HeapC.del h d) hn2 (fun x hx=>by
   have hne:¬ x=d:=fun e=>hn1 (by rw [← e]; exact hx)
   rw [Z6G,if_neg hne]
   exact hd x (by simp [hx]))
  refine ⟨h',by simp only [Z09,hg,e],fun i hi=>?_⟩
  simp only [List.mem_cons,not_or] at hi
  rw [k i hi.2,Z6G,if_neg hi.1]
end Go.Ab

namespace Go.Ab
open Go
theorem Zik {p:List Int} (hp:p ∈ p24) {i j:Nat} (hi:i<4) (hj:j<4) (hne:i ≠ j):p.getD i 0 ≠ p.getD j 0:=by
 have:=ZbU (Q:=fun p=>(List.range 4).all fun i=>(List.range 4).all fun j=>decide (i=j) || decide (p.getD i 0 ≠ p.getD j 0)) (by kernel_rfl) hp
 rw [List.all_eq_true] at this
 have h1:=this i (by simpa using hi)
 rw [List.all_eq_true] at h1
 have h2:=h1 j (by simpa using hj)
 simpa [hne,-List.getD_eq_getElem?_getD] using h2
end Go.Ab

namespace Go.Ab
open Go
def Zbp (c0:Nat) (h:FH) (c:Nat) (v:Value) (n:Nat) (cs:List Value):Prop :=
 cs.length=n/\n<=9223372036854775807/\cs.all Z07=true ∧
  ∃ i op,v = .slice (some ⟨i,0,none⟩) n n/\256*c0<=i/\i<256*c/\h.f i=some (.cells false op cs)/\(op=none ∨ op=some 1)
theorem Zbp.flat {c0:Nat} {h:FH} {c:Nat} {v:Value} {n:Nat} {cs:List Value} (ha:Zbp c0 h c v n cs):Z07 v=true/\v.cells = #[v]:=by
 obtain ⟨_,_,_,i,op,rfl,_⟩:=ha; exact ⟨rfl,rfl⟩
theorem Zbp.mono {c0:Nat} {h:FH} {c c':Nat} {v:Value} {n:Nat} {cs:List Value} (hc:c<=c') (ha:Zbp c0 h c v n cs):Zbp c0 h c' v n cs:=by
 obtain ⟨h1,h2,h3,i,op,h4,h5,h6,h7⟩:=ha
 exact ⟨h1,h2,h3,i,op,h4,h5,by omega,h7⟩
theorem Zbp.blk {c0:Nat} {h:FH} {c:Nat} {v:Value} {n:Nat} {cs:List Value} (ha:Zbp c0 h c v n cs):256*c0<=Z0q v/\Z0q v<256*c:=by
 obtain ⟨h1,h2,h3,i,op,rfl,h5,h6,h7⟩:=ha
 exact ⟨h5,h6⟩
theorem Zbp.keep {c0:Nat} {h h':FH} {c:Nat} {v:Value} {n:Nat} {cs:List Value} (ha:Zbp c0 h c v n cs) (hh:h'.f (Z0q v)=h.f (Z0q v)):Zbp c0 h' c v n cs:=by
 obtain ⟨h1,h2,h3,i,op,rfl,h5,h6,h7,h8⟩:=ha
 exact ⟨h1,h2,h3,i,op,rfl,h5,h6,hh.trans h7,h8⟩
theorem Zbp.app {c0:Nat} {h:FH} {c c':Nat} {v:Value} {n:Nat} {cs:List Value} (ha:Zbp c0 h c v n cs) (x:Value) (hx:Z07 x=true) (by' b id:Nat) (hb:256*c<=b) (hid:256*c<=id) (hne:b ≠ id) (hc0:c0<=c)
 (hid':id<256*c') (hlim:(n+1)*(by'+1)<=17592186044416) :
 ∃ h',Z6e (newB h b [x]) id 1 by' v (.slice (some ⟨b,0,none⟩) 1 1)=some (.slice (some ⟨id,0,none⟩) (n+1) (n+1),h')/\Zbp c0 h' c' (.slice (some ⟨id,0,none⟩) (n+1) (n+1)) (n+1) (cs++[x]) ∧
  (∀ j,j<256*c->j ≠ Z0q v->h'.f j=h.f j):=by
 obtain ⟨h1,h2,h3,i,op,rfl,h5,h6,h7,h8⟩:=ha
 have hlim':Nat.ble ((n+1)*(by'+1)) 17592186044416=true:=Nat.ble_eq_true_of_le hlim
 have hsrc:Z0A (newB h b [x]) 1 (.slice (some ⟨b,0,none⟩) 1 1)=some ([x],1):=by
  have:Nat.ble (0+1*1) [x].length=true:=rfl
  simp only [Z0A,Z0I,Z0k,get_newB_same,Option.bind_some,this,cond_true,List.drop_zero]
  rfl
 have hn1:n+1<=17592186044416:=by
  have:(n+1)*1<=(n+1)*(by'+1):=Nat.mul_le_mul_left _ qO
  omega
 have hcap:Nat.ble (n+1) n=false:=by rw [Bool.eq_false_iff]; intro hh; have:=Nat.le_of_ble_eq_true hh; omega
 have hfx:[x].all Z07=true:=by simp [hx]
 have hbi:i ≠ b:=by omega
 have hg:HeapC.get (newB h b [x]) i=some (.cells false op cs):=by rw [get_newB_ne _ _ _ _ hbi]; exact h7
 have hr:Nat.ble (0+n*1) cs.length=true:=Nat.ble_eq_true_of_le (by simp [h1])
 have ht:(cs.drop 0).take (n*1)=cs:=by rw [List.drop_zero,List.take_of_length_le qO]
 rcases h8 with rfl | rfl
 · refine ⟨HeapC.set (newB h b [x]) id (.cells false (some 1) ((cs.drop 0).take (n*1)++[x])), ?_,⟨by simp [h1],by omega,by simp only [List.all_append,h3,hfx,Bool.and_self],id,some 1,rfl,by omega,hid', ?_,.inr rfl⟩, ?_⟩
   · simp only [Z6e,hsrc,Option.bind_some,appTo,hcap,cond_false,Z1M,hlim',hfx,Bool.and_self,cond_true,Z0I,Z0k,hg,hr]
   · rw [Z0b,if_pos rfl,ht]
   · intro j hj hne'
     rw [Z0b,if_neg qO,Z01,if_neg qO]
 · refine ⟨HeapC.set (HeapC.set (newB h b [x]) i .dead) id (.cells false (some 1) ((cs.drop 0).take (n*1)++[x])), ?_,⟨by simp [h1],by omega,by simp only [List.all_append,h3,hfx,Bool.and_self],id,some 1,rfl,by omega,hid', ?_,.inr rfl⟩, ?_⟩
   · simp only [Z6e,hsrc,Option.bind_some,appTo,hcap,cond_false,Z1M,hlim',hfx,Bool.and_self,cond_true,Z0I,Z0k,hg,hr,Nat.beq_refl,Bool.not_false,Bool.and_true]
   · rw [Z0b,if_pos rfl,ht]
   · intro j hj hne'
     rw [blkOf_sl] at hne'
     rw [Z0b,if_neg qO,Z0b,if_neg hne',Z01,if_neg qO]
end Go.Ab

namespace Go.Ab
open Go
def Z49 (L:List Int) (m:Nat):Prop:=L.length=m /\ ∀ k,k<m->0<=L.getD k 0/\L.getD k 0<=k
def Z6l (L:List Int):Nat->Nat->Nat
 | 0,i=>i
 | k+1,i=>if L.getD i 0=i then i else Z6l L k (L.getD i 0).toNat
def Z06 (L:List Int) (i:Nat):Nat:=Z6l L (i+1) i
theorem Z9v {L:List Int} {m:Nat} (hd:Z49 L m):∀ {k k' i:Nat},i<m->i<k->i<k'->Z6l L k i=Z6l L k' i
 | 0,_,i,_,h,_=>by omega
 | k+1,0,i,_,_,h=>by omega
 | k+1,k'+1,i,hi,h1,h2=>by
  rw [Z6l,Z6l]
  by_cases e:L.getD i 0=i
  · rw [if_pos e,if_pos e]
  · rw [if_neg e,if_neg e]
    have:=hd.2 i hi
    exact Z9v hd qO qO qO
theorem Z0U {L:List Int} {i:Nat} (e:L.getD i 0=i):Z06 L i=i:=by rw [Z06,Z6l,if_pos e]
theorem Z19 {L:List Int} {m i:Nat} (hd:Z49 L m) (hi:i<m) (e:¬ L.getD i 0=i):Z06 L i=Z06 L (L.getD i 0).toNat:=by
 have:=hd.2 i hi
 rw [Z06,Z6l,if_neg e,Z06]
 exact Z9v hd qO qO qO
theorem Zds {L:List Int} {m:Nat} (hd:Z49 L m):∀ {k i:Nat},i<m->Z6l L k i<=i
 | 0,i,_=>by rw [Z6l]; omega
 | k+1,i,hi=>by
  rw [Z6l]
  split
  · omega
  · have:=hd.2 i hi
    have:=Zds hd (k:=k) (i:=(L.getD i 0).toNat) qO
    omega
theorem Z2H {L:List Int} {m i:Nat} (hd:Z49 L m) (hi:i<m):Z06 L i<=i:=Zds hd hi
def Z3Q (L:List Int) (i j:Nat):List Int:=L.set (max (Z06 L i) (Z06 L j)) (min (Z06 L i) (Z06 L j):Nat)
theorem Z0C (l:List Int) (i j:Nat) (x:Int):(l.set i x).getD j 0=if i=j/\i<l.length then x else l.getD j 0:=by
 simp only [List.getD_eq_getElem?_getD,List.getElem?_set]
 by_cases h:i=j
 · subst h
   by_cases h2:i<l.length
   · simp [h2]
   · simp [h2]
 · simp [h]
theorem Z49.set {L:List Int} {m i:Nat} {x:Nat} (hd:Z49 L m) (hi:i<m) (hx:x<=i):Z49 (L.set i x) m:=by
 refine ⟨by simp [hd.1],fun k hk=>?_⟩
 have hl:=hd.1
 rw [Z0C]
 split
 · rename_i h; obtain ⟨rfl,_⟩:=h; omega
 · exact hd.2 k hk
theorem Z2T {L:List Int} {m i j:Nat} (hd:Z49 L m) (hi:i<m) (hj:j<m):Z49 (Z3Q L i j) m:=by
 have h1:=Z2H hd hi
 have h2:=Z2H hd hj
 exact hd.set qO qO
def Z0R (m:Nat):List Int:=(List.range m).map fun k:Nat=>(k:Int)
theorem Z8c {m k:Nat} (h:k<m):(Z0R m).getD k 0=k:=by
 simp [Z0R,List.getD_eq_getElem?_getD,h]
theorem Z10 (m:Nat):Z49 (Z0R m) m:=by
 refine ⟨by simp [Z0R],fun k hk=>?_⟩
 rw [Z8c hk]
 omega
def Z1J (L:List Int) (m:Nat):List Int:=((List.range m).filter fun k=>decide (Z06 L k=k)).map fun k:Nat=>(k:Int)
theorem Z5p (L:List Int) (i:Nat):Z1J L (i+1)=Z1J L i++(if Z06 L i=i then [(i:Int)] else []):=by
 unfold Z1J
 rw [List.range_succ,List.filter_append,List.map_append]
 congr 1
 by_cases h:Z06 L i=i <;> simp [h]
theorem ZcC (L:List Int) (m:Nat):(Z1J L m).length<=m:=by
 unfold Z1J
 rw [List.length_map]
 exact Nat.le_trans (List.length_filter_le _ _) (by simp)
theorem Zct {L:List Int} {m:Nat} {x:Int} (h:x ∈ Z1J L m):∃ k:Nat,x=k/\k<m/\Z06 L k=k:=by
 unfold Z1J at h
 rw [List.mem_map] at h
 obtain ⟨k,h1,rfl⟩:=h
 rw [List.mem_filter] at h1
 exact ⟨k,rfl,by simpa using h1.1,by simpa using h1.2⟩
theorem Zbp.sl {c0:Nat} {h:FH} {c:Nat} {v:Value} {n:Nat} {L:List Int} (ha:Zbp c0 h c v n (ints L)):SlI h c v 1 n L:=by
 obtain ⟨h1,h2,h3,i,op,rfl,h5,h6,h7,h8⟩:=ha
 have hl:L.length=n:=by simpa using h1
 refine ⟨by omega,h2,some ⟨i,0,none⟩,n,rfl,.inr ⟨i,0,ints L,rfl,h6,⟨false,op,h7⟩, ?_⟩⟩
 rw [List.drop_zero,List.take_of_length_le (by simp [hl])]
end Go.Ab

namespace Go.Ab
open Go
theorem ZbD {L:List Int} {m:Nat} (hd:Z49 L m):∀ {k i:Nat},i<m->i<k->L.getD (Z6l L k i) 0=Z6l L k i
 | 0,i,_,h=>by omega
 | k+1,i,hi,h=>by
  rw [Z6l]
  split
  · assumption
  · have:=hd.2 i hi
    exact ZbD hd qO qO
theorem Z8l {L:List Int} {m i:Nat} (hd:Z49 L m) (hi:i<m):L.getD (Z06 L i) 0=Z06 L i:=ZbD hd hi qO
theorem Z4c {L:List Int} {m i:Nat} (hd:Z49 L m) (hi:i<m):Z06 L (Z06 L i)=Z06 L i:=Z0U (Z8l hd hi)
theorem Z1N {L:List Int} {m i j:Nat} (hd:Z49 L m) (hi:i<m) (hj:j<m):∀ {k:Nat},k<m →
 Z06 (Z3Q L i j) k=if Z06 L k=max (Z06 L i) (Z06 L j) then min (Z06 L i) (Z06 L j) else Z06 L k:=by
 have h1:=Z2H hd hi
 have h2:=Z2H hd hj
 have f1:=Z8l hd hi
 have f2:=Z8l hd hj
 have hd':=Z2T hd hi hj
 have hl:=hd.1
 obtain ⟨M,hM⟩:∃ M,max (Z06 L i) (Z06 L j)=M:=⟨_,rfl⟩
 obtain ⟨N,hN⟩:∃ N,min (Z06 L i) (Z06 L j)=N:=⟨_,rfl⟩
 have fM:L.getD M 0=M:=by
  rcases Nat.le_total (Z06 L i) (Z06 L j) with h | h
  · rw [show M=Z06 L j by omega]; exact f2
  · rw [show M=Z06 L i by omega]; exact f1
 have fN:L.getD N 0=N:=by
  rcases Nat.le_total (Z06 L i) (Z06 L j) with h | h
  · rw [show N=Z06 L i by omega]; exact f1
  · rw [show N=Z06 L j by omega]; exact f2
 have hg:∀ k,(Z3Q L i j).getD k 0=if M=k/\M<L.length then (N:Int) else L.getD k 0:=fun k=>by
  unfold Z3Q
  rw [Z0C,hM,hN]
 rw [hM,hN]
 have key:∀ (b k:Nat),k<b->k<m->Z06 (Z3Q L i j) k=if Z06 L k=M then N else Z06 L k:=by
  intro b
  induction b with
  | zero=>intro k h; omega
  | succ b ih =>
   intro k hb hk
   by_cases e:k=M
   · subst e
     rw [Z0U fM,if_pos rfl]
     have e2:=hg k
     rw [if_pos ⟨rfl,by omega⟩] at e2
     by_cases e3:N=k
     · rw [Z0U (by rw [e2,e3])]; exact e3.symm
     · rw [Z19 hd' qO qO,e2,Int.toNat_natCast,ih N qO qO,Z0U fN,if_neg e3]
   · have e2:=hg k
     rw [if_neg (fun q=>e q.1.symm)] at e2
     by_cases e3:L.getD k 0=k
     · rw [Z0U (e2.trans e3),Z0U e3,if_neg e]
     · have d:=hd.2 k hk
       rw [Z19 hd' hk (by rw [e2]; exact e3),e2,ih _ qO qO,← Z19 hd hk e3]
 intro k hk
 exact key (k+1) k qO hk
theorem Zh6 {L:List Int} {m i j:Nat} (hd:Z49 L m) (hi:i<m) (hj:j<m):Z06 (Z3Q L i j) i=Z06 (Z3Q L i j) j:=by
 rw [Z1N hd hi hj hi,Z1N hd hi hj hj]
 split <;> split <;> omega
theorem Zh7 {L:List Int} {m i j a b:Nat} (hd:Z49 L m) (hi:i<m) (hj:j<m) (ha:a<m) (hb:b<m) (e:Z06 L a=Z06 L b):Z06 (Z3Q L i j) a=Z06 (Z3Q L i j) b:=by
 rw [Z1N hd hi hj ha,Z1N hd hi hj hb,e]
end Go.Ab

namespace Go.Ab
open Go
def Z3W (L L':List Int) (m:Nat):Prop:=Z49 L' m /\ ∀ k,k<m->Z06 L' k=Z06 L k
theorem Z3W.refl {L:List Int} {m:Nat} (h:Z49 L m):Z3W L L m:=⟨h,fun _ _=>rfl⟩
theorem Z3W.trans {L L' L'':List Int} {m:Nat} (a:Z3W L L' m) (b:Z3W L' L'' m):Z3W L L'' m:=⟨b.1,fun k hk=>(b.2 k hk).trans (a.2 k hk)⟩
def Z7M (L:List Int) (i:Nat):List Int:=L.set i (L.getD (L.getD i 0).toNat 0)
theorem ZaO {L:List Int} {m:Nat} (hd:Z49 L m) {i:Nat} (hi:i<m) (k:Nat):(Z7M L i).getD k 0=if k=i then L.getD (L.getD i 0).toNat 0 else L.getD k 0:=by
 unfold Z7M
 rw [Z0C]
 by_cases e:k=i
 · subst e; rw [if_pos ⟨rfl,by rw [hd.1]; exact hi⟩,if_pos rfl]
 · rw [if_neg (fun q=>e q.1.symm),if_neg e]
theorem Zfm {L:List Int} {m i:Nat} (hd:Z49 L m) (hi:i<m):Z3W L (Z7M L i) m:=by
 have di:=hd.2 i hi
 have dp:=hd.2 (L.getD i 0).toNat qO
 have hd':Z49 (Z7M L i) m:=by
  refine ⟨by unfold Z7M; rw [List.length_set,hd.1],fun k hk=>?_⟩
  rw [ZaO hd hi]
  by_cases e:k=i
  · rw [if_pos e]; omega
  · rw [if_neg e]; exact hd.2 k hk
 refine ⟨hd', ?_⟩
 have key:∀ (b k:Nat),k<b->k<m->Z06 (Z7M L i) k=Z06 L k:=by
  intro b
  induction b with
  | zero=>intro k h; omega
  | succ b ih =>
   intro k hb hk
   have dk:=hd.2 k hk
   have e1:=ZaO hd hi k
   by_cases e:k=i
   · subst e
     rw [if_pos rfl] at e1
     by_cases e2:L.getD k 0=k
     · rw [e2,Int.toNat_natCast,e2] at e1
       rw [Z0U e1,Z0U e2]
     · rw [Z19 hd hk e2]
       have hp:(L.getD k 0).toNat<k:=by omega
       by_cases e3:L.getD (L.getD k 0).toNat 0=(L.getD k 0).toNat
       · rw [Z19 hd' hk (by rw [e1,e3]; omega),e1,e3,Int.toNat_natCast,ih _ qO qO]
       · rw [Z19 hd qO e3,Z19 hd' hk (by rw [e1]; omega),e1,ih _ qO qO]
   · rw [if_neg e] at e1
     by_cases e2:L.getD k 0=k
     · rw [Z0U (e1.trans e2),Z0U e2]
     · rw [Z19 hd hk e2,Z19 hd' hk (by rw [e1]; exact e2),e1,ih _ qO qO]
 exact fun k hk=>key (k+1) k qO hk
theorem Zku {L:List Int} {m i:Nat} (hd:Z49 L m) (hi:i<m) (hne:L.getD i 0 ≠ i):0<=L.getD (L.getD i 0).toNat 0/\(L.getD (L.getD i 0).toNat 0).toNat<i/\Z06 L (L.getD (L.getD i 0).toNat 0).toNat=Z06 L i:=by
 have di:=hd.2 i hi
 have dp:=hd.2 (L.getD i 0).toNat qO
 refine ⟨dp.1,by omega, ?_⟩
 rw [Z19 hd hi hne]
 by_cases e3:L.getD (L.getD i 0).toNat 0=(L.getD i 0).toNat
 · rw [e3,Int.toNat_natCast]
 · rw [Z19 hd qO e3]
theorem Z3W.join {L L':List Int} {m i j:Nat} (hd:Z49 L m) (s:Z3W L L' m) (hi:i<m) (hj:j<m):Z3W (Z3Q L i j) (Z3Q L' i j) m:=by
 refine ⟨Z2T s.1 hi hj,fun k hk=>?_⟩
 rw [Z1N hd hi hj hk,Z1N s.1 hi hj hk,s.2 i hi,s.2 j hj,s.2 k hk]
end Go.Ab

namespace Go.Ab
open Go
def zs (Q:List Nat):List Int:=Q.map fun k:Nat=>(k:Int)
def Zm0:List Bool->Nat
 | []=>0
 | b::l=>(if b=true then 1 else 0)+Zm0 l
theorem ZeS:∀ {l:List Bool} {j:Nat},j<l.length->l.getD j false=false->Zm0 (l.set j true)=Zm0 l+1
 | [],j,h,_=>by simp at h
 | b::l,0,_,e=>by
  obtain rfl:b=false:=e
  show (if (true:Bool)=true then 1 else 0)+Zm0 l=_
  rw [Zm0,if_pos rfl,if_neg (by simp)]; omega
 | b::l,j+1,h,e=>by
  show (if b=true then 1 else 0)+Zm0 (l.set j true)=(if b=true then 1 else 0)+Zm0 l+1
  rw [ZeS (l:=l) (by simpa using h) e]; omega
theorem Zhd (l:List Bool) (i j:Nat) (x:Bool):(l.set i x).getD j false=if i=j/\i<l.length then x else l.getD j false:=by
 simp only [List.getD_eq_getElem?_getD,List.getElem?_set]
 by_cases h:i=j
 · subst h
   by_cases h2:i<l.length
   · simp [h2]
   · simp [h2]
 · simp [h]
def ps (w:Nat):Nat:=w / 4*7+w % 4
structure FSt where
 X:List Int
 K:List Bool
 Q:List Nat
 m:Int
def fU (Gl:List Int) (t f:Nat):Nat:=(Z0x (Z03 Gl t f)).toNat
def fJ (Gl:List Int) (t f i:Nat):Nat:=((Z0d (Z03 Gl t f)).getD i 0).toNat
def fV (Gl:List Int) (t f i:Nat):Nat:=4*fU Gl t f+fJ Gl t f i
def fW (Gl X:List Int) (t f i:Nat):Int:=arcV X t f i-gi X (7*(fU Gl t f:Int)+4+ty (fJ Gl t f i) (fJ Gl t f f))
structure FOk (n:Nat) (s:FSt) (B:Int):Prop where
 xl:s.X.length=7*n
 kl:s.K.length=4*n
 nd:s.Q.Nodup
 qk:∀ w ∈ s.Q,w<4*n/\s.K.getD w false=true
 qc:s.Q.length<=Zm0 s.K
 xb:∀ j:Nat,-B<=s.X.getD j 0/\s.X.getD j 0<=B
 mb:-B<=s.m/\s.m<=0
 qd:∀ t k:Nat,k<3->0<=s.X.getD (7*t+4+k) 0/\s.X.getD (7*t+4+k) 0<=1000000
theorem FOk.mono {n:Nat} {s:FSt} {B B':Int} (h:FOk n s B) (hb:B<=B'):FOk n s B' :=
 ⟨h.xl,h.kl,h.nd,h.qk,h.qc,fun j=>by have:=h.xb j; omega,by have:=h.mb; omega,h.qd⟩
structure FGl (Gl:List Int) (n t f i:Nat):Prop where
 u:fU Gl t f<n
 uz:Z0x (Z03 Gl t f)=(fU Gl t f:Nat)
 j:fJ Gl t f i<4
 jz:(Z0d (Z03 Gl t f)).getD i 0=(fJ Gl t f i:Nat)
 h:fJ Gl t f f<4
 hz:(Z0d (Z03 Gl t f)).getD f 0=(fJ Gl t f f:Nat)
 ne:fJ Gl t f i ≠ fJ Gl t f f
theorem FGl.of {Gl:List Int} {n t f i:Nat} (hok:Z0v Gl n=true) (hG:Gl.length=n*20) (ht:t<n) (hf:f<4) (hi:i<4) (hne:i ≠ f) (hg:¬ Z0x (Z03 Gl t f)<0):FGl Gl n t f i:=by
 obtain ⟨h1,h2,h3,h4⟩:=Z0Y (Z1s hok ht hf) hg
 have hp:=Z9b (Z0X (Z0j hG ht hf)) h2
 have r1:=Z2c hp hi
 have r2:=Z2c hp hf
 have r3:=Zik hp hi hf hne
 exact ⟨by unfold fU; omega,by unfold fU; omega,by unfold fJ; omega,by unfold fJ; omega,by unfold fJ; omega,by unfold fJ; omega,by unfold fJ; omega⟩
theorem Zkz {Gl:List Int} {n t f i:Nat} {s:FSt} {B:Int} (h:FOk n s B) (ht:t<n) (hf:f<4) (hi:i<4) (hne:i ≠ f) (g:FGl Gl n t f i):-(B+1000000)<=fW Gl s.X t f i/\fW Gl s.X t f i<=B+1000000:=by
 unfold fW arcV
 have r1:=Zdk (i:=(i:Int)) (f:=(f:Int)) qO qO qO qO qO
 have r2:=Zdk (i:=(fJ Gl t f i:Int)) (f:=(fJ Gl t f f:Int)) qO (by have:=g.j; omega) qO (by have:=g.h; omega) (by have:=g.ne; omega)
 have q1:=h.qd t (ty i f).toNat qO
 have q2:=h.qd (fU Gl t f) (ty (fJ Gl t f i) (fJ Gl t f f)).toNat qO
 have q3:=h.xb (7*t+i)
 unfold gi
 rw [show (7*(t:Int)+i).toNat=7*t+i by omega,show (7*(t:Int)+4+ty i f).toNat=7*t+4+(ty i f).toNat by omega,
  show (7*(fU Gl t f:Int)+4+ty (fJ Gl t f i) (fJ Gl t f f)).toNat=7*fU Gl t f+4+(ty (fJ Gl t f i) (fJ Gl t f f)).toNat by omega]
 omega
theorem FOk.push {Gl:List Int} {n t f i:Nat} {s:FSt} {B:Int} (h:FOk n s B) (hB:0<=B) (ht:t<n) (hf:f<4) (hi:i<4) (hne:i ≠ f) (g:FGl Gl n t f i) (hk:s.K.getD (fV Gl t f i) false=false) :
 FOk n ⟨s.X.set (7*fU Gl t f+fJ Gl t f i) (fW Gl s.X t f i),s.K.set (fV Gl t f i) true,s.Q++[fV Gl t f i],min s.m (fW Gl s.X t f i)⟩ (B+1000000):=by
 have hv:fV Gl t f i<4*n:=by have:=g.u; have:=g.j; unfold fV; omega
 have hw:=Zkz h ht hf hi hne g
 have hj:=g.j
 refine ⟨by simp [h.xl],by simp [h.kl], ?_,fun w hw=>?_, ?_,fun j=>?_, ?_,fun u k hk=>?_⟩
 · rw [List.nodup_append]
   refine ⟨h.nd,by simp,fun a ha b hb=>?_⟩
   rw [List.mem_singleton] at hb
   subst hb
   rintro rfl
   have:=(h.qk _ ha).2
   rw [hk] at this; cases this
 · rw [Zhd]
   rcases List.mem_append.1 hw with h1 | h1
   · refine ⟨(h.qk w h1).1, ?_⟩
     split
     · rfl
     · exact (h.qk w h1).2
   · rw [List.mem_singleton] at h1
     subst h1
     exact ⟨hv,by rw [if_pos ⟨rfl,by rw [h.kl]; exact hv⟩]⟩
 · have:=h.qc
   rw [ZeS (by rw [h.kl]; exact hv) hk]; simp; omega
 · rw [Z0C]
   have:=h.xb j
   split <;> omega
 · have:=h.mb
   simp only
   omega
 · rw [Z0C,if_neg qO]
   exact h.qd u k hk
end Go.Ab

namespace Go.Ab
open Go
theorem Z8B {A B:List Int} {m:Nat} (hA:A.length=m) (hB:B.length=m) (h:∀ k,k<m->A.getD k 0=B.getD k 0):A=B:=by
 refine List.ext_getElem qO fun j a b=>?_
 have:=h j qO
 simpa [List.getD_eq_getElem?_getD,List.getElem?_eq_getElem a,List.getElem?_eq_getElem b] using this
def Z5e (C:List Int) (i:Nat):Nat:=(Z1J C i).length
theorem Zhj (C:List Int) (i:Nat):Z5e C (i+1)=Z5e C i+if Z06 C i=i then 1 else 0:=by
 unfold Z5e
 rw [Z5p,List.length_append]
 split <;> rfl
theorem Z8I (C:List Int) (i:Nat):Z5e C i<=i:=ZcC C i
def ZbJ (C:List Int) (m:Nat):List Int:=(List.range m).map fun k=>((Z5e C (Z06 C k):Nat):Int)
theorem Z12 (C:List Int) (m:Nat):(ZbJ C m).length=m:=by simp [ZbJ]
theorem Z8u (C:List Int) {m k:Nat} (h:k<m):(ZbJ C m).getD k 0=(Z5e C (Z06 C k):Nat):=by simp [ZbJ,List.getD_eq_getElem?_getD,h]
def Z7B (C:List Int) (m i:Nat):List Int:=(List.range m).map fun k=>if k<i then ((Z5e C (Z06 C k):Nat):Int) else 0
theorem Z1H (C:List Int) (m i:Nat):(Z7B C m i).length=m:=by simp [Z7B]
theorem Z5n (C:List Int) {m k:Nat} (i:Nat) (h:k<m):(Z7B C m i).getD k 0=if k<i then ((Z5e C (Z06 C k):Nat):Int) else 0:=by simp [Z7B,List.getD_eq_getElem?_getD,h]
theorem ZgP (C:List Int) (m:Nat):Z7B C m 0=List.replicate m 0:=by
 refine Z8B (m:=m) (Z1H _ _ _) (by simp) fun k hk=>?_
 rw [Z5n C 0 hk,if_neg qO]
 simp [List.getD_eq_getElem?_getD,List.getElem?_replicate,hk]
theorem ZiY (C:List Int) (m:Nat):Z7B C m m=ZbJ C m:=by
 refine Z8B (m:=m) (Z1H _ _ _) (Z12 _ _) fun k hk=>?_
 rw [Z5n C m hk,if_pos hk,Z8u C hk]
end Go.Ab

namespace Go.Ab
open Go
def jn:List (Nat × Nat)->List Int->List Int
 | [],L=>L
 | p::D,L=>jn D (Z3Q L p.1 p.2)
theorem Z8E:∀ (D E:List (Nat × Nat)) (L:List Int),jn (D++E) L=jn E (jn D L)
 | [],E,L=>rfl
 | p::D,E,L=>by rw [List.cons_append,jn,jn,Z8E D E]
theorem Z69 {m:Nat}:∀ (D:List (Nat × Nat)) (L:List Int),Z49 L m->(∀ p,p ∈ D->p.1<m/\p.2<m) →
 Z49 (jn D L) m/\(∀ a b,a<m->b<m->Z06 L a=Z06 L b->Z06 (jn D L) a=Z06 (jn D L) b)/\(∀ p,p ∈ D->Z06 (jn D L) p.1=Z06 (jn D L) p.2)
 | [],L,hd,_=>⟨hd,fun a b _ _ e=>e,fun p h=>by cases h⟩
 | p::D,L,hd,hg=>by
  obtain ⟨g1,g2⟩:=hg p (by simp)
  obtain ⟨i1,i2,i3⟩:=Z69 D (Z3Q L p.1 p.2) (Z2T hd g1 g2) (fun q hq=>hg q (by simp [hq]))
  refine ⟨i1,fun a b ha hb e=>i2 a b ha hb (Zh7 hd g1 g2 ha hb e),fun q hq=>?_⟩
  rcases List.mem_cons.1 hq with rfl | hq
  · exact i2 _ _ g1 g2 (Zh6 hd g1 g2)
  · exact i3 q hq
theorem Zee {m:Nat} (S:Nat->Prop):∀ (D:List (Nat × Nat)) (L:List Int),Z49 L m->(∀ p,p ∈ D->p.1<m/\p.2<m/\(S p.1 ↔ S p.2))->(∀ a b,a<m->b<m->Z06 L a=Z06 L b->(S a ↔ S b)) →
 ∀ a b,a<m->b<m->Z06 (jn D L) a=Z06 (jn D L) b->(S a ↔ S b)
 | [],L,_,_,h=>h
 | p::D,L,hd,hg,h=>by
  obtain ⟨g1,g2,g3⟩:=hg p (by simp)
  refine Zee S D (Z3Q L p.1 p.2) (Z2T hd g1 g2) (fun q hq=>hg q (by simp [hq])) fun a b ha hb e=>?_
  rw [Z1N hd g1 g2 ha,Z1N hd g1 g2 hb] at e
  have ai:=h a p.1 ha g1
  have aj:=h a p.2 ha g2
  have bi:=h b p.1 hb g1
  have bj:=h b p.2 hb g2
  have ab:=h a b ha hb
  by_cases c1:Z06 L a=max (Z06 L p.1) (Z06 L p.2) <;> by_cases c2:Z06 L b=max (Z06 L p.1) (Z06 L p.2)
  · exact ab (c1.trans c2.symm)
  · rw [if_pos c1,if_neg c2] at e
    rcases Nat.le_total (Z06 L p.1) (Z06 L p.2) with q | q
    · exact (aj qO).trans (g3.symm.trans (bi qO).symm)
    · exact (ai qO).trans (g3.trans (bj qO).symm)
  · rw [if_neg c1,if_pos c2] at e
    rcases Nat.le_total (Z06 L p.1) (Z06 L p.2) with q | q
    · exact (ai qO).trans (g3.trans (bj qO).symm)
    · exact (aj qO).trans (g3.symm.trans (bi qO).symm)
  · rw [if_neg c1,if_neg c2] at e
    exact ab e
theorem Z7z {m k:Nat} (h:k<m):Z06 (Z0R m) k=k:=Z0U (Z8c h)
theorem Z5V {m:Nat} (S:Nat->Prop) {D:List (Nat × Nat)} (hg:∀ p,p ∈ D->p.1<m/\p.2<m/\(S p.1 ↔ S p.2)) {a b:Nat} (ha:a<m) (hb:b<m) (e:Z06 (jn D (Z0R m)) a=Z06 (jn D (Z0R m)) b):S a ↔ S b :=
 Zee S D (Z0R m) (Z10 _) hg (fun a b ha hb e=>by rw [Z7z ha,Z7z hb] at e; rw [e]) a b ha hb e
theorem Z4M {C:List Int}:∀ {m r:Nat},r<m->Z06 C r=r->(Z1J C m)[Z5e C r]? = some (r:Int)
 | 0,r,h,_=>by omega
 | m+1,r,h,e=>by
  rw [Z5p]
  by_cases q:r=m
  · subst q
    rw [if_pos e,Z5e,List.getElem?_append_right (Nat.le_refl _)]
    simp
  · have ih:=Z4M (m:=m) (r:=r) qO e
    have hl:=(List.getElem?_eq_some_iff.1 ih).1
    rw [List.getElem?_append_left hl,ih]
theorem Z8K {C:List Int}:∀ {m i x:Nat},(Z1J C m)[i]? = some (x:Int)->Z5e C x=i
 | 0,i,x,h=>by simp [Z1J] at h
 | m+1,i,x,h=>by
  rw [Z5p] at h
  rcases Nat.lt_or_ge i (Z1J C m).length with q | q
  · rw [List.getElem?_append_left q] at h
    exact Z8K h
  · rw [List.getElem?_append_right q] at h
    by_cases e:Z06 C m=m
    · rw [if_pos e] at h
      rcases hz:i-(Z1J C m).length with _ | z
      · rw [hz] at h
        have:(m:Int)=x:=by simpa using h
        obtain rfl:m=x:=by omega
        show (Z1J C m).length=i
        omega
      · rw [hz] at h; simp at h
    · rw [if_neg e] at h; simp at h
theorem Zhk {C:List Int} {m r:Nat} (h:r<m) (e:Z06 C r=r):Z5e C r<Z5e C m:=by
 have:=(List.getElem?_eq_some_iff.1 (Z4M h e)).1
 exact this
theorem Zkv {C:List Int} {m r s:Nat} (hr:r<m) (hs:s<m) (er:Z06 C r=r) (es:Z06 C s=s) (e:Z5e C r=Z5e C s):r=s:=by
 have h1:=Z4M hr er
 have h2:=Z4M hs es
 rw [e,h2] at h1
 have:=Option.some.inj h1
 omega
end Go.Ab

namespace Go.Proofs.Ytdodippbpdechaa
open Go Go.Ab Go.Proofs
theorem Zj5 (k:IntKind) (a b:Int):Z5f max2 [.int k a,.int k b]=some (.int k (if a<b then b else a)):=by
 simp [Z5f,max2]
theorem Zj3 (k:IntKind) (a b:Int):Z5f min2 [.int k a,.int k b]=some (.int k (if b<a then b else a)):=by
 simp [Z5f,min2]
theorem Zdq {h:FH} {b:Nat} {w v:Value} (hg:h.f b=some (.cells false none [w])) (hf:Z07 v=true):stN h 1 (.pointer (some ⟨b,0,none⟩)) (.agg #[v])=some (newB h b [v]):=by
 have hg':HeapC.get h b=some (.cells false none [w]):=hg
 simp [stN,Z2F,Value.cells,Z2D,hg',hf,Z0W]
 rfl
theorem Zhp (h0:FH) (p b m c:Nat) (v2:Value) (df:List Nat) (hv:OkV c v2) (hp:p<256*c) (hb:b<256*c) (hne:p ≠ b) (hm:m<=1000000) (h1:h0.f p=some (.cells false none [.slice (some ⟨b,0,none⟩) m m])) :
 ∀ (k i:Nat) (X:List Int),i+k=m->X.length=m->(∀ j,j<i->X.getD j 0=j) →
 Ans (G (Z9O none) [v2,ptrTo p,.int .i64 m,.int .i64 i] (newB h0 b (ints X)) c df) fun r=>r=⟨.exit 0,[v2,ptrTo p,.int .i64 m,.int .i64 m],newB h0 b (ints (Z0R m)),c,df⟩:=by
 intro k
 induction k with
 | zero =>
  intro i X hi hX hf
  obtain rfl:i=m:=by omega
  have e:X=Z0R i:=by
   refine List.ext_getElem (by rw [hX]; simp [Z0R]) fun j h1 h2=>?_
   have:=hf j qO
   rw [List.getD_eq_getElem?_getD,List.getElem?_eq_getElem h1] at this
   simp only [Option.getD_some] at this
   rw [this]; simp [Z0R]
  rw [e]
  refine Ans.lpG rfl rfl (Z4S ..) ?_
  unfold Z4j
  have fx:=True.intro
  refine Ans.go ?_
  clear fx
  (have fx:=hv; refine Ans.ex0 ?_; clear fx)
  rfl
 | succ k ih =>
  intro i X hi hX hf
  have ll:ld1 (newB h0 b (ints X)) (.pointer (some ⟨p,0,none⟩))=some (.slice (some ⟨b,0,none⟩) m m):=by
   rw [ld1_newB_ne _ _ _ _ _ hne,Z02 ⟨false,none,h1⟩]; rfl
  have hs:stN (newB h0 b (ints X)) 1 (.pointer (some ⟨b,i,none⟩)) (.int .i64 i)=some (newB h0 b (ints (X.set i i))):=by
   rw [st1_int _ _ _ _ _ _ (by simp; omega),Z1Z]
  refine Ans.lpG rfl rfl (Z4S ..) ?_
  unfold Z4j
  have fx:=ai ll hs
  refine Ans.go ?_
  clear fx
  (have fx:=ai hv (ai hp hb); refine Ans.nxB (B:=newB h0 b (ints (X.set i i))) ?_ ?_; exact (Z42.both (Z1F.ints _ _) (Z42.refl _ _) hb); clear fx)
  refine ih (i+1) (X.set i i) qO (by simp [hX]) (fun j hj=>?_)
  rw [Z0C]
  by_cases e:i=j
  · rw [if_pos ⟨e,by omega⟩,e]
  · rw [if_neg (fun q=>e q.1)]; exact hf j qO
theorem Z4J (m:Nat) (h:FH) (c:Nat) (df:List Nat) (hm:m<=1000000) :
 Ans (G (.fn 66) [.int .i64 m] h c df) fun r=>r=⟨.ret,[.agg #[.slice (some ⟨256*(c+1)+1,0,none⟩) m m]],r.h,c+1+1+1+1,[]⟩/\Z0s c h r.h/\r.h.f (256*(c+1)+1)=some (.cells false none (ints (Z0R m))):=by
 refine Ans.call' (fun r e=>f66_go e) ?_
 unfold Zhy
 have mk:=Z8y 1 8 .i64 .i64 m qO qO
 obtain ⟨B,hB⟩:∃ B,256*(c+1)+1=B:=⟨_,rfl⟩
 obtain ⟨Q,hQ⟩:∃ Q,256*(c+1)+3=Q:=⟨_,rfl⟩
 rw [hB,hQ]
 have hbl:Z1z [(.slice none 0 0)] [(0,1,(.slice (some ⟨B,0,none⟩) m m))]=some (.agg #[.slice (some ⟨B,0,none⟩) m m]):=rfl
 have st1:stN (newB (newB (newB h (256*c) [(.slice none 0 0)]) B (ints (List.replicate m 0))) Q [(.slice none 0 0)]) 1 (.pointer (some ⟨Q,0,none⟩)) (.agg #[.slice (some ⟨B,0,none⟩) m m])=some (newB (newB (newB h (256*c) [(.slice none 0 0)]) B (ints (List.replicate m 0))) Q [.slice (some ⟨B,0,none⟩) m m]):=by
  rw [Zdq (w:=.slice none 0 0) (by rw [Z01,if_pos rfl]) rfl,newB_newB]
 obtain ⟨h0,hh0⟩:∃ h0,h0=newB (newB h (256*c) [(.slice none 0 0)]) Q [.slice (some ⟨B,0,none⟩) m m]:=⟨_,rfl⟩
 have ec:newB (newB (newB h (256*c) [(.slice none 0 0)]) B (ints (List.replicate m 0))) Q [.slice (some ⟨B,0,none⟩) m m]=newB h0 B (ints (List.replicate m 0)):=by
  rw [hh0]
  apply FH.ext; intro j
  simp only [Z01]
  by_cases e1:j=Q <;> by_cases e2:j=B <;> simp [e1,e2] <;> omega
 rw [ec] at st1
 have hq:h0.f Q=some (.cells false none [.slice (some ⟨B,0,none⟩) m m]):=by rw [hh0,Z01,if_pos rfl]
 have hc':h0.f (256*c)=some (.cells false none [.slice none 0 0]):=by rw [hh0,Z01,if_neg qO,Z01,if_pos rfl]
 have hl:=fun v2 hv=>Ans.eq (Zhp h0 Q B m (c+1+1+1) v2 [] hv qO qO qO hm hq m 0 (List.replicate m 0) qO (by simp) (fun j hj=>by omega))
 have hl:=hl (ptrTo (256*c)) (OkV.ptrTo qO)
 simp only [Int.ofNat_eq_natCast,Int.cast_ofNat_Int] at hl
 have ll:∀ X,ld1 (newB h0 B X) (.pointer (some ⟨Q,0,none⟩))=some (.slice (some ⟨B,0,none⟩) m m):=fun X=>by rw [ld1_newB_ne _ _ _ _ _ qO,Z02 ⟨false,none,hq⟩]; rfl
 have lN:∀ X,ldN (newB h0 B X) 1 (.pointer (some ⟨Q,0,none⟩))=some (.agg #[.slice (some ⟨B,0,none⟩) m m]):=fun X=>by rw [ldN_newB_ne _ _ _ _ _ _ qO,Z1m ⟨false,none,hq⟩]
 have hfin:=Zdq (h:=newB h0 B (ints (Z0R m))) (b:=256*c) (w:=.slice none 0 0) (v:=.slice (some ⟨B,0,none⟩) m m) (by rw [Z01,if_neg qO,hc']) rfl
 obtain ⟨K,hK⟩:∃ K,newB (newB h0 B (ints (Z0R m))) (256*c) [.slice (some ⟨B,0,none⟩) m m]=K:=⟨_,rfl⟩
 rw [hK] at hfin
 have lK:ldN K 1 (.pointer (some ⟨256*c,0,none⟩))=some (.agg #[.slice (some ⟨B,0,none⟩) m m]):=Z1m ⟨false,none,by show K.f _=_; rw [← hK,Z01,if_pos rfl]⟩
 repeat' (first | ((with_reducible first | refine Ans.bz ?_ | refine Ans.r1 ?_ | refine Ans.pkT ?_ | refine Ans.pkF ?_); try dsimp only [v_zero,v_succ]) | (with_reducible first | refine Ans.btL ?_ | refine Ans.bfL ?_ | refine Ans.gyT ?_ | refine Ans.gyF ?_ | refine Ans.gyG ?_ | refine Ans.bb ?_ | refine Ans.bc ?_ | refine Ans.ba ?_) | ((with_reducible first | refine Ans.lsT ?_ ?_ | refine Ans.leT ?_ ?_ | refine Ans.grT ?_ ?_ | refine Ans.geT ?_ ?_ | refine Ans.eqT ?_ ?_ | refine Ans.neT ?_ ?_); (focus omega)) | ((with_reducible first | refine Ans.lsF ?_ ?_ | refine Ans.leF ?_ ?_ | refine Ans.grF ?_ ?_ | refine Ans.geF ?_ ?_ | refine Ans.eqF ?_ ?_ | refine Ans.neF ?_ ?_); (focus omega)) | (with_reducible first | refine Ans.lsS (fun _=>?_) (fun _=>?_) | refine Ans.leS (fun _=>?_) (fun _=>?_) | refine Ans.grS (fun _=>?_) (fun _=>?_) | refine Ans.geS (fun _=>?_) (fun _=>?_) | refine Ans.eqS (fun _=>?_) (fun _=>?_) | refine Ans.neS (fun _=>?_) (fun _=>?_)) | ((with_reducible first | refine Ans.addN ?_ ?_ | refine Ans.add ?_ ?_ | refine Ans.sub ?_ ?_ | refine Ans.mul ?_ ?_); (focus omega)) | ((with_reducible first | refine Ans.ct ?_ ?_); (focus (simp (disch:=(first | omega | with_reducible assumption | (simp <;> omega) | fail)) [mk,hbl,st1,ll,lN,hl,hfin,lK,-ldN_newB_same]; done))) | ((with_reducible first | refine Ans.cf ?_ ?_); (focus (simp (disch:=(first | omega | with_reducible assumption | (simp <;> omega) | fail)) [mk,hbl,st1,ll,lN,hl,hfin,lK,-ldN_newB_same]; done))) | (refine Ans.step (by simp (disch:=(first | omega | with_reducible assumption | (simp <;> omega) | fail)) [mk,hbl,st1,ll,lN,hl,hfin,lK,-ldN_newB_same,-List.getD_eq_getElem?_getD] <;> rfl) ?_; try dsimp only [v_zero,v_succ]) | fail)
 refine .done ⟨rfl, ?_, ?_⟩
 · intro b hb
   show K.f b=_
   rw [← hK,Z01,if_neg qO,Z01,if_neg qO,hh0,Z01,if_neg qO,Z01,if_neg qO]
 · show K.f B=_
   rw [← hK,Z01,if_neg qO,Z01,if_pos rfl]
structure Uo (h:FH) (cb o b m:Nat) (L:List Int):Prop where
 st:∃ cs,Z0f h cb cs/\cs[o]? = some (.slice (some ⟨b,0,none⟩) m m)
 up:h.f b=some (.cells false none (ints L))
 ne:cb ≠ b
 dn:Z49 L m
 le:m<=1000000
theorem Uo.ld {h:FH} {cb o b m:Nat} {L:List Int} (u:Uo h cb o b m L):ld1 h (.pointer (some ⟨cb,o,none⟩))=some (.slice (some ⟨b,0,none⟩) m m):=by
 obtain ⟨cs,h1,h2⟩:=u.st
 rw [Z02 h1,h2]
theorem Uo.rd {h:FH} {cb o b m:Nat} {L:List Int} (u:Uo h cb o b m L) {i:Nat} (hi:i<m):ld1 h (.pointer (some ⟨b,i,none⟩))=some (.int .i64 (L.getD i 0)):=by
 have:=u.dn.1
 rw [Z02 ⟨false,none,u.up⟩,ints_getD _ _ qO]
theorem Uo.keep {h h':FH} {cb o b m:Nat} {L:List Int} (u:Uo h cb o b m L) (h1:h'.f cb=h.f cb) (h2:h'.f b=h.f b):Uo h' cb o b m L:=by
 obtain ⟨⟨cs,⟨ro,op,e⟩,q⟩,a,b',d,f⟩:=u
 have e':h.f cb=some (.cells ro op cs):=e
 exact ⟨⟨cs,⟨ro,op,h1.trans e'⟩,q⟩,h2.trans a,b',d,f⟩
theorem Uo.upd {h:FH} {cb o b m:Nat} {L L':List Int} (u:Uo h cb o b m L) (hd:Z49 L' m):Uo (newB h b (ints L')) cb o b m L':=by
 obtain ⟨⟨cs,⟨ro,op,e⟩,q⟩,a,b',d,f⟩:=u
 have e':h.f cb=some (.cells ro op cs):=e
 exact ⟨⟨cs,⟨ro,op,by show (newB h b (ints L')).f cb=_; rw [Z01,if_neg b']; exact e'⟩,q⟩,by rw [Z01,if_pos rfl],b',hd,f⟩
theorem Z8x (h:FH) (b:Nat) (cs ds:List Value):newB (newB h b cs) b ds=newB h b ds:=by
 apply FH.ext; intro j
 rw [Z01,Z01,Z01]
 split <;> rfl
theorem Z9y {h:FH} {cb o b m:Nat} {L:List Int} (u:Uo h cb o b m L):newB h b (ints L)=h:=by
 apply FH.ext; intro j
 rw [Z01]
 split
 · rename_i e; rw [e,u.up]
 · rfl
theorem Zgy (cb o b m c:Nat) (h0:FH) (hcb:cb<256*c) (hb:b<256*c) (df:List Nat):∀ (k i:Nat) (L:List Int),i<k->i<m->Uo (newB h0 b (ints L)) cb o b m L →
 Ans (G (Z9N none) [.pointer (some ⟨cb,o,none⟩),.int .i64 i] (newB h0 b (ints L)) c df) fun r=>∃ L',Z3W L L' m/\r=⟨.exit 0,[.pointer (some ⟨cb,o,none⟩),.int .i64 (Z06 L i)],newB h0 b (ints L'),c,df⟩:=by
 intro k
 have op:OkV c (.pointer (some ⟨cb,o,none⟩)):=OkV.ptr hcb
 induction k with
 | zero=>intro i L h1; omega
 | succ k ih =>
  intro i L h1 hi u
  have l1:=u.ld
  have l2:=u.rd hi
  have d:=u.dn.2 i hi
  have hl:=u.dn.1
  refine Ans.lpG rfl rfl (Z6u ..) ?_
  unfold Z5D
  by_cases e:L.getD i 0=i
  · rw [Z0U e]
    rw [e] at l2
    obtain ⟨H,hH⟩:∃ H,newB h0 b (ints L)=H:=⟨_,rfl⟩
    rw [hH] at l1 l2 ⊢
    have fx:=ai l1 l2
    refine Ans.go ?_
    clear fx
    (have fx:=op; refine Ans.ex0 ?_; clear fx)
    exact ⟨L,Z3W.refl u.dn,by rw [hH]⟩
  · have hs:=Zfm u.dn hi
    have hu:=Zku u.dn hi e
    have u':Uo (newB h0 b (ints (Z7M L i))) cb o b m (Z7M L i):=by
     have:=u.upd hs.1
     rwa [Z8x] at this
    have hk:=ih (L.getD (L.getD i 0).toNat 0).toNat (Z7M L i) qO qO u'
    have m1:=u'.ld
    have m2:=u'.rd hi
    rw [ZaO u.dn hi,if_pos rfl] at m2
    have l3:=u.rd (i:=(L.getD i 0).toNat) qO
    have hw:stN (newB h0 b (ints L)) 1 (.pointer (some ⟨b,i,none⟩)) (.int .i64 (L.getD (L.getD i 0).toNat 0))=some (newB h0 b (ints (Z7M L i))):=by
     rw [st1_int _ _ _ _ _ _ (by simp; omega),Z1Z]; rfl
    rw [hs.2 _ qO,hu.2.2] at hk
    obtain ⟨y,hy⟩:∃ y:Nat,L.getD (L.getD i 0).toNat 0=y:=⟨(L.getD (L.getD i 0).toNat 0).toNat,by omega⟩
    rw [hy] at hw l3 m2 hk
    rw [Int.toNat_natCast] at hk
    obtain ⟨x,hx⟩:∃ x:Nat,L.getD i 0=x:=⟨(L.getD i 0).toNat,by omega⟩
    rw [hx] at l2 l3 d e
    rw [Int.toNat_natCast] at l3
    have e':¬ (x:Int)=i:=e
    obtain ⟨H,hH⟩:∃ H,newB h0 b (ints L)=H:=⟨_,rfl⟩
    obtain ⟨H',hH'⟩:∃ H,newB h0 b (ints (Z7M L i))=H:=⟨_,rfl⟩
    have eB:H'=HeapC.set H b (.cells false none (ints (Z7M L i))):=by
     rw [← hH',← hH]
     apply FH.ext; intro j
     rw [Z01,Z0b,Z01]
     split <;> rfl
    have up:Z42 c H H':=by rw [eB]; exact Z42.set hb (Z1F.ints _ _) (Z42.refl _ _)
    rw [hH] at l1 l2 l3 hw ⊢
    rw [hH'] at hw m1 m2 hk
    have fx:=ai l1 (ai l2 (ai l3 (ai hw (ai m1 m2))))
    refine Ans.go ?_
    clear fx
    (have fx:=op; refine Ans.nxB (B:=H') ?_ ?_; exact (up); clear fx)
    refine hk.mono ?_
    rintro r ⟨L',s1,rfl⟩
    exact ⟨L',hs.trans s1,rfl⟩
theorem Zcb (h:FH) (cb o b m c:Nat) (L:List Int) (u:Uo h cb o b m L) (hcb:cb<256*c) (hb:b<256*c) (i:Nat) (hi:i<m) (df:List Nat) :
 ∃ L',Z3W L L' m/\G (.fn 68) [.pointer (some ⟨cb,o,none⟩),.int .i64 i] h c df=some ⟨.ret,[.int .i64 (Z06 L i)],newB h b (ints L'),c,[]⟩:=by
 have u':Uo (newB h b (ints L)) cb o b m L:=u.upd u.dn
 obtain ⟨r,hr,L',s1,rfl⟩:=Zgy cb o b m (c+1) h qO qO [] (i+1) i L qO hi u'
 rw [Z9y u] at hr
 refine ⟨L',s1, ?_⟩
 have hS:Zfz G (.pointer (some ⟨cb,o,none⟩)) (.int .i64 i) h c=some ⟨.ret,[.int .i64 (Z06 L i)],newB h b (ints L'),c+1+1,[]⟩:=by
  refine Ans.eq ?_
  unfold Zfz
  have fx:=hr
  refine Ans.go ?_
  clear fx
  exact .done rfl
 rw [f68_go hS,Zem (B:=newB h b (ints L')) ?_ ?_ ?_]
 · exact Z1F.cons (OkV.int _ _ _) (Z1F.nil c)
 · exact fun _ _=>rfl
 · exact Z42.old hb (Z1F.ints _ _) (Z42.refl _ _)
theorem ZaJ (h:FH) (cb o b m c:Nat) (L:List Int) (u:Uo h cb o b m L) (hcb:cb<256*c) (hb:b<256*c) (i j:Nat) (hi:i<m) (hj:j<m) (df:List Nat) :
 ∃ L',Z3W (Z3Q L i j) L' m/\G (.fn 67) [.pointer (some ⟨cb,o,none⟩),.int .i64 i,.int .i64 j] h c df=some ⟨.ret,[.tuple #[]],newB h b (ints L'),c,[]⟩:=by
 obtain ⟨L1,s1,g1⟩:=Zcb h cb o b m (c+1) L u qO qO i hi []
 have u1:Uo (newB h b (ints L1)) cb o b m L1:=u.upd s1.1
 obtain ⟨L2,s2,g2⟩:=Zcb (newB h b (ints L1)) cb o b m (c+1) L1 u1 qO qO j hj []
 rw [Z8x] at g2
 rw [s1.2 j hj] at g2
 have s12:=s1.trans s2
 have u2:Uo (newB h b (ints L2)) cb o b m L2:=u.upd s2.1
 have c1:=Z0c g1
 have c2:=Z0c g2
 have r1:=Z2H u.dn hi
 have r2:=Z2H u.dn hj
 have l1:=u2.ld
 have e1:(if ((Z06 L i:Nat):Int)<(Z06 L j:Nat) then ((Z06 L j:Nat):Int) else (Z06 L i:Nat))=((max (Z06 L i) (Z06 L j):Nat):Int):=by split <;> omega
 have e2:(if ((Z06 L j:Nat):Int)<(Z06 L i:Nat) then ((Z06 L j:Nat):Int) else (Z06 L i:Nat))=((min (Z06 L i) (Z06 L j):Nat):Int):=by split <;> omega
 have m1:=Zj5 .i64 (Z06 L i) (Z06 L j)
 have m2:=Zj3 .i64 (Z06 L i) (Z06 L j)
 rw [e1] at m1
 rw [e2] at m2
 clear e1 e2
 have hl:=s2.1.1
 have hj2:Z3Q L2 i j=L2.set (max (Z06 L i) (Z06 L j)) (min (Z06 L i) (Z06 L j):Nat):=by
  unfold Z3Q
  rw [s12.2 i hi,s12.2 j hj]
 have hw:stN (newB h b (ints L2)) 1 (.pointer (some ⟨b,max (Z06 L i) (Z06 L j),none⟩)) (.int .i64 (min (Z06 L i) (Z06 L j):Nat))=some (newB h b (ints (Z3Q L2 i j))):=by
  rw [st1_int _ _ _ _ _ _ (by simp; omega),Z1Z,hj2]
 refine ⟨Z3Q L2 i j,Z3W.join u.dn s12 hi hj, ?_⟩
 obtain ⟨M,hM⟩:∃ M,max (Z06 L i) (Z06 L j)=M:=⟨_,rfl⟩
 obtain ⟨N,hN⟩:∃ N,min (Z06 L i) (Z06 L j)=N:=⟨_,rfl⟩
 rw [hM] at m1 hw
 rw [hN] at m2 hw
 obtain ⟨K1,hK1⟩:∃ K,newB h b (ints L1)=K:=⟨_,rfl⟩
 obtain ⟨K2,hK2⟩:∃ K,newB h b (ints L2)=K:=⟨_,rfl⟩
 obtain ⟨K3,hK3⟩:∃ K,newB h b (ints (Z3Q L2 i j))=K:=⟨_,rfl⟩
 rw [hK1] at c1 c2
 rw [hK2] at c2 l1 hw
 rw [hK3] at hw
 have hML:(M:Int)<m:=by omega
 have hS:ZfA G (.pointer (some ⟨cb,o,none⟩)) (.int .i64 i) (.int .i64 j) h c=some ⟨.ret,[.tuple #[]],K3,c+1+1,[]⟩:=by
  refine Ans.eq ?_
  unfold ZfA
  have fx:=ai c1 (ai c2 (ai l1 (ai m1 (ai m2 hw))))
  refine Ans.go ?_
  clear fx
  exact .done rfl
 rw [hK3,f67_go hS,Zem (B:=K3) ?_ ?_ ?_]
 · exact Z1F.cons ⟨.tuple #[],.tuple rfl (fun k x y h=>by simp at h)⟩ (Z1F.nil c)
 · exact fun _ _=>rfl
 · rw [← hK3]; exact Z42.old hb (Z1F.ints _ _) (Z42.refl _ _)
end Go.Proofs.Ytdodippbpdechaa

namespace Go.Ab
open Go
def edL:List Int:=[0,1,0,2,0,3,1,2,1,3,2,3]
def ZmL (a b i j:Int):Bool:=decide (a=i/\b=j) || decide (a=j/\b=i)
def edI (i j:Int):Nat->Nat->Int
 | 0,_=>-1
 | k+1,m=>if ZmL (edL.getD (2*m) 0) (edL.getD (2*m+1) 0) i j then (m:Int) else edI i j k (m+1)
def edN (i j:Int):Int:=edI i j 6 0
theorem Z6E {i j:Int} (h1:0<=i) (h2:i<4) (h3:0<=j) (h4:j<4) (hne:i ≠ j):0<=edN i j/\edN i j<6:=by
 have:((List.range 4).all fun i=>(List.range 4).all fun j=>decide (i=j) || (decide (0<=edN (i:Nat) (j:Nat)) && decide (edN (i:Nat) (j:Nat)<6)))=true:=by decide
 rw [List.all_eq_true] at this
 have h5:=this i.toNat (by simp; omega)
 rw [List.all_eq_true] at h5
 have h6:=h5 j.toNat (by simp; omega)
 have e1:((i.toNat:Nat):Int)=i:=by omega
 have e2:((j.toNat:Nat):Int)=j:=by omega
 rw [e1,e2] at h6
 have h7:¬ i.toNat=j.toNat:=by omega
 simpa [h7] using h6
def upL {α:Type} (g:Nat->List α):Nat->List α
 | 0=>[]
 | n+1=>upL g n++g n
theorem Z0P {α:Type} {g:Nat->List α} {x:α}:∀ {n:Nat},x ∈ upL g n ↔ ∃ i,i<n/\x ∈ g i
 | 0=>by simp [upL]
 | n+1=>by
  rw [upL,List.mem_append,Z0P (n:=n)]
  constructor
  · rintro (⟨i,h1,h2⟩ | h)
    · exact ⟨i,by omega,h2⟩
    · exact ⟨n,by omega,h⟩
  · rintro ⟨i,h1,h2⟩
    by_cases e:i=n
    · subst e; exact .inr h2
    · exact .inl ⟨i,by omega,h2⟩
abbrev Prs:=List (Nat × Nat)
def eNo (t i j:Nat):Nat:=6*t+(edN i j).toNat
def vI (Gl:List Int) (t f i:Nat):Prs:=if i=f then [] else [(4*t+i,4*fU Gl t f+fJ Gl t f i)]
def dJ (Gl:List Int) (t f i j:Nat):Prs:=if j ≠ f/\j ≠ i then [(16*t+4*i+j,16*fU Gl t f+4*fJ Gl t f i+fJ Gl t f j)] else []
def eJ (Gl:List Int) (t f i j:Nat):Prs:=if j ≠ f/\j ≠ i then [(eNo t i j,eNo (fU Gl t f) (fJ Gl t f i) (fJ Gl t f j))] else []
def dI (Gl:List Int) (t f i:Nat):Prs:=if i=f then [] else upL (dJ Gl t f i) 4
def eI (Gl:List Int) (t f i:Nat):Prs:=if i=f then [] else upL (eJ Gl t f i) 4
def tF (Gl:List Int) (t f:Nat):Prs:=if Z0x (Z03 Gl t f)<0 then [] else [(4*t+f,4*fU Gl t f+fJ Gl t f f)]
def vF (Gl:List Int) (t f:Nat):Prs:=if Z0x (Z03 Gl t f)<0 then [] else upL (vI Gl t f) 4
def dF (Gl:List Int) (t f:Nat):Prs:=if Z0x (Z03 Gl t f)<0 then [] else upL (dI Gl t f) 4
def eF (Gl:List Int) (t f:Nat):Prs:=if Z0x (Z03 Gl t f)<0 then [] else upL (eI Gl t f) 4
def tT (Gl:List Int) (t:Nat):Prs:=upL (tF Gl t) 4
def vT (Gl:List Int) (t:Nat):Prs:=upL (vF Gl t) 4
def dT (Gl:List Int) (t:Nat):Prs:=upL (dF Gl t) 4
def eT (Gl:List Int) (t:Nat):Prs:=upL (eF Gl t) 4
def tP (Gl:List Int) (n:Nat):Prs:=upL (tT Gl) n
def vP (Gl:List Int) (n:Nat):Prs:=upL (vT Gl) n
def dP (Gl:List Int) (n:Nat):Prs:=upL (dT Gl) n
def eP (Gl:List Int) (n:Nat):Prs:=upL (eT Gl) n
def vCs (Gl:List Int) (n:Nat):List Int:=jn (vP Gl n) (Z0R (4*n))
def dCs (Gl:List Int) (n:Nat):List Int:=jn (dP Gl n) (Z0R (16*n))
def eCs (Gl:List Int) (n:Nat):List Int:=jn (eP Gl n) (Z0R (6*n))
def tCs (Gl:List Int) (n:Nat):List Int:=jn (tP Gl n) (Z0R (4*n))
def Jn (D:Prs) (m:Nat) (L:List Int):Prop:=Z3W (jn D (Z0R m)) L m/\Z49 (jn D (Z0R m)) m
theorem Jn.nil (m:Nat):Jn [] m (Z0R m):=⟨Z3W.refl (Z10 m),Z10 m⟩
theorem Jn.snoc {D:Prs} {m:Nat} {L L':List Int} {i j:Nat} (h:Jn D m L) (hi:i<m) (hj:j<m) (s:Z3W (Z3Q L i j) L' m):Jn (D++[(i,j)]) m L':=by
 have e:jn (D++[(i,j)]) (Z0R m)=Z3Q (jn D (Z0R m)) i j:=by rw [Z8E]; rfl
 have hd:=Z2T h.2 hi hj
 refine ⟨?_,by rw [e]; exact hd⟩
 rw [e]
 exact (Z3W.join h.2 h.1 hi hj).trans s
theorem Jn.dn {D:Prs} {m:Nat} {L:List Int} (h:Jn D m L):Z49 L m:=h.1.1
end Go.Ab

namespace Go.Proofs.Ytdodippbpdechaa
open Go Go.Ab Go.Proofs
theorem ZnL (a b:Int):Z1z [(.int .i64 0),(.int .i64 0)] [(0,1,.int .i64 a),(1,1,.int .i64 b)]=some (av [a,b]):=(rfl)
theorem Zlb (a0 a1 b0 b1:Int):Z0F P .eql 106 (av [a0,a1]) (av [b0,b1])=(cond (a0 == b0) (cond (a1 == b1) (some true) (some false)) (some false)).bind fun b=>some (.bool b):=by kernel_rfl
theorem ZhR (a0 a1 b0 b1:Int):Z00 P .eql 106 (av [a0,a1]) (av [b0,b1])=some (.bool (decide (a0=b0/\a1=b1))):=by
 rw [Z0o,Zlb]
 by_cases h0:a0=b0 <;> by_cases h1:a1=b1 <;> simp [h0,h1,Bool.cond_eq_ite]
theorem ZiP (h:FH) (c:Nat) (df:List Nat):G (.fn 54) [] h c df=some ⟨.ret,[av edL],h,c,[]⟩:=by
 refine Z1l (fun r e=>f54_go e) (by simp) ?_
 unfold ZhF
 have z1:Z1z [(.int .i64 0),(.int .i64 0),(.int .i64 0),(.int .i64 0),(.int .i64 0),(.int .i64 0),(.int .i64 0),(.int .i64 0),(.int .i64 0),(.int .i64 0),(.int .i64 0),(.int .i64 0)] [(0,2,av [0,1]),(2,2,av [0,2]),(4,2,av [0,3]),(6,2,av [1,2]),(8,2,av [1,3]),(10,2,av [2,3])]=some (av edL):=rfl
 have z2:∀ (H:FH) (b:Nat) (cs:List Value),cs.length=12->stN (newB H b cs) 12 (.pointer (some ⟨b,0,none⟩)) (av edL)=some (newB H b (ints edL)):=fun H b cs hc=>stN_all H b 12 cs edL rfl hc
 have z3:∀ (H:FH) (b:Nat),ldN (newB H b (ints edL)) 12 (.pointer (some ⟨b,0,none⟩))=some (av edL):=fun H b=>by rw [ldN_newB_same _ _ _ _ _ (by simp [edL])]; rfl
 have fx:=ai ZnL (ai z1 (ai z2 z3))
 refine Ans.go ?_
 clear fx
 (have fx:=True.intro; exact Ans.pu)
theorem Z90 (h:FH) (c:Nat):callF G 54 [] h c=some (av edL,h,c):=Z0c (ZiP h c [])
theorem ZhU {m:Nat} (hm:m<6):(edL.drop (m*2)).take 2=[edL.getD (2*m) 0,edL.getD (2*m+1) 0]:=by
 have:m=0 ∨ m=1 ∨ m=2 ∨ m=3 ∨ m=4 ∨ m=5:=by omega
 rcases this with rfl | rfl | rfl | rfl | rfl | rfl <;> rfl
theorem ZhT (i j:Int) (z:Value) (h:FH) (c:Nat) (df:List Nat) (hz:OkV c z) :
 ∀ (k m:Nat),m+k=6->Ans (G (Zab none) [.int .i64 i,.int .i64 j,z,av edL,.int .i64 m] h c df) fun r=>r.h=h/\r.c=c/\r.df=df ∧
  ((r.e = .exit 0/\edI i j k m = -1) ∨ (r.e = .ret/\r.v 2 = .int .i64 (edI i j k m))):=by
 intro k
 have o1:OkV c (av edL):=OkV.av _ _
 induction k with
 | zero =>
  intro m hm
  obtain rfl:m=6:=by omega
  refine Ans.lpG rfl rfl (Z56 ..) ?_
  unfold Z4w
  have fx:=True.intro
  refine Ans.go ?_
  clear fx
  (have fx:=ai o1 hz; refine Ans.ex0 ?_; clear fx)
  exact ⟨rfl,rfl,rfl,.inl ⟨rfl,rfl⟩⟩
 | succ k ih =>
  intro m hm
  have x1:=Z8F edL 6 2 .i64 (m:Int) qO qO rfl
  rw [Int.toNat_natCast,ZhU qO] at x1
  have hm6:(m:Int)<6:=by omega
  rw [edI]
  obtain ⟨A,hA⟩:∃ A,edL.getD (2*m) 0=A:=⟨_,rfl⟩
  obtain ⟨B,hB⟩:∃ B,edL.getD (2*m+1) 0=B:=⟨_,rfl⟩
  rw [hA,hB] at x1 ⊢
  have hst:∀ b,stN (newB h b [.int .i64 0,.int .i64 0]) 2 (.pointer (some ⟨b,0,none⟩)) (av [A,B])=some (newB h b (ints [A,B])):=fun b=>stN_all _ _ 2 _ _ rfl rfl
  have hld:∀ b,ldN (newB h b (ints [A,B])) 2 (.pointer (some ⟨b,0,none⟩))=some (av [A,B]):=fun b=>by rw [ldN_newB_same _ _ _ _ _ (by simp)]; rfl
  have e1:=ZhR A B i j
  have e2:=ZhR A B j i
  have b1:=ZnL i j
  have b2:=ZnL j i
  refine Ans.lpG rfl rfl (Z56 ..) ?_
  unfold Z4w
  by_cases q1:A=i/\B=j
  · have q:ZmL A B i j=true:=by simp [ZmL,q1]
    rw [decide_eq_true q1] at e1
    rw [q,if_pos rfl]
    have fx:=ai x1 (ai hst (ai hld (ai e1 b1)))
    refine Ans.go ?_
    clear fx
    (have fx:=ai o1 hz; refine Ans.rt0 ?_; clear fx)
    exact ⟨rfl,rfl,rfl,.inr ⟨rfl,rfl⟩⟩
  · rw [decide_eq_false q1] at e1
    by_cases q2:A=j/\B=i
    · have q:ZmL A B i j=true:=by simp [ZmL,q2]
      rw [decide_eq_true q2] at e2
      rw [q,if_pos rfl]
      have fx:=ai x1 (ai hst (ai hld (ai e1 (ai b1 (ai e2 b2)))))
      refine Ans.go ?_
      clear fx
      (have fx:=ai o1 hz; refine Ans.rt0 ?_; clear fx)
      exact ⟨rfl,rfl,rfl,.inr ⟨rfl,rfl⟩⟩
    · have q:ZmL A B i j=false:=by rw [ZmL,decide_eq_false q1,decide_eq_false q2]; rfl
      rw [decide_eq_false q2] at e2
      rw [q,if_neg (by simp)]
      have fx:=ai x1 (ai hst (ai hld (ai e1 (ai b1 (ai e2 b2)))))
      refine Ans.go ?_
      clear fx
      (have fx:=ai o1 hz; refine Ans.nx0 ?_; clear fx)
      exact ih (m+1) qO
theorem Znx (i j:Int) (h:FH) (c:Nat) (df:List Nat):G (.fn 27) [.int .i64 i,.int .i64 j] h c df=some ⟨.ret,[.int .i64 (edN i j)],h,c,[]⟩:=by
 refine Z1l (fun r e=>f27_go e) (by simp) ?_
 unfold ZhM
 have c1:=Z90 h
 obtain ⟨⟨re,rv,rh,rc,rd⟩,hr,r1,r2,r3,r4⟩:=ZhT i j (.int .i64 0) h (c+1+1) [] (by simp) 6 0 qO
 simp only at r1 r2 r3 r4
 subst r1 r2 r3
 simp only [Int.ofNat_eq_natCast,Int.cast_ofNat_Int] at hr
 rcases r4 with ⟨rfl,r5⟩ | ⟨rfl,r5⟩
 · have fx:=ai c1 hr
   refine Ans.go ?_
   clear fx
   exact Ans.pure (by rw [edN,r5]) (Z0s.refl _ _)
 · have fx:=ai c1 hr
   refine Ans.go ?_
   clear fx
   exact Ans.pure r5 (Z0s.refl _ _)
theorem Zaj (i j:Int) (h:FH) (c:Nat):callF G 27 [.int .i64 i,.int .i64 j] h c=some (.int .i64 (edN i j),h,c):=Z0c (Znx i j h c [])

theorem Zif (t:TypeId) (a b:Int):Z00 P .or t (.int .i64 a) (.int .i64 b)=some (.int .i64 (orB a b)):=by rw [Z0o]; simp [Z0F,Z1O,orB]; rfl
theorem Zdc (t:TypeId) (x:Int) (h:0<=x):Z00 P .shl t (.int .i64 1) (.int .i64 x)=some (.int .i64 (shB x)):=by
 rw [Z0o]
 have:¬ x<0:=by omega
 simp [Z0F,Z5v,shB,this]; rfl
theorem Zf0 (p:List Int) (hp:p.length=4) (h:FH) (c:Nat) (df:List Nat):∀ (k i:Nat) (m:Int),i+k=4 →
 Ans (G (Z4o none) [.bool false,.int .i64 m,av p,.int .i64 i] h c df) fun r=>r.h=h/\r.c=c/\r.df=df ∧
  (match Z6i (p.drop i) m with
   | some m'=>r.e = .exit 0/\r.v 1 = .int .i64 m'
   | none=>r.e = .ret/\r.v 0 = .bool false):=by
 intro k
 induction k with
 | zero =>
  intro i m hi
  obtain rfl:i=4:=by omega
  rw [List.drop_of_length_le qO]
  have e1:¬ ((4:Nat):Int)<4:=by omega
  refine .intro (Z9U (q:=⟨.exit 0,[.bool false,.int .i64 m,av p,.int .i64 (4:Nat)],h,c+1,df⟩) (by unfold Z1T; simp [e1]) (by simp)) ?_
  rw [Z1t (by simp)]
  simp [Z6i]
 | succ k ih =>
  intro i m hi
  have hlt:i<p.length:=by omega
  have e0:(i:Int)<4:=by omega
  rw [List.drop_eq_getElem_cons hlt]
  have hx:p.getD i 0=p[i]:=by simp [List.getD,List.getElem?_eq_getElem hlt]
  by_cases hc:p[i]<0 ∨ 3<p[i]
  · simp only [Z6i,hc,if_true]
    refine .intro (Z9U (q:=⟨.ret,[.bool false,.int .i64 m,av p,.int .i64 i],h,_,df⟩) (by
     unfold Z1T
     by_cases h1:p[i]<0
     · simp (disch:=omega) [e0,Zef,hx,h1,-List.getD_eq_getElem?_getD]; rfl
     · have h2:3<p[i]:=by omega
       simp (disch:=omega) [e0,Zef,hx,h1,h2,-List.getD_eq_getElem?_getD] <;> rfl) (by simp)) ?_
    rw [Z1t (by simp)]
    simp
  · have h1:¬ p[i]<0:=by omega
    have h2:¬ 3<p[i]:=by omega
    simp only [Z6i,hc,if_false]
    obtain ⟨r,hr,hq⟩:=ih (i+1) (orB m (shB p[i])) qO
    refine .intro (ZfH (q:=⟨.normal,[.bool false,.int .i64 (orB m (shB p[i])),av p,.int .i64 (i+1:Nat)],h,c+1+1+1+1+1,df⟩) (by
     unfold Z1T
     simp (disch:=omega) [e0,Zef,hx,h1,h2,Zdc _ p[i] qO,Zif,-List.getD_eq_getElem?_getD]) rfl ?_) hq
    rw [Z1t (by simp)]
    exact hr
theorem Zin (p:List Int) (hp:p.length=4) (h:FH) (c:Nat) (df:List Nat) :
 G (.fn 56) [av p] h c df=some ⟨.ret,[.bool (Z0N p)],h,c,[]⟩:=by
 refine Z67 (fun r e=>f56_go e) (by simp) ?_
 obtain ⟨⟨re,rv,rh,rc,rd⟩,hr,h1,h2,h3,h4⟩:=Zf0 p hp (newB h (256*c) (ints p)) (c+1+1+1) [] 4 0 0 rfl
 simp only at h1 h2 h3
 subst h1 h2 h3
 unfold ZhE
 simp only [List.drop_zero] at h4
 have e1:p.take 4=p:=List.take_of_length_le qO
 simp only [Int.ofNat_eq_natCast,Int.cast_ofNat_Int] at hr
 unfold Z0N
 cases hv:Z6i p 0 with
 | none =>
  rw [hv] at h4
  obtain ⟨rfl,h5⟩:=h4
  simp [hr,e1,hp,h5]
 | some m =>
  rw [hv] at h4
  obtain ⟨rfl,h5⟩:=h4
  simp [hr,e1,hp,h5]
theorem ZbL (p:List Int) (hp:p.length=4) (hr:InR p) (h:FH) (b1 b3 c:Nat) (hb1:b1<256*c) (hb:b3<256*c) (df:List Nat):∀ (k i:Nat) (out:List Int),i+k=4->out.length=4 →
 G (Z4l none) [ptrTo b1,ptrTo b3,av p,.int .i64 i] (newB h b3 (ints out)) c df =
  some ⟨.exit 0,[ptrTo b1,ptrTo b3,av p,.int .i64 4],newB h b3 (ints (Zfj (p.drop i) i out)),c,df⟩:=by
 intro k
 induction k with
 | zero =>
  intro i out hi ho
  obtain rfl:i=4:=by omega
  rw [List.drop_of_length_le qO]
  refine (ZfB (q:=⟨.exit 0,[ptrTo b1,ptrTo b3,av p,.int .i64 4],newB h b3 (ints out),c+1,df⟩) (by unfold Z2g; simp) (by simp)).trans ?_
  rw [Z1t (by simp [hb1,hb])]
  rfl
 | succ k ih =>
  intro i out hi ho
  have hlt:i<p.length:=by omega
  have e0:(i:Int)<4:=by omega
  rw [List.drop_eq_getElem_cons hlt]
  have hx:p.getD i 0=p[i]:=by simp [List.getD,List.getElem?_eq_getElem hlt]
  have hxr:=hr p[i] (List.getElem_mem hlt)
  refine ZfC (q:=⟨.normal,[ptrTo b1,ptrTo b3,av p,.int .i64 (i+1:Nat)],newB h b3 (ints (out.set p[i].toNat i)),c+1+1+1+1,df⟩) ?_ rfl ?_
  · unfold Z2g
    simp (disch:=(first | omega | (simp <;> omega) | fail)) [e0,Zef,hx,hxr,ho,-List.getD_eq_getElem?_getD]
  · rw [Zcz hb (by simp [hb1,hb]) (by simp)]
    exact ih (i+1) _ qO (by simpa using ho)
theorem Zfi (p:List Int) (hp:p.length=4) (hr:InR p) (h:FH) (c:Nat) (df:List Nat) :
 G (.fn 64) [av p] h c df=some ⟨.ret,[av (inv p)],h,c,[]⟩:=by
 refine Z67 (fun r e=>f64_go e) (by simp) ?_
 have e1:p.take 4=p:=List.take_of_length_le qO
 have hl:=ZbL p hp hr (newB (newB h (256*c) (ints p)) (256*c+1) (ints [0,0,0,0])) (256*c+1) (256*(c+1)) (c+1+1+1) qO qO [] 4 0 [0,0,0,0] rfl rfl
 have hl2:(Zfj p 0 [0,0,0,0]).length=4:=Z3R p 0 [0,0,0,0]
 have e2:(Zfj p 0 [0,0,0,0]).take 4=Zfj p 0 [0,0,0,0]:=List.take_of_length_le qO
 unfold ZhA
 simp only [ZbM,Zek,Int.ofNat_eq_natCast,Int.cast_ofNat_Int,List.drop_zero] at hl
 simp (disch:=(first | omega | (simp <;> omega) | fail)) [hl,e1,e2,hp,hl2,inv]
end Go.Proofs.Ytdodippbpdechaa
