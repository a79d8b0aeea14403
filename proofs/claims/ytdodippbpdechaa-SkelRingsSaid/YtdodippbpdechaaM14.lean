/- Parts of a proof: AbRow AbSub AbMat AbGrow AbUf AbUf2 AbUf3 AbFill AbLab AbJn K1 AbEd K2 C1. Conditions: none. -/
import Derived.Test.YtdodippbpdechaaM7
import Derived.ProofKit
import Derived.Test.YtdodippbpdechaaM13
set_option linter.all false
set_option maxRecDepth 100000
namespace Go.Ab
open Go Go.ChangeShapes Go.RowKit
section post
variable {H:Type} {enc:TypeId × Value->H} {P:Program}
theorem Z9a:∀ {ts:List TypeId} {w:World} {vs:List Value} {ds:List (DataW H)} {ps:List MemPlace},DataW.TrodAll enc P w 0 (fun _=>true) true ts vs ds ps -> ∀ x ∈ ps,x.block<w.heap.size
 | [],w,vs,ds,ps,h,x,hx=>by
  obtain ⟨_,_,rfl⟩:=trodAll_nil h
  cases hx
 | t::ts,w,vs,ds,ps,h,x,hx=>by
  obtain ⟨v,vs',d,ds',p,q,rfl,rfl,rfl,h1,h2⟩:=trodAll_cons h
  rcases List.mem_append.1 hx with hx | hx
  · obtain ⟨n,h1⟩:=h1
    exact DataW.trod_lt n _ _ _ h1 x hx
  · exact Z9a h2 x hx
theorem Z5T (hl:laidOutB P=true):∀ {ts:List TypeId} {w w':World} {sp:Nat->Bool} {vs:List Value} {ds:List (DataW H)} {ps:List MemPlace},(∀ t ∈ ts,P.readableRec t=true/\t<P.types.size) →
 DataW.TrodAll enc P w 0 (fun _=>true) true ts vs ds ps->(∀ p ∈ ps,w.sameAt w' p)->(∀ p ∈ ps,sp p.block=true)->DataW.TrodAll enc P w' 0 sp true ts vs ds ps
 | [],w,w',sp,vs,ds,ps,_,h,_,_=>by
  obtain ⟨rfl,rfl,rfl⟩:=trodAll_nil h
  exact rfl
 | t::ts,w,w',sp,vs,ds,ps,hr,h,h1,h2=>by
  obtain ⟨v,vs',d,ds',p,q,rfl,rfl,rfl,g1,g2⟩:=trodAll_cons h
  refine ⟨p,q, ?_, ?_,rfl⟩
  · exact WideElems.Trod_stays hl (hr t (by simp)).1 (hr t (by simp)).2 g1 (fun x hx=>h1 x (List.mem_append.2 (.inl hx))) (fun x hx=>h2 x (List.mem_append.2 (.inl hx)))
  · exact Z5T hl (fun u hu=>hr u (by simp [hu])) g2 (fun x hx=>h1 x (List.mem_append.2 (.inr hx))) (fun x hx=>h2 x (List.mem_append.2 (.inr hx)))
theorem Zi2 (hl:laidOutB P=true) {f:Func} {s:ChangeSpec} {apart fresh handsOn again:Bool} {W W':World} {args:Array Value} {ds gs:List (DataW H)} {before:List MemPlace} {tb:TypeId}
 (hts:∀ t ∈ f.params.toList,P.readableRec t=true/\t<P.types.size) (hvars:s.vars=[]) (hres:(s.fn H (ds++gs)).results=[.lit (.bool true)]) (hargs:(s.fn H (ds++gs)).args=ds) (hvs:(s.fn H (ds++gs)).vars=[])
 (hrt:f.resultTypes = #[tb]) (htb:P.underlying tb=some .bool) (hW:DataW.Whole enc P f.params.toList s.vars apart W args.toList ds gs before) (hB:Below W.heap.size W W') :
 s.post enc P f apart fresh handsOn again W args (.bool true) W':=by
 have hW0:=hW
 obtain ⟨p,q,hA,hV,rfl,hfz,hnd⟩:=hW
 rw [hvars] at hV
 have hgq:gs=[]/\q=[]:=by
  cases gs with
  | nil=>exact ⟨rfl,hV⟩
  | cons g gs=>exact hV.elim
 obtain ⟨rfl,rfl⟩:=hgq
 have hlt:=Z9a hA
 have hrl:Value.resultList f.resultTypes.size (.bool true)=[.bool true]:=by rw [hrt]; rfl
 have hR:∀ (b:Nat) (sp:Nat->Bool) (hd:Bool),DataW.TrodAll enc P W' b sp hd f.resultTypes.toList (Value.resultList f.resultTypes.size (.bool true)) (s.fn H (ds++[])).results []:=by
  intro b sp hd
  rw [hrl,hres,hrt]
  exact ⟨[],[],shut_bool htb true,rfl,rfl⟩
 have hS:∀ sp:Nat->Bool,(∀ x ∈ p,sp x.block=true)->DataW.TrodAll enc P W' 0 sp true f.params.toList args.toList (s.fn H (ds++[])).args p:=by
  intro sp hsp
  rw [hargs]
  exact Z5T hl hts hA (fun x hx=>hB.same (hlt x hx)) hsp
 have hV':∀ sp:Nat->Bool,DataW.TrodVars enc P W' sp s.vars (s.fn H (ds++[])).vars []:=by
  intro sp; rw [hvars,hvs]; exact rfl
 have hfz':W'.noneFrozen (p++[]):=by
  intro b off hp
  have h1:=hfz b off hp
  have h2:W'.heap[b]? = W.heap[b]?:=hB.block b (hlt (.cell b off) (by simpa using hp))
  unfold World.frozen? at h1 ⊢
  simp only at h1 ⊢
  rw [h2]; exact h1
 have hok:∀ (j:Nat) (t:TypeId) (r:Value),f.resultTypes[j]? = some t->(Value.resultList f.resultTypes.size (.bool true))[j]? = some r->Value.okWide P W' .any 0 t r :=
  ok_one hrt rfl (by simp [Value.okWide,htb,Cell.okWide,Cell.ok])
 refine ⟨ds,[],p++[],[],p,[],hW0,hR _ _ _,hS _ (fun x hx=>by simpa using hlt x hx),hV' _, ?_,fun _=>?_⟩
 · refine ⟨hB.os,hB.output,fun i hi=>?_⟩
   rw [hB.block i hi]
   split
   · rename_i h1 h2
     rw [h1] at h2
     cases h2
     exact ⟨rfl,rfl,rfl,fun _ _=>rfl⟩
   · rename_i h1 h2
     rw [h1] at h2
     cases h2
     exact .inr ⟨rfl,rfl⟩
   · rfl
 · refine ⟨hok,_,_,([]++p)++[],⟨[]++p,[],trodAll_append (hS (fun _=>true) (fun _ _=>rfl)) (hR _ _ _),hV' _,rfl, ?_, ?_⟩, ?_⟩
   · intro b off hp
     exact hfz' b off (by simpa using hp)
   · intro ha
     have:=hnd ha
     simpa using this
   · intro x hx _
     simpa using hx
end post
def Z5P (W:World) (v:Value) (sz n:Nat) (Gl:List Int):Prop :=
 Gl.length=n*sz/\n<=9223372036854775807/\((v = .slice none 0 0/\n=0) ∨
  ∃ b o cap C E fr,v = .slice (some ⟨b,o,none⟩) n cap/\n<=cap/\W.heap[b]? = some (.cells C E fr) /\ ∀ j,j<Gl.length->C[o+j]? = some (.int .i64 (Gl.getD j 0)))
def ZhP (i:Nat) (v:Value):Value :=
 match v with
 | .slice (some _) n cap=>.slice (some ⟨i,0,none⟩) n cap
 | v=>v
def ZkT (v:Value):Option ME :=
 match v with
 | .slice (some a) _ _=>some ⟨a.block,a.off,none⟩
 | _=>none
theorem Z5P.vr {W:World} {v:Value} {sz n:Nat} {Gl:List Int} (h:Z5P W v sz n Gl) {μ:Mu} {i:Nat} (hm:∀ m,ZkT v=some m->μ i=some m):VR μ (ZhP i v) v:=by
 obtain ⟨h1,h2,⟨rfl,_⟩ | ⟨b,o,cap,C,E,fr,rfl,_,_,_⟩⟩:=h
 · exact .sl0 0 0
 · have:=hm ⟨b,o,none⟩ rfl
   exact VR.sl (i:=i) (o:=0) this (Nat.le_refl _) (.inl rfl)
theorem Z5P.sl {W:World} {v:Value} {sz n:Nat} {Gl:List Int} (h:Z5P W v sz n Gl) {A:FH} {i c:Nat} (hi:i<256*c) (ha:∀ m,ZkT v=some m->A.f i=some (.cells true none (ints Gl))):SlI A c (ZhP i v) sz n Gl:=by
 obtain ⟨h1,h2,⟨rfl,rfl⟩ | ⟨b,o,cap,C,E,fr,rfl,_,_,_⟩⟩:=h
 · exact ⟨h1,h2,none,0,rfl,.inl ⟨rfl,OkV.sl0 _ _ _⟩⟩
 · refine ⟨h1,h2,some ⟨i,0,none⟩,cap,rfl,.inr ⟨i,0,ints Gl,rfl,hi,⟨true,none,ha _ rfl⟩, ?_⟩⟩
   rw [List.drop_zero,List.take_of_length_le (by simp [h1])]
theorem Z5P.blk {W:World} {v:Value} {sz n:Nat} {Gl:List Int} (h:Z5P W v sz n Gl) {μ:Mu} {m:ME} (hm:ZkT v=some m):Z6r μ m W.heap (some (.cells true none (ints Gl)))/\m.b<W.heap.size:=by
 obtain ⟨h1,h2,⟨rfl,rfl⟩ | ⟨b,o,cap,C,E,fr,rfl,_,h3,h4⟩⟩:=h
 · cases hm
 · cases hm
   refine ⟨⟨C,E,fr,h3,fun k x hx=>?_,(fun h=>by cases h),rfl⟩,(Array.getElem?_eq_some_iff.1 h3).1⟩
   have hk:k<Gl.length:=by have:=(List.getElem?_eq_some_iff.1 hx).1; simpa using this
   rw [ints_getD _ _ hk] at hx
   cases hx
   exact ⟨_,h4 k hk,.int _ _⟩
def Z4d (P:Program) (e:TypeId) (sz:Nat):Prop :=
 P.cellsOf e=sz /\ ∀ (H:Type) (enc:TypeId × Value->H) (w:World) (base:Nat) (spare:Nat->Bool) (held:Bool) (fuel:Nat) (cs:List Value) (x:DataW H × List MemPlace),
  DataW.trod enc P w base spare held fuel e cs=some x->cs.length=sz /\ ∀ v ∈ cs,∃ n,v = .int .i64 n
section flat
variable {P:Program}
theorem Z4d.int {e:TypeId} (he:P.underlying e=some (.int .i64)) (hc:P.cellsOf e=1):Z4d P e 1:=by
 refine ⟨hc,fun H enc w base spare held fuel cs x h=>?_⟩
 obtain ⟨n,rfl,_,_⟩:=DataW.trod_int he h
 exact ⟨rfl,fun v hv=>⟨n,by simpa using hv⟩⟩
theorem Zdi {α β:Type} {f:α->Option β}:∀ {l:List α} {r:List β},l.mapM f=some r -> ∀ a ∈ l,∃ b,f a=some b
 | [],r,h,a,ha=>by cases ha
 | x::l,r,h,a,ha=>by
  rw [List.mapM_cons] at h
  simp only [Option.bind_eq_bind,Option.bind_eq_some_iff] at h
  obtain ⟨y,hy,ys,hys,_⟩:=h
  rcases List.mem_cons.1 ha with rfl | ha
  · exact ⟨y,hy⟩
  · exact Zdi hys a ha
theorem Z4d.array {t e:TypeId} {n z:Nat} (ht:P.underlying t=some (.array n e)) (hf:Z4d P e z) (hc:P.cellsOf t=n*z):Z4d P t (n*z):=by
 refine ⟨hc,fun H enc w base spare held fuel cs x h=>?_⟩
 cases fuel with
 | zero=>simp [DataW.trod] at h
 | succ fuel =>
  have h':(if cs.length=P.cellsOf t then ((List.range n).mapM fun i=>DataW.trod enc P w base spare held fuel e ((cs.drop (i*P.cellsOf e)).take (P.cellsOf e))).map fun xs=>((.agg (xs.map (·.1)),xs.flatMap (·.2)):DataW H × List MemPlace) else none)=some x:=by
   have h1:=h
   unfold DataW.trod at h1
   rw [ht] at h1
   split at h1 <;> first | exact h1 | (rename_i e1 _; cases e1) | (rename_i e1 _ _; cases e1) | (rename_i e1; cases e1) | skip
   all_goals first | exact h1 | (simp_all; done) | skip
  split at h'
  · rename_i hl
    rw [hc] at hl
    refine ⟨hl,fun v hv=>?_⟩
    cases hm:(List.range n).mapM fun i=>DataW.trod enc P w base spare held fuel e ((cs.drop (i*P.cellsOf e)).take (P.cellsOf e)) with
    | none=>rw [hm] at h'; cases h'
    | some ys =>
     obtain ⟨j,hj⟩:=List.getElem?_of_mem hv
     have hjl:j<n*z:=by have:=(List.getElem?_eq_some_iff.1 hj).1; omega
     have hz:0<z:=by
      rcases Nat.eq_zero_or_pos z with e | e
      · rw [e] at hjl; simp at hjl
      · exact e
     have hi:j / z<n:=by rw [Nat.div_lt_iff_lt_mul hz]; exact hjl
     obtain ⟨y,hy⟩:=Zdi hm (j / z) (by simpa using hi)
     rw [hf.1] at hy
     refine (hf.2 _ _ _ _ _ _ _ _ _ hy).2 v ?_
     refine List.mem_of_getElem? (i:=j % z) ?_
     rw [List.getElem?_take_of_lt (Nat.mod_lt _ hz),List.getElem?_drop,Nat.mul_comm,Nat.div_add_mod]
     exact hj
  · cases h'
theorem Z4d.struct2 {t:TypeId} {f0 f1:Field} {z0 z1:Nat} (ht:P.underlying t=some (.struct #[f0,f1])) (h0:Z4d P f0.type z0) (h1:Z4d P f1.type z1) (o0:f0.offset=0) (o1:f1.offset=z0) (hc:P.cellsOf t=z0+z1):Z4d P t (z0+z1):=by
 refine ⟨hc,fun H enc w base spare held fuel cs x h=>?_⟩
 obtain ⟨xs,n,rfl,_,hl,hxl,hf⟩:=DataW.trod_struct ht h
 rw [hc] at hl
 refine ⟨hl,fun v hv=>?_⟩
 have g0:=hf 0 f0 rfl
 have g1:=hf 1 f1 rfl
 have l2:xs.length=2:=hxl
 rw [List.getElem?_eq_getElem qO] at g0 g1
 rw [h0.1,o0,List.drop_zero] at g0
 rw [h1.1,o1] at g1
 obtain ⟨j,hj⟩:=List.getElem?_of_mem hv
 have hjl:j<z0+z1:=by have:=(List.getElem?_eq_some_iff.1 hj).1; omega
 by_cases hlt:j<z0
 · refine (h0.2 _ _ _ _ _ _ _ _ _ g0).2 v (List.mem_of_getElem? (i:=j) ?_)
   rw [List.getElem?_take_of_lt hlt]; exact hj
 · refine (h1.2 _ _ _ _ _ _ _ _ _ g1).2 v (List.mem_of_getElem? (i:=j-z0) ?_)
   rw [List.getElem?_take_of_lt qO,List.getElem?_drop,show z0+(j-z0)=j by omega]
   exact hj
theorem ZgE {H:Type} {enc:TypeId × Value->H} {W:World} {base:Nat} {t e:TypeId} {sz:Nat} {v:Value} {fuel:Nat} {x:DataW H × List MemPlace} (ht:P.underlying t=some (.slice e)) (hf:Z4d P e sz) (hz:0<sz)
 (hval:Cell.okWide P W .any base t v) (hd:DataW.trod enc P W 0 (fun _=>true) true fuel t [v]=some x):∃ n Gl,Z5P W v sz n Gl:=by
 rcases DataW.trod_slice ht hd with ⟨h1,_⟩ | ⟨a,len,cap,elems,rest,n,_,h1,_,hb,hl,hm,hlen,hel,_,_⟩
 · cases h1
   exact ⟨0,[],by simp,by omega,.inl ⟨rfl,rfl⟩⟩
 · cases h1
   have hok:Cell.ok P W .any base t (.slice (some a) len cap):=by
    unfold Cell.okWide at hval
    rw [ht] at hval
    exact hval
   unfold Cell.ok at hok
   rw [ht] at hok
   obtain ⟨_,_,_,hsp,row,cells,hsh,_⟩:=hok
   obtain ⟨b,o,sp⟩:=a
   simp only at hsp
   subst hsp
   unfold World.shape? at hsh
   have hblk:∃ C E fr,W.heap[b]? = some (.cells C E fr):=by
    split at hsh
    · rename_i c el fr hh; exact ⟨c,el,fr,hh⟩
    · cases hsh
   obtain ⟨C,E,fr,hC⟩:=hblk
   have hadd:∀ o k,(⟨b,o,none⟩:Addr).add k=⟨b,o+k,none⟩:=fun o k=>by unfold Addr.add; split <;> simp_all
   have hcell:∀ j,j<len*sz -> ∃ z,C[o+j]? = some (.int .i64 z):=by
    intro j hj
    have hi:j / sz<len:=by rw [Nat.div_lt_iff_lt_mul hz]; exact hj
    have h2:=hel (j / sz) hi
    rw [List.getElem?_eq_getElem qO] at h2
    simp only [Option.bind_eq_some_iff] at h2
    obtain ⟨cs,hcs,htr⟩:=h2
    rw [hf.1] at hcs
    obtain ⟨_,hcl,hcg⟩:=World.cells?_some hcs
    have h3:=hcg (j % sz) (Nat.mod_lt _ hz)
    have hfl:=hf.2 _ _ _ _ _ _ _ _ _ htr
    have hjm:j % sz<cs.length:=by rw [hcl]; exact Nat.mod_lt _ hz
    rw [List.getElem?_eq_getElem hjm] at h3
    obtain ⟨z,hz'⟩:=hfl.2 cs[j % sz] (List.getElem_mem hjm)
    rw [hz',hadd] at h3
    have:(⟨b,o+j / sz*sz,none⟩:Addr).add (j % sz)=⟨b,o+j,none⟩:=by
     rw [hadd]
     have:=Nat.div_add_mod j sz
     rw [Nat.mul_comm] at this
     congr 1; omega
    rw [this] at h3
    refine ⟨z, ?_⟩
    simpa [World.cell?,hC] using h3
   refine ⟨len,(List.range (len*sz)).map fun j=>(match C[o+j]? with | some (.int .i64 z)=>z | _=>0),by simp, ?_,.inr ⟨b,o,cap,C,E,fr,rfl,hl,hC,fun j hj=>?_⟩⟩
   · unfold maxLen at hm
     have:cap<=9223372036854775807:=by simp at hm; omega
     omega
   · have hj':j<len*sz:=by simpa using hj
     obtain ⟨z,hz'⟩:=hcell j hj'
     rw [hz']
     congr 2
     simp [List.getD,hj',hz']
end flat
end Go.Ab

namespace Go.Ab
open Go
def ZkS:Value->Option Addr
 | .slice a _ _=>a
 | _=>none
def SlX (h:FH) (s:Value) (sz n:Nat):Prop:=n<=capOf s/\ZhV h sz (ZkS s)=true
def subS (sz lo hi:Nat):Value->Value
 | .slice (some ⟨b,o,none⟩) _ cap=>.slice (some ⟨b,o+lo*sz,none⟩) (hi-lo) (cap-lo)
 | v=>v
theorem SlX.sub {h:FH} {c:Nat} {s:Value} {sz n:Nat} {L:List Int} (hs:SlI h c s sz n L) (hx:SlX h s sz n) (k k':IntKind) (lo hi:Int) (h1:0<=lo) (h2:lo<=hi) (h3:hi<=(n:Int)) (hn:0<n) :
 slS h sz s (some (.int k lo)) (some (.int k' hi)) none=some (subS sz lo.toNat hi.toNat s):=by
 obtain ⟨g1,g2,a,cap,rfl,h4⟩:=hs
 obtain ⟨x1,x2⟩:=hx
 rcases h4 with ⟨e,hv⟩ | ⟨b,o,cs,rfl,e2,e3,e4⟩
 · omega
 · simp only [capOf,ZkS] at x1 x2
   have q0:Nat.ble cap cap=true:=Nat.ble_eq_true_of_le (Nat.le_refl _)
   have q1:(0:Int)<=hi:=by omega
   have q2:hi<=(cap:Int):=by omega
   have q3:lo<=(hi.toNat:Int):=by omega
   simp only [slS,x2,cond_true,Zlg,Zlh,q0,Option.bind_some,bnd,decide_eq_true q1,decide_eq_true q2,decide_eq_true h1,decide_eq_true q3,Bool.and_self,Option.isSome_none,Bool.false_and,cond_false,Zlv,subS]
theorem SlI.sub {h:FH} {c:Nat} {s:Value} {sz n:Nat} {L:List Int} (hs:SlI h c s sz n L) (lo hi:Nat) (h2:lo<=hi) (h3:hi<=n) (hn:0<n) :
 SlI h c (subS sz lo hi s) sz (hi-lo) ((L.drop (lo*sz)).take ((hi-lo)*sz)):=by
 obtain ⟨g1,g2,a,cap,rfl,h4⟩:=hs
 rcases h4 with ⟨e,hv⟩ | ⟨b,o,cs,rfl,e2,e3,e4⟩
 · omega
 · have hm:lo*sz+(hi-lo)*sz<=L.length:=by
    rw [g1,← Nat.add_mul]; exact Nat.mul_le_mul_right _ qO
   refine ⟨by rw [List.length_take,List.length_drop]; omega,by omega,_,_,rfl,.inr ⟨b,o+lo*sz,cs,rfl,e2,e3, ?_⟩⟩
   exact Zge e4 hm
theorem SlX.same {h h':FH} {c:Nat} {s:Value} {sz n:Nat} {L:List Int} (hs:SlI h c s sz n L) (hn:0<n) (hh:Z0q c h h') (hx:SlX h s sz n):SlX h' s sz n:=by
 obtain ⟨g1,g2,a,cap,rfl,h4⟩:=hs
 obtain ⟨x1,x2⟩:=hx
 rcases h4 with ⟨e,hv⟩ | ⟨b,o,cs,rfl,e2,e3,e4⟩
 · omega
 · refine ⟨x1, ?_⟩
   simp only [ZkS,ZhV] at x2 ⊢
   have:HeapC.get h' b=HeapC.get h b:=hh b e2
   rw [this]; exact x2
theorem Z5P.slx {W:World} {v:Value} {sz n:Nat} {Gl:List Int} (h:Z5P W v sz n Gl) {A:FH} {i:Nat} (ha:∀ m,ZkT v=some m->A.f i=some (.cells true none (ints Gl))):SlX A (ZhP i v) sz n:=by
 obtain ⟨h1,h2,⟨rfl,rfl⟩ | ⟨b,o,cap,C,E,fr,rfl,g1,_,_⟩⟩:=h
 · exact ⟨Nat.zero_le _,rfl⟩
 · refine ⟨g1, ?_⟩
   have:HeapC.get A i=some (.cells true none (ints Gl)):=ha _ rfl
   simp only [ZhP,ZkS,ZhV,this]
def tyT:List Int:=[-1,0,1,2,0,-1,2,1,1,2,-1,0,2,1,0,-1]
def ty (i f:Int):Int:=((tyT.drop (i.toNat*4)).take 4).getD f.toNat 0
theorem Zd4 {i f:Int} (h1:0<=i) (h2:i<4) (h3:0<=f) (h4:f<4) (hne:i ≠ f):0<=ty i f/\ty i f<3:=by
 have:((List.range 4).all fun i=>(List.range 4).all fun f=>decide (i=f) || (decide (0<=ty (i:Nat) (f:Nat)) && decide (ty (i:Nat) (f:Nat)<3)))=true:=by decide
 rw [List.all_eq_true] at this
 have h5:=this i.toNat (by simp; omega)
 rw [List.all_eq_true] at h5
 have h6:=h5 f.toNat (by simp; omega)
 have e1:((i.toNat:Nat):Int)=i:=by omega
 have e2:((f.toNat:Nat):Int)=f:=by omega
 rw [e1,e2] at h6
 have h7:¬ i.toNat=f.toNat:=by omega
 simpa [h7] using h6
def arcV (V:List Int) (t f i:Int):Int:=gi V (7*t+i)+gi V (7*t+4+ty i f)
theorem Z6w:∀ {df:List Nat} {h:FH},df.Nodup->(∀ d ∈ df,h.f d=some .dfr) -> ∃ h',Z07 h df=some h' /\ ∀ i,i ∉ df->h'.f i=h.f i
 | [],h,_,_=>⟨h,rfl,fun _ _=>rfl⟩
 | d::df,h,hn,hd=>by
  have h1:=hd d (by simp)
  have hg:HeapC.get h d=some .dfr:=h1
  obtain ⟨hn1,hn2⟩:=List.nodup_cons.1 hn
  obtain ⟨h',e,k⟩:=Z6w (df:=df) (h:=HeapC.del h d) hn2 (fun x hx=>by
   have hne:¬ x=d:=fun e=>hn1 (by rw [← e]; exact hx)
   rw [Z6j,if_neg hne]
   exact hd x (by simp [hx]))
  refine ⟨h',by simp only [Z07,hg,e],fun i hi=>?_⟩
  simp only [List.mem_cons,not_or] at hi
  rw [k i hi.2,Z6j,if_neg hi.1]
end Go.Ab

namespace Go.Ab
open Go
theorem ne24 {p:List Int} (hp:p ∈ p24) {i j:Nat} (hi:i<4) (hj:j<4) (hne:i ≠ j):p.getD i 0 ≠ p.getD j 0:=by
 have:=ZbT (Q:=fun p=>(List.range 4).all fun i=>(List.range 4).all fun j=>decide (i=j) || decide (p.getD i 0 ≠ p.getD j 0)) (by kernel_rfl) hp
 rw [List.all_eq_true] at this
 have h1:=this i (by simpa using hi)
 rw [List.all_eq_true] at h1
 have h2:=h1 j (by simpa using hj)
 simpa [hne,-List.getD_eq_getElem?_getD] using h2
end Go.Ab

namespace Go.Ab
open Go
def ZbZ (c0:Nat) (h:FH) (c:Nat) (v:Value) (n:Nat) (cs:List Value):Prop :=
 cs.length=n/\n<=9223372036854775807/\cs.all Z06=true ∧
  ∃ i op,v = .slice (some ⟨i,0,none⟩) n n/\256*c0<=i/\i<256*c/\h.f i=some (.cells false op cs)/\(op=none ∨ op=some 1)
theorem ZbZ.flat {c0:Nat} {h:FH} {c:Nat} {v:Value} {n:Nat} {cs:List Value} (ha:ZbZ c0 h c v n cs):Z06 v=true/\v.cells = #[v]:=by
 obtain ⟨_,_,_,i,op,rfl,_⟩:=ha; exact ⟨rfl,rfl⟩
theorem ZbZ.mono {c0:Nat} {h:FH} {c c':Nat} {v:Value} {n:Nat} {cs:List Value} (hc:c<=c') (ha:ZbZ c0 h c v n cs):ZbZ c0 h c' v n cs:=by
 obtain ⟨h1,h2,h3,i,op,h4,h5,h6,h7⟩:=ha
 exact ⟨h1,h2,h3,i,op,h4,h5,by omega,h7⟩
theorem ZbZ.blk {c0:Nat} {h:FH} {c:Nat} {v:Value} {n:Nat} {cs:List Value} (ha:ZbZ c0 h c v n cs):256*c0<=Z0w v/\Z0w v<256*c:=by
 obtain ⟨h1,h2,h3,i,op,rfl,h5,h6,h7⟩:=ha
 exact ⟨h5,h6⟩
theorem ZbZ.keep {c0:Nat} {h h':FH} {c:Nat} {v:Value} {n:Nat} {cs:List Value} (ha:ZbZ c0 h c v n cs) (hh:h'.f (Z0w v)=h.f (Z0w v)):ZbZ c0 h' c v n cs:=by
 obtain ⟨h1,h2,h3,i,op,rfl,h5,h6,h7,h8⟩:=ha
 exact ⟨h1,h2,h3,i,op,rfl,h5,h6,hh.trans h7,h8⟩
theorem ZbZ.app {c0:Nat} {h:FH} {c c':Nat} {v:Value} {n:Nat} {cs:List Value} (ha:ZbZ c0 h c v n cs) (x:Value) (hx:Z06 x=true) (by' b id:Nat) (hb:256*c<=b) (hid:256*c<=id) (hne:b ≠ id) (hc0:c0<=c)
 (hid':id<256*c') (hlim:(n+1)*(by'+1)<=17592186044416) :
 ∃ h',Z5o (newB h b [x]) id 1 by' v (.slice (some ⟨b,0,none⟩) 1 1)=some (.slice (some ⟨id,0,none⟩) (n+1) (n+1),h')/\ZbZ c0 h' c' (.slice (some ⟨id,0,none⟩) (n+1) (n+1)) (n+1) (cs++[x]) ∧
  (∀ j,j<256*c->j ≠ Z0w v->h'.f j=h.f j):=by
 obtain ⟨h1,h2,h3,i,op,rfl,h5,h6,h7,h8⟩:=ha
 have hlim':Nat.ble ((n+1)*(by'+1)) 17592186044416=true:=Nat.ble_eq_true_of_le hlim
 have hsrc:Z0B (newB h b [x]) 1 (.slice (some ⟨b,0,none⟩) 1 1)=some ([x],1):=by
  have:Nat.ble (0+1*1) [x].length=true:=rfl
  simp only [Z0B,Z0J,Z0k,get_newB_same,Option.bind_some,this,cond_true,List.drop_zero]
  rfl
 have hn1:n+1<=17592186044416:=by
  have:(n+1)*1<=(n+1)*(by'+1):=Nat.mul_le_mul_left _ qO
  omega
 have hcap:Nat.ble (n+1) n=false:=by rw [Bool.eq_false_iff]; intro hh; have:=Nat.le_of_ble_eq_true hh; omega
 have hfx:[x].all Z06=true:=by simp [hx]
 have hbi:i ≠ b:=by omega
 have hg:HeapC.get (newB h b [x]) i=some (.cells false op cs):=by rw [get_newB_ne _ _ _ _ hbi]; exact h7
 have hr:Nat.ble (0+n*1) cs.length=true:=Nat.ble_eq_true_of_le (by simp [h1])
 have ht:(cs.drop 0).take (n*1)=cs:=by rw [List.drop_zero,List.take_of_length_le qO]
 rcases h8 with rfl | rfl
 · refine ⟨HeapC.set (newB h b [x]) id (.cells false (some 1) ((cs.drop 0).take (n*1)++[x])), ?_,⟨by simp [h1],by omega,by simp only [List.all_append,h3,hfx,Bool.and_self],id,some 1,rfl,by omega,hid', ?_,.inr rfl⟩, ?_⟩
   · simp only [Z5o,hsrc,Option.bind_some,appTo,hcap,cond_false,Z1D,hlim',hfx,Bool.and_self,cond_true,Z0J,Z0k,hg,hr]
   · rw [Z0o,if_pos rfl,ht]
   · intro j hj hne'
     rw [Z0o,if_neg qO,Z01,if_neg qO]
 · refine ⟨HeapC.set (HeapC.set (newB h b [x]) i .dead) id (.cells false (some 1) ((cs.drop 0).take (n*1)++[x])), ?_,⟨by simp [h1],by omega,by simp only [List.all_append,h3,hfx,Bool.and_self],id,some 1,rfl,by omega,hid', ?_,.inr rfl⟩, ?_⟩
   · simp only [Z5o,hsrc,Option.bind_some,appTo,hcap,cond_false,Z1D,hlim',hfx,Bool.and_self,cond_true,Z0J,Z0k,hg,hr,Nat.beq_refl,Bool.not_false,Bool.and_true]
   · rw [Z0o,if_pos rfl,ht]
   · intro j hj hne'
     rw [blkOf_sl] at hne'
     rw [Z0o,if_neg qO,Z0o,if_neg hne',Z01,if_neg qO]
end Go.Ab

namespace Go.Ab
open Go
def Z3H (L:List Int) (m:Nat):Prop:=L.length=m /\ ∀ k,k<m->0<=L.getD k 0/\L.getD k 0<=k
def Z5W (L:List Int):Nat->Nat->Nat
 | 0,i=>i
 | k+1,i=>if L.getD i 0=i then i else Z5W L k (L.getD i 0).toNat
def Z0a (L:List Int) (i:Nat):Nat:=Z5W L (i+1) i
theorem Z9f {L:List Int} {m:Nat} (hd:Z3H L m):∀ {k k' i:Nat},i<m->i<k->i<k'->Z5W L k i=Z5W L k' i
 | 0,_,i,_,h,_=>by omega
 | k+1,0,i,_,_,h=>by omega
 | k+1,k'+1,i,hi,h1,h2=>by
  rw [Z5W,Z5W]
  by_cases e:L.getD i 0=i
  · rw [if_pos e,if_pos e]
  · rw [if_neg e,if_neg e]
    have:=hd.2 i hi
    exact Z9f hd qO qO qO
theorem Z0R {L:List Int} {i:Nat} (e:L.getD i 0=i):Z0a L i=i:=by rw [Z0a,Z5W,if_pos e]
theorem Z0S {L:List Int} {m i:Nat} (hd:Z3H L m) (hi:i<m) (e:¬ L.getD i 0=i):Z0a L i=Z0a L (L.getD i 0).toNat:=by
 have:=hd.2 i hi
 rw [Z0a,Z5W,if_neg e,Z0a]
 exact Z9f hd qO qO qO
theorem Zdc {L:List Int} {m:Nat} (hd:Z3H L m):∀ {k i:Nat},i<m->Z5W L k i<=i
 | 0,i,_=>by rw [Z5W]; omega
 | k+1,i,hi=>by
  rw [Z5W]
  split
  · omega
  · have:=hd.2 i hi
    have:=Zdc hd (k:=k) (i:=(L.getD i 0).toNat) qO
    omega
theorem Z2d {L:List Int} {m i:Nat} (hd:Z3H L m) (hi:i<m):Z0a L i<=i:=Zdc hd hi
def Z1o (L:List Int) (i j:Nat):List Int:=L.set (max (Z0a L i) (Z0a L j)) (min (Z0a L i) (Z0a L j):Nat)
theorem Z17 (l:List Int) (i j:Nat) (x:Int):(l.set i x).getD j 0=if i=j/\i<l.length then x else l.getD j 0:=by
 simp only [List.getD_eq_getElem?_getD,List.getElem?_set]
 by_cases h:i=j
 · subst h
   by_cases h2:i<l.length
   · simp [h2]
   · simp [h2]
 · simp [h]
theorem Z3H.set {L:List Int} {m i:Nat} {x:Nat} (hd:Z3H L m) (hi:i<m) (hx:x<=i):Z3H (L.set i x) m:=by
 refine ⟨by simp [hd.1],fun k hk=>?_⟩
 have hl:=hd.1
 rw [Z17]
 split
 · rename_i h; obtain ⟨rfl,_⟩:=h; omega
 · exact hd.2 k hk
theorem Z3R {L:List Int} {m i j:Nat} (hd:Z3H L m) (hi:i<m) (hj:j<m):Z3H (Z1o L i j) m:=by
 have h1:=Z2d hd hi
 have h2:=Z2d hd hj
 exact hd.set qO qO
def Z0G (m:Nat):List Int:=(List.range m).map fun k:Nat=>(k:Int)
theorem Z82 {m k:Nat} (h:k<m):(Z0G m).getD k 0=k:=by
 simp [Z0G,List.getD_eq_getElem?_getD,h]
theorem Z4g (m:Nat):Z3H (Z0G m) m:=by
 refine ⟨by simp [Z0G],fun k hk=>?_⟩
 rw [Z82 hk]
 omega
def Z1Q (L:List Int) (m:Nat):List Int:=((List.range m).filter fun k=>decide (Z0a L k=k)).map fun k:Nat=>(k:Int)
theorem Z7E (L:List Int) (i:Nat):Z1Q L (i+1)=Z1Q L i++(if Z0a L i=i then [(i:Int)] else []):=by
 unfold Z1Q
 rw [List.range_succ,List.filter_append,List.map_append]
 congr 1
 by_cases h:Z0a L i=i <;> simp [h]
theorem Zcu (L:List Int) (m:Nat):(Z1Q L m).length<=m:=by
 unfold Z1Q
 rw [List.length_map]
 exact Nat.le_trans (List.length_filter_le _ _) (by simp)
theorem Zcm {L:List Int} {m:Nat} {x:Int} (h:x ∈ Z1Q L m):∃ k:Nat,x=k/\k<m/\Z0a L k=k:=by
 unfold Z1Q at h
 rw [List.mem_map] at h
 obtain ⟨k,h1,rfl⟩:=h
 rw [List.mem_filter] at h1
 exact ⟨k,rfl,by simpa using h1.1,by simpa using h1.2⟩
theorem ZbZ.sl {c0:Nat} {h:FH} {c:Nat} {v:Value} {n:Nat} {L:List Int} (ha:ZbZ c0 h c v n (ints L)):SlI h c v 1 n L:=by
 obtain ⟨h1,h2,h3,i,op,rfl,h5,h6,h7,h8⟩:=ha
 have hl:L.length=n:=by simpa using h1
 refine ⟨by omega,h2,some ⟨i,0,none⟩,n,rfl,.inr ⟨i,0,ints L,rfl,h6,⟨false,op,h7⟩, ?_⟩⟩
 rw [List.drop_zero,List.take_of_length_le (by simp [hl])]
end Go.Ab

namespace Go.Ab
open Go
theorem Zbw {L:List Int} {m:Nat} (hd:Z3H L m):∀ {k i:Nat},i<m->i<k->L.getD (Z5W L k i) 0=Z5W L k i
 | 0,i,_,h=>by omega
 | k+1,i,hi,h=>by
  rw [Z5W]
  split
  · assumption
  · have:=hd.2 i hi
    exact Zbw hd qO qO
theorem Z8a {L:List Int} {m i:Nat} (hd:Z3H L m) (hi:i<m):L.getD (Z0a L i) 0=Z0a L i:=Zbw hd hi qO
theorem Z9e {L:List Int} {m i:Nat} (hd:Z3H L m) (hi:i<m):Z0a L (Z0a L i)=Z0a L i:=Z0R (Z8a hd hi)
theorem Z2A {L:List Int} {m i j:Nat} (hd:Z3H L m) (hi:i<m) (hj:j<m):∀ {k:Nat},k<m →
 Z0a (Z1o L i j) k=if Z0a L k=max (Z0a L i) (Z0a L j) then min (Z0a L i) (Z0a L j) else Z0a L k:=by
 have h1:=Z2d hd hi
 have h2:=Z2d hd hj
 have f1:=Z8a hd hi
 have f2:=Z8a hd hj
 have hd':=Z3R hd hi hj
 have hl:=hd.1
 obtain ⟨M,hM⟩:∃ M,max (Z0a L i) (Z0a L j)=M:=⟨_,rfl⟩
 obtain ⟨N,hN⟩:∃ N,min (Z0a L i) (Z0a L j)=N:=⟨_,rfl⟩
 have fM:L.getD M 0=M:=by
  rcases Nat.le_total (Z0a L i) (Z0a L j) with h | h
  · rw [show M=Z0a L j by omega]; exact f2
  · rw [show M=Z0a L i by omega]; exact f1
 have fN:L.getD N 0=N:=by
  rcases Nat.le_total (Z0a L i) (Z0a L j) with h | h
  · rw [show N=Z0a L i by omega]; exact f1
  · rw [show N=Z0a L j by omega]; exact f2
 have hg:∀ k,(Z1o L i j).getD k 0=if M=k/\M<L.length then (N:Int) else L.getD k 0:=fun k=>by
  unfold Z1o
  rw [Z17,hM,hN]
 rw [hM,hN]
 have key:∀ (b k:Nat),k<b->k<m->Z0a (Z1o L i j) k=if Z0a L k=M then N else Z0a L k:=by
  intro b
  induction b with
  | zero=>intro k h; omega
  | succ b ih =>
   intro k hb hk
   by_cases e:k=M
   · subst e
     rw [Z0R fM,if_pos rfl]
     have e2:=hg k
     rw [if_pos ⟨rfl,by omega⟩] at e2
     by_cases e3:N=k
     · rw [Z0R (by rw [e2,e3])]; exact e3.symm
     · rw [Z0S hd' qO qO,e2,Int.toNat_natCast,ih N qO qO,Z0R fN,if_neg e3]
   · have e2:=hg k
     rw [if_neg (fun q=>e q.1.symm)] at e2
     by_cases e3:L.getD k 0=k
     · rw [Z0R (e2.trans e3),Z0R e3,if_neg e]
     · have d:=hd.2 k hk
       rw [Z0S hd' hk (by rw [e2]; exact e3),e2,ih _ qO qO,← Z0S hd hk e3]
 intro k hk
 exact key (k+1) k qO hk
theorem ZgR {L:List Int} {m i j:Nat} (hd:Z3H L m) (hi:i<m) (hj:j<m):Z0a (Z1o L i j) i=Z0a (Z1o L i j) j:=by
 rw [Z2A hd hi hj hi,Z2A hd hi hj hj]
 split <;> split <;> omega
theorem ZgS {L:List Int} {m i j a b:Nat} (hd:Z3H L m) (hi:i<m) (hj:j<m) (ha:a<m) (hb:b<m) (e:Z0a L a=Z0a L b):Z0a (Z1o L i j) a=Z0a (Z1o L i j) b:=by
 rw [Z2A hd hi hj ha,Z2A hd hi hj hb,e]
end Go.Ab

namespace Go.Ab
open Go
def Z3C (L L':List Int) (m:Nat):Prop:=Z3H L' m /\ ∀ k,k<m->Z0a L' k=Z0a L k
theorem Z3C.refl {L:List Int} {m:Nat} (h:Z3H L m):Z3C L L m:=⟨h,fun _ _=>rfl⟩
theorem Z3C.trans {L L' L'':List Int} {m:Nat} (a:Z3C L L' m) (b:Z3C L' L'' m):Z3C L L'' m:=⟨b.1,fun k hk=>(b.2 k hk).trans (a.2 k hk)⟩
def Z7K (L:List Int) (i:Nat):List Int:=L.set i (L.getD (L.getD i 0).toNat 0)
theorem Zaw {L:List Int} {m:Nat} (hd:Z3H L m) {i:Nat} (hi:i<m) (k:Nat):(Z7K L i).getD k 0=if k=i then L.getD (L.getD i 0).toNat 0 else L.getD k 0:=by
 unfold Z7K
 rw [Z17]
 by_cases e:k=i
 · subst e; rw [if_pos ⟨rfl,by rw [hd.1]; exact hi⟩,if_pos rfl]
 · rw [if_neg (fun q=>e q.1.symm),if_neg e]
theorem Zf0 {L:List Int} {m i:Nat} (hd:Z3H L m) (hi:i<m):Z3C L (Z7K L i) m:=by
 have di:=hd.2 i hi
 have dp:=hd.2 (L.getD i 0).toNat qO
 have hd':Z3H (Z7K L i) m:=by
  refine ⟨by unfold Z7K; rw [List.length_set,hd.1],fun k hk=>?_⟩
  rw [Zaw hd hi]
  by_cases e:k=i
  · rw [if_pos e]; omega
  · rw [if_neg e]; exact hd.2 k hk
 refine ⟨hd', ?_⟩
 have key:∀ (b k:Nat),k<b->k<m->Z0a (Z7K L i) k=Z0a L k:=by
  intro b
  induction b with
  | zero=>intro k h; omega
  | succ b ih =>
   intro k hb hk
   have dk:=hd.2 k hk
   have e1:=Zaw hd hi k
   by_cases e:k=i
   · subst e
     rw [if_pos rfl] at e1
     by_cases e2:L.getD k 0=k
     · rw [e2,Int.toNat_natCast,e2] at e1
       rw [Z0R e1,Z0R e2]
     · rw [Z0S hd hk e2]
       have hp:(L.getD k 0).toNat<k:=by omega
       by_cases e3:L.getD (L.getD k 0).toNat 0=(L.getD k 0).toNat
       · rw [Z0S hd' hk (by rw [e1,e3]; omega),e1,e3,Int.toNat_natCast,ih _ qO qO]
       · rw [Z0S hd qO e3,Z0S hd' hk (by rw [e1]; omega),e1,ih _ qO qO]
   · rw [if_neg e] at e1
     by_cases e2:L.getD k 0=k
     · rw [Z0R (e1.trans e2),Z0R e2]
     · rw [Z0S hd hk e2,Z0S hd' hk (by rw [e1]; exact e2),e1,ih _ qO qO]
 exact fun k hk=>key (k+1) k qO hk
theorem ZjK {L:List Int} {m i:Nat} (hd:Z3H L m) (hi:i<m) (hne:L.getD i 0 ≠ i):0<=L.getD (L.getD i 0).toNat 0/\(L.getD (L.getD i 0).toNat 0).toNat<i/\Z0a L (L.getD (L.getD i 0).toNat 0).toNat=Z0a L i:=by
 have di:=hd.2 i hi
 have dp:=hd.2 (L.getD i 0).toNat qO
 refine ⟨dp.1,by omega, ?_⟩
 rw [Z0S hd hi hne]
 by_cases e3:L.getD (L.getD i 0).toNat 0=(L.getD i 0).toNat
 · rw [e3,Int.toNat_natCast]
 · rw [Z0S hd qO e3]
theorem Z3C.join {L L':List Int} {m i j:Nat} (hd:Z3H L m) (s:Z3C L L' m) (hi:i<m) (hj:j<m):Z3C (Z1o L i j) (Z1o L' i j) m:=by
 refine ⟨Z3R s.1 hi hj,fun k hk=>?_⟩
 rw [Z2A hd hi hj hk,Z2A s.1 hi hj hk,s.2 i hi,s.2 j hj,s.2 k hk]
end Go.Ab

namespace Go.Ab
open Go
def zs (Q:List Nat):List Int:=Q.map fun k:Nat=>(k:Int)
def Zlf:List Bool->Nat
 | []=>0
 | b::l=>(if b=true then 1 else 0)+Zlf l
theorem Zer:∀ {l:List Bool} {j:Nat},j<l.length->l.getD j false=false->Zlf (l.set j true)=Zlf l+1
 | [],j,h,_=>by simp at h
 | b::l,0,_,e=>by
  obtain rfl:b=false:=e
  show (if (true:Bool)=true then 1 else 0)+Zlf l=_
  rw [Zlf,if_pos rfl,if_neg (by simp)]; omega
 | b::l,j+1,h,e=>by
  show (if b=true then 1 else 0)+Zlf (l.set j true)=(if b=true then 1 else 0)+Zlf l+1
  rw [Zer (l:=l) (by simpa using h) e]; omega
theorem Zh0 (l:List Bool) (i j:Nat) (x:Bool):(l.set i x).getD j false=if i=j/\i<l.length then x else l.getD j false:=by
 simp only [List.getD_eq_getElem?_getD,List.getElem?_set]
 by_cases h:i=j
 · subst h
   by_cases h2:i<l.length
   · simp [h2]
   · simp [h2]
 · simp [h]
def ps (w:Nat):Nat:=w / 4*7+w % 4
structure FSt where
 X:List Int
 K:List Bool
 Q:List Nat
 m:Int
def fU (Gl:List Int) (t f:Nat):Nat:=(Z0Q (Z03 Gl t f)).toNat
def fJ (Gl:List Int) (t f i:Nat):Nat:=((Z0j (Z03 Gl t f)).getD i 0).toNat
def fV (Gl:List Int) (t f i:Nat):Nat:=4*fU Gl t f+fJ Gl t f i
def fW (Gl X:List Int) (t f i:Nat):Int:=arcV X t f i-gi X (7*(fU Gl t f:Int)+4+ty (fJ Gl t f i) (fJ Gl t f f))
structure FOk (n:Nat) (s:FSt) (B:Int):Prop where
 xl:s.X.length=7*n
 kl:s.K.length=4*n
 nd:s.Q.Nodup
 qk:∀ w ∈ s.Q,w<4*n/\s.K.getD w false=true
 qc:s.Q.length<=Zlf s.K
 xb:∀ j:Nat,-B<=s.X.getD j 0/\s.X.getD j 0<=B
 mb:-B<=s.m/\s.m<=0
 qd:∀ t k:Nat,k<3->0<=s.X.getD (7*t+4+k) 0/\s.X.getD (7*t+4+k) 0<=1000000
theorem FOk.mono {n:Nat} {s:FSt} {B B':Int} (h:FOk n s B) (hb:B<=B'):FOk n s B' :=
 ⟨h.xl,h.kl,h.nd,h.qk,h.qc,fun j=>by have:=h.xb j; omega,by have:=h.mb; omega,h.qd⟩
structure FGl (Gl:List Int) (n t f i:Nat):Prop where
 u:fU Gl t f<n
 uz:Z0Q (Z03 Gl t f)=(fU Gl t f:Nat)
 j:fJ Gl t f i<4
 jz:(Z0j (Z03 Gl t f)).getD i 0=(fJ Gl t f i:Nat)
 h:fJ Gl t f f<4
 hz:(Z0j (Z03 Gl t f)).getD f 0=(fJ Gl t f f:Nat)
 ne:fJ Gl t f i ≠ fJ Gl t f f
theorem FGl.of {Gl:List Int} {n t f i:Nat} (hok:Z0A Gl n=true) (hG:Gl.length=n*20) (ht:t<n) (hf:f<4) (hi:i<4) (hne:i ≠ f) (hg:¬ Z0Q (Z03 Gl t f)<0):FGl Gl n t f i:=by
 obtain ⟨h1,h2,h3,h4⟩:=Z2h (Z3Q hok ht hf) hg
 have hp:=Zao (Z1j (Z0h hG ht hf)) h2
 have r1:=Z3u hp hi
 have r2:=Z3u hp hf
 have r3:=ne24 hp hi hf hne
 exact ⟨by unfold fU; omega,by unfold fU; omega,by unfold fJ; omega,by unfold fJ; omega,by unfold fJ; omega,by unfold fJ; omega,by unfold fJ; omega⟩
theorem ZjO {Gl:List Int} {n t f i:Nat} {s:FSt} {B:Int} (h:FOk n s B) (ht:t<n) (hf:f<4) (hi:i<4) (hne:i ≠ f) (g:FGl Gl n t f i):-(B+1000000)<=fW Gl s.X t f i/\fW Gl s.X t f i<=B+1000000:=by
 unfold fW arcV
 have r1:=Zd4 (i:=(i:Int)) (f:=(f:Int)) qO qO qO qO qO
 have r2:=Zd4 (i:=(fJ Gl t f i:Int)) (f:=(fJ Gl t f f:Int)) qO (by have:=g.j; omega) qO (by have:=g.h; omega) (by have:=g.ne; omega)
 have q1:=h.qd t (ty i f).toNat qO
 have q2:=h.qd (fU Gl t f) (ty (fJ Gl t f i) (fJ Gl t f f)).toNat qO
 have q3:=h.xb (7*t+i)
 unfold gi
 rw [show (7*(t:Int)+i).toNat=7*t+i by omega,show (7*(t:Int)+4+ty i f).toNat=7*t+4+(ty i f).toNat by omega,
  show (7*(fU Gl t f:Int)+4+ty (fJ Gl t f i) (fJ Gl t f f)).toNat=7*fU Gl t f+4+(ty (fJ Gl t f i) (fJ Gl t f f)).toNat by omega]
 omega
theorem FOk.push {Gl:List Int} {n t f i:Nat} {s:FSt} {B:Int} (h:FOk n s B) (hB:0<=B) (ht:t<n) (hf:f<4) (hi:i<4) (hne:i ≠ f) (g:FGl Gl n t f i) (hk:s.K.getD (fV Gl t f i) false=false) :
 FOk n ⟨s.X.set (7*fU Gl t f+fJ Gl t f i) (fW Gl s.X t f i),s.K.set (fV Gl t f i) true,s.Q++[fV Gl t f i],min s.m (fW Gl s.X t f i)⟩ (B+1000000):=by
 have hv:fV Gl t f i<4*n:=by have:=g.u; have:=g.j; unfold fV; omega
 have hw:=ZjO h ht hf hi hne g
 have hj:=g.j
 refine ⟨by simp [h.xl],by simp [h.kl], ?_,fun w hw=>?_, ?_,fun j=>?_, ?_,fun u k hk=>?_⟩
 · rw [List.nodup_append]
   refine ⟨h.nd,by simp,fun a ha b hb=>?_⟩
   rw [List.mem_singleton] at hb
   subst hb
   rintro rfl
   have:=(h.qk _ ha).2
   rw [hk] at this; cases this
 · rw [Zh0]
   rcases List.mem_append.1 hw with h1 | h1
   · refine ⟨(h.qk w h1).1, ?_⟩
     split
     · rfl
     · exact (h.qk w h1).2
   · rw [List.mem_singleton] at h1
     subst h1
     exact ⟨hv,by rw [if_pos ⟨rfl,by rw [h.kl]; exact hv⟩]⟩
 · have:=h.qc
   rw [Zer (by rw [h.kl]; exact hv) hk]; simp; omega
 · rw [Z17]
   have:=h.xb j
   split <;> omega
 · have:=h.mb
   simp only
   omega
 · rw [Z17,if_neg qO]
   exact h.qd u k hk
end Go.Ab

namespace Go.Ab
open Go
theorem Z1u {A B:List Int} {m:Nat} (hA:A.length=m) (hB:B.length=m) (h:∀ k,k<m->A.getD k 0=B.getD k 0):A=B:=by
 refine List.ext_getElem qO fun j a b=>?_
 have:=h j qO
 simpa [List.getD_eq_getElem?_getD,List.getElem?_eq_getElem a,List.getElem?_eq_getElem b] using this
def Z3J (C:List Int) (i:Nat):Nat:=(Z1Q C i).length
theorem ZbJ (C:List Int) (i:Nat):Z3J C (i+1)=Z3J C i+if Z0a C i=i then 1 else 0:=by
 unfold Z3J
 rw [Z7E,List.length_append]
 split <;> rfl
theorem Zay (C:List Int) (i:Nat):Z3J C i<=i:=Zcu C i
def Zal (C:List Int) (m:Nat):List Int:=(List.range m).map fun k=>((Z3J C (Z0a C k):Nat):Int)
theorem Z3w (C:List Int) (m:Nat):(Zal C m).length=m:=by simp [Zal]
theorem Z8i (C:List Int) {m k:Nat} (h:k<m):(Zal C m).getD k 0=(Z3J C (Z0a C k):Nat):=by simp [Zal,List.getD_eq_getElem?_getD,h]
def Z3v (C:List Int) (m i:Nat):List Int:=(List.range m).map fun k=>if k<i then ((Z3J C (Z0a C k):Nat):Int) else 0
theorem Z0N (C:List Int) (m i:Nat):(Z3v C m i).length=m:=by simp [Z3v]
theorem Z4U (C:List Int) {m k:Nat} (i:Nat) (h:k<m):(Z3v C m i).getD k 0=if k<i then ((Z3J C (Z0a C k):Nat):Int) else 0:=by simp [Z3v,List.getD_eq_getElem?_getD,h]
theorem ZgG (C:List Int) (m:Nat):Z3v C m 0=List.replicate m 0:=by
 refine Z1u (m:=m) (Z0N _ _ _) (by simp) fun k hk=>?_
 rw [Z4U C 0 hk,if_neg qO]
 simp [List.getD_eq_getElem?_getD,List.getElem?_replicate,hk]
theorem Zid (C:List Int) (m:Nat):Z3v C m m=Zal C m:=by
 refine Z1u (m:=m) (Z0N _ _ _) (Z3w _ _) fun k hk=>?_
 rw [Z4U C m hk,if_pos hk,Z8i C hk]
end Go.Ab

namespace Go.Ab
open Go
def jn:List (Nat × Nat)->List Int->List Int
 | [],L=>L
 | p::D,L=>jn D (Z1o L p.1 p.2)
theorem Z8s:∀ (D E:List (Nat × Nat)) (L:List Int),jn (D++E) L=jn E (jn D L)
 | [],E,L=>rfl
 | p::D,E,L=>by rw [List.cons_append,jn,jn,Z8s D E]
theorem ZgT {m:Nat}:∀ (D:List (Nat × Nat)) (L:List Int),Z3H L m->(∀ p,p ∈ D->p.1<m/\p.2<m) →
 Z3H (jn D L) m/\(∀ a b,a<m->b<m->Z0a L a=Z0a L b->Z0a (jn D L) a=Z0a (jn D L) b)/\(∀ p,p ∈ D->Z0a (jn D L) p.1=Z0a (jn D L) p.2)
 | [],L,hd,_=>⟨hd,fun a b _ _ e=>e,fun p h=>by cases h⟩
 | p::D,L,hd,hg=>by
  obtain ⟨g1,g2⟩:=hg p (by simp)
  obtain ⟨i1,i2,i3⟩:=ZgT D (Z1o L p.1 p.2) (Z3R hd g1 g2) (fun q hq=>hg q (by simp [hq]))
  refine ⟨i1,fun a b ha hb e=>i2 a b ha hb (ZgS hd g1 g2 ha hb e),fun q hq=>?_⟩
  rcases List.mem_cons.1 hq with rfl | hq
  · exact i2 _ _ g1 g2 (ZgR hd g1 g2)
  · exact i3 q hq
theorem Z8x {C:List Int}:∀ {m i x:Nat},(Z1Q C m)[i]? = some (x:Int)->Z3J C x=i
 | 0,i,x,h=>by simp [Z1Q] at h
 | m+1,i,x,h=>by
  rw [Z7E] at h
  rcases Nat.lt_or_ge i (Z1Q C m).length with q | q
  · rw [List.getElem?_append_left q] at h
    exact Z8x h
  · rw [List.getElem?_append_right q] at h
    by_cases e:Z0a C m=m
    · rw [if_pos e] at h
      rcases hz:i-(Z1Q C m).length with _ | z
      · rw [hz] at h
        have:(m:Int)=x:=by simpa using h
        obtain rfl:m=x:=by omega
        show (Z1Q C m).length=i
        omega
      · rw [hz] at h; simp at h
    · rw [if_neg e] at h; simp at h
end Go.Ab

namespace Go.Proofs.Ytdodippbpdechaa
open Go Go.Ab Go.Proofs
theorem Zil (k:IntKind) (a b:Int):Z4J max2 [.int k a,.int k b]=some (.int k (if a<b then b else a)):=by
 simp [Z4J,max2]
theorem Zij (k:IntKind) (a b:Int):Z4J min2 [.int k a,.int k b]=some (.int k (if b<a then b else a)):=by
 simp [Z4J,min2]
theorem Zda {h:FH} {b:Nat} {w v:Value} (hg:h.f b=some (.cells false none [w])) (hf:Z06 v=true):stN h 1 (.pointer (some ⟨b,0,none⟩)) (.agg #[v])=some (newB h b [v]):=by
 have hg':HeapC.get h b=some (.cells false none [w]):=hg
 simp [stN,Z2k,Value.cells,Z1Y,hg',hf,Z10]
 rfl
theorem Zh6 (h0:FH) (p b m c:Nat) (v2:Value) (df:List Nat) (hv:OkV c v2) (hp:p<256*c) (hb:b<256*c) (hne:p ≠ b) (hm:m<=1000000) (h1:h0.f p=some (.cells false none [.slice (some ⟨b,0,none⟩) m m])) :
 ∀ (k i:Nat) (X:List Int),i+k=m->X.length=m->(∀ j,j<i->X.getD j 0=j) →
 Ans (G (Z9y none) [v2,ptrTo p,.int .i64 m,.int .i64 i] (newB h0 b (ints X)) c df) fun r=>r=⟨.exit 0,[v2,ptrTo p,.int .i64 m,.int .i64 m],newB h0 b (ints (Z0G m)),c,df⟩:=by
 intro k
 induction k with
 | zero =>
  intro i X hi hX hf
  obtain rfl:i=m:=by omega
  have e:X=Z0G i:=by
   refine List.ext_getElem (by rw [hX]; simp [Z0G]) fun j h1 h2=>?_
   have:=hf j qO
   rw [List.getD_eq_getElem?_getD,List.getElem?_eq_getElem h1] at this
   simp only [Option.getD_some] at this
   rw [this]; simp [Z0G]
  rw [e]
  refine Ans.lpG rfl rfl (Z4s ..) ?_
  unfold Z3V
  have fx:=True.intro
  refine Ans.go ?_
  clear fx
  (have fx:=hv; refine Ans.ex0 ?_; clear fx)
  rfl
 | succ k ih =>
  intro i X hi hX hf
  have ll:ld1 (newB h0 b (ints X)) (.pointer (some ⟨p,0,none⟩))=some (.slice (some ⟨b,0,none⟩) m m):=by
   rw [ld1_newB_ne _ _ _ _ _ hne,Z05 ⟨false,none,h1⟩]; rfl
  have hs:stN (newB h0 b (ints X)) 1 (.pointer (some ⟨b,i,none⟩)) (.int .i64 i)=some (newB h0 b (ints (X.set i i))):=by
   rw [st1_int _ _ _ _ _ _ (by simp; omega),Z4n]
  refine Ans.lpG rfl rfl (Z4s ..) ?_
  unfold Z3V
  have fx:=ai ll hs
  refine Ans.go ?_
  clear fx
  (have fx:=ai hv (ai hp hb); refine Ans.nxB (B:=newB h0 b (ints (X.set i i))) ?_ ?_; exact (Z2n.both (Z1l.ints _ _) (Z2n.refl _ _) hb); clear fx)
  refine ih (i+1) (X.set i i) qO (by simp [hX]) (fun j hj=>?_)
  rw [Z17]
  by_cases e:i=j
  · rw [if_pos ⟨e,by omega⟩,e]
  · rw [if_neg (fun q=>e q.1)]; exact hf j qO
theorem Z4j (m:Nat) (h:FH) (c:Nat) (df:List Nat) (hm:m<=1000000) :
 Ans (G (.fn 66) [.int .i64 m] h c df) fun r=>r=⟨.ret,[.agg #[.slice (some ⟨256*(c+1)+1,0,none⟩) m m]],r.h,c+1+1+1+1,[]⟩/\Z0q c h r.h/\r.h.f (256*(c+1)+1)=some (.cells false none (ints (Z0G m))):=by
 refine Ans.call' (fun r e=>f66_go e) ?_
 unfold Zhd
 have mk:=Z8k 1 8 .i64 .i64 m qO qO
 obtain ⟨B,hB⟩:∃ B,256*(c+1)+1=B:=⟨_,rfl⟩
 obtain ⟨Q,hQ⟩:∃ Q,256*(c+1)+3=Q:=⟨_,rfl⟩
 rw [hB,hQ]
 have hbl:Z1d [(.slice none 0 0)] [(0,1,(.slice (some ⟨B,0,none⟩) m m))]=some (.agg #[.slice (some ⟨B,0,none⟩) m m]):=rfl
 have st1:stN (newB (newB (newB h (256*c) [(.slice none 0 0)]) B (ints (List.replicate m 0))) Q [(.slice none 0 0)]) 1 (.pointer (some ⟨Q,0,none⟩)) (.agg #[.slice (some ⟨B,0,none⟩) m m])=some (newB (newB (newB h (256*c) [(.slice none 0 0)]) B (ints (List.replicate m 0))) Q [.slice (some ⟨B,0,none⟩) m m]):=by
  rw [Zda (w:=.slice none 0 0) (by rw [Z01,if_pos rfl]) rfl,newB_newB]
 obtain ⟨h0,hh0⟩:∃ h0,h0=newB (newB h (256*c) [(.slice none 0 0)]) Q [.slice (some ⟨B,0,none⟩) m m]:=⟨_,rfl⟩
 have ec:newB (newB (newB h (256*c) [(.slice none 0 0)]) B (ints (List.replicate m 0))) Q [.slice (some ⟨B,0,none⟩) m m]=newB h0 B (ints (List.replicate m 0)):=by
  rw [hh0]
  apply FH.ext; intro j
  simp only [Z01]
  by_cases e1:j=Q <;> by_cases e2:j=B <;> simp [e1,e2] <;> omega
 rw [ec] at st1
 have hq:h0.f Q=some (.cells false none [.slice (some ⟨B,0,none⟩) m m]):=by rw [hh0,Z01,if_pos rfl]
 have hc':h0.f (256*c)=some (.cells false none [.slice none 0 0]):=by rw [hh0,Z01,if_neg qO,Z01,if_pos rfl]
 have hl:=fun v2 hv=>Ans.eq (Zh6 h0 Q B m (c+1+1+1) v2 [] hv qO qO qO hm hq m 0 (List.replicate m 0) qO (by simp) (fun j hj=>by omega))
 have hl:=hl (ptrTo (256*c)) (OkV.ptrTo qO)
 simp only [Int.ofNat_eq_natCast,Int.cast_ofNat_Int] at hl
 have ll:∀ X,ld1 (newB h0 B X) (.pointer (some ⟨Q,0,none⟩))=some (.slice (some ⟨B,0,none⟩) m m):=fun X=>by rw [ld1_newB_ne _ _ _ _ _ qO,Z05 ⟨false,none,hq⟩]; rfl
 have lN:∀ X,ldN (newB h0 B X) 1 (.pointer (some ⟨Q,0,none⟩))=some (.agg #[.slice (some ⟨B,0,none⟩) m m]):=fun X=>by rw [ldN_newB_ne _ _ _ _ _ _ qO,Z0O ⟨false,none,hq⟩]
 have hfin:=Zda (h:=newB h0 B (ints (Z0G m))) (b:=256*c) (w:=.slice none 0 0) (v:=.slice (some ⟨B,0,none⟩) m m) (by rw [Z01,if_neg qO,hc']) rfl
 obtain ⟨K,hK⟩:∃ K,newB (newB h0 B (ints (Z0G m))) (256*c) [.slice (some ⟨B,0,none⟩) m m]=K:=⟨_,rfl⟩
 rw [hK] at hfin
 have lK:ldN K 1 (.pointer (some ⟨256*c,0,none⟩))=some (.agg #[.slice (some ⟨B,0,none⟩) m m]):=Z0O ⟨false,none,by show K.f _=_; rw [← hK,Z01,if_pos rfl]⟩
 repeat' (first | ((with_reducible first | refine Ans.bz ?_ | refine Ans.r1 ?_ | refine Ans.pkT ?_ | refine Ans.pkF ?_); try dsimp only [v_zero,v_succ]) | (with_reducible first | refine Ans.btL ?_ | refine Ans.bfL ?_ | refine Ans.gyT ?_ | refine Ans.gyF ?_ | refine Ans.gyG ?_ | refine Ans.bb ?_ | refine Ans.bc ?_ | refine Ans.ba ?_) | ((with_reducible first | refine Ans.lsT ?_ ?_ | refine Ans.leT ?_ ?_ | refine Ans.grT ?_ ?_ | refine Ans.geT ?_ ?_ | refine Ans.eqT ?_ ?_ | refine Ans.neT ?_ ?_); (focus omega)) | ((with_reducible first | refine Ans.lsF ?_ ?_ | refine Ans.leF ?_ ?_ | refine Ans.grF ?_ ?_ | refine Ans.geF ?_ ?_ | refine Ans.eqF ?_ ?_ | refine Ans.neF ?_ ?_); (focus omega)) | (with_reducible first | refine Ans.lsS (fun _=>?_) (fun _=>?_) | refine Ans.leS (fun _=>?_) (fun _=>?_) | refine Ans.grS (fun _=>?_) (fun _=>?_) | refine Ans.geS (fun _=>?_) (fun _=>?_) | refine Ans.eqS (fun _=>?_) (fun _=>?_) | refine Ans.neS (fun _=>?_) (fun _=>?_)) | ((with_reducible first | refine Ans.addN ?_ ?_ | refine Ans.add ?_ ?_ | refine Ans.sub ?_ ?_ | refine Ans.mul ?_ ?_); (focus omega)) | ((with_reducible first | refine Ans.ct ?_ ?_); (focus (simp (disch:=(first | omega | with_reducible assumption | (simp <;> omega) | fail)) [mk,hbl,st1,ll,lN,hl,hfin,lK,-ldN_newB_same]; done))) | ((with_reducible first | refine Ans.cf ?_ ?_); (focus (simp (disch:=(first | omega | with_reducible assumption | (simp <;> omega) | fail)) [mk,hbl,st1,ll,lN,hl,hfin,lK,-ldN_newB_same]; done))) | (refine Ans.step (by simp (disch:=(first | omega | with_reducible assumption | (simp <;> omega) | fail)) [mk,hbl,st1,ll,lN,hl,hfin,lK,-ldN_newB_same,-List.getD_eq_getElem?_getD] <;> rfl) ?_; try dsimp only [v_zero,v_succ]) | fail)
 refine .done ⟨rfl, ?_, ?_⟩
 · intro b hb
   show K.f b=_
   rw [← hK,Z01,if_neg qO,Z01,if_neg qO,hh0,Z01,if_neg qO,Z01,if_neg qO]
 · show K.f B=_
   rw [← hK,Z01,if_neg qO,Z01,if_pos rfl]
structure Uo (h:FH) (cb o b m:Nat) (L:List Int):Prop where
 st:∃ cs,Z0d h cb cs/\cs[o]? = some (.slice (some ⟨b,0,none⟩) m m)
 up:h.f b=some (.cells false none (ints L))
 ne:cb ≠ b
 dn:Z3H L m
 le:m<=1000000
theorem Uo.ld {h:FH} {cb o b m:Nat} {L:List Int} (u:Uo h cb o b m L):ld1 h (.pointer (some ⟨cb,o,none⟩))=some (.slice (some ⟨b,0,none⟩) m m):=by
 obtain ⟨cs,h1,h2⟩:=u.st
 rw [Z05 h1,h2]
theorem Uo.rd {h:FH} {cb o b m:Nat} {L:List Int} (u:Uo h cb o b m L) {i:Nat} (hi:i<m):ld1 h (.pointer (some ⟨b,i,none⟩))=some (.int .i64 (L.getD i 0)):=by
 have:=u.dn.1
 rw [Z05 ⟨false,none,u.up⟩,ints_getD _ _ qO]
theorem Uo.keep {h h':FH} {cb o b m:Nat} {L:List Int} (u:Uo h cb o b m L) (h1:h'.f cb=h.f cb) (h2:h'.f b=h.f b):Uo h' cb o b m L:=by
 obtain ⟨⟨cs,⟨ro,op,e⟩,q⟩,a,b',d,f⟩:=u
 have e':h.f cb=some (.cells ro op cs):=e
 exact ⟨⟨cs,⟨ro,op,h1.trans e'⟩,q⟩,h2.trans a,b',d,f⟩
theorem Uo.upd {h:FH} {cb o b m:Nat} {L L':List Int} (u:Uo h cb o b m L) (hd:Z3H L' m):Uo (newB h b (ints L')) cb o b m L':=by
 obtain ⟨⟨cs,⟨ro,op,e⟩,q⟩,a,b',d,f⟩:=u
 have e':h.f cb=some (.cells ro op cs):=e
 exact ⟨⟨cs,⟨ro,op,by show (newB h b (ints L')).f cb=_; rw [Z01,if_neg b']; exact e'⟩,q⟩,by rw [Z01,if_pos rfl],b',hd,f⟩
theorem ZbB (h:FH) (b:Nat) (cs ds:List Value):newB (newB h b cs) b ds=newB h b ds:=by
 apply FH.ext; intro j
 rw [Z01,Z01,Z01]
 split <;> rfl
theorem Z9i {h:FH} {cb o b m:Nat} {L:List Int} (u:Uo h cb o b m L):newB h b (ints L)=h:=by
 apply FH.ext; intro j
 rw [Z01]
 split
 · rename_i e; rw [e,u.up]
 · rfl
theorem Zgr (cb o b m c:Nat) (h0:FH) (hcb:cb<256*c) (hb:b<256*c) (df:List Nat):∀ (k i:Nat) (L:List Int),i<k->i<m->Uo (newB h0 b (ints L)) cb o b m L →
 Ans (G (Z9x none) [.pointer (some ⟨cb,o,none⟩),.int .i64 i] (newB h0 b (ints L)) c df) fun r=>∃ L',Z3C L L' m/\r=⟨.exit 0,[.pointer (some ⟨cb,o,none⟩),.int .i64 (Z0a L i)],newB h0 b (ints L'),c,df⟩:=by
 intro k
 have op:OkV c (.pointer (some ⟨cb,o,none⟩)):=OkV.ptr hcb
 induction k with
 | zero=>intro i L h1; omega
 | succ k ih =>
  intro i L h1 hi u
  have l1:=u.ld
  have l2:=u.rd hi
  have d:=u.dn.2 i hi
  have hl:=u.dn.1
  refine Ans.lpG rfl rfl (Z66 ..) ?_
  unfold Z5e
  by_cases e:L.getD i 0=i
  · rw [Z0R e]
    rw [e] at l2
    obtain ⟨H,hH⟩:∃ H,newB h0 b (ints L)=H:=⟨_,rfl⟩
    rw [hH] at l1 l2 ⊢
    have fx:=ai l1 l2
    refine Ans.go ?_
    clear fx
    (have fx:=op; refine Ans.ex0 ?_; clear fx)
    exact ⟨L,Z3C.refl u.dn,by rw [hH]⟩
  · have hs:=Zf0 u.dn hi
    have hu:=ZjK u.dn hi e
    have u':Uo (newB h0 b (ints (Z7K L i))) cb o b m (Z7K L i):=by
     have:=u.upd hs.1
     rwa [ZbB] at this
    have hk:=ih (L.getD (L.getD i 0).toNat 0).toNat (Z7K L i) qO qO u'
    have m1:=u'.ld
    have m2:=u'.rd hi
    rw [Zaw u.dn hi,if_pos rfl] at m2
    have l3:=u.rd (i:=(L.getD i 0).toNat) qO
    have hw:stN (newB h0 b (ints L)) 1 (.pointer (some ⟨b,i,none⟩)) (.int .i64 (L.getD (L.getD i 0).toNat 0))=some (newB h0 b (ints (Z7K L i))):=by
     rw [st1_int _ _ _ _ _ _ (by simp; omega),Z4n]; rfl
    rw [hs.2 _ qO,hu.2.2] at hk
    obtain ⟨y,hy⟩:∃ y:Nat,L.getD (L.getD i 0).toNat 0=y:=⟨(L.getD (L.getD i 0).toNat 0).toNat,by omega⟩
    rw [hy] at hw l3 m2 hk
    rw [Int.toNat_natCast] at hk
    obtain ⟨x,hx⟩:∃ x:Nat,L.getD i 0=x:=⟨(L.getD i 0).toNat,by omega⟩
    rw [hx] at l2 l3 d e
    rw [Int.toNat_natCast] at l3
    have e':¬ (x:Int)=i:=e
    obtain ⟨H,hH⟩:∃ H,newB h0 b (ints L)=H:=⟨_,rfl⟩
    obtain ⟨H',hH'⟩:∃ H,newB h0 b (ints (Z7K L i))=H:=⟨_,rfl⟩
    have eB:H'=HeapC.set H b (.cells false none (ints (Z7K L i))):=by
     rw [← hH',← hH]
     apply FH.ext; intro j
     rw [Z01,Z0o,Z01]
     split <;> rfl
    have up:Z2n c H H':=by rw [eB]; exact Z2n.set hb (Z1l.ints _ _) (Z2n.refl _ _)
    rw [hH] at l1 l2 l3 hw ⊢
    rw [hH'] at hw m1 m2 hk
    have fx:=ai l1 (ai l2 (ai l3 (ai hw (ai m1 m2))))
    refine Ans.go ?_
    clear fx
    (have fx:=op; refine Ans.nxB (B:=H') ?_ ?_; exact (up); clear fx)
    refine hk.mono ?_
    rintro r ⟨L',s1,rfl⟩
    exact ⟨L',hs.trans s1,rfl⟩
theorem Zc5 (h:FH) (cb o b m c:Nat) (L:List Int) (u:Uo h cb o b m L) (hcb:cb<256*c) (hb:b<256*c) (i:Nat) (hi:i<m) (df:List Nat) :
 ∃ L',Z3C L L' m/\G (.fn 68) [.pointer (some ⟨cb,o,none⟩),.int .i64 i] h c df=some ⟨.ret,[.int .i64 (Z0a L i)],newB h b (ints L'),c,[]⟩:=by
 have u':Uo (newB h b (ints L)) cb o b m L:=u.upd u.dn
 obtain ⟨r,hr,L',s1,rfl⟩:=Zgr cb o b m (c+1) h qO qO [] (i+1) i L qO hi u'
 rw [Z9i u] at hr
 refine ⟨L',s1, ?_⟩
 have hS:Zfm G (.pointer (some ⟨cb,o,none⟩)) (.int .i64 i) h c=some ⟨.ret,[.int .i64 (Z0a L i)],newB h b (ints L'),c+1+1,[]⟩:=by
  refine Ans.eq ?_
  unfold Zfm
  have fx:=hr
  refine Ans.go ?_
  clear fx
  exact .done rfl
 rw [f68_go hS,ZbI (B:=newB h b (ints L')) ?_ ?_ ?_]
 · exact Z1l.cons (OkV.int _ _ _) (Z1l.nil c)
 · exact fun _ _=>rfl
 · exact Z2n.old hb (Z1l.ints _ _) (Z2n.refl _ _)
theorem Zas (h:FH) (cb o b m c:Nat) (L:List Int) (u:Uo h cb o b m L) (hcb:cb<256*c) (hb:b<256*c) (i j:Nat) (hi:i<m) (hj:j<m) (df:List Nat) :
 ∃ L',Z3C (Z1o L i j) L' m/\G (.fn 67) [.pointer (some ⟨cb,o,none⟩),.int .i64 i,.int .i64 j] h c df=some ⟨.ret,[.tuple #[]],newB h b (ints L'),c,[]⟩:=by
 obtain ⟨L1,s1,g1⟩:=Zc5 h cb o b m (c+1) L u qO qO i hi []
 have u1:Uo (newB h b (ints L1)) cb o b m L1:=u.upd s1.1
 obtain ⟨L2,s2,g2⟩:=Zc5 (newB h b (ints L1)) cb o b m (c+1) L1 u1 qO qO j hj []
 rw [ZbB] at g2
 rw [s1.2 j hj] at g2
 have s12:=s1.trans s2
 have u2:Uo (newB h b (ints L2)) cb o b m L2:=u.upd s2.1
 have c1:=Z0b g1
 have c2:=Z0b g2
 have r1:=Z2d u.dn hi
 have r2:=Z2d u.dn hj
 have l1:=u2.ld
 have e1:(if ((Z0a L i:Nat):Int)<(Z0a L j:Nat) then ((Z0a L j:Nat):Int) else (Z0a L i:Nat))=((max (Z0a L i) (Z0a L j):Nat):Int):=by split <;> omega
 have e2:(if ((Z0a L j:Nat):Int)<(Z0a L i:Nat) then ((Z0a L j:Nat):Int) else (Z0a L i:Nat))=((min (Z0a L i) (Z0a L j):Nat):Int):=by split <;> omega
 have m1:=Zil .i64 (Z0a L i) (Z0a L j)
 have m2:=Zij .i64 (Z0a L i) (Z0a L j)
 rw [e1] at m1
 rw [e2] at m2
 clear e1 e2
 have hl:=s2.1.1
 have hj2:Z1o L2 i j=L2.set (max (Z0a L i) (Z0a L j)) (min (Z0a L i) (Z0a L j):Nat):=by
  unfold Z1o
  rw [s12.2 i hi,s12.2 j hj]
 have hw:stN (newB h b (ints L2)) 1 (.pointer (some ⟨b,max (Z0a L i) (Z0a L j),none⟩)) (.int .i64 (min (Z0a L i) (Z0a L j):Nat))=some (newB h b (ints (Z1o L2 i j))):=by
  rw [st1_int _ _ _ _ _ _ (by simp; omega),Z4n,hj2]
 refine ⟨Z1o L2 i j,Z3C.join u.dn s12 hi hj, ?_⟩
 obtain ⟨M,hM⟩:∃ M,max (Z0a L i) (Z0a L j)=M:=⟨_,rfl⟩
 obtain ⟨N,hN⟩:∃ N,min (Z0a L i) (Z0a L j)=N:=⟨_,rfl⟩
 rw [hM] at m1 hw
 rw [hN] at m2 hw
 obtain ⟨K1,hK1⟩:∃ K,newB h b (ints L1)=K:=⟨_,rfl⟩
 obtain ⟨K2,hK2⟩:∃ K,newB h b (ints L2)=K:=⟨_,rfl⟩
 obtain ⟨K3,hK3⟩:∃ K,newB h b (ints (Z1o L2 i j))=K:=⟨_,rfl⟩
 rw [hK1] at c1 c2
 rw [hK2] at c2 l1 hw
 rw [hK3] at hw
 have hML:(M:Int)<m:=by omega
 have hS:Zfn G (.pointer (some ⟨cb,o,none⟩)) (.int .i64 i) (.int .i64 j) h c=some ⟨.ret,[.tuple #[]],K3,c+1+1,[]⟩:=by
  refine Ans.eq ?_
  unfold Zfn
  have fx:=ai c1 (ai c2 (ai l1 (ai m1 (ai m2 hw))))
  refine Ans.go ?_
  clear fx
  exact .done rfl
 rw [hK3,f67_go hS,ZbI (B:=K3) ?_ ?_ ?_]
 · exact Z1l.cons ⟨.tuple #[],.tuple rfl (fun k x y h=>by simp at h)⟩ (Z1l.nil c)
 · exact fun _ _=>rfl
 · rw [← hK3]; exact Z2n.old hb (Z1l.ints _ _) (Z2n.refl _ _)
end Go.Proofs.Ytdodippbpdechaa

namespace Go.Ab
open Go
def edL:List Int:=[0,1,0,2,0,3,1,2,1,3,2,3]
def Zm4 (a b i j:Int):Bool:=decide (a=i/\b=j) || decide (a=j/\b=i)
def edI (i j:Int):Nat->Nat->Int
 | 0,_=>-1
 | k+1,m=>if Zm4 (edL.getD (2*m) 0) (edL.getD (2*m+1) 0) i j then (m:Int) else edI i j k (m+1)
def edN (i j:Int):Int:=edI i j 6 0
theorem ZbM {i j:Int} (h1:0<=i) (h2:i<4) (h3:0<=j) (h4:j<4) (hne:i ≠ j):0<=edN i j/\edN i j<6:=by
 have:((List.range 4).all fun i=>(List.range 4).all fun j=>decide (i=j) || (decide (0<=edN (i:Nat) (j:Nat)) && decide (edN (i:Nat) (j:Nat)<6)))=true:=by decide
 rw [List.all_eq_true] at this
 have h5:=this i.toNat (by simp; omega)
 rw [List.all_eq_true] at h5
 have h6:=h5 j.toNat (by simp; omega)
 have e1:((i.toNat:Nat):Int)=i:=by omega
 have e2:((j.toNat:Nat):Int)=j:=by omega
 rw [e1,e2] at h6
 have h7:¬ i.toNat=j.toNat:=by omega
 simpa [h7] using h6
def upL {α:Type} (g:Nat->List α):Nat->List α
 | 0=>[]
 | n+1=>upL g n++g n
theorem Z5K {α:Type} {g:Nat->List α} {x:α}:∀ {n:Nat},x ∈ upL g n ↔ ∃ i,i<n/\x ∈ g i
 | 0=>by simp [upL]
 | n+1=>by
  rw [upL,List.mem_append,Z5K (n:=n)]
  constructor
  · rintro (⟨i,h1,h2⟩ | h)
    · exact ⟨i,by omega,h2⟩
    · exact ⟨n,by omega,h⟩
  · rintro ⟨i,h1,h2⟩
    by_cases e:i=n
    · subst e; exact .inr h2
    · exact .inl ⟨i,by omega,h2⟩
abbrev Prs:=List (Nat × Nat)
def eNo (t i j:Nat):Nat:=6*t+(edN i j).toNat
def vI (Gl:List Int) (t f i:Nat):Prs:=if i=f then [] else [(4*t+i,4*fU Gl t f+fJ Gl t f i)]
def dJ (Gl:List Int) (t f i j:Nat):Prs:=if j ≠ f/\j ≠ i then [(16*t+4*i+j,16*fU Gl t f+4*fJ Gl t f i+fJ Gl t f j)] else []
def eJ (Gl:List Int) (t f i j:Nat):Prs:=if j ≠ f/\j ≠ i then [(eNo t i j,eNo (fU Gl t f) (fJ Gl t f i) (fJ Gl t f j))] else []
def dI (Gl:List Int) (t f i:Nat):Prs:=if i=f then [] else upL (dJ Gl t f i) 4
def eI (Gl:List Int) (t f i:Nat):Prs:=if i=f then [] else upL (eJ Gl t f i) 4
def tF (Gl:List Int) (t f:Nat):Prs:=if Z0Q (Z03 Gl t f)<0 then [] else [(4*t+f,4*fU Gl t f+fJ Gl t f f)]
def vF (Gl:List Int) (t f:Nat):Prs:=if Z0Q (Z03 Gl t f)<0 then [] else upL (vI Gl t f) 4
def dF (Gl:List Int) (t f:Nat):Prs:=if Z0Q (Z03 Gl t f)<0 then [] else upL (dI Gl t f) 4
def eF (Gl:List Int) (t f:Nat):Prs:=if Z0Q (Z03 Gl t f)<0 then [] else upL (eI Gl t f) 4
def tT (Gl:List Int) (t:Nat):Prs:=upL (tF Gl t) 4
def vT (Gl:List Int) (t:Nat):Prs:=upL (vF Gl t) 4
def dT (Gl:List Int) (t:Nat):Prs:=upL (dF Gl t) 4
def eT (Gl:List Int) (t:Nat):Prs:=upL (eF Gl t) 4
def tP (Gl:List Int) (n:Nat):Prs:=upL (tT Gl) n
def vP (Gl:List Int) (n:Nat):Prs:=upL (vT Gl) n
def dP (Gl:List Int) (n:Nat):Prs:=upL (dT Gl) n
def eP (Gl:List Int) (n:Nat):Prs:=upL (eT Gl) n
def vCs (Gl:List Int) (n:Nat):List Int:=jn (vP Gl n) (Z0G (4*n))
def dCs (Gl:List Int) (n:Nat):List Int:=jn (dP Gl n) (Z0G (16*n))
def eCs (Gl:List Int) (n:Nat):List Int:=jn (eP Gl n) (Z0G (6*n))
def tCs (Gl:List Int) (n:Nat):List Int:=jn (tP Gl n) (Z0G (4*n))
def Jn (D:Prs) (m:Nat) (L:List Int):Prop:=Z3C (jn D (Z0G m)) L m/\Z3H (jn D (Z0G m)) m
theorem Jn.nil (m:Nat):Jn [] m (Z0G m):=⟨Z3C.refl (Z4g m),Z4g m⟩
theorem Jn.snoc {D:Prs} {m:Nat} {L L':List Int} {i j:Nat} (h:Jn D m L) (hi:i<m) (hj:j<m) (s:Z3C (Z1o L i j) L' m):Jn (D++[(i,j)]) m L':=by
 have e:jn (D++[(i,j)]) (Z0G m)=Z1o (jn D (Z0G m)) i j:=by rw [Z8s]; rfl
 have hd:=Z3R h.2 hi hj
 refine ⟨?_,by rw [e]; exact hd⟩
 rw [e]
 exact (Z3C.join h.2 h.1 hi hj).trans s
theorem Jn.dn {D:Prs} {m:Nat} {L:List Int} (h:Jn D m L):Z3H L m:=h.1.1
end Go.Ab

namespace Go.Proofs.Ytdodippbpdechaa
open Go Go.Ab Go.Proofs
theorem Zna (a b:Int):Z1d [(.int .i64 0),(.int .i64 0)] [(0,1,.int .i64 a),(1,1,.int .i64 b)]=some (av [a,b]):=(rfl)
theorem ZkI (a0 a1 b0 b1:Int):Z0F P .eql 106 (av [a0,a1]) (av [b0,b1])=(cond (a0 == b0) (cond (a1 == b1) (some true) (some false)) (some false)).bind fun b=>some (.bool b):=by kernel_rfl
theorem Zhu (a0 a1 b0 b1:Int):Z00 P .eql 106 (av [a0,a1]) (av [b0,b1])=some (.bool (decide (a0=b0/\a1=b1))):=by
 rw [Z0s,ZkI]
 by_cases h0:a0=b0 <;> by_cases h1:a1=b1 <;> simp [h0,h1,Bool.cond_eq_ite]
theorem Zi6 (h:FH) (c:Nat) (df:List Nat):G (.fn 54) [] h c df=some ⟨.ret,[av edL],h,c,[]⟩:=by
 refine Z3E (fun r e=>f54_go e) (by simp) ?_
 unfold Zhj
 have z1:Z1d [(.int .i64 0),(.int .i64 0),(.int .i64 0),(.int .i64 0),(.int .i64 0),(.int .i64 0),(.int .i64 0),(.int .i64 0),(.int .i64 0),(.int .i64 0),(.int .i64 0),(.int .i64 0)] [(0,2,av [0,1]),(2,2,av [0,2]),(4,2,av [0,3]),(6,2,av [1,2]),(8,2,av [1,3]),(10,2,av [2,3])]=some (av edL):=rfl
 have z2:∀ (H:FH) (b:Nat) (cs:List Value),cs.length=12->stN (newB H b cs) 12 (.pointer (some ⟨b,0,none⟩)) (av edL)=some (newB H b (ints edL)):=fun H b cs hc=>stN_all H b 12 cs edL rfl hc
 have z3:∀ (H:FH) (b:Nat),ldN (newB H b (ints edL)) 12 (.pointer (some ⟨b,0,none⟩))=some (av edL):=fun H b=>by rw [ldN_newB_same _ _ _ _ _ (by simp [edL])]; rfl
 have fx:=ai Zna (ai z1 (ai z2 z3))
 refine Ans.go ?_
 clear fx
 (have fx:=True.intro; exact Ans.pu)
theorem ZcS (h:FH) (c:Nat):callF G 54 [] h c=some (av edL,h,c):=Z0b (Zi6 h c [])
theorem Zn1 {m:Nat} (hm:m<6):(edL.drop (m*2)).take 2=[edL.getD (2*m) 0,edL.getD (2*m+1) 0]:=by
 have:m=0 ∨ m=1 ∨ m=2 ∨ m=3 ∨ m=4 ∨ m=5:=by omega
 rcases this with rfl | rfl | rfl | rfl | rfl | rfl <;> rfl
theorem Zhw (i j:Int) (z:Value) (h:FH) (c:Nat) (df:List Nat) (hz:OkV c z) :
 ∀ (k m:Nat),m+k=6->Ans (G (Z9T none) [.int .i64 i,.int .i64 j,z,av edL,.int .i64 m] h c df) fun r=>r.h=h/\r.c=c/\r.df=df ∧
  ((r.e = .exit 0/\edI i j k m = -1) ∨ (r.e = .ret/\r.v 2 = .int .i64 (edI i j k m))):=by
 intro k
 have o1:OkV c (av edL):=OkV.av _ _
 induction k with
 | zero =>
  intro m hm
  obtain rfl:m=6:=by omega
  refine Ans.lpG rfl rfl (Z4D ..) ?_
  unfold Z48
  have fx:=True.intro
  refine Ans.go ?_
  clear fx
  (have fx:=ai o1 hz; refine Ans.ex0 ?_; clear fx)
  exact ⟨rfl,rfl,rfl,.inl ⟨rfl,rfl⟩⟩
 | succ k ih =>
  intro m hm
  have x1:=Z6D edL 6 2 .i64 (m:Int) qO qO rfl
  rw [Int.toNat_natCast,Zn1 qO] at x1
  have hm6:(m:Int)<6:=by omega
  rw [edI]
  obtain ⟨A,hA⟩:∃ A,edL.getD (2*m) 0=A:=⟨_,rfl⟩
  obtain ⟨B,hB⟩:∃ B,edL.getD (2*m+1) 0=B:=⟨_,rfl⟩
  rw [hA,hB] at x1 ⊢
  have hst:∀ b,stN (newB h b [.int .i64 0,.int .i64 0]) 2 (.pointer (some ⟨b,0,none⟩)) (av [A,B])=some (newB h b (ints [A,B])):=fun b=>stN_all _ _ 2 _ _ rfl rfl
  have hld:∀ b,ldN (newB h b (ints [A,B])) 2 (.pointer (some ⟨b,0,none⟩))=some (av [A,B]):=fun b=>by rw [ldN_newB_same _ _ _ _ _ (by simp)]; rfl
  have e1:=Zhu A B i j
  have e2:=Zhu A B j i
  have b1:=Zna i j
  have b2:=Zna j i
  refine Ans.lpG rfl rfl (Z4D ..) ?_
  unfold Z48
  by_cases q1:A=i/\B=j
  · have q:Zm4 A B i j=true:=by simp [Zm4,q1]
    rw [decide_eq_true q1] at e1
    rw [q,if_pos rfl]
    have fx:=ai x1 (ai hst (ai hld (ai e1 b1)))
    refine Ans.go ?_
    clear fx
    (have fx:=ai o1 hz; refine Ans.rt0 ?_; clear fx)
    exact ⟨rfl,rfl,rfl,.inr ⟨rfl,rfl⟩⟩
  · rw [decide_eq_false q1] at e1
    by_cases q2:A=j/\B=i
    · have q:Zm4 A B i j=true:=by simp [Zm4,q2]
      rw [decide_eq_true q2] at e2
      rw [q,if_pos rfl]
      have fx:=ai x1 (ai hst (ai hld (ai e1 (ai b1 (ai e2 b2)))))
      refine Ans.go ?_
      clear fx
      (have fx:=ai o1 hz; refine Ans.rt0 ?_; clear fx)
      exact ⟨rfl,rfl,rfl,.inr ⟨rfl,rfl⟩⟩
    · have q:Zm4 A B i j=false:=by rw [Zm4,decide_eq_false q1,decide_eq_false q2]; rfl
      rw [decide_eq_false q2] at e2
      rw [q,if_neg (by simp)]
      have fx:=ai x1 (ai hst (ai hld (ai e1 (ai b1 (ai e2 b2)))))
      refine Ans.go ?_
      clear fx
      (have fx:=ai o1 hz; refine Ans.nx0 ?_; clear fx)
      exact ih (m+1) qO
theorem Zn0 (i j:Int) (h:FH) (c:Nat) (df:List Nat):G (.fn 27) [.int .i64 i,.int .i64 j] h c df=some ⟨.ret,[.int .i64 (edN i j)],h,c,[]⟩:=by
 refine Z3E (fun r e=>f27_go e) (by simp) ?_
 unfold Zhp
 have c1:=ZcS h
 obtain ⟨⟨re,rv,rh,rc,rd⟩,hr,r1,r2,r3,r4⟩:=Zhw i j (.int .i64 0) h (c+1+1) [] (by simp) 6 0 qO
 simp only at r1 r2 r3 r4
 subst r1 r2 r3
 simp only [Int.ofNat_eq_natCast,Int.cast_ofNat_Int] at hr
 rcases r4 with ⟨rfl,r5⟩ | ⟨rfl,r5⟩
 · have fx:=ai c1 hr
   refine Ans.go ?_
   clear fx
   exact Ans.pure (by rw [edN,r5]) (Z0q.refl _ _)
 · have fx:=ai c1 hr
   refine Ans.go ?_
   clear fx
   exact Ans.pure r5 (Z0q.refl _ _)
theorem Za0 (i j:Int) (h:FH) (c:Nat):callF G 27 [.int .i64 i,.int .i64 j] h c=some (.int .i64 (edN i j),h,c):=Z0b (Zn0 i j h c [])

theorem ZhL (t:TypeId) (a b:Int):Z00 P .or t (.int .i64 a) (.int .i64 b)=some (.int .i64 (orB a b)):=by rw [Z0s]; simp [Z0F,Z1F,orB]; rfl
theorem ZcX (t:TypeId) (x:Int) (h:0<=x):Z00 P .shl t (.int .i64 1) (.int .i64 x)=some (.int .i64 (shB x)):=by
 rw [Z0s]
 have:¬ x<0:=by omega
 simp [Z0F,Z57,shB,this]; rfl
theorem ZeB (p:List Int) (hp:p.length=4) (h:FH) (c:Nat) (df:List Nat):∀ (k i:Nat) (m:Int),i+k=4 →
 Ans (G (Z40 none) [.bool false,.int .i64 m,av p,.int .i64 i] h c df) fun r=>r.h=h/\r.c=c/\r.df=df ∧
  (match Z5S (p.drop i) m with
   | some m'=>r.e = .exit 0/\r.v 1 = .int .i64 m'
   | none=>r.e = .ret/\r.v 0 = .bool false):=by
 intro k
 induction k with
 | zero =>
  intro i m hi
  obtain rfl:i=4:=by omega
  rw [List.drop_of_length_le qO]
  have e1:¬ ((4:Nat):Int)<4:=by omega
  refine .intro (Z9F (q:=⟨.exit 0,[.bool false,.int .i64 m,av p,.int .i64 (4:Nat)],h,c+1,df⟩) (by unfold Z1J; simp [e1]) (by simp)) ?_
  rw [Z1f (by simp)]
  simp [Z5S]
 | succ k ih =>
  intro i m hi
  have hlt:i<p.length:=by omega
  have e0:(i:Int)<4:=by omega
  rw [List.drop_eq_getElem_cons hlt]
  have hx:p.getD i 0=p[i]:=by simp [List.getD,List.getElem?_eq_getElem hlt]
  by_cases hc:p[i]<0 ∨ 3<p[i]
  · simp only [Z5S,hc,if_true]
    refine .intro (Z9F (q:=⟨.ret,[.bool false,.int .i64 m,av p,.int .i64 i],h,_,df⟩) (by
     unfold Z1J
     by_cases h1:p[i]<0
     · simp (disch:=omega) [e0,ZdY,hx,h1,-List.getD_eq_getElem?_getD]; rfl
     · have h2:3<p[i]:=by omega
       simp (disch:=omega) [e0,ZdY,hx,h1,h2,-List.getD_eq_getElem?_getD] <;> rfl) (by simp)) ?_
    rw [Z1f (by simp)]
    simp
  · have h1:¬ p[i]<0:=by omega
    have h2:¬ 3<p[i]:=by omega
    simp only [Z5S,hc,if_false]
    obtain ⟨r,hr,hq⟩:=ih (i+1) (orB m (shB p[i])) qO
    refine .intro (Zfy (q:=⟨.normal,[.bool false,.int .i64 (orB m (shB p[i])),av p,.int .i64 (i+1:Nat)],h,c+1+1+1+1+1,df⟩) (by
     unfold Z1J
     simp (disch:=omega) [e0,ZdY,hx,h1,h2,ZcX _ p[i] qO,ZhL,-List.getD_eq_getElem?_getD]) rfl ?_) hq
    rw [Z1f (by simp)]
    exact hr
theorem ZhQ (p:List Int) (hp:p.length=4) (h:FH) (c:Nat) (df:List Nat) :
 G (.fn 56) [av p] h c df=some ⟨.ret,[.bool (Z0y p)],h,c,[]⟩:=by
 refine Z4R (fun r e=>f56_go e) (by simp) ?_
 obtain ⟨⟨re,rv,rh,rc,rd⟩,hr,h1,h2,h3,h4⟩:=ZeB p hp (newB h (256*c) (ints p)) (c+1+1+1) [] 4 0 0 rfl
 simp only at h1 h2 h3
 subst h1 h2 h3
 unfold Zhi
 simp only [List.drop_zero] at h4
 have e1:p.take 4=p:=List.take_of_length_le qO
 simp only [Int.ofNat_eq_natCast,Int.cast_ofNat_Int] at hr
 unfold Z0y
 cases hv:Z5S p 0 with
 | none =>
  rw [hv] at h4
  obtain ⟨rfl,h5⟩:=h4
  simp [hr,e1,hp,h5]
 | some m =>
  rw [hv] at h4
  obtain ⟨rfl,h5⟩:=h4
  simp [hr,e1,hp,h5]
theorem ZbF (p:List Int) (hp:p.length=4) (hr:InR p) (h:FH) (b1 b3 c:Nat) (hb1:b1<256*c) (hb:b3<256*c) (df:List Nat):∀ (k i:Nat) (out:List Int),i+k=4->out.length=4 →
 G (Z3W none) [ptrTo b1,ptrTo b3,av p,.int .i64 i] (newB h b3 (ints out)) c df =
  some ⟨.exit 0,[ptrTo b1,ptrTo b3,av p,.int .i64 4],newB h b3 (ints (ZeY (p.drop i) i out)),c,df⟩:=by
 intro k
 induction k with
 | zero =>
  intro i out hi ho
  obtain rfl:i=4:=by omega
  rw [List.drop_of_length_le qO]
  refine (Zfr (q:=⟨.exit 0,[ptrTo b1,ptrTo b3,av p,.int .i64 4],newB h b3 (ints out),c+1,df⟩) (by unfold Z21; simp) (by simp)).trans ?_
  rw [Z1f (by simp [hb1,hb])]
  rfl
 | succ k ih =>
  intro i out hi ho
  have hlt:i<p.length:=by omega
  have e0:(i:Int)<4:=by omega
  rw [List.drop_eq_getElem_cons hlt]
  have hx:p.getD i 0=p[i]:=by simp [List.getD,List.getElem?_eq_getElem hlt]
  have hxr:=hr p[i] (List.getElem_mem hlt)
  refine Zfs (q:=⟨.normal,[ptrTo b1,ptrTo b3,av p,.int .i64 (i+1:Nat)],newB h b3 (ints (out.set p[i].toNat i)),c+1+1+1+1,df⟩) ?_ rfl ?_
  · unfold Z21
    simp (disch:=(first | omega | (simp <;> omega) | fail)) [e0,ZdY,hx,hxr,ho,-List.getD_eq_getElem?_getD]
  · rw [Zax hb (by simp [hb1,hb]) (by simp)]
    exact ih (i+1) _ qO (by simpa using ho)
theorem ZeX (p:List Int) (hp:p.length=4) (hr:InR p) (h:FH) (c:Nat) (df:List Nat) :
 G (.fn 64) [av p] h c df=some ⟨.ret,[av (inv p)],h,c,[]⟩:=by
 refine Z4R (fun r e=>f64_go e) (by simp) ?_
 have e1:p.take 4=p:=List.take_of_length_le qO
 have hl:=ZbF p hp hr (newB (newB h (256*c) (ints p)) (256*c+1) (ints [0,0,0,0])) (256*c+1) (256*(c+1)) (c+1+1+1) qO qO [] 4 0 [0,0,0,0] rfl rfl
 have hl2:(ZeY p 0 [0,0,0,0]).length=4:=Z3y p 0 [0,0,0,0]
 have e2:(ZeY p 0 [0,0,0,0]).take 4=ZeY p 0 [0,0,0,0]:=List.take_of_length_le qO
 unfold Zhe
 simp only [ZbG,Ze1,Int.ofNat_eq_natCast,Int.cast_ofNat_Int,List.drop_zero] at hl
 simp (disch:=(first | omega | (simp <;> omega) | fail)) [hl,e1,e2,hp,hl2,inv]
end Go.Proofs.Ytdodippbpdechaa
