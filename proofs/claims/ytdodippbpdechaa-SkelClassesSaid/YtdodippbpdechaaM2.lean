/- Parts of a proof: AbApp AbDo. Conditions: none. -/
import Derived.Test.YtdodippbpdechaaM1
set_option linter.all false
set_option maxRecDepth 100000
set_option maxHeartbeats 4000000
namespace Go.Ab
open Go
variable {H:Type} [HeapC H] {P:Program} {μ:Mu} {A:H} {w:World}
theorem ZdJ (need:Nat) (h256:256<=need):∀ (r c:Nat),c<=2*need->Builtin.growBy need r c<=2*need
 | 0,c,h=>h
 | r+1,c,h=>by
  unfold Builtin.growBy
  split
  · exact h
  · exact ZdJ need h256 r _ qO
theorem Zb0 {need c:Nat} (h:c<need):Builtin.nextslicecap need c<=2*need:=by
 unfold Builtin.nextslicecap
 split
 · omega
 · split
   · omega
   · exact ZdJ need qO 4 c qO
def SrcR (P:Program) (μ:Mu) (w:World) (xs:List Value) (ap:Sem (Array Value)):Prop :=
 ∃ ys:List Value,VRs μ xs ys /\ ∀ w':World,w'.heap=w.heap->ap.run P w' = .ok ys.toArray w'
theorem cell?_heap {w w':World} (h:w'.heap=w.heap) (a:Addr):w'.cell? a=w.cell? a:=by simp [World.cell?,h]
theorem Z6l (hR:R μ A w) {sz:Nat} {x x':Value} {cs:List Value} {n:Nat} (e:Z0M A sz x=some (cs,n)) (hx:VR μ x x') :
 (Builtin.lenOf x').run P w = .ok n w/\SrcR P μ w cs (Builtin.firstCells sz n x'):=by
 unfold Z0M at e
 split at e
 · obtain ⟨hn,e⟩:=Z06 e
   cases e
   have hn:=qJ hn
   subst hn
   cases hx
   exact ⟨rfl,[],VRs.nil μ,fun w' _=>rfl⟩
 · rename_i i o n0 c
   simp only [qA] at e
   obtain ⟨cs0,hcs,e⟩:=e
   cases e
   cases hx with
   | @sl _ _ _ _ c' m hm hc hz =>
    obtain ⟨hl,cs',h1,h2⟩:=Z1M hR hm hcs
    refine ⟨rfl,cs',h1,fun w' hw'=>?_⟩
    simp only [Builtin.firstCells]
    exact Z2J (P:=P) (w:=w') (cs:=cs') (by rw [← h1.1]; exact hl) (fun j v hv=>by rw [Z6n,cell?_heap hw']; exact h2 j v hv)
   | @slE _ _ x m hm =>
    obtain ⟨hl,_⟩:=Z1M hR hm hcs
    simp at hl
    subst hl
    exact ⟨rfl,[],VRs.nil μ,fun w' hw'=>by simp [Builtin.firstCells,loadCells,loadCellsFrom]⟩
 · rename_i s
   obtain ⟨hs,e⟩:=Z06 e
   cases e
   obtain rfl:=hx.str_left
   refine ⟨rfl,s.data.toList.map fun b=>.int .u8 b.toNat, ?_,fun w' _=>?_⟩
   rotate_left
   · simp only [Builtin.firstCells,jB]
     congr 1
     apply Array.ext'
     simp
   · exact VRs.plain (List.all_eq_true.2 (by intro x hx; simp only [List.mem_map] at hx; obtain ⟨b,_,rfl⟩:=hx; rfl))
 · cases e
theorem Z5E (z:Array Value) (n:Nat):Builtin.zeroCells z n=(Z1s z.toList n).toArray:=by
 apply Array.ext'
 simpa [Builtin.zeroCells] using Z6p z n
theorem ZkS {s':Value} {sLen cap' n size by':Nat} {el:TypeId} {zv:Value} (hz:Z7I P el=some zv) (hplain:plainL zv=true) {need:Nat} (hneed:need=sLen+n)
 {old new:List Value} {ap:Sem (Array Value)} (hold:∀ w':World,w'.heap=w.heap->(Builtin.firstCells size sLen s').run P w' = .ok old.toArray w')
 (hap:∀ w':World,w'.heap=w.heap->ap.run P w' = .ok new.toArray w') :
 ∃ (newCap:Nat) (w':World),need<=newCap/\(do
  let newCap ← choose (.appendCap need cap' el)
  askRoom (newCap*by')
  let old ← Builtin.firstCells size sLen s'
  let new ← ap
  let rest:=Builtin.zeroCells (← zeroValue el).cells (newCap-need)
  pure (.slice (some (← newRow el (old++new++rest))) need newCap):Sem Value).run P w = .ok (.slice (some ⟨w.heap.size,0,none⟩) need newCap) w' ∧
  w'.heap=w.heap.push (.cells (old++new++Z1s zv.cells.toList (newCap-need)).toArray el)/\w'.os=w.os/\w'.tape=w.tape/\w'.output=w.output:=by
 have hq:(Question.appendCap need cap' el).forced=false:=rfl
 let w1:World:={ w with drawn:=w.drawn+1 }
 let nc:=(Question.appendCap need cap' el).cut (w.tape w.drawn (.appendCap need cap' el))
 have hnc:need<=nc:=by show need<=need+_; omega
 refine ⟨nc,{ w1 with heap:=w1.heap.push (.cells (old++new++Z1s zv.cells.toList (nc-need)).toArray el) },hnc, ?_,rfl,rfl,rfl,rfl⟩
 have h1:(choose (.appendCap need cap' el)).run P w = .ok nc w1:=by rw [run_choose,hq]; rfl
 simp only [jA,h1,qZ,run_askRoom,hold w1 rfl,hap w1 rfl,Z0J hz,Z5E,newRow,run_newObj,jB]
 simp [w1]
def Z17 (el:TypeId) (size:Nat) (s:Value) (n:Nat) (ap:Sem (Array Value)) (by':Nat):Sem Value :=
 match s with
 | .slice base sLen sCap =>
  if sLen+n<=sCap then do
   let new ← ap
   if let some a:=base then storeCells (a.add (sLen*size)) new.toList
   pure (.slice base (sLen+n) sCap)
  else do
   let newCap ← choose (.appendCap (sLen+n) sCap el)
   askRoom (newCap*by')
   let old ← Builtin.firstCells size sLen s
   let new ← ap
   let rest:=Builtin.zeroCells (← zeroValue el).cells (newCap-(sLen+n))
   pure (.slice (some (← newRow el (old++new++rest))) (sLen+n) newCap)
 | _=>stuck ""
theorem Zkj {m:ME} {cs cs':List Value} {rest:List Value} {h:Array Obj} {E:TypeId} {e:Nat} {μ':Mu} (hcs:VRs μ' cs cs') (hm:m.s=0)
 (hh:h[m.b]? = some (.cells (cs'++rest).toArray E)) (ho:m.opn=some (e,(cs'++rest).length)):Z7H μ' m h (some (.cells false (some e) cs)):=by
 refine ⟨(cs'++rest).toArray,E,(0,0),hh,fun k x hx=>?_,fun _=>rfl,by rw [ho]; simp⟩
 obtain ⟨y,hy,hv⟩:=hcs.get hx
 have hlt:=(jC.1 hy).1
 exact ⟨y,by rw [hm,Nat.zero_add,List.getElem?_toArray,jE hlt]; exact hy,hv⟩
theorem R.kill (hR:R μ A w) (i:Nat):R μ (HeapC.set A i .dead) w where
 blk:=fun j mj hj=>by
  rw [HeapC.get_set]
  by_cases e:j=i
  · simp only [e,if_true]; trivial
  · simp only [e,if_false]; exact hR.blk j mj hj
 inj:=fun a b ma mb ha hb hn=>by
  rw [HeapC.get_set,HeapC.get_set]
  by_cases ea:a=i <;> by_cases eb:b=i
  · exact absurd (ea.trans eb.symm) hn
  · simp only [ea,if_true]; intro h; simp [Z2w] at h
  · simp only [eb,if_true]; intro _ h; simp [Z2w] at h
  · simp only [ea,eb,if_false]; exact hR.inj a b ma mb ha hb hn
 lt:=hR.lt
theorem Ext.kill {c:Nat} {own:Nat->Prop} (hR:R μ A w) {i:Nat} (hi:(μ i).isSome=true):Ext μ A c w own μ (HeapC.set A i .dead) c w :=
 { Ext.refl (own:=own) (c:=c) hR with
  rel:=hR.kill i
  af:=fun j h1 _ _=>by
   rw [HeapC.get_set,if_neg]
   intro e; subst e; rw [h1] at hi; cases hi
  wrm:=fun j mj hj h=>by
   rw [HeapC.get_set] at h
   by_cases e:j=i
   · simp [e,wrB] at h
   · simpa [e] using h
  dd:=fun j mj hj h=>by
   rw [HeapC.get_set]
   by_cases e:j=i
   · simp [e,Z2w]
   · simpa [e] using h }
theorem Z3X {c:Nat} (hR:R μ A w) {id:Nat} (hid:μ id=none) {el:TypeId} {sz by' cap' len n:Nat} {zv s':Value} (hz:Z7I P el=some zv) (hplain:plainL zv=true) (hzs:zv.cells.size=sz)
 {old old' new ys:List Value} (ho:VRs μ old old') (hn:VRs μ new ys) (hol:old.length=len*sz) (hnl:new.length=n*sz) {ap:Sem (Array Value)}
 (hold:∀ w':World,w'.heap=w.heap->(Builtin.firstCells sz len s').run P w' = .ok old'.toArray w') (hap:∀ w':World,w'.heap=w.heap->ap.run P w' = .ok ys.toArray w') :
 ∃ v' μ' w',(do
  let newCap ← choose (.appendCap (len+n) cap' el)
  askRoom (newCap*by')
  let old ← Builtin.firstCells sz len s'
  let new ← ap
  let rest:=Builtin.zeroCells (← zeroValue el).cells (newCap-(len+n))
  pure (.slice (some (← newRow el (old++new++rest))) (len+n) newCap):Sem Value).run P w = .ok v' w' ∧
  VR μ' (.slice (some ⟨id,0,none⟩) (len+n) (len+n)) v'/\Ext μ A c w (fun i=>i=id) μ' (HeapC.set A id (.cells false (some sz) (old++new))) c w':=by
 obtain ⟨nc,w',h1,h2,h3,h4,h5,h6⟩:=ZkS (P:=P) (w:=w) (cap':=cap') (by':=by') hz hplain (n:=n) (need:=len+n) rfl hold hap
 have hlen:((old'++ys)++Z1s zv.cells.toList (nc-(len+n))).length=nc*sz:=by
  have e1:=ho.1
  have e2:=hn.1
  simp only [jI,Z1u,Array.length_toList,hzs]
  rw [← e1,← e2,hol,hnl,← Nat.add_mul,← Nat.add_mul]
  congr 1; omega
 refine ⟨.slice (some ⟨w.heap.size,0,none⟩) (len+n) nc,μ.upd id ⟨w.heap.size,0,some (sz,nc*sz)⟩,w',h2, ?_,Ext.alloc hR hid rfl rfl h4 h5 h6 h3 ?_⟩
 · have:=VR.sl (μ:=μ.upd id ⟨w.heap.size,0,some (sz,nc*sz)⟩) (o:=0) (l:=len+n) (c:=len+n) (c':=nc) (Mu.upd_self μ id _) h1 (.inr ⟨sz,nc*sz,rfl,by simp⟩)
   simpa using this
 · exact Zkj (E:=el) (rest:=Z1s zv.cells.toList (nc-(len+n))) ((ho.append hn).mono (Mu.le_upd hid)) rfl (by rw [h3]; simp) (by rw [hlen])
theorem Ext.inplace {c:Nat} (hR:R μ A w) {i id:Nat} (hid:μ id=none) {m me:ME} (hm:μ i=some m) (hw:wrB (HeapC.get A i)=true) (hb:me.b=m.b) {blk:ABlk} (hro:roB (some blk)=false)
 {w':World} (os:w'.os=w.os) (tape:w'.tape=w.tape) (output:w'.output=w.output) (size:w'.heap.size=w.heap.size)
 (oth:∀ b,b ≠ m.b->w'.heap[b]? = w.heap[b]?) (hblk:Z7H (μ.upd id me) me w'.heap (some blk)) :
 Ext μ A c w (fun j=>j=id) (μ.upd id me) (HeapC.set (HeapC.set A i .dead) id blk) c w':=by
 have hle:μ.le (μ.upd id me):=Mu.le_upd hid
 have hii:i ≠ id:=by intro e; subst e; rw [hid] at hm; cases hm
 have hne:∀ j mj,μ j=some mj->j ≠ id:=fun j mj hj e=>by subst e; rw [hid] at hj; cases hj
 have hcase:∀ j mj,(μ.upd id me) j=some mj->(j=id/\mj=me) ∨ (j ≠ id/\μ j=some mj):=by
  intro j mj hj
  unfold Mu.upd at hj
  by_cases e:j=id
  · simp [e] at hj; exact .inl ⟨e,hj.symm⟩
  · simp [e] at hj; exact .inr ⟨e,hj⟩
 have hget:∀ j,HeapC.get (HeapC.set (HeapC.set A i .dead) id blk) j=if j=id then some blk else if j=i then some .dead else HeapC.get A j:=by
  intro j; rw [HeapC.get_set,HeapC.get_set]
 have hdiff:∀ j mj,μ j=some mj->j ≠ i->Z2w (HeapC.get A j)=false->mj.b ≠ m.b:=fun j mj hj hji hd =>
  hR.inj j i mj m hj hm hji hd (Z1D hw) (by rw [Z4T hw]; simp)
 refine { mu:=hle,new:=fun j h1 h2=>?_,cle:=qG _,rel:=⟨?_, ?_, ?_⟩,af:=fun j h1 _ h3=>?_,os:=os,tape:=tape,output:=output,size:=qO,fr:=fun b h hn=>oth b (fun e=>hn i m hm hw e.symm),wrm:=fun j mj hj h=>?_,dd:=fun j mj hj h=>by rw [hget,if_neg (hne j mj hj)]; by_cases e:j=i <;> simp [e,Z2w] <;> exact h,newb:=fun j mj h1 h2=>?_ }
 · cases e:(μ.upd id me) j with
   | none=>exact absurd e h2
   | some mj =>
    rcases hcase j mj e with ⟨rfl,_⟩ | ⟨_,e'⟩
    · exact .inl rfl
    · rw [h1] at e'; cases e'
 · intro j mj hj
   rw [hget]
   rcases hcase j mj hj with ⟨rfl,rfl⟩ | ⟨e,hj'⟩
   · simpa using hblk
   · simp only [e,if_false]
     by_cases hji:j=i
     · simp only [hji,if_true]; trivial
     · simp only [hji,if_false]
       have h0:=hR.blk j mj hj'
       cases hd:Z2w (HeapC.get A j) with
       | true =>
        unfold Z2w at hd
        split at hd
        · rename_i hg; rw [hg]; trivial
        · cases hd
       | false=>exact (h0.congr (oth _ (hdiff j mj hj' hji hd))).mono hle
 · intro a b ma mb ha hb' hn
   rw [hget,hget]
   rcases hcase a ma ha with ⟨ea,rfl⟩ | ⟨ea,ha'⟩ <;> rcases hcase b mb hb' with ⟨eb,rfl⟩ | ⟨eb,hb''⟩
   · exact absurd (ea.trans eb.symm) hn
   · simp only [eb,if_false]
     by_cases hbi:b=i
     · simp only [hbi,if_true]; intro _ h; simp [Z2w] at h
     · simp only [hbi,if_false]
       intro _ h2 _ e
       exact hdiff b mb hb'' hbi h2 qO
   · simp only [ea,if_false]
     by_cases hai:a=i
     · simp only [hai,if_true]; intro h; simp [Z2w] at h
     · simp only [hai,if_false]
       intro h1 _ _ e
       exact hdiff a ma ha' hai h1 qO
   · simp only [ea,eb,if_false]
     by_cases hai:a=i
     · simp only [hai,if_true]; intro h; simp [Z2w] at h
     · by_cases hbi:b=i
       · simp only [hbi,if_true]; intro _ h; simp [Z2w] at h
       · simp only [hai,hbi,if_false]
         exact hR.inj a b ma mb ha' hb'' hn
 · intro j mj hj
   rcases hcase j mj hj with ⟨_,rfl⟩ | ⟨_,hj'⟩
   · have:=hR.lt i m hm; omega
   · have:=hR.lt j mj hj'; omega
 · rw [hget,if_neg h3,if_neg]
   intro e; subst e; rw [hm] at h1; cases h1
 · rw [hget,if_neg (hne j mj hj)] at h
   by_cases hji:j=i
   · subst hji; exact hw
   · simpa [hji] using h
 · rcases hcase j mj h2 with ⟨_,rfl⟩ | ⟨_,hj'⟩
   · exact .inr ⟨i,m,hm,hb.symm,hw⟩
   · rw [h1] at hj'; cases hj'
theorem ZdU {c:Nat} (hR:R μ A w) {id:Nat} (hid:μ id=none) {el:TypeId} {sz by':Nat} {zv:Value} (hz:Z7I P el=some zv) (hplain:plainL zv=true) (hzs:zv.cells.size=sz)
 {s s' v:Value} {new:List Value} {n:Nat} {A':H} (e:appTo A id sz by' s new n=some (v,A')) (hs:VR μ s s') (hnl:new.length=n*sz)
 {ap:Sem (Array Value)} (hap:SrcR P μ w new ap) :
 ∃ v' μ' w',(Z17 el sz s' n ap by').run P w = .ok v' w'/\VR μ' v v'/\Ext μ A c w (fun i=>i=id) μ' A' c w':=by
 unfold appTo at e
 split at e
 · rename_i base len cap
   obtain ⟨ys,hyr,hap'⟩:=hap
   have hys:=hap' w rfl
   cases hfit:Nat.ble (len+n) cap with
   | true =>
    rw [hfit] at e
    have hfit:=qP hfit
    simp only [cond_true] at e
    cases hs with
    | sl0 =>
     simp only at e
     obtain ⟨h0,e⟩:=Z06 e
     cases e
     refine ⟨_,μ,w, ?_,.sl0 _ _,Ext.refl hR⟩
     simp only [Z17,hfit,if_true,jA,hys,qZ,jB]
    | @sl i o _ _ c' m hm hc hz' =>
     simp only at e
     have hfit':len+n<=c':=qO
     cases h0:Nat.beq new.length 0 with
     | true =>
      rw [h0] at e
      simp only [cond_true,Option.some.injEq,Prod.mk.injEq] at e
      obtain ⟨rfl,rfl⟩:=e
      have h0:=qJ h0
      have hy0:ys=[]:=qX (by rw [← hyr.1,h0])
      subst hy0
      refine ⟨.slice (some ⟨m.b,m.s+o,none⟩) (len+n) c',μ,w, ?_,.sl hm hc hz',Ext.refl hR⟩
      simp only [Z17,hfit',if_true,jA,hys,qZ,storeCells,jB]
     | false =>
      rw [h0] at e
      simp only [cond_false,qA] at e
      obtain ⟨h1,hw,e⟩:=e
      cases e
      obtain ⟨w',hrun,hext⟩:=Z2i (P:=P) (c0:=c) (own:=fun i=>i=id) hR hm hyr hw
      refine ⟨.slice (some ⟨m.b,m.s+o,none⟩) (len+n) c',μ,w', ?_,.sl hm hc hz',hext⟩
      simp only [Z17,hfit',if_true,jA,hys,qZ,Z6n,Nat.add_assoc] at hrun ⊢
      simp only [hrun,qZ,jB]
    | @slE i o x m hm =>
     have hn0:n=0:=qO
     subst hn0
     have hnl0:new.length=0:=by simpa using hnl
     simp only [hnl0,show Nat.beq 0 0=true from rfl,cond_true] at e
     have hy0:ys=[]:=qX (by rw [← hyr.1,hnl0])
     subst hy0
     have e:(Value.slice (some ⟨i,o,none⟩) (0+0) 0,A)=(v,A'):=by simpa using e
     cases e
     refine ⟨.slice (some ⟨m.b,x,none⟩) 0 0,μ,w, ?_,.slE hm,Ext.refl hR⟩
     simp only [Z17,qG,if_true,jA,hys,qZ,storeCells,jB,qW]
   | false =>
    rw [hfit] at e
    have hfit:¬ len+n<=cap:=by intro h; rw [qK h] at hfit; cases hfit
    simp only [cond_false,Z1Q] at e
    obtain ⟨hb,e⟩:=Z06 e
    simp only [qN] at hb
    have hflat:=hb.2
    have hb:=qP hb.1
    cases hs with
    | sl0 =>
     simp only at e
     obtain ⟨h0,e⟩:=Z06 e
     have h0:=qJ h0
     subst h0
     cases e
     obtain ⟨v',μ',w',h1,h2,h3⟩:=Z3X (c:=c) (cap':=cap) (by':=by') (len:=0) (n:=n) (s':=.slice none 0 cap) hR hid hz hplain hzs (VRs.nil μ) hyr (by simp) hnl (fun w' _=>rfl) hap'
     exact ⟨v',μ',w',by simp only [Z17,hfit,if_false]; exact h1,h2,h3⟩
    | @sl i o _ _ c' m hm hc hz' =>
     simp only [qA] at e
     obtain ⟨old,hold,e⟩:=e
     obtain ⟨hol,old',hor,hocell⟩:=Z1M hR hm hold
     have hfc:∀ w':World,w'.heap=w.heap->(Builtin.firstCells sz len (.slice (some ⟨m.b,m.s+o,none⟩) len c')).run P w' = .ok old'.toArray w':=fun w' hw'=>by
      simp only [Builtin.firstCells]
      exact Z2J (P:=P) (w:=w') (cs:=old') (by rw [← hor.1]; exact hol) (fun j v hv=>by rw [Z6n,cell?_heap hw']; exact hocell j v hv)
     have hblk:=hR.blk i m hm
     split at e
     · rename_i ro opn cs0 hg
       rw [hg] at hblk
       obtain ⟨C,E,fr,hC1,hC2,hC3,hC4⟩:=hblk
       cases opn with
       | none =>
        simp only [Option.map_none] at hC4
        simp only [Option.some.injEq,Prod.mk.injEq] at e
        obtain ⟨rfl,rfl⟩:=e
        have hcc:cap=c':=by
         rcases hz' with h | ⟨e',Z,h,_⟩
         · exact h
         · rw [hC4] at h; cases h
        subst hcc
        obtain ⟨v',μ',w',h1,h2,h3⟩:=Z3X (c:=c) (cap':=cap) (by':=by') (len:=len) (n:=n) (s':=.slice (some ⟨m.b,m.s+o,none⟩) len cap) hR hid hz hplain hzs hor hyr hol hnl hfc hap'
        exact ⟨v',μ',w',by simp only [Z17,hfit,if_false]; exact h1,h2,h3⟩
       | some e0 =>
        simp only [Option.map_some] at hC4
        obtain ⟨hro,e1⟩:=Z06 e
        clear e
        simp only [qN,Bool.not_eq_true'] at hro
        obtain ⟨he0,hro⟩:=hro
        have he0:=qJ he0
        subst he0
        subst hro
        simp only [Option.some.injEq,Prod.mk.injEq] at e1
        obtain ⟨rfl,rfl⟩:=e1
        have hfr:=hC3 rfl
        subst hfr
        have hKill:=Ext.kill (c:=c) (own:=fun _=>False) hR (i:=i) (by rw [hm]; rfl)
        by_cases hin:len+n<=c'
        · -- in place
          have hZ:m.s+o+c'*e0<=C.size:=by
           rcases hz' with h | ⟨e',Z,h,hle⟩
           · omega
           · rw [hC4] at h; cases h; exact hle
          have hys_len:ys.length=n*e0:=by rw [← hyr.1,hnl]
          have hmul:(len+n)*e0<=c'*e0:=Nat.mul_le_mul_right e0 hin
          rw [Nat.add_mul] at hmul
          have hst:=run_storeCells_at (P:=P) m.b (m.s+o+len*e0) E ys 0 C w hC1 qO (hyr.flat hflat)
          refine ⟨.slice (some ⟨m.b,m.s+o,none⟩) (len+n) c',μ.upd id ⟨m.b,m.s+o,some (e0,C.size)⟩,_, ?_, ?_,
           Ext.inplace (me:=⟨m.b,m.s+o,some (e0,C.size)⟩) (w':=w.setRow m.b (C.toList.take (m.s+o+len*e0+0)++ys++C.toList.drop (m.s+o+len*e0+0+ys.length)).toArray)
            hR hid hm (by rw [hg]; rfl) rfl rfl rfl rfl rfl (setRow_size _ _ _) (fun b hbn=>setRow_other _ _ _ _ hbn) ?_⟩
          · simp only [Z17,hin,if_true,jA,hys,qZ,Z6n,hst,jB]
          · have:=VR.sl (μ:=μ.upd id ⟨m.b,m.s+o,some (e0,C.size)⟩) (o:=0) (l:=len+n) (c:=len+n) (c':=c') (Mu.upd_self μ id _) hin (.inr ⟨e0,C.size,rfl,by simpa using hZ⟩)
            simpa using this
          · refine ⟨_,E,(0,0),setRow_heap w m.b C _ E (0,0) hC1,fun k x hk=>?_,fun _=>rfl, ?_⟩
            · have hol':old'.length=len*e0:=by rw [← hor.1,hol]
              rw [List.getElem?_append] at hk
              split at hk
              · rename_i hlt
                obtain ⟨y,hy,hv⟩:=hor.get hk
                have hcell:=hocell k y hy
                refine ⟨y, ?_,hv.mono (Mu.le_upd hid)⟩
                have hCk:C[m.s+o+k]? = some y:=by simpa [World.cell?,hC1] using hcell
                have hCl:=(jD.1 hCk).1
                simp only [List.getElem?_toArray,qW]
                rw [jE (by simp; omega),jE (by simp; omega),List.getElem?_take,if_pos qO]
                simpa using hCk
              · rename_i hge
                obtain ⟨y,hy,hv⟩:=hyr.get hk
                have hyl:=(jC.1 hy).1
                refine ⟨y, ?_,hv.mono (Mu.le_upd hid)⟩
                simp only [List.getElem?_toArray,qW]
                rw [jE (by simp; omega),List.getElem?_append_right (by simp; omega)]
                rw [← hy]; congr 1; simp; omega
            · simp; omega
        · obtain ⟨v',μ',w',h1,h2,h3⟩:=Z3X (c:=c) (cap':=c') (by':=by') (len:=len) (n:=n) (s':=.slice (some ⟨m.b,m.s+o,none⟩) len c') hKill.rel hid hz hplain hzs hor hyr hol hnl hfc hap'
          refine ⟨v',μ',w',by simp only [Z17,hin,if_false]; exact h1,h2, ?_⟩
          exact (hKill.trans h3 (fun _ h=>h.elim) (fun _ h=>.inr h)).weaken (fun i h=>h.elim False.elim (fun e=>e))
     · cases e
    | @slE i o x m hm =>
     simp only [qA] at e
     obtain ⟨old,hold,e⟩:=e
     obtain ⟨hol,old',hor,hocell⟩:=Z1M hR hm hold
     have hol0:old=[]:=qX (by simpa using hol)
     subst hol0
     have hfc:∀ w':World,w'.heap=w.heap->(Builtin.firstCells sz 0 (.slice (some ⟨m.b,x,none⟩) 0 0)).run P w' = .ok ([]:List Value).toArray w':=fun w' hw'=>by
      simp [Builtin.firstCells,loadCells,loadCellsFrom]
     split at e
     · rename_i ro opn cs0 hg
       cases opn with
       | none =>
        simp only [Option.some.injEq,Prod.mk.injEq] at e
        obtain ⟨rfl,rfl⟩:=e
        obtain ⟨v',μ',w',h1,h2,h3⟩:=Z3X (c:=c) (cap':=0) (by':=by') (len:=0) (n:=n) (s':=.slice (some ⟨m.b,x,none⟩) 0 0) hR hid hz hplain hzs (VRs.nil μ) hyr (by simp) hnl hfc hap'
        exact ⟨v',μ',w',by simp only [Z17,hfit,if_false]; exact h1,h2,h3⟩
       | some e0 =>
        obtain ⟨hro,e1⟩:=Z06 e
        clear e
        simp only [Option.some.injEq,Prod.mk.injEq] at e1
        obtain ⟨rfl,rfl⟩:=e1
        have hKill:=Ext.kill (c:=c) (own:=fun _=>False) hR (i:=i) (by rw [hm]; rfl)
        obtain ⟨v',μ',w',h1,h2,h3⟩:=Z3X (c:=c) (cap':=0) (by':=by') (len:=0) (n:=n) (s':=.slice (some ⟨m.b,x,none⟩) 0 0) hKill.rel hid hz hplain hzs (VRs.nil μ) hyr (by simp) hnl hfc hap'
        refine ⟨v',μ',w',by simp only [Z17,hfit,if_false]; exact h1,h2, ?_⟩
        exact (hKill.trans h3 (fun _ h=>h.elim) (fun _ h=>.inr h)).weaken (fun i h=>h.elim False.elim (fun e=>e))
     · cases e
 · cases e
theorem ZdT {st xt el:TypeId} (hu:P.underlying st=some (.slice el)) {sz by' n:Nat} (hsz:Z1E P el=some sz) (hby:Zaw P el=some by') {s' x':Value} {b l c:Nat} {base:Option Addr}
 (hs:s' = .slice base l c) {td:TypeDesc} (hxt:P.underlying xt=some td) (hni:∀ k,td ≠ .int k) (hlen:(Builtin.lenOf x').run P w = .ok n w) (hneed:¬ l+n<=c->(l+n)*(by'+1)<=17592186044416) {ty:TypeId} :
 (Builtin.append_ #[st,xt] ty #[s',x']).run P w=(Z17 el sz s' n (Builtin.firstCells sz n x') by').run P w:=by
 subst hs
 have hi:∃ i,P.info? el=some i/\i.bytes=by':=by simpa [Zaw,Option.map_eq_some_iff] using hby
 obtain ⟨inf,hinf,hbytes⟩:=hi
 have h0:(#[st,xt]:Array TypeId)[0]? = some st:=rfl
 have h1:(#[st,xt]:Array TypeId)[1]? = some xt:=rfl
 have h2:(#[Value.slice base l c,x']:Array Value)[0]? = some (.slice base l c):=rfl
 have h3:(#[Value.slice base l c,x']:Array Value)[1]? = some x':=rfl
 have hmax:IntKind.i64.max=9223372036854775807:=by decide
 by_cases hfit:l+n<=c
 · cases td
   case int k=>exact absurd rfl (hni k)
   all_goals
    simp only [Builtin.append_,h0,h1,h2,h3,jA,run_underlying hu,run_underlying hxt,qZ,Z0m hsz,jB,Bool.false_eq_true,if_false,hlen,Z17,hfit,if_true,Bool.not_false]
    cases base <;> simp only [jA,jB]
 · have hneed:=hneed hfit
   have hle:l+n<=17592186044416:=Nat.le_trans (Nat.le_mul_of_pos_right _ qO) hneed
   have hbig:¬ (((l+n:Nat):Int) > IntKind.i64.max/\((false:Bool)=true ∨ by'=0)):=by rw [hmax]; omega
   have hcap:¬ (Builtin.nextslicecap (l+n) c*by' > 2 ^ 48):=by
    have h9:=Zb0 (need:=l+n) (c:=c) qO
    have h10:Builtin.nextslicecap (l+n) c*by'<=2*(l+n)*by':=Nat.mul_le_mul_right _ h9
    have h11:2*(l+n)*by'<=2*((l+n)*(by'+1)):=by rw [Nat.mul_assoc]; exact Nat.mul_le_mul_left 2 (Nat.mul_le_mul_left _ qO)
    omega
   cases td
   case int k=>exact absurd rfl (hni k)
   all_goals
    simp only [Builtin.append_,h0,h1,h2,h3,jA,run_underlying hu,run_underlying hxt,qZ,Z0m hsz,jB,Bool.false_eq_true,if_false,hlen,Z17,hfit,Bool.not_false,if_true,
     Z0R hinf,hbytes]
    rw [if_neg (by rw [hmax]; omega)]
    simp only [jA,Z0R hinf,hbytes,qZ]
    rw [if_neg hcap]
    simp only [jA,Z0R hinf,hbytes,qZ,jB]
def Z9M (el:TypeId) (n sz:Nat):Sem (Array Value) :=
 if n*sz=0 then pure #[]
 else do pure (Builtin.zeroCells (← zeroValue el).cells n)
theorem Zd9 {st xt el:TypeId} (hu:P.underlying st=some (.slice el)) {sz by' n:Nat} (hsz:Z1E P el=some sz) (hby:Zaw P el=some by') {s':Value} {b l c:Nat} {base:Option Addr}
 (hs:s' = .slice base l c) {q k:IntKind} (hxt:P.underlying xt=some (.int q)) (hn1:n<=17592186044416) (hn2:n*by'<=17592186044416) (hneed:¬ l+n<=c->(l+n)*(by'+1)<=17592186044416) {ty:TypeId} :
 (Builtin.append_ #[st,xt] ty #[s',.int k n]).run P w=(Z17 el sz s' n (Z9M el n sz) by').run P w:=by
 subst hs
 have hi:∃ i,P.info? el=some i/\i.bytes=by':=by simpa [Zaw,Option.map_eq_some_iff] using hby
 obtain ⟨inf,hinf,hbytes⟩:=hi
 have h0:(#[st,xt]:Array TypeId)[0]? = some st:=rfl
 have h1:(#[st,xt]:Array TypeId)[1]? = some xt:=rfl
 have h2:(#[Value.slice base l c,.int k n]:Array Value)[0]? = some (.slice base l c):=rfl
 have h3:(#[Value.slice base l c,.int k n]:Array Value)[1]? = some (.int k n):=rfl
 have hmax:IntKind.i64.max=9223372036854775807:=by decide
 have hwrap:IntKind.i64.wrap (n:Int)=n:=Z7J qO qO
 have hneg:¬ ((n:Int)<0):=qO
 clear hmax
 have hmul:¬ ((n:Int)*(by':Int) > 2 ^ 48):=by
  rw [← Int.natCast_mul]
  omega
 have hpre:(Builtin.append_ #[st,xt] ty #[.slice base l c,.int k n]).run P w=(Builtin.append_ #[st,xt] ty #[.slice base l c,.int k n]).run P w:=rfl
 conv at hpre=>rhs; unfold Builtin.append_
 simp only [h0,h1,h2,h3,jA,run_underlying hu,run_underlying hxt,qZ,Z0m hsz,jB,if_true,asInt,asIntOf,hwrap] at hpre
 rw [if_neg hneg] at hpre
 simp only [jA,Z0R hinf,hbytes,qZ] at hpre
 rw [if_neg hmul] at hpre
 simp only [jA,jB,qZ,qE] at hpre
 rw [hpre]
 clear hpre hwrap hneg hmul
 by_cases hfit:l+n<=c
 · simp only [jA,Z17,hfit,if_true,Bool.not_true,Bool.false_eq_true,if_false,Z9M]
   cases base <;> simp only [jA,jB]
 · have hneed:=hneed hfit
   have hle:l+n<=17592186044416:=Nat.le_trans (Nat.le_mul_of_pos_right _ qO) hneed
   have hcap:¬ (Builtin.nextslicecap (l+n) c*by' > 2 ^ 48):=by
    have h9:=Zb0 (need:=l+n) (c:=c) qO
    have h10:Builtin.nextslicecap (l+n) c*by'<=2*(l+n)*by':=Nat.mul_le_mul_right _ h9
    have h11:2*(l+n)*by'<=2*((l+n)*(by'+1)):=by rw [Nat.mul_assoc]; exact Nat.mul_le_mul_left 2 (Nat.mul_le_mul_left _ qO)
    omega
   simp only [jA,Z17,hfit,if_false,Bool.not_true,Bool.false_eq_true,Z9M,Z0R hinf,hbytes,qZ]
   rw [if_neg (by have hmax:IntKind.i64.max=9223372036854775807:=(by decide); rw [hmax]; omega)]
   simp only [jA,Z0R hinf,hbytes,qZ]
   rw [if_neg hcap]
   simp only [jA,Z0R hinf,hbytes,qZ,jB]
theorem VR.slice_left {base:Option Addr} {l c:Nat} {v':Value} (h:VR μ (.slice base l c) v'):∃ base' c',v' = .slice base' l c'/\c<=c':=by
 cases h with
 | sl0=>exact ⟨_,_,rfl,qG _⟩
 | sl hm hc hz=>exact ⟨_,_,rfl,hc⟩
 | slE hm=>exact ⟨_,_,rfl,qG _⟩
theorem Zb2 {t:TypeId}:Zb3 P t=true ↔ ∃ k,P.underlying t=some (.int k):=by
 unfold Zb3
 split
 · exact ⟨fun _=>⟨_,by assumption⟩,fun _=>rfl⟩
 · rename_i h
   constructor
   · intro h'; cases h'
   · intro h'; obtain ⟨k,hk⟩:=h'; exact absurd hk (h k)
theorem Zcp {id sz by':Nat} {base:Option Addr} {len cap n:Nat} {new:List Value} {r:Value × H} (e:appTo A id sz by' (.slice base len cap) new n=some r) :
 ¬ len+n<=cap->(len+n)*(by'+1)<=17592186044416:=by
 intro h
 simp only [appTo] at e
 have hb:Nat.ble (len+n) cap=false:=by
  cases hh:Nat.ble (len+n) cap with
  | true=>exact absurd (qP hh) h
  | false=>rfl
 rw [hb] at e
 simp only [cond_false,Z1Q] at e
 obtain ⟨hc,_⟩:=Z06 e
 simp only [qN] at hc
 exact qP hc.1
theorem Z9h (hR:R μ A w) {sz:Nat} {x x':Value} {cs:List Value} {n:Nat} (e:Z0M A sz x=some (cs,n)) (hx:VR μ x x'):cs.length=n*sz:=by
 unfold Z0M at e
 split at e
 · obtain ⟨hn,e1⟩:=Z06 e
   cases e1
   simp
 · simp only [qA] at e
   obtain ⟨cs0,hcs,e⟩:=e
   cases e
   cases hx with
   | sl hm hc hz=>exact (Z1M hR hm hcs).1
   | slE hm=>exact (Z1M hR hm hcs).1
 · obtain ⟨hs,e1⟩:=Z06 e
   cases e1
   have:=qJ hs
   rw [this]; simp
 · cases e
theorem Zfh {c:Nat} (hR:R μ A w) {id:Nat} (hid:μ id=none) {ts:List TypeId} {args args':List Value} {v:Value} {A':H} {ty:TypeId} (e:Zdd P A id ts args=some (v,A')) (ha:VRs μ args args')
 : ∃ v' μ' w',(Builtin.append_ ts.toArray ty args'.toArray).run P w = .ok v' w'/\VR μ' v v'/\Ext μ A c w (fun i=>i=id) μ' A' c w':=by
 unfold Zdd at e
 split at e
 · rename_i st rest s x
   obtain ⟨s',as1,rfl,hs,ha1⟩:=ha.left
   obtain ⟨x',as2,rfl,hx,ha2⟩:=ha1.left
   rw [ha2.nil_left]
   simp only [qA] at e
   obtain ⟨el,hel,sz,hsz,by',hby,z,hz,e⟩:=e
   obtain ⟨hzc,e2⟩:=Z06 e
   clear e
   have e:=e2
   clear e2
   simp only [qN] at hzc
   obtain ⟨h4,h5⟩:=hzc
   have h5:=qJ h5
   have hu:=Z4M hel
   split at e
   · rename_i xt
     simp only [qA] at e
     obtain ⟨xd,hxd,e⟩:=e
     cases s with
     | slice base l cp =>
      obtain ⟨base',c',rfl,hcc⟩:=hs.slice_left
      cases hit:Zb3 P xt with
      | true =>
       rw [hit] at e
       simp only [cond_true,qA] at e
       obtain ⟨n,hn,e⟩:=e
       obtain ⟨hc,e⟩:=Z06 e
       simp only [qN,decide_eq_true_eq] at hc
       obtain ⟨⟨h1,h2⟩,h3⟩:=hc
       obtain ⟨q,hq⟩:=Zb2.1 hit
       obtain ⟨k,rfl⟩:=Z7B hn
       obtain rfl:=hx.int_left
       obtain ⟨m,rfl⟩:=Int.eq_ofNat_of_zero_le h1
       rw [qE] at e
       have hzr:VRs μ (Z1s z.cells.toList m) (Z1s z.cells.toList m):=Z3U (VR.plainL (μ:=μ) h4).cells m
       have hsrc:SrcR P μ w (Z1s z.cells.toList m) (Z9M el m sz):=by
        refine ⟨Z1s z.cells.toList m,hzr,fun w' _=>?_⟩
        unfold Z9M
        by_cases hm0:m*sz=0
        · rw [if_pos hm0]
          have:(Z1s z.cells.toList m).length=0:=by rw [Z1u,Array.length_toList,h5]; exact hm0
          rw [qX this]; rfl
        · rw [if_neg hm0]
          simp only [jA,Z0J hz,qZ,jB,Z5E]
       obtain ⟨v',μ',w',r1,r2,r3⟩:=ZdU (P:=P) (w:=w) (c:=c) hR hid hz h4 h5 e hs (by rw [Z1u,Array.length_toList,h5]) hsrc
       refine ⟨v',μ',w', ?_,r2,r3⟩
       have hnd:=Zcp e
       rw [← r1]
       have hmb:m*by'<=17592186044416:=by
        have h2':((m:Int)*(by':Int))<=17592186044416:=h2
        rw [← Int.natCast_mul] at h2'
        omega
       exact Zd9 (P:=P) (w:=w) (b:=0) hu hsz hby rfl hq qO hmb (fun h=>hnd qO)
      | false =>
       rw [hit] at e
       simp only [cond_false,qA] at e
       obtain ⟨⟨cs,n⟩,hsrc,e⟩:=e
       obtain ⟨hlen,hS⟩:=Z6l (P:=P) hR hsrc hx
       have hcl:=Z9h hR hsrc hx
       obtain ⟨v',μ',w',r1,r2,r3⟩:=ZdU (P:=P) (w:=w) (c:=c) hR hid hz h4 h5 e hs hcl hS
       refine ⟨v',μ',w', ?_,r2,r3⟩
       have hnd:=Zcp e
       rw [← r1]
       refine ZdT (P:=P) (w:=w) (b:=0) hu hsz hby rfl hxd (fun k hk=>?_) hlen (fun h=>hnd qO)
       have:Zb3 P xt=true:=Zb2.2 ⟨k,by rw [hxd,hk]⟩
       rw [hit] at this; cases this
     | _ =>
      exfalso
      cases hit:Zb3 P xt <;> rw [hit] at e <;> simp [appTo,qA] at e
   · cases e
 · cases e
theorem Zko {c:Nat} {own:Nat->Prop} (hR:R μ A w) {ts:List TypeId} {args args':List Value} {v:Value} {A':H} {ty:TypeId} (e:Zod P A ts args=some (v,A')) (ha:VRs μ args args') :
 ∃ v' w',(Builtin.copy_ ts.toArray ty args'.toArray).run P w = .ok v' w'/\VR μ v v'/\Ext μ A c w own μ A' c w':=by
 unfold Zod at e
 split at e
 · rename_i dt rest base dl dc sb sl sc
   obtain ⟨d',as1,rfl,hd,ha1⟩:=ha.left
   obtain ⟨s',as2,rfl,hs,ha2⟩:=ha1.left
   rw [ha2.nil_left]
   simp only [qA] at e
   obtain ⟨el,hel,sz,hsz,e⟩:=e
   have hu:=Z4M hel
   obtain ⟨sb',sc',rfl,hscc⟩:=hs.slice_left
   have h0:((dt::rest).toArray:Array TypeId)[0]? = some dt:=rfl
   split at e
   · obtain ⟨hdl,e⟩:=Z06 e
     cases e
     have hdl:=qJ hdl
     subst hdl
     cases hd
     refine ⟨goInt 0,w, ?_,VR.int .i64 _,Ext.refl hR⟩
     have hfc:(Builtin.firstCells sz 0 (.slice sb' sl sc')).run P w = .ok #[] w:=by
      cases sb' with
      | none=>rfl
      | some a=>simp [Builtin.firstCells,loadCells,loadCellsFrom]
     simp [Builtin.copy_,run_underlying hu,Builtin.lenOf,Z0m hsz,hfc]
   · rename_i i o
     simp only [qA] at e
     obtain ⟨⟨cs,n⟩,hsrc,A1,hw,e⟩:=e
     cases e
     have hs2:VR μ (.slice sb (Nat.min sl dl) sc) (.slice sb' (Nat.min sl dl) sc'):=by
      cases hs with
      | sl0=>exact .sl0 _ _
      | sl hm hc hz=>exact .sl hm hc hz
      | slE hm=>rw [show Nat.min 0 dl=0 from Nat.zero_min dl]; exact .slE hm
     obtain ⟨hlen,ys,hyr,hrun⟩:=Z6l (P:=P) hR hsrc hs2
     have hn:n=Nat.min sl dl:=by
      unfold Z0M at hsrc
      split at hsrc
      · obtain ⟨hn,h9⟩:=Z06 hsrc
        cases h9
        rename_i heq
        cases heq
        exact (qJ hn).symm
      · rename_i heq
        cases heq
        simp only [qA] at hsrc
        obtain ⟨_,_,h9⟩:=hsrc
        cases h9; rfl
      · rename_i heq; cases heq
      · cases hsrc
     have hrun':(Builtin.firstCells sz (Nat.min sl dl) (.slice sb' sl sc')).run P w = .ok ys.toArray w:=by
      have:=hrun w rfl
      rw [hn] at this
      cases sb' <;> simpa [Builtin.firstCells] using this
     cases hd with
     | @sl _ _ _ _ c' m hm hc hz =>
      obtain ⟨w',hst,hext⟩:=Z2i (P:=P) (c0:=c) (own:=own) hR hm hyr hw
      refine ⟨goInt (Nat.min sl dl),w', ?_,VR.int .i64 _,hext⟩
      simp [Builtin.copy_,run_underlying hu,Builtin.lenOf,Z0m hsz,hrun',hst]
     | @slE _ _ x m hm =>
      have h00:Nat.min sl 0=0:=Nat.min_zero sl
      rw [h00] at hn hrun'
      have hcl:=Z9h hR hsrc hs2
      rw [hn] at hcl
      have hc0:cs=[]:=qX (by simpa using hcl)
      subst hc0
      have hy0:ys=[]:=hyr.nil_left
      subst hy0
      obtain ⟨w',hst,hext⟩:=Z2i (P:=P) (c0:=c) (own:=own) hR hm hyr hw
      have hww:w=w':=by simpa [storeCells] using hst
      subst hww
      refine ⟨goInt (Nat.min sl 0),w, ?_,VR.int .i64 _,hext⟩
      simp [Builtin.copy_,run_underlying hu,Builtin.lenOf,Z0m hsz,hrun',storeCells]
   · cases e
 · cases e
theorem Zir {c:Nat} {own:Nat->Prop} (hR:R μ A w) {ts:List TypeId} {args args':List Value} {v:Value} {A':H} {ty:TypeId} (e:Zhd P A ts args=some (v,A')) (ha:VRs μ args args')
 (hts:∀ t,ts.head? = some t -> ∃ td,P.underlying t=some td) :
 ∃ v' w',(Builtin.clear_ ts.toArray ty args'.toArray).run P w = .ok v' w'/\VR μ v v'/\Ext μ A c w own μ A' c w':=by
 unfold Zhd at e
 split at e
 · rename_i t rest x
   obtain ⟨x',as1,rfl,hx,ha1⟩:=ha.left
   rw [ha1.nil_left]
   obtain ⟨td,htd⟩:=hts t rfl
   have hv:VR μ (.tuple #[]) (.tuple #[]):=VR.tuple_iff.2 (VRs.nil μ)
   split at e
   · cases e
     cases hx
     refine ⟨.tuple #[],w, ?_,hv,Ext.refl hR⟩
     simp only [Builtin.clear_,List.getElem?_toArray,List.getElem?_cons_zero,jA,run_underlying htd,qZ]
     cases td <;> simp
   · rename_i i o n cp
     simp only [qA] at e
     obtain ⟨el,hel,sz,hsz,z,hz,e⟩:=e
     obtain ⟨hzc,e⟩:=Z06 e
     simp only [qA] at e
     obtain ⟨A1,hw,e⟩:=e
     cases e
     simp only [qN] at hzc
     have hzr:VRs μ (Z1s z.cells.toList n) (Z1s z.cells.toList n):=Z3U (VR.plainL (μ:=μ) hzc.1).cells n
     have hu:=Z4M hel
     cases hx with
     | @sl _ _ _ _ c' m hm hc hz' =>
      obtain ⟨w',hst,hext⟩:=Z2i (P:=P) (c0:=c) (own:=own) hR hm hzr hw
      refine ⟨.tuple #[],w', ?_,hv,hext⟩
      cases n with
      | zero =>
       have hww:w=w':=by simpa [storeCells,Z1s] using hst
       subst hww
       simp [Builtin.clear_,run_underlying hu]
      | succ n =>
       simp only [Builtin.clear_,List.getElem?_toArray,List.getElem?_cons_zero,jA,run_underlying hu,qZ,Z0J hz,Z5E]
       simp [hst]
     | @slE _ _ x m hm =>
      obtain ⟨w',hst,hext⟩:=Z2i (P:=P) (c0:=c) (own:=own) hR hm hzr hw
      have hww:w=w':=by simpa [storeCells,Z1s] using hst
      subst hww
      refine ⟨.tuple #[],w, ?_,hv,hext⟩
      simp [Builtin.clear_,run_underlying hu]
   · cases e
 · cases e
end Go.Ab

namespace Go.Ab
open Go
variable {H:Type} [HeapC H] {P:Program} {μ:Mu} {A:H} {w:World}
def wd (ro:Option Nat):Fence:={ Fence.wide with round:=ro }
theorem Zfj {ro:Option Nat} {n:Nat} {f:FuncId} {args:Array Value} {Rq:Ending->World->Prop} (h:Calls P f args w Rq):CallsIn (wd ro) n P f args w Rq :=
 callsIn_wide (n:=n).2 h
def Z6g (μ:Mu) (A:H) (c:Nat) (w:World) (r:Rt H) (e:Ending) (w':World):Prop :=
 ∃ v v' μ',r.vs=[v]/\e = .returned v'/\VR μ' v v'/\Ext μ A c w (fun _=>False) μ' r.h r.c w'
structure OS (P:Program) (o:Orc H):Prop where
 fn:∀ (f:FuncId) (args:List Value) (A:H) (c:Nat) (df:List Nat) (r:Rt H),o (.fn f) args A c df=some r →
  (∀ avs w,(callFunc f avs).run P w = .ok (.enter f avs) w) ∧
  ∀ (μ:Mu) (w:World) (args':List Value),VRs μ args args'->R μ A w->Z22 μ c->Calls P f args'.toArray w (Z6g μ A c w r)
 rnd:∀ (nt:Nat) (lin fr params:List Nat) (l:Nat) (a b:ACode) (vs:List Value) (A:H) (c:Nat) (df:List Nat) (r:Rt H),o (.rnd nt lin fr params l a b) vs A c df=some r →
  ∀ (μ:Mu) (w:World) (ts:Array Value) (m:ME) (ro:Option Nat) (n:Nat) (f:FuncId),μ l=some m->TmR μ (Z0h (params++lin) vs) nt ts->R μ A w->Z22 μ c →
   RoundIn (wd ro) n P m.b f ts (Z3V a) (Z3V b) w (Z6g μ A c w r)
theorem Z0H {o:Oper} {a:Act} {ro:Option Nat} {n:Nat} {K:Act->World->Prop} {Q:Exit->Act->World->Prop} {v':Value} {w':World} (hd:∀ c,o.op ≠ .defer c)
 (h:(execOp a.eval o).run P w = .ok (.value v') w') (hK:K (a.put o.dst v') w'):o.wpIn (wd ro) n P a w K Q:=by
 refine ⟨fun _ _=>trivial, ?_⟩
 rw [Oper.semAt_eq _ _ _ hd,h]
 exact hK
theorem Z7K {o:Oper} {a:Act} {ro:Option Nat} {n:Nat} {K:Act->World->Prop} {Q:Exit->Act->World->Prop} {w':World} (hd:∀ c,o.op ≠ .defer c)
 (h:(execOp a.eval o).run P w = .ok .skip w') (hK:K (a.put o.dst undef) w'):o.wpIn (wd ro) n P a w K Q:=by
 refine ⟨fun _ _=>trivial, ?_⟩
 rw [Oper.semAt_eq _ _ _ hd,h]
 exact hK
theorem Zp2 {s:Sem Value} {v':Value} {w':World} (h:s.run P w = .ok v' w'):(do pure (Next.value (← s)):Sem Next).run P w = .ok (.value v') w':=by
 simp only [jA,h,qZ,jB]
theorem Z10 {h:H} {c:Nat} {v:Option Value} {r:Value × H × Nat} (e:Z7F h c v=some r):v=some r.1/\r.2.1=h/\r.2.2=c:=by
 simp only [Z7F,qA] at e
 obtain ⟨x,hx,e⟩:=e
 cases e
 exact ⟨hx,rfl,rfl⟩
theorem TmR.opt {tm:Tm} {nt:Nat} {a:Act} (h:TmR μ tm nt a.tmps) {x:Option Operand} {v:Option Value} (e:Zek tm x=some v):VRo μ v (x.map a.eval):=by
 cases x with
 | none=>simp [Zek] at e; subst e; trivial
 | some x =>
  simp only [Zek,qA] at e
  obtain ⟨y,hy,e⟩:=e
  cases e
  exact h.eval hy
theorem Zon {c:Nat} (hR:R μ A w) {id:Nat} (hid:μ id=none) :
 Ext μ A c w (fun i=>i=id) (μ.upd id ⟨w.heap.size,0,none⟩) (HeapC.set A id (.map [])) c { w with heap:=w.heap.push (.map #[] 0) }:=by
 refine Ext.alloc hR hid rfl rfl rfl rfl rfl rfl ?_
 exact ⟨#[],0,by simp,rfl,by simp⟩
theorem look {o:Oper} {a:Act} {ro:Option Nat} {n c:Nat} {K:Act->World->Prop} {Q:Exit->Act->World->Prop} {v:Value} {s:Sem Value} (hR:R μ A w) (hd:∀ c,o.op ≠ .defer c)
 (hs:execOp a.eval o=(do pure (.value (← s)))) (h:∃ v',s.run P w = .ok v' w/\VR μ v v')
 {own:Nat->Prop} (hK:∀ v' μ' w',VR μ' v v'->Ext μ A c w own μ' A c w'->K (a.put o.dst v') w'):o.wpIn (wd ro) n P a w K Q:=by
 obtain ⟨v',h1,h2⟩:=h
 exact Z0H hd (by rw [hs]; exact Zp2 h1) (hK v' μ w h2 (Ext.refl hR))
theorem Zf5 {o:Orc H} {d:Option Tmp} {op:Op} {ty:TypeId} {pos:String} {af:Array Edge} {gd:Option (Nat × Bool)} {id:Nat} {tm:Tm} {nt c c':Nat} {v:Value} {A':H} {a:Act}
 (hcall:∀ k,op ≠ .call k) (e:Z0u P o id tm A c op=some (v,A',c')) (ht:TmR μ tm nt a.tmps) (hR:R μ A w) (hid:μ id=none)
 {ro:Option Nat} {n:Nat} {K:Act->World->Prop} {Q:Exit->Act->World->Prop}
 (hK:∀ v' μ' w',VR μ' v v'->Ext μ A c w (fun i=>i=id/\2<=cls op) μ' A' c' w'->K (a.put d v') w') :
 (Oper.mk d op ty pos af gd).wpIn (wd ro) n P a w K Q:=by
 have hu:VR μ undef undef:=VR.tuple_iff.2 (VRs.nil μ)
 cases op with
 | move x =>
  obtain ⟨h1,h2,h3⟩:=Z10 e
  subst h2; subst h3
  exact Z0H (by simp) (by rfl) (hK _ μ w (ht.eval h1) (Ext.refl hR))
 | assign x =>
  obtain ⟨h1,h2,h3⟩:=Z10 e
  subst h2; subst h3
  exact Z0H (by simp) (by rfl) (hK _ μ w (ht.eval h1) (Ext.refl hR))
 | pick k x y =>
  simp only [Z0u,qA] at e
  obtain ⟨kv,hk,xv,hx,yv,hy,e⟩:=e
  split at e
  · rename_i t
    cases e
    have h1:=(ht.eval hk).bool_left
    refine Z0H (v':=if t then a.eval x else a.eval y) (by simp) ?_ (hK _ μ w ?_ (Ext.refl hR))
    · simp [execOp,h1,asBool]
    · cases t
      · exact ht.eval hy
      · exact ht.eval hx
  · cases e
 | alloc t =>
  simp only [Z0u,qA] at e
  obtain ⟨z,hz,e⟩:=e
  obtain ⟨hp,e⟩:=Z06 e
  cases e
  have hzr:VRs μ z.cells.toList z.cells.toList:=(VR.plainL (μ:=μ) hp).cells
  refine Z0H (v':=.pointer (some ⟨w.heap.size,0,none⟩)) (w':={ w with heap:=w.heap.push (.cells z.cells t) }) (by simp) ?_ (hK _ _ _ (Zfx hid) (Ext.weaken (own:=fun i=>i=id) ?_ (fun i h=>⟨h,by simp [cls]⟩)))
  · simp [execOp,Instr.alloc,Z0J hz,newVar,newRow]
  · simpa using Z9G (c:=c) hR hid hzr t
 | box t x =>
  simp only [Z0u,qA] at e
  obtain ⟨xv,hx,e⟩:=e
  obtain ⟨hp,e⟩:=Z06 e
  cases e
  have hr:=(ht.eval hx).cells
  refine Z0H (v':=.pointer (some ⟨w.heap.size,0,none⟩)) (w':={ w with heap:=w.heap.push (.cells (a.eval x).cells t) }) (by simp) ?_ (hK _ _ _ (Zfx hid) (Ext.weaken (own:=fun i=>i=id) ?_ (fun i h=>⟨h,by simp [cls]⟩)))
  · simp [execOp,Instr.box,newVar,newRow]
  · simpa using Z9G (c:=c) hR hid hr t
 | build t ps =>
  simp only [Z0u,qA] at e
  obtain ⟨vs,hvs,e⟩:=e
  obtain ⟨h1,h2,h3⟩:=Z10 e
  subst h2; subst h3
  have hp:=ht.evalPs hvs
  refine look hR (by simp) rfl ?_ hK
  have hq:(ps.toList.map fun (p:Nat × Operand)=>(p.1,a.eval p.2)).toArray=ps.map fun p=>(p.1,a.eval p.2):=by apply Array.ext'; simp
  have:=Zis (w:=w) h1 hp
  rw [hq] at this
  exact this
 | buildSlice t len ps =>
  simp only [Z0u,qA] at e
  obtain ⟨vs,hvs,cs,hcs,e⟩:=e
  cases e
  have hp:=ht.evalPs hvs
  obtain ⟨cs',E,h1,h2⟩:=ZaA (w:=w) hcs hp
  have hq:(ps.toList.map fun (p:Nat × Operand)=>(p.1,a.eval p.2)).toArray=ps.map fun p=>(p.1,a.eval p.2):=by apply Array.ext'; simp
  rw [hq] at h1
  exact Z0H (by simp) (Zp2 h1) (hK _ _ _ ZiE ((Z9G (c:=c) hR hid h2 E).weaken (fun i h=>⟨h,by simp [cls]⟩)))
 | insert t m k x =>
  simp only [Z0u,qA] at e
  obtain ⟨mv,hm,kv,hk,xv,hx,A1,hA,e⟩:=e
  cases e
  obtain ⟨w',h1,h2⟩:=Z6o (c:=c) (own:=fun i=>i=id/\_) hR hA (ht.eval hm) (ht.eval hk) (ht.eval hx)
  refine Z7K (by simp) ?_ (hK _ μ w' hu h2)
  simp only [execOp,jA,h1,qZ,jB]
 | load t x =>
  simp only [Z0u,qA] at e
  obtain ⟨p,hp,e⟩:=e
  obtain ⟨h1,h2,h3⟩:=Z10 e
  subst h2; subst h3
  exact look hR (by simp) rfl (ZdY hR h1 (ht.eval hp)) hK
 | store t x y =>
  simp only [Z0u,qA] at e
  obtain ⟨p,hp,xv,hx,A1,hA,e⟩:=e
  cases e
  obtain ⟨w',h1,h2⟩:=Zin (P:=P) (c0:=c) (own:=fun i=>i=id/\_) hR hA (ht.eval hp) (ht.eval hx)
  refine Z7K (by simp) ?_ (hK _ μ w' hu h2)
  simp only [execOp,jA,h1,qZ,jB]
 | nilCheck x =>
  simp only [Z0u,qA] at e
  obtain ⟨p,hp,e⟩:=e
  obtain ⟨h1,h2,h3⟩:=Z10 e
  subst h2; subst h3
  have hv:=ht.eval hp
  obtain ⟨h4,h5⟩:=Zda h1 hv
  subst h4
  refine Z0H (v':=a.eval x) (by simp) ?_ (hK _ μ w hv (Ext.refl hR))
  rcases h5 with ⟨q,h5⟩ | ⟨f,q,q2,h5⟩ | ⟨f,q,q2,h5⟩ <;> simp [execOp,h5]
 | binOp bo t x y yt =>
  simp only [Z0u,qA] at e
  obtain ⟨xv,hx,yv,hy,e⟩:=e
  obtain ⟨h1,h2,h3⟩:=Z10 e
  subst h2; subst h3
  exact look hR (by simp) rfl (Zit h1 (ht.eval hx) (ht.eval hy)) hK
 | unOp u t x =>
  simp only [Z0u,qA] at e
  obtain ⟨xv,hx,e⟩:=e
  obtain ⟨h1,h2,h3⟩:=Z10 e
  subst h2; subst h3
  exact look hR (by simp) rfl (Zkl h1 (ht.eval hx)) hK
 | convert s dd x =>
  simp only [Z0u,qA] at e
  obtain ⟨ds,hds,xv,hx,e⟩:=e
  obtain ⟨h1,h2,h3⟩:=Z10 e
  subst h2; subst h3
  exact look hR (by simp) rfl (Ze0 h1 (ht.eval hx) ⟨ds,hds⟩) hK
 | sliceToArrayPointer t x =>
  simp only [Z0u,qA] at e
  obtain ⟨xv,hx,e⟩:=e
  obtain ⟨h1,h2,h3⟩:=Z10 e
  subst h2; subst h3
  exact look hR (by simp) rfl (Zfg h1 (ht.eval hx)) hK
 | makeInterface t x =>
  simp only [Z0u,qA] at e
  obtain ⟨xv,hx,e⟩:=e
  split at e
  · cases e
  · cases e
  · rename_i td hni htd
    cases e
    refine look hR (by simp) rfl ⟨.iface t (a.eval x), ?_,.iface t (ht.eval hx)⟩ hK
    simp only [Instr.makeInterface,jA,run_underlying htd,qZ]
    cases td <;> first | rfl | (exact absurd rfl (hni _))
 | makeFunc fn first cap =>
  simp only [Z0u] at e
  split at e
  · rename_i g
    simp only [qA] at e
    obtain ⟨fv,hfv,kv,hkv,e⟩:=e
    cases e
    have h1:=ht.evals hfv
    have h2:=ht.evals hkv
    refine look hR (by simp) rfl ⟨.func (.func g) (first.map a.eval) (cap.map a.eval),rfl, ?_⟩ hK
    refine .fnc g ?_ ?_ ?_ ?_
    · have:=h1.1; simpa using this
    · have:=h2.1; simpa using this
    · intro k x y hx hy; exact h1.2 k x y (by simpa using hx) (by simpa [← Array.getElem?_toList] using hy)
    · intro k x y hx hy; exact h2.2 k x y (by simpa using hx) (by simpa [← Array.getElem?_toList] using hy)
  · cases e
 | makeMap t r =>
  simp only [Z0u] at e
  cases r with
  | none =>
   simp only [Option.some.injEq,Prod.mk.injEq] at e
   obtain ⟨rfl,rfl,rfl⟩:=e
   refine Z0H (v':=.map (some w.heap.size)) (by simp) ?_ (hK _ _ _ (.map (Mu.upd_self μ id ⟨w.heap.size,0,none⟩)) ((Zon (c:=c) hR hid).weaken (fun i h=>⟨h,by simp [cls]⟩)))
   simp [execOp,Instr.makeMap]
  | some x =>
   simp only [qA] at e
   obtain ⟨ke,hke,xv,hx,i,hi,e⟩:=e
   cases e
   obtain ⟨k,rfl⟩:=Z7B hi
   have hx':=(ht.eval hx).int_left
   refine Z0H (v':=.map (some w.heap.size)) (by simp) ?_ (hK _ _ _ (.map (Mu.upd_self μ id ⟨w.heap.size,0,none⟩)) ((Zon (c:=c) hR hid).weaken (fun i h=>⟨h,by simp [cls]⟩)))
   simp [execOp,Instr.makeMap,run_underlying (Z6R hke),hx',asInt,asIntOf]
 | makeSlice t l k =>
  simp only [Z0u,qA] at e
  obtain ⟨lv,hl,kv,hk,r,hr,e⟩:=e
  cases e
  obtain ⟨cs',E,h1,h2⟩:=ZaN (w:=w) hr (ht.eval hl) (ht.eval hk)
  exact Z0H (by simp) (Zp2 h1) (hK _ _ _ ZiE ((Z9G (c:=c) hR hid h2 E).weaken (fun i h=>⟨h,by simp [cls]⟩)))
 | slice t x lo hi mx =>
  simp only [Z0u,qA] at e
  obtain ⟨xv,hx,l,hl,hh,hhi,m,hm,e⟩:=e
  obtain ⟨h1,h2,h3⟩:=Z10 e
  subst h2; subst h3
  exact look hR (by simp) rfl (Zio hR h1 (ht.eval hx) (ht.opt hl) (ht.opt hhi) (ht.opt hm)) hK
 | fieldAddr t x f =>
  simp only [Z0u,qA] at e
  obtain ⟨xv,hx,e⟩:=e
  obtain ⟨h1,h2,h3⟩:=Z10 e
  subst h2; subst h3
  exact look hR (by simp) rfl (ZaP h1 (ht.eval hx)) hK
 | field t x f =>
  simp only [Z0u,qA] at e
  obtain ⟨xv,hx,e⟩:=e
  obtain ⟨h1,h2,h3⟩:=Z10 e
  subst h2; subst h3
  exact look hR (by simp) rfl (Ziq h1 (ht.eval hx)) hK
 | indexAddr t x i =>
  simp only [Z0u,qA] at e
  obtain ⟨xv,hx,iv,hi,e⟩:=e
  obtain ⟨h1,h2,h3⟩:=Z10 e
  subst h2; subst h3
  exact look hR (by simp) rfl (ZaO h1 (ht.eval hx) (ht.eval hi)) hK
 | index t x i =>
  simp only [Z0u,qA] at e
  obtain ⟨xv,hx,iv,hi,e⟩:=e
  obtain ⟨h1,h2,h3⟩:=Z10 e
  subst h2; subst h3
  exact look hR (by simp) rfl (Zip h1 (ht.eval hx) (ht.eval hi)) hK
 | lookup t m k ok =>
  simp only [Z0u,qA] at e
  obtain ⟨mv,hm,kv,hk,e⟩:=e
  obtain ⟨h1,h2,h3⟩:=Z10 e
  subst h2; subst h3
  exact look hR (by simp) rfl (Zfe hR h1 (ht.eval hm) (ht.eval hk)) hK
 | mapUpdate t m k x =>
  simp only [Z0u,qA] at e
  obtain ⟨mv,hm,kv,hk,xv,hx,A1,hA,e⟩:=e
  cases e
  obtain ⟨w',h1,h2⟩:=Z6o (c:=c) (own:=fun i=>i=id/\_) hR hA (ht.eval hm) (ht.eval hk) (ht.eval hx)
  refine Z7K (by simp) ?_ (hK _ μ w' hu h2)
  simp only [execOp,jA,h1,qZ,jB]
 | extract t i =>
  simp only [Z0u,qA] at e
  obtain ⟨tv,htv,e⟩:=e
  split at e
  · rename_i vs
    simp only [qA] at e
    obtain ⟨x,hx,e⟩:=e
    cases e
    have hv:=ht.eval htv
    generalize hev:a.eval t=tv' at hv
    cases hv with
    | @tuple _ ys hs hh =>
     have hl:i<ys.size:=by have:=(jD.1 hx).1; omega
     refine look hR (by simp) rfl ⟨ys[i], ?_,hh i _ ys[i] hx (qR hl)⟩ hK
     simp [Instr.extract,hev,hl]
  · cases e
 | call k=>exact absurd rfl (hcall k)
 | _=>simp [Z0u] at e
theorem Z2k {c:Call} {f:Operand} (hc:c.callee = .value f) {a:Act} {ty:TypeId} {fn:Fn} {fs cap:Array Value} (hf:a.eval f = .func fn fs cap) :
 (resolve a.eval c ty).run P w = .ok { target:=.fn fn cap,args:=fs++c.args.map a.eval } w:=by
 simp [resolve,hc,hf,Deferred.ofValue]
theorem Z9l {o:Oper} {c:Call} (ho:o.op = .call c) {a:Act} {d:Deferred} (h:(resolve a.eval c o.type).run P w = .ok d w) :
 (execOp a.eval o).run P w=(invoke d.target d.args).run P w:=by
 simp only [execOp,ho,jA,h,qZ]
theorem Z9Q:∀ {ps:List Nat} {xs:List Value} {l:List Nat} {vs:List Value} (t:Nat),ps.length=xs.length->Z0h (ps++l) (xs++vs) t=(Z0h ps xs t).or (Z0h l vs t)
 | [],[],l,vs,t,h=>by simp [Z0h]
 | [],x::xs,l,vs,t,h=>by simp at h
 | p::ps,[],l,vs,t,h=>by simp at h
 | p::ps,x::xs,l,vs,t,h=>by
  have ih:=Z9Q (ps:=ps) (xs:=xs) (l:=l) (vs:=vs) t (by simpa using h)
  simp only [List.cons_append,Z0h]
  cases Nat.beq t p <;> simp [ih]
theorem Zfp:∀ {ps:List Nat} {xs:List Value} {t:Nat} {v:Value},Z0h ps xs t=some v->t ∈ ps
 | [],xs,t,v,h=>by simp [Z0h] at h
 | p::ps,[],t,v,h=>by simp [Z0h] at h
 | p::ps,x::xs,t,v,h=>by
  simp only [Z0h] at h
  cases hb:Nat.beq t p with
  | true=>rw [qJ hb]; simp
  | false=>rw [hb] at h; exact List.mem_cons_of_mem _ (Zfp h)
theorem Zep {x:Nat} {xs:List Nat} (h:Z9r (x::xs)=true):x ∉ xs/\Z9r xs=true:=by
 simp only [Z9r,qN,Bool.not_eq_true'] at h
 refine ⟨fun hm=>?_,h.2⟩
 have:xs.any (Nat.beq x)=true:=List.any_eq_true.2 ⟨x,hm,by simp⟩
 rw [h.1] at this; cases this
theorem Zah:∀ (ps:List Nat) (xs xs':List Value) (base:Tm) (nt:Nat) (ts:Array Value),ps.length=xs.length->VRs μ xs xs'->Z9r ps=true->(∀ p ∈ ps,p<nt)->TmR μ base nt ts →
 TmR μ (fun t=>(Z0h ps xs t).or (base t)) nt ((ps.zip xs').foldl (fun (tmps:Array Value) (p:Tmp × Value)=>tmps.setIfInBounds p.1 p.2) ts)
 | [],[],xs',base,nt,ts,hl,hx,hn,hb,h=>by
  rw [hx.nil_left]
  simpa [Z0h] using h
 | [],x::xs,xs',base,nt,ts,hl,hx,hn,hb,h=>by simp at hl
 | p::ps,[],xs',base,nt,ts,hl,hx,hn,hb,h=>by simp at hl
 | p::ps,x::xs,xs',base,nt,ts,hl,hx,hn,hb,h=>by
  obtain ⟨x',ys,rfl,h1,h2⟩:=hx.left
  obtain ⟨hp,hn'⟩:=Zep hn
  have h3:TmR μ (Z7G base (some p) x) nt (ts.setIfInBounds p x'):=TmR.put (a:=⟨ts,[]⟩) h (fun d hd=>by cases hd; exact hb p (by simp)) h1
  have ih:=Zah ps xs ys (Z7G base (some p) x) nt (ts.setIfInBounds p x') (by simpa using hl) h2 hn' (fun q hq=>hb q (by simp [hq])) h3
  simp only [List.zip_cons_cons,List.foldl_cons]
  refine ⟨ih.size,fun t v e=>ih.val t v ?_⟩
  simp only [Z0h] at e
  cases hbq:Nat.beq t p with
  | true =>
   have htp:=qJ hbq
   subst htp
   rw [hbq] at e
   simp only [cond_true,Option.some_or] at e
   have:Z0h ps xs t=none:=by
    cases hq:Z0h ps xs t with
    | none=>rfl
    | some u=>exact absurd (Zfp hq) hp
   rw [this]
   simpa [Z7G] using e
  | false =>
   rw [hbq] at e
   simp only [cond_false] at e
   simpa [Z7G,hbq] using e
theorem Zqu {o:Orc H} (hO:OS P o) {oper:Oper} {k:Call} (hop:oper.op = .call k) {fo:Operand} (hk:k.callee = .value fo) {tm:Tm} {nt c c':Nat} {fv v:Value} {args:List Value} {A':H} {a:Act}
 (ht:TmR μ tm nt a.tmps) (hR:R μ A w) (hfr:Z22 μ c) (hargs:Z1I tm k.args.toList=some args) (hfv:Z0j tm fo=some fv) (e:Z43 o A c fv args=some (v,A',c'))
 {ro:Option Nat} {n:Nat} {K:Act->World->Prop} {Q:Exit->Act->World->Prop}
 {own:Nat->Prop} (hK:∀ v' μ' w',VR μ' v v'->Ext μ A c w own μ' A' c' w'->K (a.put oper.dst v') w'):oper.wpIn (wd ro) n P a w K Q:=by
 have hav:=ht.evals hargs
 have hfv':=ht.eval hfv
 have hnd:∀ d,oper.op ≠ .defer d:=by rw [hop]; simp
 have hend:∀ (r:Rt H),(match r.vs with | [v]=>some (v,r.h,r.c) | _=>none)=some (v,A',c') -> ∀ en w',Z6g μ A c w r en w' -> ∃ v',en = .returned v'/\K (a.put oper.dst v') w':=by
  intro r hr en w' ⟨x,x',μ',h1,h2,h3,h4⟩
  rw [h1] at hr
  cases hr
  exact ⟨x',h2,hK x' μ' w' h3 (h4.weaken (fun _ h=>h.elim))⟩
 have hmono:∀ (r:Rt H),(match r.vs with | [v]=>some (v,r.h,r.c) | _=>none)=some (v,A',c') -> ∀ en w',Z6g μ A c w r en w'->(fun
  | Ending.returned v,w''=>K (a.put oper.dst v) w''
  | .panicked chain,w''=>Q (.panic chain) a w''
  | .outgrown,_=>LetsOut Q:Ending->World->Prop) en w':=by
  intro r hr en w' hc
  obtain ⟨v',rfl,h⟩:=hend r hr en w' hc
  exact h
 unfold Z43 at e
 split at e
 · rename_i g first cap
   simp only [qA] at e
   obtain ⟨r,hr,e⟩:=e
   obtain ⟨hcf,hcall⟩:=hO.fn _ _ _ _ _ _ hr
   generalize hev:a.eval fo=fv' at hfv'
   cases hfv' with
   | @fnc _ avs avs' bs bs' h1 h2 h3 h4 =>
    have hargsR:VRs μ (first.toList++args++cap.toList) (avs'.toList++k.args.toList.map a.eval++bs'.toList):=by
     refine VRs.append (VRs.append ⟨by simpa using h1,fun n x y hx hy=>h3 n x y (by simpa using hx) (by simpa using hy)⟩ hav) ⟨by simpa using h2,fun n x y hx hy=>h4 n x y (by simpa using hx) (by simpa using hy)⟩
    have hC:=hcall μ w _ hargsR hR hfr
    refine ⟨fun _ _=>trivial, ?_⟩
    rw [Oper.semAt_eq _ _ _ hnd,Z9l hop (Z2k (P:=P) (w:=w) hk hev)]
    have harr:(avs'.toList++k.args.toList.map a.eval++bs'.toList).toArray=avs'++k.args.map a.eval++bs':=by apply Array.ext'; simp
    rw [harr] at hC
    simp only [invoke,hcf,Oper.uponIn_enter]
    exact ⟨fun h=>by simp [wd,Fence.wide] at h,(Zfj hC).mono (hmono r e)⟩
 · rename_i l first cap
   obtain ⟨hz,e1⟩:=Z06 e
   clear e
   simp only [qN] at hz
   split at e1
   · rename_i st hg
     obtain ⟨hst,e2⟩:=Z06 e1
     clear e1
     simp only [qN,decide_eq_true_eq] at hst
     simp only [qA] at e2
     obtain ⟨r,hr,e⟩:=e2
     generalize hev:a.eval fo=fv' at hfv'
     cases hfv' with
     | @yield _ m hm =>
      have hb:=hR.blk l m hm
      rw [hg] at hb
      obtain ⟨lp,hlp,hL⟩:=hb
      have hal:=qJ hst.1.1.2
      have hpl:k.args.size=lp.params.size:=by
       have h1:=hav.1
       have h4:lp.params.size=st.params.length:=by rw [← hL.params]; simp
       simp at h1
       omega
      have hzip:(lp.params.zip (k.args.map a.eval)).foldl (fun (tmps:Array Value) (p:Tmp × Value)=>tmps.setIfInBounds p.1 p.2) lp.tmps=(st.params.zip (k.args.toList.map a.eval)).foldl (fun (tmps:Array Value) (p:Tmp × Value)=>tmps.setIfInBounds p.1 p.2) lp.tmps:=by
       rw [← Array.foldl_toList,Array.toList_zip,hL.params,Array.toList_map]
      have hts:TmR μ (Z0h (st.params++st.lin) (args++st.vals)) st.nt ((lp.params.zip (k.args.map a.eval)).foldl (fun (tmps:Array Value) (p:Tmp × Value)=>tmps.setIfInBounds p.1 p.2) lp.tmps):=by
       rw [hzip]
       have h0:TmR μ (Z0h st.lin st.vals) st.nt lp.tmps:=⟨hL.size,hL.vals⟩
       have h1:=Zah st.params args (k.args.toList.map a.eval) _ st.nt lp.tmps qO hav hst.1.2
        (fun p hp=>by have:=List.all_eq_true.1 hst.2 p hp; simp [Nat.blt] at this; omega) h0
       exact ⟨h1.size,fun t v e=>h1.val t v (by rw [Z9Q t qO] at e; exact e)⟩
      have hC:=hO.rnd _ _ _ _ _ _ _ _ _ _ _ _ hr μ w _ m ro (n-1) lp.fn hm hts hR hfr
      refine ⟨fun _ _=>trivial, ?_⟩
      rw [Oper.semAt_eq _ _ _ hnd,Z9l hop (Z2k (P:=P) (w:=w) hk hev)]
      have hgl:(Instr.getLoop m.b).run P w = .ok lp w:=by simp [Instr.getLoop,getObj,Sem.run,hlp]
      have hsz:¬ ((#[]++k.args.map a.eval:Array Value).size ≠ lp.params.size):=by simp [hpl]
      have hrun:(invoke (.fn (.yield m.b) #[]) (#[]++k.args.map a.eval)).run P w = .ok (.round m.b lp.fn ((lp.params.zip (k.args.map a.eval)).foldl (fun (tmps:Array Value) (p:Tmp × Value)=>tmps.setIfInBounds p.1 p.2) lp.tmps) lp.assign lp.body) w:=by
       simp only [invoke,Instr.yield,jA,hgl,qZ]
       rw [if_neg hsz]
       simp
      rw [hrun,Oper.uponIn_round,hL.assign,hL.body]
      exact ⟨fun h=>by simp [wd,Fence.wide] at h,hC.mono (hmono r e)⟩
   · cases e1
 · cases e
theorem Z9V {o:Oper} {c:Call} (ho:o.op = .call c) {b:Builtin} (hc:c.callee = .builtin b) {a:Act} :
 ∃ cs,(execOp a.eval o).run P w=(builtin b c.argTypes o.type cs (c.args.map a.eval)).run P w:=by
 refine ⟨c.args.map fun | .const _=>true | _=>false, ?_⟩
 simp only [execOp,ho,jA,resolve,hc,jB,qZ,invoke]
 rfl
theorem Zij {oper:Oper} {k:Call} (hop:oper.op = .call k) {b:Builtin} (hk:k.callee = .builtin b) {tm:Tm} {nt c:Nat} {v:Value} {args:List Value} {A':H} {a:Act} {id:Nat}
 (ht:TmR μ tm nt a.tmps) (hR:R μ A w) (hid:μ id=none) (hargs:Z1I tm k.args.toList=some args) (e:Z0T P A id b k.argTypes.toList args=some (v,A'))
 {ro:Option Nat} {n:Nat} {K:Act->World->Prop} {Q:Exit->Act->World->Prop}
 {own:Nat->Prop} (how:b = .append->own id) (hK:∀ v' μ' w',VR μ' v v'->Ext μ A c w own μ' A' c w'->K (a.put oper.dst v') w'):oper.wpIn (wd ro) n P a w K Q:=by
 have hav:=ht.evals hargs
 have hnd:∀ d,oper.op ≠ .defer d:=by rw [hop]; simp
 obtain ⟨cs,hrun⟩:=Z9V (P:=P) (w:=w) hop hk (a:=a)
 have hmap:(k.args.toList.map a.eval).toArray=k.args.map a.eval:=by apply Array.ext'; simp
 unfold Z0T at e
 split at e
 · -- len
   split at e
   · rename_i t ts x xs hts'
     simp only [qA] at e
     obtain ⟨u,hu,e⟩:=e
     cases e
     generalize hxs:k.args.toList.map a.eval=ys at hav hmap
     obtain ⟨x',ys',rfl,hx,hys⟩:=hav.left
     obtain ⟨v',h1,h2⟩:=Zo9 (P:=P) (w:=w) (ts':=ts) (xs':=ys') (ty:=oper.type) hR hu hx
     refine Z0H hnd ?_ (hK v' μ w h2 (Ext.refl hR))
     have hat:k.argTypes=(t::ts).toArray:=by apply Array.ext'; simpa using hts'
     rw [hrun,← hmap,hat]
     simp only [builtin,jA,h1,qZ,jB]
   · cases e
 · -- max
   simp only [qA] at e
   obtain ⟨u,hu,e⟩:=e
   cases e
   cases args with
   | nil=>simp [Z5A] at hu
   | cons x xs =>
    generalize hxs:k.args.toList.map a.eval=ys at hav hmap
    obtain ⟨x',ys',rfl,hx,hys⟩:=hav.left
    simp only [Z5A] at hu
    obtain ⟨v',h1,h2⟩:=Z7U (P:=P) (w:=w) (g:=Builtin.max2) (fun he h1 h2=>⟨_,Zlc he h1 h2⟩) hu hys hx
    refine Z0H hnd ?_ (hK v' μ w h2 (Ext.refl hR))
    rw [hrun,← hmap]
    simp only [builtin,Builtin.max_,jA,h1,qZ,jB]
 · -- min
   simp only [qA] at e
   obtain ⟨u,hu,e⟩:=e
   cases e
   cases args with
   | nil=>simp [Z5A] at hu
   | cons x xs =>
    generalize hxs:k.args.toList.map a.eval=ys at hav hmap
    obtain ⟨x',ys',rfl,hx,hys⟩:=hav.left
    simp only [Z5A] at hu
    obtain ⟨v',h1,h2⟩:=Z7U (P:=P) (w:=w) (g:=Builtin.min2) (fun he h1 h2=>⟨_,Zla he h1 h2⟩) hu hys hx
    refine Z0H hnd ?_ (hK v' μ w h2 (Ext.refl hR))
    rw [hrun,← hmap]
    simp only [builtin,Builtin.min_,jA,h1,qZ,jB]
 · -- append
   obtain ⟨v',μ',w',h1,h2,h3⟩:=Zfh (P:=P) (w:=w) (c:=c) (ty:=oper.type) hR hid e hav
   refine Z0H hnd ?_ (hK v' μ' w' h2 (h3.weaken (fun i h=>h ▸ how rfl)))
   rw [hrun,← hmap]
   simp only [Array.toArray_toList] at h1
   simp only [builtin,jA,h1,qZ,jB]
 · -- copy
   obtain ⟨v',w',h1,h2,h3⟩:=Zko (P:=P) (w:=w) (c:=c) (own:=own) (ty:=oper.type) hR e hav
   refine Z0H hnd ?_ (hK v' μ w' h2 h3)
   rw [hrun,← hmap]
   simp only [Array.toArray_toList] at h1
   simp only [builtin,jA,h1,qZ,jB]
 · -- clear
   split at e
   · rename_i t ts hts
     simp only [qA] at e
     obtain ⟨td,htd,e⟩:=e
     obtain ⟨v',w',h1,h2,h3⟩:=Zir (P:=P) (w:=w) (c:=c) (own:=own) (ty:=oper.type) hR e hav (fun t' h=>by rw [hts] at h; cases h; exact ⟨td,htd⟩)
     refine Z0H hnd ?_ (hK v' μ w' h2 h3)
     rw [hrun,← hmap]
     simp only [Array.toArray_toList] at h1
     simp only [builtin,jA,h1,qZ,jB]
   · cases e
 · cases e
theorem ZnU {o:Orc H} (hO:OS P o) {d:Option Tmp} {op:Op} {ty:TypeId} {pos:String} {af:Array Edge} {gd:Option (Nat × Bool)} {id:Nat} {tm:Tm} {nt c c':Nat} {v:Value} {A':H} {a:Act}
 (e:Z0u P o id tm A c op=some (v,A',c')) (ht:TmR μ tm nt a.tmps) (hR:R μ A w) (hid:μ id=none) (hfr:Z22 μ c)
 {ro:Option Nat} {n:Nat} {K:Act->World->Prop} {Q:Exit->Act->World->Prop}
 (hK:∀ v' μ' w',VR μ' v v'->Ext μ A c w (fun i=>i=id/\2<=cls op) μ' A' c' w'->K (a.put d v') w') :
 (Oper.mk d op ty pos af gd).wpIn (wd ro) n P a w K Q:=by
 by_cases hcall:∃ k,op = .call k
 · obtain ⟨k,rfl⟩:=hcall
   simp only [Z0u,qA] at e
   obtain ⟨args,hargs,e⟩:=e
   split at e
   · rename_i f hk
     simp only [qA] at e
     obtain ⟨fv,hfv,e⟩:=e
     exact Zqu hO rfl hk ht hR hfr hargs hfv e hK
   · rename_i b hk
     simp only [qA] at e
     obtain ⟨r,hr,e⟩:=e
     cases e
     exact Zij rfl hk ht hR hid hargs hr (fun hb=>⟨rfl,by subst hb; obtain ⟨callee,args,ats⟩:=k; simp at hk; subst hk; simp [cls]⟩) hK
   · cases e
 · exact Zf5 (fun k h=>hcall ⟨k,h⟩) e ht hR hid hK
end Go.Ab
