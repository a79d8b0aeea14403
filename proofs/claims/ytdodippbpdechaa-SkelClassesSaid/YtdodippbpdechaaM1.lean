/- Parts of a proof: AbOps AbPure AbArith AbMem AbMap. Conditions: none. -/
import Derived.Test.YtdodippbpdechaaM0
import Derived.WideKeyRuns
set_option linter.all false
set_option maxRecDepth 100000
set_option maxHeartbeats 4000000
namespace Go.Ab
open Go
variable {H:Type} [HeapC H] {P:Program} {μ:Mu} {A:H} {w:World}
theorem Z06 {α:Type} {b:Bool} {x:Option α} {v:α} (h:cond b x none=some v):b=true/\x=some v:=by
 cases b <;> simp_all
theorem Z1b {α:Type} {b:Bool} {x:Option α} {v:α} (h:cond b none x=some v):b=false/\x=some v:=by
 cases b <;> simp_all
theorem Z2x {v:Value} {a:Nat × Nat} (h:Z2N v=some a):v = .pointer (some ⟨a.1,a.2,none⟩):=by
 unfold Z2N at h
 split at h
 · cases h; rfl
 · cases h
theorem VR.ptr_inv {i o:Nat} {v':Value} (h:VR μ (.pointer (some ⟨i,o,none⟩)) v'):∃ m,μ i=some m/\v' = .pointer (some ⟨m.b,m.s+o,none⟩):=by
 cases h with
 | ptr h=>exact ⟨_,h,rfl⟩
theorem Z5S {t:TypeId} {b:Bool} (h:Zgl P t=some b) (w:World):(isAgg t).run P w = .ok b w:=by
 unfold Zgl at h
 unfold isAgg
 split at h <;> cases h <;> simp [run_underlying ‹_›]
theorem Z0m {t:TypeId} {n:Nat} (h:Z1E P t=some n) (w:World):(sizeOf t).run P w = .ok n w:=by
 simp only [Z1E,Option.map_eq_some_iff] at h
 obtain ⟨i,hi,rfl⟩:=h
 simp [sizeOf,typeInfo,hi]
theorem Z0R {t:TypeId} {i:TypeInfo} (h:P.info? t=some i) (w:World):(typeInfo t).run P w = .ok i w:=by
 simp [typeInfo,h]
theorem Z0J {t:TypeId} {z:Value} (h:Z7I P t=some z) (w:World):(zeroValue t).run P w = .ok z w:=by
 simp only [Z7I,qA] at h
 obtain ⟨i,hi,hz⟩:=h
 simp [zeroValue,typeInfo,hi,hz]
theorem Z6n (b o j:Nat):(⟨b,o,none⟩:Addr).add j=⟨b,o+j,none⟩:=by unfold Addr.add; split <;> simp_all
theorem Z6T {i:Nat} {c:List Value} (h:Z0s A i=some c):∃ ro opn,HeapC.get A i=some (.cells ro opn c):=by
 unfold Z0s at h
 split at h
 · cases h; exact ⟨_,_,‹_›⟩
 · cases h
theorem Z7H.cell {m:ME} {ro:Bool} {opn:Option Nat} {c:List Value} (h:Z7H μ m w.heap (some (.cells ro opn c))) {k:Nat} {x:Value} (hx:c[k]? = some x) :
 ∃ y,w.cell? ⟨m.b,m.s+k,none⟩=some y/\VR μ x y:=by
 obtain ⟨C,E,fr,h1,h2,_,_⟩:=h
 obtain ⟨y,hy,hv⟩:=h2 k x hx
 exact ⟨y,by simp [World.cell?,h1,hy],hv⟩
theorem Z1M (hR:R μ A w) {i o n:Nat} {m:ME} (hm:μ i=some m) {cs:List Value} (e:Z0S A i o n=some cs) :
 cs.length=n /\ ∃ cs',VRs μ cs cs' /\ ∀ j v,cs'[j]? = some v->w.cell? ⟨m.b,m.s+o+j,none⟩=some v:=by
 simp only [Z0S,qA] at e
 obtain ⟨c,hc,e⟩:=e
 obtain ⟨hle,e⟩:=Z06 e
 cases e
 have hle:=qP hle
 obtain ⟨ro,opn,hg⟩:=Z6T hc
 have hb:=hR.blk i m hm
 rw [hg] at hb
 have hlen:((c.drop o).take n).length=n:=by simp; omega
 refine ⟨hlen, ?_⟩
 have key:∀ j,j<n -> ∃ y,w.cell? ⟨m.b,m.s+o+j,none⟩=some y/\VR μ (((c.drop o).take n).getD j undef) y:=by
  intro j hj
  have hx:c[o+j]? = some c[o+j]:=qI qO
  obtain ⟨y,h1,h2⟩:=hb.cell hx
  refine ⟨y,by rw [Nat.add_assoc]; exact h1, ?_⟩
  have:((c.drop o).take n).getD j undef=c[o+j]:=by
   simp only [qB,List.getElem?_take,hj,if_true,List.getElem?_drop,hx,Option.getD_some]
  rw [this]; exact h2
 refine ⟨(List.range n).map fun j=>(w.cell? ⟨m.b,m.s+o+j,none⟩).getD undef,⟨by simp [hlen],fun k x y hx hy=>?_⟩,fun j v hv=>?_⟩
 · have hk:k<n:=by have:=(jC.1 hx).1; omega
   obtain ⟨z,h1,h2⟩:=key k hk
   simp [hk,h1] at hy
   subst hy
   rw [qB,hx] at h2
   exact h2
 · have hj:j<n:=by have:=(jC.1 hv).1; simpa using this
   obtain ⟨z,h1,h2⟩:=key j hj
   simp [hj,h1] at hv
   rw [h1,hv]
theorem Zhu (hR:R μ A w) {i o:Nat} {m:ME} (hm:μ i=some m) {x:Value} (e:Z6j A i o=some x) :
 ∃ y,w.cell? ⟨m.b,m.s+o,none⟩=some y/\VR μ x y:=by
 simp only [Z6j,qA] at e
 obtain ⟨c,hc,e⟩:=e
 obtain ⟨ro,opn,hg⟩:=Z6T hc
 have hb:=hR.blk i m hm
 rw [hg] at hb
 exact hb.cell e
theorem Z2J {a:Addr} {cs:List Value} {n:Nat} (hn:cs.length=n) (h:∀ j v,cs[j]? = some v->w.cell? (a.add j)=some v) :
 (loadCells a n).run P w = .ok cs.toArray w:=hn ▸ run_loadCells_list (P:=P) w a cs h
theorem ZdY (hR:R μ A w) {t:TypeId} {p p' v:Value} (e:Zdb P A t p=some v) (hp:VR μ p p') :
 ∃ v',(Instr.loadAt t p').run P w = .ok v' w/\VR μ v v':=by
 simp only [Zdb,qA] at e
 obtain ⟨b,hb,e⟩:=e
 cases b with
 | true =>
  simp only [cond_true,qA,ldN] at e
  obtain ⟨n,hn,⟨i,o⟩,ha,cs,hcs,e⟩:=e
  cases e
  have:=Z2x ha; subst this
  obtain ⟨m,hm,rfl⟩:=hp.ptr_inv
  obtain ⟨hl,cs',h1,h2⟩:=Z1M hR hm hcs
  refine ⟨.agg cs'.toArray, ?_,VR.agg_iff.2 (by simpa using h1)⟩
  simp only [Instr.loadAt,Instr.sureAddr,loadVar,jA,jB,qZ,Z5S hb,if_true,Z0m hn]
  rw [Z2J (P:=P) (w:=w) (cs:=cs') (by rw [← h1.1]; exact hl) (fun j v hv=>by rw [Z6n]; exact h2 j v hv)]
  rfl
 | false =>
  simp only [cond_false,ld1,qA] at e
  obtain ⟨⟨i,o⟩,ha,hcs⟩:=e
  have:=Z2x ha; subst this
  obtain ⟨m,hm,rfl⟩:=hp.ptr_inv
  obtain ⟨y,h1,h2⟩:=Zhu hR hm hcs
  refine ⟨y, ?_,h2⟩
  simp only [Instr.loadAt,Instr.sureAddr,loadVar,jA,jB,qZ,Z5S hb,if_false,Bool.false_eq_true,run_load,h1]
theorem Z7H.congr {m:ME} {h h':Array Obj} {b:Option ABlk} (hb:Z7H μ m h b) (e:h'[m.b]? = h[m.b]?):Z7H μ m h' b:=by
 unfold Z7H at *
 split <;> simp_all
theorem LoopR.mono {μ':Mu} (hm:μ.le μ') {a:ALoop} {r:Loop} (h:LoopR μ a r):LoopR μ' a r :=
 { h with vals:=fun t v e=>let ⟨v',a,b⟩:=h.vals t v e; ⟨v',a,b.mono hm⟩,dfr:=let ⟨m,a,b⟩:=h.dfr; ⟨m,hm _ _ a,b⟩ }
theorem Z7H.mono {μ':Mu} (hm:μ.le μ') {m:ME} {h:Array Obj} {b:Option ABlk} (hb:Z7H μ m h b):Z7H μ' m h b:=by
 unfold Z7H at *
 split
 · obtain ⟨C,E,fr,h1,h2,h3,h4⟩:=hb
   exact ⟨C,E,fr,h1,fun k x hx=>let ⟨y,a,b⟩:=h2 k x hx; ⟨y,a,b.mono hm⟩,h3,h4⟩
 · obtain ⟨es',clk,h1,h2,h3⟩:=hb
   exact ⟨es',clk,h1,h2,fun k x y hx hy=>⟨(h3 k x y hx hy).1.mono hm,(h3 k x y hx hy).2.mono hm⟩⟩
 · obtain ⟨r,h1,h2⟩:=hb
   exact ⟨r,h1,h2.mono hm⟩
 · exact hb
 · trivial
 · trivial
theorem Z1D {b:Option ABlk} (h:wrB b=true):Z2w b=false:=by
 unfold wrB at h; unfold Z2w; split <;> simp_all
theorem Z4T {b:Option ABlk} (h:wrB b=true):roB b=false:=by
 unfold wrB at h; unfold roB; split <;> simp_all
theorem Ext.write {c:Nat} {own:Nat->Prop} (hR:R μ A w) {i:Nat} {m:ME} (hm:μ i=some m) (hw:wrB (HeapC.get A i)=true) {blk:ABlk} (hn:wrB (some blk)=true)
 {w':World} (os:w'.os=w.os) (tape:w'.tape=w.tape) (output:w'.output=w.output) (size:w'.heap.size=w.heap.size)
 (oth:∀ b,b ≠ m.b->w'.heap[b]? = w.heap[b]?) (hb:Z7H μ m w'.heap (some blk)) :
 Ext μ A c w own μ (HeapC.set A i blk) c w' where
 mu:=fun _ _ e=>e
 new:=fun i h1 h2=>absurd h1 h2
 cle:=qG _
 rel:={
  blk:=fun j mj hj=>by
   rw [HeapC.get_set]
   by_cases e:j=i
   · subst e; rw [hm] at hj; cases hj; simpa using hb
   · simp only [e,if_false]
     have h0:=hR.blk j mj hj
     cases hd:Z2w (HeapC.get A j) with
     | true =>
      unfold Z2w at hd
      split at hd
      · rename_i hg; rw [hg]; trivial
      · cases hd
     | false =>
      refine h0.congr (oth _ ?_)
      exact hR.inj j i mj m hj hm e hd (Z1D hw) (by rw [Z4T hw]; simp)
  inj:=fun a b ma mb ha hb' hne=>by
   rw [HeapC.get_set,HeapC.get_set]
   by_cases ea:a=i <;> by_cases eb:b=i
   · exact absurd (ea.trans eb.symm) hne
   · subst ea
     simp only [eb,if_true,if_false]
     intro _ h2 h3
     exact hR.inj a b ma mb ha hb' hne (Z1D hw) h2 (by rw [Z4T hw]; simp)
   · subst eb
     simp only [ea,if_true,if_false]
     intro h1 _ h3
     exact hR.inj a b ma mb ha hb' hne h1 (Z1D hw) (by rw [Z4T hw]; simp)
   · simp only [ea,eb,if_false]
     exact hR.inj a b ma mb ha hb' hne
  lt:=fun j mj hj=>by rw [size]; exact hR.lt j mj hj }
 af:=fun j h1 _ _=>by
  rw [HeapC.get_set,if_neg]
  intro e; subst e; rw [hm] at h1; cases h1
 os:=os
 tape:=tape
 output:=output
 size:=qO
 fr:=fun b _ h=>oth b (fun e=>h i m hm hw e.symm)
 wrm:=fun j mj hj h=>by
  rw [HeapC.get_set] at h
  by_cases e:j=i
  · subst e; exact hw
  · simpa [e] using h
 newb:=fun j mj h1 h2=>by rw [h1] at h2; cases h2
 dd:=fun j mj hj h=>by
  rw [HeapC.get_set]
  by_cases e:j=i
  · subst e; rw [Z1D hw] at h; cases h
  · simpa [e] using h
def Mu.upd (μ:Mu) (i:Nat) (m:ME):Mu:=fun j=>if j=i then some m else μ j
theorem Mu.upd_self (μ:Mu) (i:Nat) (m:ME):μ.upd i m i=some m:=by simp [Mu.upd]
theorem Mu.le_upd {i:Nat} {m:ME} (h:μ i=none):μ.le (μ.upd i m):=by
 intro j mj hj
 unfold Mu.upd
 by_cases e:j=i
 · subst e; rw [h] at hj; cases hj
 · simpa [e] using hj
theorem Ext.alloc {c:Nat} (hR:R μ A w) {id:Nat} (hid:μ id=none) {m:ME} (hmb:m.b=w.heap.size) {blk:ABlk} (hlive:roB (some blk)=false)
 {w':World} {o:Obj} (os:w'.os=w.os) (tape:w'.tape=w.tape) (output:w'.output=w.output) (hh:w'.heap=w.heap.push o)
 (hb:Z7H (μ.upd id m) m w'.heap (some blk)) :
 Ext μ A c w (fun i=>i=id) (μ.upd id m) (HeapC.set A id blk) c w':=by
 have hle:μ.le (μ.upd id m):=Mu.le_upd hid
 have hold:∀ b,b<w.heap.size->w'.heap[b]? = w.heap[b]?:=fun b h=>by rw [hh,Array.getElem?_push,if_neg qO]
 have hne:∀ j mj,μ j=some mj->j ≠ id:=fun j mj hj e=>by subst e; rw [hid] at hj; cases hj
 have hcase:∀ j mj,(μ.upd id m) j=some mj->(j=id/\mj=m) ∨ (j ≠ id/\μ j=some mj):=by
  intro j mj hj
  unfold Mu.upd at hj
  by_cases e:j=id
  · simp [e] at hj; exact .inl ⟨e,hj.symm⟩
  · simp [e] at hj; exact .inr ⟨e,hj⟩
 refine { mu:=hle,new:=fun i h1 h2=>?_,cle:=qG _,rel:=⟨?_, ?_, ?_⟩,af:=fun j h1 _ h3=>by rw [HeapC.get_set,if_neg h3],os:=os,tape:=tape,output:=output,size:=by rw [hh]; simp,fr:=fun b h _=>hold b h,wrm:=fun j mj hj h=>by rw [HeapC.get_set,if_neg (hne j mj hj)] at h; exact h,dd:=fun j mj hj h=>by rw [HeapC.get_set,if_neg (hne j mj hj)]; exact h,newb:=fun j mj h1 h2=>?_ }
 · cases e:(μ.upd id m) i with
   | none=>exact absurd e h2
   | some mi =>
    rcases hcase i mi e with ⟨rfl,_⟩ | ⟨_,e'⟩
    · exact .inl rfl
    · rw [h1] at e'; cases e'
 · intro j mj hj
   rw [HeapC.get_set]
   rcases hcase j mj hj with ⟨rfl,rfl⟩ | ⟨e,hj'⟩
   · simpa using hb
   · simp only [e,if_false]
     exact ((hR.blk j mj hj').congr (hold _ (hR.lt j mj hj'))).mono hle
 · intro a b ma mb ha hb' hn
   rw [HeapC.get_set,HeapC.get_set]
   rcases hcase a ma ha with ⟨ea,rfl⟩ | ⟨ea,ha'⟩ <;> rcases hcase b mb hb' with ⟨eb,rfl⟩ | ⟨eb,hb''⟩
   · exact absurd (ea.trans eb.symm) hn
   · intro _ _ _ e; have:=hR.lt b mb hb''; omega
   · intro _ _ _ e; have:=hR.lt a ma ha'; omega
   · simp only [ea,eb,if_false]
     exact hR.inj a b ma mb ha' hb'' hn
 · intro j mj hj
   rcases hcase j mj hj with ⟨_,rfl⟩ | ⟨_,hj'⟩
   · rw [hh]; simp; omega
   · rw [hh]; simp; have:=hR.lt j mj hj'; omega
 · rcases hcase j mj h2 with ⟨_,rfl⟩ | ⟨_,hj'⟩
   · exact .inl qO
   · rw [h1] at hj'; cases hj'
theorem Zhk {c xs:List Value} {off k:Nat} {x:Value} (hle:off+xs.length<=c.length) (h:(Z0Z c off xs)[k]? = some x) :
 (off<=k/\k<off+xs.length/\xs[k-off]? = some x) ∨ ((k<off ∨ off+xs.length<=k)/\c[k]? = some x):=by
 unfold Z0Z at h
 rw [List.getElem?_append] at h
 split at h
 · rename_i h1
   rw [List.getElem?_append] at h
   split at h
   · rename_i h2
     simp at h2
     rw [List.getElem?_take] at h
     split at h
     · exact .inr ⟨.inl qO,h⟩
     · cases h
   · rename_i h2
     simp at h2 h1
     have e:min off c.length=off:=qO
     simp [e] at h
     exact .inl ⟨qO,qO,h⟩
 · rename_i h1
   simp at h1
   have e:min off c.length=off:=qO
   simp [e] at h
   refine .inr ⟨.inr qO, ?_⟩
   rw [← h]; congr 1; omega
theorem Z2i {c0:Nat} {own:Nat->Prop} (hR:R μ A w) {i o:Nat} {m:ME} (hm:μ i=some m) {xs xs':List Value} (hx:VRs μ xs xs') {A':H} (e:Z2I A i o xs=some A') :
 ∃ w',(storeCells ⟨m.b,m.s+o,none⟩ xs').run P w = .ok () w'/\Ext μ A c0 w own μ A' c0 w':=by
 unfold Z2I at e
 split at e
 · rename_i opn c hg
   obtain ⟨hc,e⟩:=Z06 e
   cases e
   simp only [qN] at hc
   have hle:=qP hc.1
   have hflat:=hx.flat hc.2
   have hb:=hR.blk i m hm
   rw [hg] at hb
   obtain ⟨C,E,fr,h1,h2,h3,h4⟩:=hb
   have hfr:=h3 rfl
   subst hfr
   have hlen:m.s+o+xs'.length<=C.size ∨ xs'.length=0:=by
    by_cases h0:xs'.length=0
    · exact .inr h0
    · left
      have hk:o+xs'.length-1<c.length:=by have:=hx.1; omega
      obtain ⟨y,hy,_⟩:=h2 (o+xs'.length-1) c[o+xs'.length-1] (qI hk)
      have:=(jD.1 hy).1
      omega
   rcases hlen with hlen | h0
   · refine ⟨_,run_storeCells_at (P:=P) m.b (m.s+o) E xs' 0 C w h1 qO hflat, ?_⟩
     refine Ext.write hR hm (by rw [hg]; rfl) rfl rfl rfl rfl (setRow_size _ _ _) (fun b hbn=>setRow_other _ _ _ _ hbn) ?_
     refine ⟨_,E,(0,0),setRow_heap w m.b C _ E (0,0) h1,fun k x hk=>?_,fun _=>rfl, ?_⟩
     · rcases Zhk hle hk with ⟨a1,a2,a3⟩ | ⟨a1,a3⟩
       · obtain ⟨y,hy,hv⟩:=hx.get a3
         refine ⟨y, ?_,hv⟩
         have hlt:=(jC.1 hy).1
         simp only [List.getElem?_toArray,qW]
         rw [List.getElem?_append,if_pos (by simp; omega),List.getElem?_append,if_neg (by simp; omega)]
         rw [← hy]; congr 1; simp; omega
       · obtain ⟨y,hy,hv⟩:=h2 k x a3
         refine ⟨y, ?_,hv⟩
         have hyl:=(jD.1 hy).1
         have hxl:=hx.1
         simp only [List.getElem?_toArray,qW]
         rcases a1 with a1 | a1
         · rw [List.getElem?_append,if_pos (by simp; omega),List.getElem?_append,if_pos (by simp; omega),List.getElem?_take,if_pos qO]
           simpa using hy
         · rw [List.getElem?_append,if_neg (by simp; omega),List.getElem?_drop]
           rw [← hy,← Array.getElem?_toList]; congr 1; simp; omega
     · rw [h4]
       cases opn with
       | none=>rfl
       | some e=>simp; omega
   · have hx0:xs'=[]:=qX h0
     have hxs:xs=[]:=qX (by rw [hx.1,h0])
     subst hx0; subst hxs
     refine ⟨w,rfl, ?_⟩
     have hsp:Z0Z c o []=c:=by simp [Z0Z]
     rw [hsp]
     exact Ext.write hR hm (by rw [hg]; rfl) rfl rfl rfl rfl rfl (fun _ _=>rfl) ⟨C,E,(0,0),h1,h2,h3,h4⟩
 · cases e
theorem Zin {c0:Nat} {own:Nat->Prop} (hR:R μ A w) {t:TypeId} {p p' v v':Value} {A':H} (e:Zcs P A t p v=some A') (hp:VR μ p p') (hv:VR μ v v') :
 ∃ w',(Instr.storeAt t p' v').run P w = .ok () w'/\Ext μ A c0 w own μ A' c0 w':=by
 simp only [Zcs,stN,qA] at e
 obtain ⟨n,hn,⟨i,o⟩,ha,e⟩:=e
 obtain ⟨hs,e⟩:=Z06 e
 have hs:=qJ hs
 have:=Z2x ha; subst this
 obtain ⟨m,hm,rfl⟩:=hp.ptr_inv
 obtain ⟨w',h1,h2⟩:=Z2i (P:=P) (c0:=c0) (own:=own) hR hm hv.cells e
 refine ⟨w', ?_,h2⟩
 have hsz:v'.cells.size=n:=by have:=hv.cells.1; simp at this; omega
 simp only [Instr.storeAt,Instr.sureAddr,storeVar,jA,jB,qZ,Z0m hn,hsz,ne_eq,not_true_eq_false,if_false]
 exact h1
end Go.Ab

namespace Go.Ab
open Go
variable {H:Type} [HeapC H] {P:Program} {μ:Mu} {A:H} {w:World}
theorem Zcr {p p' v:Value} {n:Nat} (e:Z03 p n=some v) (hp:VR μ p p'):∃ b o,p' = .pointer (some ⟨b,o,none⟩)/\VR μ v (.pointer (some ⟨b,o+n,none⟩)):=by
 simp only [Z03,qA] at e
 obtain ⟨⟨i,o⟩,ha,e⟩:=e
 cases e
 have:=Z2x ha; subst this
 obtain ⟨m,hm,rfl⟩:=hp.ptr_inv
 exact ⟨m.b,m.s+o,rfl,by rw [Nat.add_assoc]; exact .ptr hm⟩
theorem Zal {s:TypeId} {f:Nat} {fd:Field} (h:Zgq P s f=some fd):∃ fs,P.underlying s=some (.struct fs)/\fs[f]? = some fd:=by
 unfold Zgq at h
 split at h
 · exact ⟨_,‹_›,h⟩
 · cases h
theorem ZaP {t:TypeId} {p p' v:Value} {f:Nat} (e:Z6e P t p f=some v) (hp:VR μ p p') :
 ∃ v',(Instr.fieldAt t p' f).run P w = .ok v' w/\VR μ v v':=by
 simp only [Z6e,qA] at e
 obtain ⟨fd,hf,z,hz,e⟩:=e
 obtain ⟨hz0,e⟩:=Z1b e
 obtain ⟨b,o,rfl,hv⟩:=Zcr e hp
 obtain ⟨fs,hu,hfd⟩:=Zal hf
 refine ⟨_, ?_,hv⟩
 have hz1:¬ z=0:=by intro h; subst h; simp at hz0
 simp only [Instr.fieldAt,jA,run_underlying hu,qZ,hfd,Instr.sureAddr,jB,fieldPlace,Z0m hz,hz1,if_false,Z6n]
theorem Z2G {t:TypeId} {cs cs':List Value} {off:Nat} {v:Value} (e:ZaM P t cs off=some v) (h:VRs μ cs cs') :
 ∃ v',(part t cs'.toArray off).run P w = .ok v' w/\VR μ v v':=by
 simp only [ZaM,qA] at e
 obtain ⟨b,hb,n,hn,e⟩:=e
 cases b with
 | true =>
  simp only [Zhw,cond_true] at e
  obtain ⟨hle,e⟩:=Z06 e
  cases e
  refine ⟨.agg ((cs'.drop off).take n).toArray, ?_,VR.agg_iff.2 (by simpa using (h.drop off).take n)⟩
  simp only [part,jA,Z5S hb,qZ,if_true,Z0m hn,jB]
  congr 2
  apply Array.ext'
  simp [List.extract_eq_take_drop]
 | false =>
  simp only [Zhw,cond_false] at e
  obtain ⟨y,hy,hv⟩:=h.get e
  refine ⟨y, ?_,hv⟩
  simp only [part,jA,Z5S hb,qZ,if_false,Bool.false_eq_true,List.getElem?_toArray,hy,jB]
theorem VR.agg_left {cs:Array Value} {v':Value} (h:VR μ (.agg cs) v'):∃ cs',v' = .agg cs'/\VRs μ cs.toList cs'.toList:=by
 cases h with
 | agg hs h=>exact ⟨_,rfl,VR.agg_iff.1 (.agg hs h)⟩
theorem ZdV {x:Value} {cs:List Value} (h:Zqx x=some cs):∃ a:Array Value,x = .agg a/\cs=a.toList:=by
 unfold Zqx at h
 split at h
 · cases h; exact ⟨_,rfl,rfl⟩
 · cases h
theorem Ziq {t:TypeId} {x x' v:Value} {f:Nat} (e:Zhc P t x f=some v) (hx:VR μ x x') :
 ∃ v',(Instr.field t x' f).run P w = .ok v' w/\VR μ v v':=by
 simp only [Zhc,qA] at e
 obtain ⟨fd,hf,cs,hcs,e⟩:=e
 obtain ⟨a,rfl,rfl⟩:=ZdV hcs
 obtain ⟨cs',rfl,hr⟩:=hx.agg_left
 obtain ⟨fs,hu,hfd⟩:=Zal hf
 obtain ⟨v',h1,h2⟩:=Z2G (w:=w) e hr
 refine ⟨v', ?_,h2⟩
 simp only [Instr.field,jA,run_underlying hu,qZ,hfd,asAgg,jB]
 simpa using h1
theorem VR.int_left {k:IntKind} {n:Int} {v':Value} (h:VR μ (.int k n) v'):v' = .int k n:=by cases h; rfl
theorem VR.bool_left {b:Bool} {v':Value} (h:VR μ (.bool b) v'):v' = .bool b:=by cases h; rfl
theorem VR.str_left {b:ByteArray} {v':Value} (h:VR μ (.string b) v'):v' = .string b:=by cases h; rfl
theorem Z7C {len:Nat} {i:Value} {k:Nat} (h:Zob len i=some k):∃ kd n,i = .int kd n/\(0<=n/\n<(len:Int))/\k=n.toNat:=by
 unfold Zob at h
 split at h
 · split at h
   · obtain ⟨hc,h⟩:=Z06 h
     cases h
     have:=Zd8 hc
     exact ⟨_,_,rfl,⟨by simp,by simpa using this⟩,by simp⟩
   · cases h
 · cases h
theorem ZaO {t:TypeId} {x x' i i' v:Value} (e:Z6d P t x i=some v) (hx:VR μ x x') (hi:VR μ i i') :
 ∃ v',(Instr.indexAt t x' i').run P w = .ok v' w/\VR μ v v':=by
 unfold Z6d at e
 split at e
 · rename_i len el hu
   simp only [qA,ixA] at e
   obtain ⟨sz,hsz,k,hk,e⟩:=e
   obtain ⟨kd,n,rfl,hb,rfl⟩:=Z7C hk
   obtain rfl:=hi.int_left
   obtain ⟨b,o,rfl,hv⟩:=Zcr e hx
   refine ⟨_, ?_,hv⟩
   simp only [Instr.indexAt,asIntOf,jA,jB,qZ,run_underlying hu,Instr.sureAddr,hb,and_self,if_true,Z0m hsz,Z6n]
 · rename_i el hu
   simp only [qA] at e
   obtain ⟨sz,hsz,e⟩:=e
   unfold ixS at e
   split at e
   · rename_i b o len cap
     simp only [qA] at e
     obtain ⟨k,hk,e⟩:=e
     cases e
     obtain ⟨kd,n,rfl,hb,rfl⟩:=Z7C hk
     obtain rfl:=hi.int_left
     cases hx with
     | sl hm hc hz =>
      rename_i c' m
      refine ⟨.pointer (some ⟨m.b,m.s+(o+n.toNat*sz),none⟩), ?_,.ptr hm⟩
      simp only [Instr.indexAt,asIntOf,jA,jB,qZ,run_underlying hu,hb,and_self,if_true,Z0m hsz,Z6n]
      rw [Nat.add_assoc]
     | slE hm=>simp at hb; omega
   · cases e
 · cases e
theorem Zhj {s:ByteArray} {i v:Value} (h:ZkH s i=some v):∃ kd n b,i = .int kd n/\0<=n/\s[n.toNat]? = some b/\v = .int .u8 b.toNat:=by
 simp only [ZkH,qA] at h
 obtain ⟨k,hk,b,hb,h⟩:=h
 cases h
 obtain ⟨kd,n,rfl,hn,rfl⟩:=Z7C hk
 exact ⟨kd,n,b,rfl,hn.1,hb,rfl⟩
theorem Zip {t:TypeId} {x x' i i' v:Value} (e:Zhb P t x i=some v) (hx:VR μ x x') (hi:VR μ i i') :
 ∃ v',(Instr.index t x' i').run P w = .ok v' w/\VR μ v v':=by
 unfold Zhb at e
 split at e
 · rename_i len el hu
   simp only [qA] at e
   obtain ⟨cs,hcs,k,hk,sz,hsz,e⟩:=e
   obtain ⟨a,rfl,rfl⟩:=ZdV hcs
   obtain ⟨cs',rfl,hr⟩:=hx.agg_left
   obtain ⟨kd,n,rfl,hb,rfl⟩:=Z7C hk
   obtain rfl:=hi.int_left
   obtain ⟨v',h1,h2⟩:=Z2G (w:=w) e hr
   refine ⟨v', ?_,h2⟩
   simp only [Instr.index,asIntOf,jA,jB,qZ,run_underlying hu,hb,and_self,if_true,Z0m hsz]
   simpa using h1
 · rename_i hu
   split at e
   · rename_i s
     obtain ⟨kd,n,b,rfl,hn,hb,rfl⟩:=Zhj e
     obtain rfl:=hi.int_left
     obtain rfl:=hx.str_left
     refine ⟨_, ?_,.int _ _⟩
     simp only [Instr.index,asIntOf,jA,jB,qZ,run_underlying hu,hn,if_true,hb]
   · cases e
 · cases e
theorem Zh7 {y:Nat} {v:Value} {n:Nat} (h:bnd y v=some n):∃ k i,v = .int k i/\(0<=i/\i<=(y:Int))/\n=i.toNat:=by
 unfold bnd at h
 split at h
 · obtain ⟨hc,h⟩:=Z06 h
   cases h
   simp at hc
   exact ⟨_,_,rfl,hc,rfl⟩
 · cases h
theorem Zfc {y d:Nat} {o:Option Value} {n:Nat} (h:Zo3 y d o=some n):n<=y:=by
 cases o with
 | none=>simp only [Zo3] at h; obtain ⟨hc,h⟩:=Z06 h; cases h; exact qP hc
 | some v=>obtain ⟨_,i,_,hbb,rfl⟩:=Zh7 h; omega
theorem Zay {y d n:Nat} (h:Zo3 y d none=some n):n=d:=by
 simp only [Zo3] at h; obtain ⟨_,h⟩:=Z06 h; cases h; rfl
theorem Zki {len cap:Nat} {lo hi mx:Option Value} {r:Nat × Nat × Nat} (e:Zo2 len cap lo hi mx=some r):r.1<=r.2.1/\r.2.1<=r.2.2/\r.2.2<=cap:=by
 simp only [Zo2,qA] at e
 obtain ⟨m,hm,hh,hhi,e⟩:=e
 obtain ⟨hmh,e⟩:=Z1b e
 simp only [qA] at e
 obtain ⟨l,hl,e⟩:=e
 cases e
 exact ⟨Zfc hl,Zfc hhi,Zfc hm⟩
def VRo (μ:Mu):Option Value->Option Value->Prop
 | none,none=>True
 | some v,some v'=>VR μ v v'
 | _,_=>False
theorem Z2y {y y':Nat} {v v':Value} {n:Nat} {code:BoundsCode} (h:bnd y v=some n) (hv:VR μ v v') (hy:y<=y') :
 (Instr.sliceBound v' y' code).run P w = .ok n w:=by
 obtain ⟨k,i,rfl,hb,rfl⟩:=Zh7 h
 obtain rfl:=hv.int_left
 have:0<=i/\i<=(y':Int):=⟨hb.1,qO⟩
 simp only [Instr.sliceBound,asIntOf,jA,jB,qZ,this,and_self,if_true]
theorem Z1v {isS:Bool} {len cap cap':Nat} {lo hi mx lo' hi' mx':Option Value} {r:Nat × Nat × Nat} (e:Zo2 len cap lo hi mx=some r)
 (h1:VRo μ lo lo') (h2:VRo μ hi hi') (h3:VRo μ mx mx') (hc:cap<=cap') :
 (Instr.sliceBounds isS len cap' lo' hi' mx').run P w = .ok (r.1,r.2.1,cond mx.isSome r.2.2 cap') w/\(mx.isSome=false->r.2.2=cap):=by
 simp only [Zo2,qA] at e
 obtain ⟨m,hm,hh,hhi,e⟩:=e
 obtain ⟨hmh,e⟩:=Z1b e
 simp only [qA] at e
 obtain ⟨l,hl,e⟩:=e
 cases e
 have hlo:∀ (y:Nat) (c1:BoundsCode),hh<=y->(match lo' with
  | some v=>Instr.sliceBound v y c1
  | none=>pure 0).run P w = .ok l w:=by
  intro y c1 hy
  cases lo <;> cases lo' <;> simp only [VRo] at h1
  · rw [Zay hl]; rfl
  · exact Z2y (P:=P) (w:=w) hl h1 hy
 cases mx <;> cases mx' <;> simp only [VRo] at h3
 · have e0:=Zay hm
   subst e0
   refine ⟨?_,by simp⟩
   cases hi <;> cases hi' <;> simp only [VRo] at h2
   · have e1:=Zay hhi
     subst e1
     have:=hlo hh .sliceB (qG _)
     simp only [Instr.sliceBounds,jA,jB,qZ,Option.isSome,Bool.false_eq_true,if_false,cond_false]
     revert this; cases lo' <;> intro this <;> simp_all
   · have:=hlo hh .sliceB (qG _)
     simp only [Instr.sliceBounds,jA,jB,qZ,Option.isSome,Bool.false_eq_true,if_false,cond_false,Z2y (P:=P) (w:=w) hhi h2 hc]
     revert this; cases lo' <;> intro this <;> simp_all
 · refine ⟨?_,by simp⟩
   cases hi <;> cases hi' <;> simp only [VRo] at h2
   · simp at hmh
   · have:=hlo hh .slice3C (qG _)
     simp only [Instr.sliceBounds,jA,jB,qZ,Option.isSome,if_true,cond_true,Z2y (P:=P) (w:=w) hm h3 hc,Z2y (P:=P) (w:=w) hhi h2 (qG _)]
     revert this; cases lo' <;> intro this <;> simp_all
theorem ZkG (hR:R μ A w) {i:Nat} {o sz:Nat} {m:ME} (hm:μ i=some m) (h:Zkr A sz (some ⟨i,o,none⟩)=true):∀ e Z,m.opn=some (e,Z)->e=sz:=by
 intro e Z he
 have hb:=hR.blk i m hm
 simp only [Zkr] at h
 split at h
 · rename_i hg; rw [hg] at hb; obtain ⟨C,E,fr,_,_,_,h4⟩:=hb; rw [he] at h4; cases h4
 · rename_i hg; rw [hg] at hb; obtain ⟨C,E,fr,_,_,_,h4⟩:=hb; rw [he] at h4; simp at h4; rw [h4.1]; exact qJ h
 · cases h
theorem ZoV (hR:R μ A w) {t el:TypeId} (hu:P.underlying t=some (.slice el)) {sz:Nat} (hsz:Z1E P el=some sz) {x x' v:Value} {lo hi mx lo' hi' mx':Option Value}
 (e:slS A sz x lo hi mx=some v) (hx:VR μ x x') (h1:VRo μ lo lo') (h2:VRo μ hi hi') (h3:VRo μ mx mx') :
 ∃ v',(Instr.sliceAt t x' lo' hi' mx').run P w = .ok v' w/\VR μ v v':=by
 unfold slS at e
 split at e
 · rename_i a len cap
   obtain ⟨hok,e1⟩:=Z06 e
   clear e
   simp only [qA] at e1
   obtain ⟨⟨l,hh,m⟩,hb,e⟩:=e1
   obtain ⟨hle1,hle2,hle3⟩:=Zki hb
   simp only at hle1 hle2 hle3
   cases hx with
   | sl0 =>
    obtain ⟨hrun,hm1⟩:=Z1v (P:=P) (w:=w) (isS:=true) hb h1 h2 h3 (qG _)
    simp only [Zoi,Option.some.injEq] at e
    subst e
    have hcm:(cond mx.isSome m cap)=m:=by cases hx:mx.isSome <;> simp; exact (hm1 hx).symm
    simp only [hcm] at hrun
    refine ⟨_, ?_,.sl0 _ _⟩
    simp only [Instr.sliceAt,jA,run_underlying hu,qZ,Instr.slice,hrun,Z0m hsz,jB]
    split <;> rfl
   | @sl i o _ _ c' me hm hc hz =>
    obtain ⟨hrun,hm1⟩:=Z1v (P:=P) (w:=w) (isS:=true) hb h1 h2 h3 hc
    simp only [Zoi,Option.some.injEq] at e
    subst e
    simp only at hm1
    generalize hM:(cond mx.isSome m c')=M at hrun
    have hmM:m<=M:=by subst hM; cases hx:mx.isSome <;> simp; have:=hm1 hx; omega
    have hrun2:(Instr.sliceAt t (.slice (some ⟨me.b,me.s+o,none⟩) len c') lo' hi' mx').run P w = .ok (.slice (if M=l then some ⟨me.b,me.s+o,none⟩ else some ⟨me.b,me.s+o+l*sz,none⟩) (hh-l) (M-l)) w:=by
     simp only [Instr.sliceAt,jA,run_underlying hu,qZ,Instr.slice,hrun,Z0m hsz,jB,Option.map_some,Z6n]
    refine ⟨_,hrun2, ?_⟩
    by_cases hl:M=l
    · rw [if_pos hl]
      have e1:hh-l=0:=qO
      have e2:m-l=0:=qO
      have e3:M-l=0:=qO
      rw [e1,e2,e3]
      exact .slE hm
    · rw [if_neg hl,Nat.add_assoc]
      refine .sl hm qO ?_
      by_cases hmm:m=M
      · left; omega
      · right
        have hx:mx.isSome=false:=by cases hx:mx.isSome with
         | false=>rfl
         | true=>rw [hx] at hM; simp at hM; exact absurd hM hmm
        have hmc:=hm1 hx
        rw [hx] at hM
        simp at hM
        subst hM
        rcases hz with hz | ⟨e',Z,he,hZ⟩
        · omega
        · have:=ZkG hR hm hok e' Z he
          subst this
          refine ⟨e',Z,he, ?_⟩
          have:l*e'+(c'-l)*e'=c'*e':=by rw [← Nat.add_mul]; congr 1; omega
          omega
   | @slE i o x me hm =>
    obtain ⟨hrun,hm1⟩:=Z1v (P:=P) (w:=w) (isS:=true) hb h1 h2 h3 (qG _)
    simp only [Zoi,Option.some.injEq] at e
    subst e
    have e1:hh=0:=qO
    have e2:l=0:=qO
    have e3:m=0:=qO
    subst e1; subst e2; subst e3
    have hcm:(cond mx.isSome 0 0)=0:=by cases mx.isSome <;> rfl
    simp only [hcm] at hrun
    refine ⟨.slice (some ⟨me.b,x,none⟩) 0 0, ?_,.slE hm⟩
    simp only [Instr.sliceAt,jA,run_underlying hu,qZ,Instr.slice,hrun,Z0m hsz,jB,if_true]
 · cases e
theorem Zio (hR:R μ A w) {t:TypeId} {x x' v:Value} {lo hi mx lo' hi' mx':Option Value}
 (e:ZdX P A t x lo hi mx=some v) (hx:VR μ x x') (h1:VRo μ lo lo') (h2:VRo μ hi hi') (h3:VRo μ mx mx') :
 ∃ v',(Instr.sliceAt t x' lo' hi' mx').run P w = .ok v' w/\VR μ v v':=by
 unfold ZdX at e
 split at e
 · rename_i n el hu
   simp only [qA,slA] at e
   obtain ⟨sz,hsz,⟨i,o⟩,ha,⟨l,hh,m⟩,hb,e⟩:=e
   have:=Z2x ha; subst this
   obtain ⟨me,hm,rfl⟩:=hx.ptr_inv
   obtain ⟨hle1,hle2,hle3⟩:=Zki hb
   simp only at hle1 hle2 hle3
   obtain ⟨hrun,hm1⟩:=Z1v (P:=P) (w:=w) (isS:=false) hb h1 h2 h3 (qG _)
   simp only [Zoi,Option.some.injEq] at e
   subst e
   have hcm:(cond mx.isSome m n)=m:=by cases hx:mx.isSome <;> simp; exact (hm1 hx).symm
   simp only [hcm] at hrun
   refine ⟨.slice (some (if m=l then ⟨me.b,me.s+o,none⟩ else ⟨me.b,me.s+o+l*sz,none⟩)) (hh-l) (m-l), ?_, ?_⟩
   · simp only [Instr.sliceAt,jA,run_underlying hu,qZ,Instr.sureAddr,jB,hrun,Z0m hsz,Z6n]
   · by_cases hl:m=l
     · rw [if_pos hl]
       have e1:hh-l=0:=qO
       have e2:m-l=0:=qO
       rw [e1,e2]
       exact .slE hm
     · rw [if_neg hl,Nat.add_assoc]
       exact .sl hm (qG _) (.inl rfl)
 · rename_i el hu
   simp only [qA] at e
   obtain ⟨sz,hsz,e⟩:=e
   exact ZoV hR hu hsz e hx h1 h2 h3
 · rename_i hu
   split at e
   · rename_i s
     simp only [ZoU,qA] at e
     obtain ⟨⟨l,hh,m⟩,hb,e⟩:=e
     cases e
     obtain rfl:=hx.str_left
     cases mx' with
     | some v=>exact h3.elim
     | none =>
      obtain ⟨hrun,hm1⟩:=Z1v (P:=P) (w:=w) (isS:=false) hb h1 h2 h3 (qG _)
      refine ⟨_, ?_,.str _⟩
      simp only [Instr.sliceAt,jA,run_underlying hu,qZ,Instr.slice,Option.isSome,Bool.false_eq_true,if_false,hrun,jB,pure_bind]
   · cases e
 · cases e
theorem Zfg {t:TypeId} {x x' v:Value} (e:Z5x P t x=some v) (hx:VR μ x x'):∃ v',(Instr.arrayAt t x').run P w = .ok v' w/\VR μ v v':=by
 unfold Z5x at e
 split at e
 · rename_i n el b o len cap hu
   obtain ⟨hc,e⟩:=Z06 e
   cases e
   simp only [qN] at hc
   have h1:=qP hc.1
   have h2:=qP hc.2
   cases hx with
   | @sl _ _ _ _ c' me hm hc hz =>
    refine ⟨_, ?_,.ptr hm⟩
    have:¬ len<n:=qO
    simp only [Instr.arrayAt,jA,run_underlying hu,qZ,this,if_false,jB]
   | slE hm=>omega
 · cases e
theorem Zda {x x' v:Value} (e:Z0e x=some v) (hx:VR μ x x'):v=x/\((∃ a,x' = .pointer (some a)) ∨ (∃ f a b,x' = .func (.func f) a b) ∨ (∃ f a b,x' = .func (.yield f) a b)):=by
 unfold Z0e at e
 split at e
 · cases e
   rename_i a
   refine ⟨rfl,.inl ?_⟩
   cases hx with
   | ptr hm=>exact ⟨_,rfl⟩
 · cases e
   refine ⟨rfl,.inr (.inl ?_)⟩
   cases hx with
   | fnc=>exact ⟨_,_,_,rfl⟩
 · cases e
   refine ⟨rfl,.inr (.inr ?_)⟩
   cases hx with
   | yield=>exact ⟨_,_,_,rfl⟩
 · cases e
end Go.Ab

namespace Go.Ab
open Go
variable {H:Type} [HeapC H] {P:Program} {μ:Mu} {A:H} {w:World}
theorem Zdc:∀ (d:Nat) {t:TypeId} {x y x' y':Value} {b:Bool},aEq P d t x y=some b->VR μ x x'->VR μ y y' →
 ∀ (w:World) (k:Nat),d<=k->(Op.equalIn k t x' y').run P w = .ok b w
 | 0,t,x,y,x',y',b,e,hx,hy=>by simp [aEq] at e
 | d+1,t,x,y,x',y',b,e,hx,hy=>by
  intro w k hk
  obtain ⟨k,rfl⟩:∃ n,k=n+1:=⟨k-1,qO⟩
  have hk:d<=k:=qO
  have ih:=fun {t x y x' y' b}=>Zdc (t:=t) (x:=x) (y:=y) (x':=x') (y':=y') (b:=b) d
  unfold aEq at e
  split at e
  · rename_i hu
    cases e; obtain rfl:=hx.bool_left; obtain rfl:=hy.bool_left
    simp [Op.equalIn,run_underlying hu]
  · rename_i hu
    obtain ⟨hc,e⟩:=Z06 e
    cases e; obtain rfl:=hx.int_left; obtain rfl:=hy.int_left
    simp at hc; subst hc
    simp [Op.equalIn,run_underlying hu]
  · rename_i hu
    cases e; obtain rfl:=hx.str_left; obtain rfl:=hy.str_left
    simp [Op.equalIn,run_underlying hu,beq_toListBytes]
  · rename_i fs xs ys hu
    obtain ⟨hst,e⟩:=Z1b e
    obtain ⟨xs',rfl,hxs⟩:=hx.agg_left
    obtain ⟨ys',rfl,hys⟩:=hy.agg_left
    have hfo:P.fieldsOf t=fs:=by simp [Program.fieldsOf,hu]
    rw [run_equalIn_struct w k t xs' ys' (by rw [hfo]; exact hu) hst,hfo]
    generalize fs.toList=l at e
    induction l with
    | nil=>simp [Zkn] at e; subst e; simp [Op.eqFields]
    | cons f l ihl =>
     simp only [Zkn] at e
     simp only [Op.eqFields]
     cases hf:f.name == "_" with
     | true =>
      rw [hf] at e
      simp only [cond_true] at e
      have hf':f.name = "_":=by simpa using hf
      simp only [hf',ne_eq,not_true_eq_false,if_false]
      exact ihl e
     | false =>
      rw [hf] at e
      simp only [cond_false,qA] at e
      obtain ⟨a,ha,c,hc,r,hr,e⟩:=e
      have hf':f.name ≠ "_":=by simpa using hf
      obtain ⟨a',h1,h2⟩:=Z2G (w:=w) ha hxs
      obtain ⟨c',h3,h4⟩:=Z2G (w:=w) hc hys
      have h5:=ih hr h2 h4 w k hk
      simp only [Array.toArray_toList] at h1 h3
      simp only [hf',ne_eq,not_false_eq_true,if_true,jA,h1,h3,h5,qZ]
      cases r with
      | true=>simp only [cond_true] at e; simpa using ihl e
      | false=>simp at e; subst e; simp
  · rename_i len el xs ys hu
    simp only [qA] at e
    obtain ⟨n,hn,e⟩:=e
    obtain ⟨xs',rfl,hxs⟩:=hx.agg_left
    obtain ⟨ys',rfl,hys⟩:=hy.agg_left
    have hn':=hn
    simp only [Z1E,Option.map_eq_some_iff] at hn'
    obtain ⟨inf,hinf,hsz⟩:=hn'
    have hcell:P.cellsOf el=n:=by simp [Program.cellsOf,hinf,hsz]
    rw [run_equalIn_array w k xs' ys' hu hinf,hcell]
    generalize List.range len=l at e
    induction l with
    | nil=>simp [Zoc] at e; subst e; simp [Op.eqItems]
    | cons i l ihl =>
     simp only [Zoc,qA] at e
     obtain ⟨a,ha,c,hc,r,hr,e⟩:=e
     obtain ⟨a',h1,h2⟩:=Z2G (w:=w) ha hxs
     obtain ⟨c',h3,h4⟩:=Z2G (w:=w) hc hys
     have h5:=ih hr h2 h4 w k hk
     simp only [Array.toArray_toList] at h1 h3
     simp only [Op.eqItems,jA,h1,h3,h5,qZ]
     cases r with
     | true=>simp only [cond_true] at e; simpa using ihl e
     | false=>simp at e; subst e; simp
  · rename_i hu
    cases e
    cases hx
    cases hy <;> (rw [Op.equalIn,jA,run_underlying hu]; rfl)
  · obtain ⟨el,hu⟩:∃ el,P.underlying t=some (.slice el):=⟨_,by assumption⟩
    cases e
    cases hy
    cases hx <;> first | (exfalso; simp_all; done) | (rw [Op.equalIn,jA,run_underlying hu]; rfl)
  · rename_i hu
    cases e
    cases hx
    cases hy <;> (rw [Op.equalIn,jA,run_underlying hu]; rfl)
  · obtain ⟨kk,el,hu⟩:∃ kk el,P.underlying t=some (.map kk el):=⟨_,_,by assumption⟩
    cases e
    cases hy
    cases hx <;> first | (exfalso; simp_all; done) | (rw [Op.equalIn,jA,run_underlying hu]; rfl)
  · rename_i hu
    cases e
    cases hx; cases hy
    rw [Op.equalIn,jA,run_underlying hu]; rfl
  · rename_i hu
    cases e
    cases hx; cases hy <;> (rw [Op.equalIn,jA,run_underlying hu]; rfl)
  · rename_i hu
    cases e
    cases hy; cases hx <;> (rw [Op.equalIn,jA,run_underlying hu]; rfl)
  · rename_i hu
    cases e
    cases hx
    cases hy <;> (rw [Op.equalIn,jA,run_underlying hu]; rfl)
  · obtain ⟨el,hu⟩:∃ el,P.underlying t=some (.pointer el):=⟨_,by assumption⟩
    cases e
    cases hy
    cases hx <;> first | (exfalso; simp_all; done) | (rw [Op.equalIn,jA,run_underlying hu]; rfl)
  · cases e
theorem ZhG {op:BinOp} {k:IntKind} {a b:Int} {v:Value} (e:Z1U op k a b=some v) (h1:op ≠ .shl) (h2:op ≠ .shr) (t:TypeId) :
 (binOp op t (.int k a) (.int k b)).run P w = .ok v w/\VR μ v v:=by
 unfold Z1U at e
 split at e <;> first
  | (cases e; refine ⟨?_,VR.plain rfl⟩; simp [binOp,Op.intArith,Op.intBits,Op.intCmp]; done)
  | (obtain ⟨hc,e⟩:=Z1b e; cases e; refine ⟨?_,VR.plain rfl⟩; simp at hc; simp [binOp,Op.intDiv,hc]; done)
  | cases e
theorem Z9j {op:BinOp} {k k':IntKind} {a b:Int} {v:Value} (e:Z5R op k a b=some v) (t:TypeId) :
 (binOp op t (.int k a) (.int k' b)).run P w = .ok v w/\VR μ v v:=by
 unfold Z5R at e
 split at e
 · obtain ⟨hc,e⟩:=Z1b e
   cases e
   refine ⟨?_,VR.plain rfl⟩
   have:¬ b<0:=by simpa using hc
   simp [binOp,Op.shift,this]
 · obtain ⟨hc,e⟩:=Z1b e
   cases e
   refine ⟨?_,VR.plain rfl⟩
   have:¬ b<0:=by simpa using hc
   simp [binOp,Op.shift,this]
 · cases e
theorem Zhi {op:BinOp} {a b:ByteArray} {v:Value} (e:ZiD op a b=some v) (t:TypeId) :
 (binOp op t (.string a) (.string b)).run P w = .ok v w/\VR μ v v:=by
 unfold ZiD at e
 split at e <;> first
  | (cases e; refine ⟨?_,VR.plain rfl⟩; simp [binOp,Op.stringOp]; done)
  | (obtain ⟨hc,e⟩:=Z06 e; cases e; refine ⟨?_,VR.plain rfl⟩; have:=qP hc
     have h9:¬ ((a.size+b.size:Nat):Int) > IntKind.i64.max:=by
      have:IntKind.i64.max=9223372036854775807:=by decide
      omega
     simp only [binOp,Op.stringOp,h9,if_false,jB]; done)
  | cases e
theorem Zaf {t:TypeId} {x x' y':Value} {op:BinOp} {ox oy:Operand} (h:Z6x P t x=true) (hx:VR μ x x'):(eqGuard op t ox oy x' y').run P w = .ok () w:=by
 cases hx <;> simp only [Z6x] at h
 case agg xs ys hs hh =>
  cases y' with
  | agg zs=>exact run_eqGuard_agg w op t ox oy ys zs (by simpa using h)
  | _=>cases op <;> simp [eqGuard]
 all_goals first
  | (cases op <;> simp [eqGuard]; done)
  | (simp at h; done)
theorem Zaz {d:Nat} {t:TypeId} {x y x' y':Value} {b:Bool} (e:aEq P (d+1) t x y=some b) (hx:VR μ x x') (hy:VR μ y y')
 (hni:∀ k a k' c,x = .int k a->y = .int k' c->False) (hns:∀ a c,x = .string a->y = .string c->False) :
 (binOp .eql t x' y').run P w=((Op.equal t x' y').run P w).andThen (fun b w'=>.ok (.bool b) w') ∧
 (binOp .neq t x' y').run P w=((Op.equal t x' y').run P w).andThen (fun b w'=>.ok (.bool (!b)) w'):=by
 unfold aEq at e
 split at e
 · obtain rfl:=hx.bool_left; obtain rfl:=hy.bool_left; constructor <;> simp [binOp]
 · exact (hni _ _ _ _ rfl rfl).elim
 · exact (hns _ _ rfl rfl).elim
 · obtain ⟨xs',rfl,_⟩:=hx.agg_left; obtain ⟨ys',rfl,_⟩:=hy.agg_left; constructor <;> simp [binOp]
 · obtain ⟨xs',rfl,_⟩:=hx.agg_left; obtain ⟨ys',rfl,_⟩:=hy.agg_left; constructor <;> simp [binOp]
 · clear e hni hns; cases hx <;> cases hy <;> constructor <;> simp [binOp]
 · clear e hni hns; cases hy; cases hx <;> constructor <;> simp [binOp]
 · clear e hni hns; cases hx; cases hy <;> constructor <;> simp [binOp]
 · clear e hni hns; cases hy; cases hx <;> constructor <;> simp [binOp]
 · clear e hni hns; cases hx; cases hy; constructor <;> simp [binOp]
 · clear e hni hns; cases hx; cases hy <;> constructor <;> simp [binOp]
 · clear e hni hns; cases hy; cases hx <;> constructor <;> simp [binOp]
 · clear e hni hns; cases hx; cases hy <;> constructor <;> simp [binOp]
 · clear e hni hns; cases hy; cases hx <;> constructor <;> simp [binOp]
 · cases e
theorem Zit {op:BinOp} {t:TypeId} {x y x' y' v:Value} {ox oy:Operand} (e:Z00 P op t x y=some v) (hx:VR μ x x') (hy:VR μ y y') :
 ∃ v',(do eqGuard op t ox oy x' y'; binOp op t x' y':Sem Value).run P w = .ok v' w/\VR μ v v':=by
 rw [Z0A] at e
 unfold Z0O at e
 split at e
 · rename_i k a k' b
   obtain rfl:=hx.int_left; obtain rfl:=hy.int_left
   have hg:(eqGuard op t ox oy (.int k a) (.int k' b)).run P w = .ok () w:=by cases op <;> simp [eqGuard]
   simp only [jA,hg,qZ]
   split at e
   · obtain ⟨h1,h2⟩:=Z9j (P:=P) (w:=w) (μ:=μ) (k':=k') e t; exact ⟨v,h1,h2⟩
   · obtain ⟨h1,h2⟩:=Z9j (P:=P) (w:=w) (μ:=μ) (k':=k') e t; exact ⟨v,h1,h2⟩
   · rename_i hn1 hn2
     obtain ⟨hc,e1⟩:=Z06 e
     clear e
     have hc:k=k':=by simpa using hc
     subst hc
     obtain ⟨h1,h2⟩:=ZhG (P:=P) (w:=w) (μ:=μ) e1 hn1 hn2 t
     exact ⟨v,h1,h2⟩
 · rename_i a b
   obtain rfl:=hx.str_left; obtain rfl:=hy.str_left
   have hg:(eqGuard op t ox oy (.string a) (.string b)).run P w = .ok () w:=by cases op <;> simp [eqGuard]
   simp only [jA,hg,qZ]
   obtain ⟨h1,h2⟩:=Zhi (P:=P) (w:=w) (μ:=μ) e t
   exact ⟨v,h1,h2⟩
 · rename_i hni hns
   split at e
   · obtain ⟨hg,e⟩:=Z06 e
     simp only [qA] at e
     obtain ⟨b,hb,e⟩:=e
     cases e
     have h1:=Zaf (w:=w) (y':=y') (op:=.eql) (ox:=ox) (oy:=oy) hg hx
     have h2:=Zdc Z1a hb hx hy w 10000 (by decide)
     refine ⟨.bool b, ?_,.bool b⟩
     have h3:=(Zaz (w:=w) (d:=19) hb hx hy hni hns).1
     simp only [jA,h1,qZ,h3,Op.equal,Op.maxDepth,h2]
   · obtain ⟨hg,e⟩:=Z06 e
     simp only [qA] at e
     obtain ⟨b,hb,e⟩:=e
     cases e
     have h1:=Zaf (w:=w) (y':=y') (op:=.neq) (ox:=ox) (oy:=oy) hg hx
     have h2:=Zdc Z1a hb hx hy w 10000 (by decide)
     refine ⟨.bool (!b), ?_,.bool _⟩
     have h3:=(Zaz (w:=w) (d:=19) hb hx hy hni hns).2
     simp only [jA,h1,qZ,h3,Op.equal,Op.maxDepth,h2]
   · cases e
theorem Zkl {op:UnOp} {x x' v:Value} (e:Z2g op x=some v) (hx:VR μ x x'):∃ v',(Op.unary op x').run P w = .ok v' w/\VR μ v v':=by
 unfold Z2g at e
 split at e
 · obtain rfl:=hx.int_left
   split at e
   · cases e; exact ⟨_,by simp [Op.unary,Op.intArith],VR.plain rfl⟩
   · rename_i k n
     unfold Z1U at e
     simp at e
     subst e
     exact ⟨_,by simp [Op.unary,Op.intBits],VR.plain rfl⟩
   · cases e
 · obtain rfl:=hx.bool_left
   split at e
   · cases e; exact ⟨_,by simp [Op.unary],VR.plain rfl⟩
   · cases e
 · cases e
theorem Ze0 {s d:TypeId} {x x' v:Value} (e:Z9K P s d x=some v) (hx:VR μ x x') (hs:∃ ds,P.underlying s=some ds):∃ v',(convert s d x').run P w = .ok v' w/\VR μ v v':=by
 obtain ⟨ds,hds⟩:=hs
 unfold Z9K at e
 split at e
 · rename_i k k2 n hu
   cases e; obtain rfl:=hx.int_left
   refine ⟨_, ?_,VR.plain rfl⟩
   simp only [convert,jA,run_underlying hds,run_underlying hu,qZ]
   cases ds <;> simp [Conv.intToInt]
 · rename_i s hu
   cases e; obtain rfl:=hx.str_left
   refine ⟨_, ?_,VR.plain rfl⟩
   simp only [convert,jA,run_underlying hds,run_underlying hu,qZ]
   cases ds <;> simp
 · cases e
end Go.Ab

namespace Go.Ab
open Go
variable {H:Type} [HeapC H] {P:Program} {μ:Mu} {A:H} {w:World}
def PsR (μ:Mu) (ps ps':List (Nat × Value)):Prop:=ps.map (·.1)=ps'.map (·.1)/\VRs μ (ps.map (·.2)) (ps'.map (·.2))
theorem PsR.left {i:Nat} {v:Value} {ps ps':List (Nat × Value)} (h:PsR μ ((i,v)::ps) ps'):∃ v' qs,ps'=(i,v')::qs/\VR μ v v'/\PsR μ ps qs:=by
 cases ps' with
 | nil=>simp [PsR] at h
 | cons p qs =>
  obtain ⟨j,v'⟩:=p
  obtain ⟨h1,h2⟩:=h
  simp at h1 h2
  obtain ⟨rfl,h1⟩:=h1
  exact ⟨v',qs,rfl,h2.head,h1,h2.tail⟩
theorem PsR.nil_left {ps':List (Nat × Value)} (h:PsR μ [] ps'):ps'=[]:=by
 cases ps' with
 | nil=>rfl
 | cons p qs=>simp [PsR] at h
theorem TmR.evalPs {tm:Tm} {nt:Nat} {a:Act} (h:TmR μ tm nt a.tmps):∀ {ps:List (Nat × Operand)} {vs:List (Nat × Value)},Ab.evalPs tm ps=some vs->PsR μ vs (ps.map fun (i,x)=>(i,a.eval x))
 | [],vs,e=>by simp [Ab.evalPs] at e; subst e; exact ⟨rfl,VRs.nil μ⟩
 | (i,x)::ps,vs,e=>by
  simp only [Ab.evalPs,qA] at e
  obtain ⟨v,hv,ws,hw,e⟩:=e
  cases e
  obtain ⟨h1,h2⟩:=h.evalPs hw
  exact ⟨by simpa using h1,VRs.cons (h.eval hv) h2⟩
theorem Z9s (off:Nat):∀ (xs:List Value) (k:Nat) (cs:Array Value),off+k+xs.length<=cs.size →
 ((xs.zipIdx k).foldl (fun (cs:Array Value) (p:Value × Nat)=>cs.setIfInBounds (off+p.2) p.1) cs).toList=Z0Z cs.toList (off+k) xs
 | [],k,cs,h=>by simp [Z0Z]
 | x::xs,k,cs,h=>by
  simp only [List.zipIdx_cons,List.foldl_cons]
  simp at h
  rw [Z9s off xs (k+1) _ (by simp; omega)]
  simp only [Z0Z,Array.toList_setIfInBounds]
  apply List.ext_getElem?
  intro j
  simp only [List.getElem?_append,jI,qT,jL,List.getElem?_take,List.getElem?_drop,List.getElem?_set,Array.length_toList,jK]
  have hmin1:min (off+(k+1)) cs.size=off+k+1:=qO
  have hmin2:min (off+k) cs.size=off+k:=qO
  simp only [hmin1,hmin2]
  by_cases h1:j<off+k
  · have:j<off+k+1+xs.length:=qO
    have h2:j<off+k+1:=qO
    have h3:j<off+(k+1):=qO
    have h4:j<off+k+(xs.length+1):=qO
    have h5:¬ off+k=j:=qO
    simp [h1,h2,h3,h4,h5,this]
  · by_cases h2:j=off+k
    · subst h2
      have:off+k<off+k+1+xs.length:=qO
      have h3:off+k<off+(k+1):=qO
      have h4:off+k<off+k+(xs.length+1):=qO
      have h5:off+k<cs.size:=qO
      simp [this,h3,h4,h5]
    · by_cases h3:j<off+k+1+xs.length
      · have h4:¬ j<off+k+1:=qO
        have h5:j<off+k+(xs.length+1):=qO
        have h6:j-(off+k)=(j-(off+k+1))+1:=qO
        simp [h1,h3,h4,h5,h6]
      · have h4:¬ j<off+k+(xs.length+1):=qO
        have h6:¬ off+k=off+(k+1)+xs.length+(j-(off+k+1+xs.length)):=qO
        simp [h3,h4,h6]
        congr 1
        omega
theorem Z9I {place:Nat->Option (Nat × Nat)}:∀ {ps ps':List (Nat × Value)} {cs cs' r:List Value},ZcR place cs ps=some r->PsR μ ps ps'->VRs μ cs cs' →
 ∃ r',Instr.fill place cs'.toArray ps'=some r'/\VRs μ r r'.toList
 | [],ps',cs,cs',r,e,hp,hc=>by
  rw [hp.nil_left]
  simp [ZcR] at e
  subst e
  exact ⟨_,rfl,by simpa using hc⟩
 | (i,v)::ps,ps',cs,cs',r,e,hp,hc=>by
  obtain ⟨v',qs,rfl,hv,hq⟩:=hp.left
  simp only [ZcR,qA] at e
  obtain ⟨⟨off,size⟩,hpl,e⟩:=e
  obtain ⟨hb,e⟩:=Z06 e
  simp only [qN] at hb
  have hb1:=qJ hb.1
  have hb2:=qP hb.2
  have hvs:v'.cells.size=size:=by have:=hv.cells.1; simp at this; omega
  have hcl:cs'.length=cs.length:=hc.1.symm
  have hspl:VRs μ (Z0Z cs off v.cells.toList) (Z0Z cs' off v'.cells.toList):=by
   unfold Z0Z
   rw [show off+v'.cells.toList.length=off+v.cells.toList.length from by have:=hv.cells.1; omega]
   exact ((hc.take _).append hv.cells).append (hc.drop _)
  have hfold:=Z9s off v'.cells.toList 0 cs'.toArray (by simp only [Array.length_toList,List.size_toArray,qW]; omega)
  obtain ⟨r',h1,h2⟩:=Z9I e hq hspl
  refine ⟨r', ?_,h2⟩
  have hcond:(decide (v'.cells.size ≠ size) || decide (off+v'.cells.size > cs'.toArray.size))=false:=by
   simp [hvs]; omega
  simp only [Instr.fill,hpl]
  rw [if_neg (by simpa using hcond)]
  rw [← h1]
  congr 1
  apply Array.ext'
  rw [← Array.foldl_toList,Array.toList_zipIdx]
  simpa using hfold
theorem Zef {t:TypeId} {pl:Nat->Option (Nat × Nat)} (h:Zeg P t=some pl) :
 (∃ fs,P.underlying t=some (.struct fs)/\(∀ f ∈ fs.toList,∃ z,Z1E P f.type=some z)/\pl=fun i=>(fs[i]?).bind fun f=>(Z1E P f.type).bind fun z=>some (f.offset,z)) ∨
 (∃ n e z,P.underlying t=some (.array n e)/\Z1E P e=some z/\pl=fun i=>some (i*z,z)):=by
 unfold Zeg at h
 split at h
 · obtain ⟨hc,h⟩:=Z06 h
   cases h
   exact .inl ⟨_,‹_›,fun f hf=>Option.isSome_iff_exists.1 (List.all_eq_true.1 hc f hf),rfl⟩
 · simp only [qA] at h
   obtain ⟨z,hz,h⟩:=h
   cases h
   exact .inr ⟨_,_,_,‹_›,hz,rfl⟩
 · cases h
theorem Z5F:∀ (fs:List Field),(∀ f ∈ fs,∃ z,Z1E P f.type=some z) -> ∀ (w:World),
 (fs.mapM (m:=Sem) fun f=>do pure (f.offset,← sizeOf f.type)).run P w = .ok (fs.map fun f=>(f.offset,(Z1E P f.type).getD 0)) w
 | [],_,w=>by simp
 | f::fs,h,w=>by
  obtain ⟨z,hz⟩:=h f (by simp)
  have ih:=Z5F fs (fun g hg=>h g (by simp [hg])) w
  rw [List.mapM_cons]
  simp only [jA,Z0m hz,qZ,jB,ih]
  simp [hz]
theorem Z9t {pl pl':Nat->Option (Nat × Nat)}:∀ {ps:List (Nat × Value)} {cs r:List Value},(∀ i p,pl i=some p->pl' i=some p)->ZcR pl cs ps=some r->ZcR pl' cs ps=some r
 | [],cs,r,h,e=>e
 | (i,v)::ps,cs,r,h,e=>by
  simp only [ZcR,qA] at e ⊢
  obtain ⟨p,hp,e⟩:=e
  obtain ⟨hb,e⟩:=Z06 e
  exact ⟨p,h i p hp,by rw [hb]; exact Z9t h e⟩
theorem Zis {t:TypeId} {ps ps':List (Nat × Value)} {v:Value} (e:Zhe P t ps=some v) (hp:PsR μ ps ps'):∃ v',(Instr.build t ps'.toArray).run P w = .ok v' w/\VR μ v v':=by
 simp only [Zhe,qA] at e
 obtain ⟨z,hz,e⟩:=e
 obtain ⟨hpz,e⟩:=Z06 e
 simp only [qA] at e
 obtain ⟨pl,hpl,cs,hcs,e⟩:=e
 cases e
 have hzr:VRs μ z.cells.toList z.cells.toList:=(VR.plainL (μ:=μ) hpz).cells
 rcases Zef hpl with ⟨fs,hu,hall,rfl⟩ | ⟨n,el,sz,hu,hsz,rfl⟩
 · have hm:=Z5F (P:=P) fs.toList hall w
   have hcs':=Z9t (pl':=fun i=>(fs.map fun f=>(f.offset,(Z1E P f.type).getD 0))[i]?) (fun i p h=>by
    simp only [qA] at h
    obtain ⟨f,hf,y,hy,h⟩:=h
    cases h
    simp [hf,hy]) hcs
   obtain ⟨r',h1,h2⟩:=Z9I hcs' hp hzr
   refine ⟨.agg r', ?_,VR.agg_iff.2 (by simpa using h2)⟩
   have hma:(fs.mapM (m:=Sem) fun f=>do pure (f.offset,← sizeOf f.type)).run P w = .ok (fs.map fun f=>(f.offset,(Z1E P f.type).getD 0)) w:=by
    rw [Array.mapM_eq_mapM_toList]
    simp only [Sem.run_map,hm,qZ]
    congr 1
    apply Array.ext'
    simp
   simp only [Instr.build,jA,Z0J hz,run_underlying hu,qZ,hma]
   simp only [Array.toArray_toList] at h1
   simp only [h1,jB]
 · obtain ⟨r',h1,h2⟩:=Z9I hcs hp hzr
   refine ⟨.agg r', ?_,VR.agg_iff.2 (by simpa using h2)⟩
   simp only [Array.toArray_toList] at h1
   simp only [Instr.build,jA,Z0J hz,run_underlying hu,qZ,Z0m hsz,h1,jB]
theorem Z1u (z:List Value):∀ n,(Z1s z n).length=n*z.length
 | 0=>by simp [Z1s]
 | n+1=>by simp [Z1s,Z1u z n,Nat.add_mul,Nat.add_comm]
theorem Zdg (z:List Value):∀ (n i:Nat),i<n*z.length->(Z1s z n)[i]? = z[i % z.length]?
 | 0,i,h=>by simp at h
 | n+1,i,h=>by
  simp only [Z1s]
  have hz:0<z.length:=by
   rcases Nat.eq_zero_or_pos z.length with h0 | h0
   · rw [h0] at h; simp at h
   · exact h0
  by_cases hi:i<z.length
  · rw [jE hi,Nat.mod_eq_of_lt hi]
  · rw [List.getElem?_append_right qO,Zdg z n (i-z.length) (by rw [Nat.add_mul] at h; omega)]
    congr 1
    rw [Nat.mod_eq_sub_mod (by omega:i >= z.length)]
theorem Z6p (z:Array Value) (n:Nat):((Array.range (n*z.size)).map fun i=>z[i % z.size]!).toList=Z1s z.toList n:=by
 apply List.ext_getElem?
 intro i
 simp only [Array.toList_map,Array.toList_range,List.getElem?_map]
 by_cases h:i<n*z.size
 · rw [Zdg z.toList n i (by simpa using h),List.getElem?_range h]
   have hz:0<z.size:=by
    rcases Nat.eq_zero_or_pos z.size with h0 | h0
    · rw [h0] at h; simp at h
    · exact h0
   have hm:i % z.size<z.size:=Nat.mod_lt _ hz
   simp [getElem!_pos,hm]
 · rw [jF (by simp; omega),jF (by rw [Z1u]; simp; omega)]
   rfl
theorem Z3U {z:List Value} (h:VRs μ z z):∀ n,VRs μ (Z1s z n) (Z1s z n)
 | 0=>VRs.nil μ
 | n+1=>h.append (Z3U h n)
theorem Z4M {t e:TypeId} (h:Zf3 P t=some e):P.underlying t=some (.slice e):=by
 unfold Zf3 at h
 split at h
 · cases h; assumption
 · cases h
theorem Z9G {c:Nat} (hR:R μ A w) {id:Nat} (hid:μ id=none) {cs cs':List Value} (h:VRs μ cs cs') (E:TypeId) :
 Ext μ A c w (fun i=>i=id) (μ.upd id ⟨w.heap.size,0,none⟩) (newB A id cs) c { w with heap:=w.heap.push (.cells cs'.toArray E) }:=by
 refine Ext.alloc hR hid rfl rfl rfl rfl rfl rfl ?_
 refine ⟨cs'.toArray,E,(0,0),by simp,fun k x hx=>?_,fun _=>rfl,rfl⟩
 obtain ⟨y,hy,hv⟩:=h.get hx
 exact ⟨y,by simpa using hy,hv.mono (Mu.le_upd hid)⟩
theorem Zfx {id:Nat} {b:Nat} (hid:μ id=none):VR (μ.upd id ⟨b,0,none⟩) (ptrTo id) (.pointer (some ⟨b,0,none⟩)):=by
 have:=VR.ptr (μ:=μ.upd id ⟨b,0,none⟩) (o:=0) (Mu.upd_self μ id ⟨b,0,none⟩)
 simpa [ptrTo] using this
theorem ZiE {id:Nat} {b l c:Nat}:VR (μ.upd id ⟨b,0,none⟩) (.slice (some ⟨id,0,none⟩) l c) (.slice (some ⟨b,0,none⟩) l c):=by
 have:=VR.sl (μ:=μ.upd id ⟨b,0,none⟩) (o:=0) (l:=l) (c:=c) (c':=c) (Mu.upd_self μ id ⟨b,0,none⟩) (qG _) (.inl rfl)
 simpa using this
theorem ZaA {t:TypeId} {len:Nat} {ps ps':List (Nat × Value)} {cs:List Value} (e:Z5w P t len ps=some cs) (hp:PsR μ ps ps') :
 ∃ cs' E,(Instr.buildSlice t len ps'.toArray).run P w = .ok (.slice (some ⟨w.heap.size,0,none⟩) len len) { w with heap:=w.heap.push (.cells cs'.toArray E) } /\ VRs μ cs cs':=by
 simp only [Z5w,qA] at e
 obtain ⟨el,hel,sz,hsz,zv,hz,e⟩:=e
 obtain ⟨hc,e⟩:=Z06 e
 simp only [qN] at hc
 have hc1:=qP hc.1.1
 have hc3:=qJ hc.2
 have hu:=Z4M hel
 have hzr:VRs μ zv.cells.toList zv.cells.toList:=(VR.plainL (μ:=μ) hc.1.2).cells
 obtain ⟨r',h1,h2⟩:=Z9I e hp (Z3U hzr len)
 refine ⟨r'.toList,el, ?_,h2⟩
 have h16:¬ len*sz > 2 ^ 24:=qO
 have hzeros:((Array.range (len*sz)).map fun x=>(if len*sz=0 then #[] else zv.cells)[x % (if len*sz=0 then #[] else zv.cells).size]!)=(Z1s zv.cells.toList len).toArray:=by
  apply Array.ext'
  by_cases h0:len*sz=0
  · rw [h0]
    have:(Z1s zv.cells.toList len).length=0:=by rw [Z1u]; simp [hc3,h0]
    rw [qX this]
    simp
  · simp only [h0,if_false]
    rw [← hc3]
    simpa using Z6p zv.cells len
 simp only [Instr.buildSlice,jA,run_underlying hu,qZ,Z0m hsz]
 rw [if_neg h16]
 by_cases h0:len*sz=0
 · simp only [h0,if_true] at hzeros
   simp only [jA,h0,if_true,jB,qZ,hzeros,h1,newRow,run_newObj]
 · simp only [h0,if_false] at hzeros
   simp only [jA,h0,if_false,Z0J hz,jB,qZ,hzeros,h1,newRow,run_newObj]
theorem Z7B {v:Value} {i:Int} (h:Zoa v=some i):∃ k,v = .int k i:=by
 unfold Zoa at h
 split at h
 · cases h; exact ⟨_,rfl⟩
 · cases h
theorem Z7J {n:Int} (h0:0<=n) (h:n<=281474976710656):IntKind.i64.wrap n=n:=by
 unfold IntKind.wrap IntKind.bits IntKind.signed
 simp only [Bool.true_and]
 have:n % (2 ^ 64:Int)=n:=Int.emod_eq_of_lt h0 qO
 rw [this]
 have h2:¬ (n >= (2 ^ (64-1):Int)):=qO
 simp [h2]
 omega
theorem ZaN {t:TypeId} {l k l' k':Value} {r:List Value × Nat × Nat} (e:Z6c P t l k=some r) (hl:VR μ l l') (hk:VR μ k k') :
 ∃ cs' E,(Instr.makeSlice t l' k').run P w = .ok (.slice (some ⟨w.heap.size,0,none⟩) r.2.1 r.2.2) { w with heap:=w.heap.push (.cells cs'.toArray E) } /\ VRs μ r.1 cs':=by
 simp only [Z6c,qA] at e
 obtain ⟨el,hel,sz,hsz,by',hby,zv,hz,ln,hln,cn,hcn,e⟩:=e
 obtain ⟨hc,e⟩:=Z06 e
 cases e
 simp only [qN,decide_eq_true_eq] at hc
 obtain ⟨⟨⟨⟨⟨h1,h2⟩,h3⟩,h4⟩,h5⟩,h6⟩:=hc
 have h6:=qJ h6
 have hu:=Z4M hel
 obtain ⟨k1,rfl⟩:=Z7B hln
 obtain ⟨k2,rfl⟩:=Z7B hcn
 obtain rfl:=hl.int_left
 obtain rfl:=hk.int_left
 have hzr:VRs μ zv.cells.toList zv.cells.toList:=(VR.plainL (μ:=μ) h5).cells
 refine ⟨Z1s zv.cells.toList cn.toNat,el, ?_,Z3U hzr _⟩
 have hti:∃ i,P.info? el=some i/\i.bytes=by':=by
  simp only [Zaw,Option.map_eq_some_iff] at hby; exact hby
 obtain ⟨inf,hinf,hbytes⟩:=hti
 have w1:=Z7J (n:=ln) h1 qO
 have w2:=Z7J (n:=cn) qO h4
 have t1:(decide (cn<0) || decide ((by':Int)*cn > 2 ^ 48))=false:=by
  have a1:¬ cn<0:=qO
  have a2:¬ (by':Int)*cn > 2 ^ 48:=qO
  rw [decide_eq_false a1,decide_eq_false a2]; rfl
 have hcnd:((decide (cn<0) || decide ((by':Int)*cn > 2 ^ 48)) || decide (ln<0) || decide (ln > cn))=false:=by
  rw [t1]
  have a1:¬ ln<0:=qO
  have a2:¬ ln > cn:=qO
  simp [a1,a2]
 have hzeros:((Array.range (cn.toNat*sz)).map fun x=>(if cn.toNat*sz=0 then #[] else zv.cells)[x % (if cn.toNat*sz=0 then #[] else zv.cells).size]!)=(Z1s zv.cells.toList cn.toNat).toArray:=by
  apply Array.ext'
  by_cases h0:cn.toNat*sz=0
  · rw [h0]
    have:(Z1s zv.cells.toList cn.toNat).length=0:=by rw [Z1u]; simp [h6,h0]
    rw [qX this]
    simp
  · simp only [h0,if_false]
    rw [← h6]
    simpa using Z6p zv.cells cn.toNat
 by_cases h0:cn.toNat*sz=0
 · simp only [h0,if_true] at hzeros
   simp only [Instr.makeSlice,jA,run_underlying hu,qZ,asInt,asIntOf,jB,Z0R hinf,hbytes,w1,w2]
   rw [if_neg (by simpa using hcnd)]
   simp only [jA,run_askRoom,qZ,Z0m hsz,h0,if_true,jB,hzeros,newRow,run_newObj]
 · simp only [h0,if_false] at hzeros
   simp only [Instr.makeSlice,jA,run_underlying hu,qZ,asInt,asIntOf,jB,Z0R hinf,hbytes,w1,w2]
   rw [if_neg (by simpa using hcnd)]
   simp only [jA,run_askRoom,qZ,Z0m hsz,h0,if_false,Z0J hz,jB,hzeros,newRow,run_newObj]
end Go.Ab

namespace Go.Ab
open Go
variable {H:Type} [HeapC H] {P:Program} {μ:Mu} {A:H} {w:World}
theorem Z49 {α:Type} (f:α->PUnit->Sem (ForInStep PUnit)):∀ (l:List α),(∀ a ∈ l,∀ (u:PUnit) (w:World),(f a u).run P w = .ok (.yield ⟨⟩) w) -> ∀ (w:World),
 (forIn l PUnit.unit f:Sem PUnit).run P w = .ok ⟨⟩ w
 | [],_,w=>by simp
 | a::l,h,w=>by
  rw [List.forIn_cons]
  simp only [jA,h a (by simp),qZ]
  exact Z49 f l (fun b hb=>h b (by simp [hb])) w
theorem Zad:∀ (d:Nat) {t:TypeId} {v v':Value},Z9x P d t v=true->VR μ v v' -> ∀ (em:Bool) (k:Nat) (w:World),d<=k->(Instr.checkKey em k t v').run P w = .ok () w
 | 0,t,v,v',e,hv=>by simp [Z9x] at e
 | d+1,t,v,v',e,hv=>by
  intro em k w hk
  obtain ⟨k,rfl⟩:∃ n,k=n+1:=⟨k-1,qO⟩
  have hk:d<=k:=qO
  have ih:=fun {t v v'}=>Zad d (t:=t) (v:=v) (v':=v')
  unfold Z9x at e
  split at e
  · rename_i hu; obtain rfl:=hv.int_left
    simp only [Instr.checkKey,jA,run_underlying hu,qZ,jB]
  · rename_i hu; obtain rfl:=hv.str_left
    simp only [Instr.checkKey,jA,run_underlying hu,qZ,jB]
  · rename_i hu; obtain rfl:=hv.bool_left
    simp only [Instr.checkKey,jA,run_underlying hu,qZ,jB]
  · rename_i len el cs hu
    obtain ⟨cs',rfl,hcs⟩:=hv.agg_left
    split at e
    · rename_i n hn
      simp only [Instr.checkKey,jA,run_underlying hu,qZ]
      simp only [Std.Legacy.Range.forIn_eq_forIn_range',Std.Legacy.Range.size,Nat.sub_zero,Nat.add_one_sub_one,Nat.div_one]
      refine Eq.trans (congrArg (fun r=>Result.andThen r _) (Z49 (P:=P) _ _ (fun i hi u w=>?_) w)) rfl
      have hi':i<len:=by simpa [List.mem_range'] using hi
      have:=List.all_eq_true.1 e i (List.mem_range.2 hi')
      split at this
      · rename_i x hx
        obtain ⟨x',h1,h2⟩:=Z2G (w:=w) hx hcs
        simp only [Array.toArray_toList] at h1
        simp only [jA,Z0m hn,qZ,h1,ih this h2 em k w hk,jB]
      · cases this
    · cases e
  · rename_i fs cs hu
    obtain ⟨cs',rfl,hcs⟩:=hv.agg_left
    simp only [Instr.checkKey,jA,run_underlying hu,qZ]
    rw [← Array.forIn_toList]
    refine Eq.trans (congrArg (fun r=>Result.andThen r _) (Z49 (P:=P) _ _ (fun f hf u w=>?_) w)) rfl
    have:=List.all_eq_true.1 e f hf
    by_cases hn:f.name = "_"
    · simp [hn]
    · have hb:(f.name == "_")=false:=by simpa using hn
      simp only [hb,Bool.false_or] at this
      split at this
      · rename_i x hx
        obtain ⟨x',h1,h2⟩:=Z2G (w:=w) hx hcs
        simp only [Array.toArray_toList] at h1
        simp only [ne_eq,hn,not_false_eq_true,if_true,jA,qZ,h1,ih this h2 em k w hk,jB]
      · cases this
  · cases e
theorem EsR.left {x:Value × Value} {es:List (Value × Value)} {es':List MapEntry} (h:EsR μ (x::es) es'):∃ y ys,es'=y::ys/\VR μ x.1 y.key/\VR μ x.2 y.val/\EsR μ es ys:=by
 cases es' with
 | nil=>exact absurd h.1 (by simp)
 | cons y ys =>
  obtain ⟨h1,h2⟩:=h
  exact ⟨y,ys,rfl,(h2 0 x y (by simp) (by simp)).1,(h2 0 x y (by simp) (by simp)).2,by simpa using h1,fun k a b ha hb=>h2 (k+1) a b (by simpa using ha) (by simpa using hb)⟩
theorem EsR.nil_left {es':List MapEntry} (h:EsR μ [] es'):es'=[]:=by
 cases es' with
 | nil=>rfl
 | cons y ys=>exact absurd h.1 (by simp)
def ZoM (μ:Mu):Option (Nat × Value)->Option (Nat × Value)->Prop
 | none,none=>True
 | some (i,v),some (j,v')=>i=j/\VR μ v v'
 | _,_=>False
theorem Z6m {kt:TypeId} {k k':Value} (hk:VR μ k k'):∀ {es:List (Value × Value)} {es':List MapEntry} {i:Nat} {r:Option (Nat × Value)},Zai P kt k es i=some r->EsR μ es es' -> ∀ (w:World),
 ∃ r',(Instr.findAsking kt k' es' i).run P w = .ok r' w/\ZoM μ r r'
 | [],es',i,r,e,he,w=>by
  rw [he.nil_left]
  simp [Zai] at e
  subst e
  exact ⟨none,rfl,trivial⟩
 | (a,v)::es,es',i,r,e,he,w=>by
  obtain ⟨y,ys,rfl,h1,h2,h3⟩:=he.left
  simp only [Zai,qA] at e
  obtain ⟨b,hb,e⟩:=e
  have hq:=Zdc Z1a hb hk h1 w 10000 (by decide)
  simp only [Instr.findAsking,jA,Op.equal,Op.maxDepth,hq,qZ]
  cases b with
  | true =>
   simp only [cond_true,Option.some.injEq] at e
   subst e
   exact ⟨some (i,y.val),by simp,rfl,h2⟩
  | false =>
   simp only [cond_false] at e
   obtain ⟨r',h4,h5⟩:=Z6m hk e h3 w
   exact ⟨r',by simpa using h4,h5⟩
theorem Zb7 {td:TypeDesc} {kt:TypeId} (hu:P.underlying kt=some td) {k:Value}:∀ {es:List MapEntry} {i:Nat} {r r':Option (Nat × Value)} {w:World},
 Instr.findNow td k es i=some r->(Instr.findAsking kt k es i).run P w = .ok r' w->r=r'
 | [],i,r,r',w,h,h'=>by
  simp [Instr.findNow] at h
  simp [Instr.findAsking] at h'
  rw [← h,← h']
 | e::es,i,r,r',w,h,h'=>by
  unfold Instr.findNow at h
  have key:∀ b,Instr.sameNow td k e.key=some b->(Op.equal kt k e.key).run P w = .ok b w:=by
   intro b hb
   generalize e.key=kk at hb ⊢
   unfold Instr.sameNow at hb
   split at hb
   · split at hb
     · rename_i hkk
       subst hkk
       cases hb
       exact run_equalIn_int (P:=P) w 9999 kt _ _ _ _ hu
     · cases hb
   · cases hb; rw [beq_toListBytes]; exact run_equalIn_string (P:=P) w 9999 kt _ _ hu
   · cases hb; exact run_equalIn_bool' (P:=P) w 9999 kt _ _ hu
   · cases hb
  split at h
  · rename_i hs
    cases h
    simp only [Instr.findAsking,jA,key _ hs,qZ,if_true,jB] at h'
    cases h'; rfl
  · rename_i hs
    simp only [Instr.findAsking,jA,key _ hs,qZ,Bool.false_eq_true,if_false] at h'
    exact Zb7 hu h h'
  · cases h
theorem Zaj {kt:TypeId} {k k':Value} (hk:VR μ k k') {es:List (Value × Value)} {es':List MapEntry} {r:Option (Nat × Value)} (hko:∃ td,P.underlying kt=some td) (e:Zai P kt k es 0=some r) (he:EsR μ es es') (w:World) :
 ∃ r',(Instr.findKey kt k' es').run P w = .ok r' w/\ZoM μ r r':=by
 obtain ⟨td,hu⟩:=hko
 obtain ⟨r',h1,h2⟩:=Z6m hk e he w
 refine ⟨r', ?_,h2⟩
 simp only [Instr.findKey,jA,run_underlying hu,qZ]
 split
 · rename_i q hq
   rw [Zb7 hu hq h1]
   rfl
 · exact h1
theorem Zac {d:Nat} {t:TypeId} {v:Value} (h:Z9x P d t v=true):∃ td,P.underlying t=some td:=by
 cases d with
 | zero=>simp [Z9x] at h
 | succ d=>unfold Z9x at h; split at h <;> first | exact ⟨_,by assumption⟩ | cases h
theorem Z6R {t:TypeId} {ke:TypeId × TypeId} (h:Zpi P t=some ke):P.underlying t=some (.map ke.1 ke.2):=by
 unfold Zpi at h
 split at h
 · cases h; assumption
 · cases h
theorem Z2z {b:Nat} {es:Array MapEntry} {clk:Nat} (h:w.heap[b]? = some (.map es clk)):(getObj b).run P w = .ok (.map es clk) w:=by
 simp [getObj,Sem.run,h]
theorem Zfe (hR:R μ A w) {t:TypeId} {m m' k k' v:Value} {ok:Bool} (e:Z5Q P A t m k ok=some v) (hm:VR μ m m') (hk:VR μ k k') :
 ∃ v',(Instr.lookup t m' k' ok).run P w = .ok v' w/\VR μ v v':=by
 simp only [Z5Q,qA] at e
 obtain ⟨ke,hke,e⟩:=e
 obtain ⟨hkok,e⟩:=Z06 e
 simp only [qA] at e
 obtain ⟨z,hz,e⟩:=e
 obtain ⟨hpz,e⟩:=Z06 e
 simp only [qA] at e
 obtain ⟨es,hes,r,hr,e⟩:=e
 have hu:=Z6R hke
 have hentries:(m' = .map none/\es=[]) ∨ ∃ (b:Nat) (es':Array MapEntry) (clk:Nat),m' = .map (some b)/\w.heap[b]? = some (.map es' clk)/\EsR μ es es'.toList:=by
  split at hes
  · cases hes
    cases hm
    exact .inl ⟨rfl,rfl⟩
  · rename_i i
    split at hes
    · cases hes
      rename_i hg
      cases hm with
      | map hm =>
       have hb:=hR.blk _ _ hm
       rw [hg] at hb
       obtain ⟨es',clk,h1,h2⟩:=hb
       exact .inr ⟨_,es',clk,rfl,h1,h2⟩
    · cases hes
  · cases hes
 have hrun:∃ es':Array MapEntry,EsR μ es es'.toList /\ ∀ x,((Instr.checkKey es'.isEmpty 10000 ke.1 k').run P w = .ok () w)->(Instr.findKey ke.1 k' es'.toList).run P w = .ok x w →
  (Instr.lookup t m' k' ok).run P w=(do
   let (v,ok') ← match x with
    | some (_,v)=>pure (v,true)
    | none=>pure (← zeroValue ke.2,false)
   pure (if ok then .tuple #[v,.bool ok'] else v):Sem Value).run P w:=by
  rcases hentries with ⟨rfl,rfl⟩ | ⟨b,es',clk,rfl,h1,h2⟩
  · refine ⟨#[],⟨rfl,by simp⟩,fun x hc hx=>?_⟩
    simp only [Instr.lookup,jA,run_underlying hu,qZ,jB,hc,hx]
    cases x <;> rfl
  · refine ⟨es',h2,fun x hc hx=>?_⟩
    simp only [Instr.lookup,jA,run_underlying hu,qZ,Z2z h1,jB,hc,hx]
    cases x <;> rfl
 obtain ⟨es',he,hrun⟩:=hrun
 obtain ⟨r',h1,h2⟩:=Zaj (P:=P) hk (Zac hkok) hr he w
 have hck:=Zad Z1a hkok hk (es'.isEmpty) 10000 w (by decide)
 rw [hrun r' hck h1]
 cases r with
 | none =>
  cases r' with
  | some _=>exact h2.elim
  | none =>
   simp only at e
   have hvz:VR μ z z:=VR.plainL hpz
   cases ok with
   | true =>
    simp at e; subst e
    exact ⟨.tuple #[z,.bool false],by simp [Z0J hz],VR.tuple_iff.2 (VRs.cons hvz (VRs.cons (.bool _) (VRs.nil μ)))⟩
   | false =>
    simp at e; subst e
    exact ⟨z,by simp [Z0J hz],hvz⟩
 | some p =>
  cases r' with
  | none=>exact h2.elim
  | some p' =>
   obtain ⟨i,x⟩:=p
   obtain ⟨j,y⟩:=p'
   obtain ⟨rfl,hv⟩:=h2
   simp only at e
   cases ok with
   | true =>
    simp at e; subst e
    exact ⟨.tuple #[y,.bool true],by simp,VR.tuple_iff.2 (VRs.cons hv (VRs.cons (.bool _) (VRs.nil μ)))⟩
   | false =>
    simp at e; subst e
    exact ⟨y,by simp,hv⟩
theorem EsR.append {es fs:List (Value × Value)} {es' fs':List MapEntry} (h:EsR μ es es') (k:EsR μ fs fs'):EsR μ (es++fs) (es'++fs'):=by
 refine ⟨by simp [h.1,k.1],fun n x y hx hy=>?_⟩
 rw [List.getElem?_append] at hx hy
 rw [h.1] at hx
 split at hx
 · rename_i hn; rw [if_pos hn] at hy; exact h.2 n x y hx hy
 · rename_i hn; rw [if_neg hn] at hy; exact k.2 _ x y hx hy
theorem EsR.one {k v:Value} {e:MapEntry} (h1:VR μ k e.key) (h2:VR μ v e.val):EsR μ [(k,v)] [e]:=by
 refine ⟨rfl,fun n x y hx hy=>?_⟩
 cases n with
 | zero=>simp at hx hy; subst hx; subst hy; exact ⟨h1,h2⟩
 | succ n=>simp at hx
theorem VR.plain_eq {v v':Value} (h:Z2P v=true) (hv:VR μ v v'):v'=v:=by
 cases hv <;> simp [Z2P] at h <;> rfl
theorem VRs.plain_eq {xs ys:List Value} (h:xs.all Z2P=true) (hv:VRs μ xs ys):ys=xs:=by
 induction xs generalizing ys with
 | nil=>exact hv.nil_left
 | cons x xs ih =>
  obtain ⟨y,zs,rfl,h1,h2⟩:=hv.left
  simp only [List.all_cons,qN] at h
  rw [h1.plain_eq h.1,ih h.2 h2]
theorem VR.plainL_eq {v v':Value} (h:Ab.plainL v=true) (hv:VR μ v v'):v'=v:=by
 cases v with
 | agg cs =>
  obtain ⟨cs',rfl,hr⟩:=hv.agg_left
  have:=VRs.plain_eq h hr
  congr 1
  exact Array.ext' this
 | _=>exact hv.plain_eq h
theorem EsR.set {es:List (Value × Value)} {es':List MapEntry} (h:EsR μ es es') {j:Nat} {k v:Value} {e:MapEntry} (h1:VR μ k e.key) (h2:VR μ v e.val):EsR μ (es.set j (k,v)) (es'.set j e):=by
 refine ⟨by simp [h.1],fun n x y hx hy=>?_⟩
 rw [List.getElem?_set] at hx hy
 by_cases hj:j=n
 · simp only [hj,if_true] at hx hy
   split at hx
   · split at hy
     · cases hx; cases hy; exact ⟨h1,h2⟩
     · cases hy
   · cases hx
 · simp only [hj,if_false] at hx hy
   exact h.2 n x y hx hy
theorem Z6h {b:Nat} {es:Array MapEntry} {clk:Nat} (h:w.heap[b]? = some (.map es clk)) (o:Obj):(setObj b o).run P w = .ok () { w with heap:=w.heap.setIfInBounds b o }:=by
 simp [setObj,Sem.run,h]
theorem Ext.setObj {c:Nat} {own:Nat->Prop} (hR:R μ A w) {i:Nat} {m:ME} (hm:μ i=some m) (hw:wrB (HeapC.get A i)=true) {blk:ABlk} (hn:wrB (some blk)=true) {o:Obj}
 (hb:∀ h:Array Obj,h[m.b]? = some o->Z7H μ m h (some blk)) :
 Ext μ A c w own μ (HeapC.set A i blk) c { w with heap:=w.heap.setIfInBounds m.b o }:=by
 refine Ext.write hR hm hw hn rfl rfl rfl (by simp) (fun b hne=>by simp only; rw [Array.getElem?_setIfInBounds_ne (Ne.symm hne)]) (hb _ ?_)
 have:=hR.lt i m hm
 simp [this]
theorem Z6o {c:Nat} {own:Nat->Prop} (hR:R μ A w) {t:TypeId} {m m' k k' v v':Value} {A':H} (e:Z0P P A t m k v=some A') (hm:VR μ m m') (hk:VR μ k k') (hv:VR μ v v') :
 ∃ w',(Instr.mapUpdate t m' k' v').run P w = .ok () w'/\Ext μ A c w own μ A' c w':=by
 simp only [Z0P,qA] at e
 obtain ⟨ke,hke,e1⟩:=e
 obtain ⟨hkok,e⟩:=Z06 e1
 clear e1
 simp only [qN] at hkok
 obtain ⟨hkok,hpk⟩:=hkok
 have hu:=Z6R hke
 split at e
 · rename_i i
   split at e
   · rename_i es hg
     simp only [qA] at e
     obtain ⟨r,hr,e⟩:=e
     cases hm with
     | @map _ me hm =>
      have hb:=hR.blk _ _ hm
      rw [hg] at hb
      obtain ⟨es',clk,h1,h2⟩:=hb
      obtain ⟨r',h3,h4⟩:=Zaj (P:=P) hk (Zac hkok) hr h2 w
      have hck:=Zad Z1a hkok hk false 10000 w (by decide)
      have hw:wrB (HeapC.get A i)=true:=by rw [hg]; rfl
      cases r with
      | some p =>
       obtain ⟨j,x⟩:=p
       cases r' with
       | none=>exact h4.elim
       | some p' =>
        obtain ⟨j',y⟩:=p'
        obtain ⟨rfl,_⟩:=h4
        simp only at e
        split at e
        · rename_i old ov hj
          obtain ⟨hs,e⟩:=Z06 e
          simp only [qN] at hs
          cases e
          have hjl:j<es'.size:=by have:=(jC.1 hj).1; have:=h2.1; simp at this; omega
          have hje:es'[j]? = some es'[j]:=qR hjl
          have hold:=(h2.2 j (old,ov) es'[j] hj (by simpa using hje)).1
          have ho:=hold.plainL_eq hs.1
          have hk2:=hk.plainL_eq hpk
          refine ⟨_, ?_,Ext.setObj hR hm hw rfl (o:=.map (es'.setIfInBounds j { es'[j] with key:=k',val:=v' }) clk) (fun h hh=>⟨_,clk,hh, ?_⟩)⟩
          · have hks:(Instr.keyThatStays es'[j].key k').run P w = .ok k' w:=by
             rw [ho,hk2]
             simp [Instr.keyThatStays,hs.2]
            simp only [Instr.mapUpdate,jA,run_underlying hu,qZ,Z2z h1,hck,h3,hje,Option.map_some,Option.getD_some,hks]
            rw [Z6h h1]
            congr 4
          · rw [Array.toList_setIfInBounds]
            exact h2.set hk hv
        · cases e
      | none =>
       cases r' with
       | some _=>exact h4.elim
       | none =>
        simp only at e
        cases e
        refine ⟨_, ?_,Ext.setObj hR hm hw rfl (o:=.map (es'.push { key:=k',val:=v',born:=clk }) (clk+1)) (fun h hh=>⟨_,_,hh, ?_⟩)⟩
        · simp only [Instr.mapUpdate,jA,run_underlying hu,qZ,Z2z h1,hck,h3]
          rw [Z6h h1]
        · rw [Array.toList_push]
          exact h2.append (EsR.one hk hv)
   · cases e
 · cases e
theorem Zo9 (hR:R μ A w) {t:TypeId} {x x' v:Value} {ts':List TypeId} {xs':List Value} {ty:TypeId} (e:ZdZ P A t x=some v) (hx:VR μ x x') :
 ∃ v',(Builtin.len_ (t::ts').toArray ty (x'::xs').toArray).run P w = .ok v' w/\VR μ v v':=by
 unfold ZdZ at e
 split at e
 · rename_i hu; cases e; obtain rfl:=hx.str_left
   exact ⟨goInt _,by simp [Builtin.len_,run_underlying hu],VR.int .i64 _⟩
 · rename_i hu; cases e
   exact ⟨goInt _,by simp only [Builtin.len_,List.getElem?_toArray,List.getElem?_cons_zero,jA,run_underlying hu,qZ,jB],VR.int .i64 _⟩
 · rename_i hu; cases e
   cases hx with
   | sl0=>exact ⟨goInt _,by simp [Builtin.len_,run_underlying hu],VR.int .i64 _⟩
   | sl=>exact ⟨goInt _,by simp [Builtin.len_,run_underlying hu],VR.int .i64 _⟩
   | slE=>exact ⟨goInt _,by simp [Builtin.len_,run_underlying hu],VR.int .i64 _⟩
 · rename_i hu; cases e
   cases hx
   exact ⟨goInt _,by simp [Builtin.len_,run_underlying hu],VR.int .i64 _⟩
 · rename_i hu
   split at e
   · rename_i hg
     cases e
     cases hx with
     | map hm =>
      have hb:=hR.blk _ _ hm
      rw [hg] at hb
      obtain ⟨es',clk,h1,h2⟩:=hb
      refine ⟨goInt es'.size,by simp only [Builtin.len_,List.getElem?_toArray,List.getElem?_cons_zero,jA,run_underlying hu,qZ,jB,Z2z h1], ?_⟩
      rw [h2.1]
      simp only [Array.length_toList]
      exact VR.int .i64 _
   · cases e
 · cases e
theorem Zlc {x y x' y' v:Value} (e:max2 x y=some v) (hx:VR μ x x') (hy:VR μ y y'):(Builtin.max2 x' y').run P w = .ok v w/\VR μ v v:=by
 unfold max2 at e
 split at e
 · obtain ⟨_,e⟩:=Z06 e; cases e; obtain rfl:=hx.int_left; obtain rfl:=hy.int_left; exact ⟨rfl,.int _ _⟩
 · cases e
theorem Zla {x y x' y' v:Value} (e:min2 x y=some v) (hx:VR μ x x') (hy:VR μ y y'):(Builtin.min2 x' y').run P w = .ok v w/\VR μ v v:=by
 unfold min2 at e
 split at e
 · obtain ⟨_,e⟩:=Z06 e; cases e; obtain rfl:=hx.int_left; obtain rfl:=hy.int_left; exact ⟨rfl,.int _ _⟩
 · cases e
theorem Z7U {f:Value->Value->Option Value} {g:Value->Value->Sem Value}
 (h:∀ {x y x' y' v:Value},f x y=some v->VR μ x x'->VR μ y y' -> ∃ v',(g x' y').run P w = .ok v' w/\VR μ v v') :
 ∀ {xs xs':List Value} {a a' v:Value},xs.foldlM f a=some v->VRs μ xs xs'->VR μ a a' -> ∃ v',(xs'.foldlM g a').run P w = .ok v' w/\VR μ v v'
 | [],xs',a,a',v,e,hx,ha=>by rw [hx.nil_left]; simp at e; subst e; exact ⟨a',rfl,ha⟩
 | x::xs,xs',a,a',v,e,hx,ha=>by
  obtain ⟨y,ys,rfl,h1,h2⟩:=hx.left
  rw [List.foldlM_cons] at e
  simp only [bind,qA] at e
  obtain ⟨b,hb,e⟩:=e
  obtain ⟨b',h3,h4⟩:=h hb ha h1
  obtain ⟨v',h5,h6⟩:=Z7U h e h2 h4
  exact ⟨v',by rw [List.foldlM_cons]; simp only [jA,h3,qZ,h5],h6⟩
end Go.Ab
