/- Parts of a proof: N10 N11 U11 B1 B2 AbRow2 AbRow3 AbApp2 AbApp3 B7 B8. Conditions: none. -/
import Derived.Test.YtcnndelmnobigaaM18
import Derived.Test.YtcnndelmnobigaaM19
import Derived.Test.YtcnndelmnobigaaM20
import Derived.Test.YtcnndelmnobigaaM15
import Derived.Test.YtcnndelmnobigaaM8
import Derived.Test.YtcnndelmnobigaaM16
set_option linter.all false
set_option maxRecDepth 100000
namespace Go.Proofs.Ytcnndelmnobigaa
open Go Go.Ab Go.Proofs
theorem Zjs (h:FH) (c:Nat):callF G 11 [] h c = some (.bool true,h,c):=Z04 (ZlS (f:=11) (args:=[]) (h:=h) (c:=c) (r:=⟨.ret,[.bool true],h,c,[]⟩) rfl)
theorem Ze1 (s:Value) (n:Nat) (Gl:List Int) (h:FH) (c:Nat) (hs:SlI h c s 20 n Gl):callF G 13 [.agg #[s]] h c = some (.int .i64 (if n <= 1000 /\ Z0t Gl n = true then 0 else 7),h,c):=Z04 (Zle s n Gl h c [] hs)
end Go.Proofs.Ytcnndelmnobigaa

namespace Go.Proofs.Ytcnndelmnobigaa
open Go Go.Ab Go.Proofs
theorem EqV.len {c0:Nat} {h:FH} {c n:Nat} {Gl:List Int} {v:Value} (e:EqV c0 h c n Gl v):Z11 v = some (.int .i64 (Z1s Gl n).length):=by
 obtain ⟨vals,⟨_,_,_,i,op,rfl,_⟩,_⟩:=e
 rfl
theorem EqV.okV {c0:Nat} {h:FH} {c n:Nat} {Gl:List Int} {v:Value} (e:EqV c0 h c n Gl v):OkV c v:=by
 obtain ⟨vals,⟨_,_,_,i,op,rfl,_,h6,_⟩,_⟩:=e
 exact OkV.sl h6
theorem EqV.mono {c0:Nat} {h:FH} {c c' n:Nat} {Gl:List Int} {v:Value} (hc:c <= c') (e:EqV c0 h c n Gl v):EqV c0 h c' n Gl v:=by
 obtain ⟨vals,h1,h2⟩:=e
 refine ⟨vals,h1.mono hc,fun k m hk=>?_⟩
 obtain ⟨x,x1,b,y1,y2,y3,y4⟩:=h2 k m hk
 exact ⟨x,x1,b,y1,y2,by omega,y4⟩
theorem EqV.at {c0:Nat} {h:FH} {c n:Nat} {Gl:List Int} {v:Value} (e:EqV c0 h c n Gl v) {i:Nat} (hi:i < (Z1s Gl n).length) :
 ∃ x p,ixS 1 v (.int .i64 i) = some p /\ ld1 h p = some x /\ Z11 x = some (.int .i64 (7 * n:Nat)) /\ SlI h c x 1 (7 * n) (Z1C n ((Z1s Gl n).getD i [])):=by
 obtain ⟨vals,⟨h1,h2,h3,b,op,rfl,h5,h6,h7,h8⟩,h9⟩:=e
 obtain ⟨x,x1,b',rfl,y2,y3,y4,y5,y6⟩:=h9 i _ (List.getElem?_eq_getElem hi)
 have hg:(Z1s Gl n).getD i [] = (Z1s Gl n)[i]:=by simp [List.getD,List.getElem?_eq_getElem hi]
 rw [hg]
 refine ⟨.slice (some ⟨b',0,none⟩) (7 * n) (7 * n),.pointer (some ⟨b,0 + (i:Int).toNat * 1,none⟩),ixS_sl _ _ _ _ _ _ _ (by omega) (by omega), ?_,rfl,⟨by rw [y5]; omega,by omega,_,_,rfl,.inr ⟨b',0,ints (Z1C n (Z1s Gl n)[i]),rfl,y3,⟨false,none,y4⟩, ?_⟩⟩⟩
 · rw [Z01 (cs:=vals) ⟨false,op,h7⟩]
   simpa using x1
 · rw [List.drop_zero,List.take_of_length_le (by simp [y5])]
theorem Zpt (V:List Int) {j:Nat} (hj:j < V.length):gi V (j:Nat) = V[j]:=by
 simp [gi,List.getD,List.getElem?_eq_getElem hj]
theorem Zeb {V:List Int}:Z0P V = true ↔ ∀ j,j < V.length -> 0 <= gi V (j:Nat) /\ gi V (j:Nat) <= 1000000:=by
 constructor
 · intro h j _; exact Z4h h j
 · intro h
   refine List.all_eq_true.2 fun x hx=>?_
   obtain ⟨j,hj,rfl⟩:=List.getElem_of_mem hx
   have:=h j hj
   rw [Zpt V hj] at this
   simp [this.1,this.2]
theorem Zpz {Gl V m:List Int} {n:Nat} (hok:Z0t Gl n = true) (hG:Gl.length = n * 20) (hV:V.length = 7 * n) (hm:m ∈ Z1s Gl n):Zc7 (Z1C n m) V = 0 ↔ eqM V m = true:=by
 obtain ⟨t,f,i,ht,hf,hi,hne,hsk,rfl⟩:=Z9E hm
 obtain ⟨k1,k2,k3⟩:=Z81 hok hG ht hf hi hne hsk
 have hpf:=Z0U k3 hf
 have hpi:=Z0U k3 hi
 have hpn:=Zm4 k3 hi hf hne
 have t1:=Z2C (i:=(i:Int)) (f:=(f:Int)) (by omega) (by omega) (by omega) (by omega) (by omega)
 have t2:=Z2C hpi.1 hpi.2 hpf.1 hpf.2 hpn
 rw [Zl2 hV]
 · unfold eqM
   rw [decide_eq_true_eq]
   omega
 · show (7 * (t:Int) + i).toNat < _
   omega
 · show (7 * (t:Int) + 4 + ty i f).toNat < _
   omega
 · show (7 * Z0B (Z02 Gl t f) + (Z0c (Z02 Gl t f)).getD i 0).toNat < _
   omega
 · show (7 * Z0B (Z02 Gl t f) + 4 + ty ((Z0c (Z02 Gl t f)).getD i 0) ((Z0c (Z02 Gl t f)).getD f 0)).toNat < _
   omega
end Go.Proofs.Ytcnndelmnobigaa

namespace Go.Proofs.Ytcnndelmnobigaa
open Go Go.Ab Go.Proofs
theorem OkV.tup2 (c:Nat) (k k':IntKind) (a b:Int):OkV c (.tuple #[.int k a,.int k' b]):=by
 refine ⟨.tuple #[.int k a,.int k' b],.tuple rfl (fun i x y hx hy=>?_)⟩
 match i,hx,hy with
 | 0,hx,hy=>cases hx; cases hy; exact .int _ _
 | 1,hx,hy=>cases hx; cases hy; exact .int _ _
 | i + 2,hx,hy=>simp at hx
theorem Zau {Gl:List Int} {n:Nat} {b:Bool} (hE:Z7O Gl n b = 0):Z4a Gl n = 0 /\ b = true:=by
 unfold Z7O at hE
 split at hE
 · rename_i h1
   split at hE
   · rename_i h2; exact ⟨h1,h2⟩
   · cases hE
 · rename_i h1; exact absurd hE h1
theorem admB_w {Gl V:List Int} {n:Nat} (ha:Z2Y Gl n V = true):V.length = 7 * n /\ Z0P V = true:=by
 unfold Z2Y at ha
 simp only [Bool.and_eq_true,decide_eq_true_eq] at ha
 exact ⟨ha.1.1.1,ha.1.1.2⟩
def eulL (Gl:List Int) (n:Nat) (V:List Int):Int:=Z5E ((edF Gl n).map (wgt V)) + Z5E V - sT Gl V n 0
def eulV (Gl:List Int) (n:Nat) (V:List Int):Int:=if Z7O Gl n (Z2Y Gl n V) = 0 then eulL Gl n V else 0
set_option maxHeartbeats 1000000 in
theorem ZoH (s v:Value) (n nv:Nat) (Gl V:List Int) (h:FH) (c:Nat) (df:List Nat) (hs:SlI h c s 20 n Gl) (hv:SlI h c v 1 nv V) (hx:SlX h v 1 nv) (hnv:nv <= 1000000) :
 G (.fn 15) [.agg #[s],v] h c df = some ⟨.ret,[.tuple #[.int .i64 (eulV Gl n V),.int .i64 (Z7O Gl n (Z2Y Gl n V))]],h,c,[]⟩:=by
 refine Z0m (fun r e=>f15_go e) (OkV.tup2 _ _ _ _ _) ?_
 unfold ZkS
 rw [Z4c hs.flat,Z43,Nat.add_zero]
 simp only [cond_true]
 have hbl:=Zlm hv
 obtain ⟨H,hH⟩:∃ H,H = newB (newB h (256 * c) [s]) (256 * (c + 1) + 2) [v]:=⟨_,rfl⟩
 have sH:Z0u c h H:=by rw [hH]; simp (disch:=omega)
 have hg:Z0a H (256 * c) [s]:=by rw [hH]; exact (Z0a.newB_same _ _ _).newB_ne (by omega)
 have hq:Z0a H (256 * (c + 1) + 2) [v]:=by rw [hH]; exact Z0a.newB_same _ _ _
 have l0:ldN (newB h (256 * c) [s]) 1 (.pointer (some ⟨256 * c,0,none⟩)) = some (.agg #[s]):=Z0C (Z0a.newB_same _ _ _)
 have l1:=Z0C hg
 have c1:=Zlh s v n nv Gl V (256 * (c + 1) + 2) H (c + 1 + 1) ((hs.same sH).mono (by omega)) ((hv.same sH).mono (by omega)) (SlX.keep hv sH hx) hnv (by omega) hq
 have hH':=hH.symm
 unfold eulV
 obtain ⟨E,hE⟩:∃ E,Z7O Gl n (Z2Y Gl n V) = E:=⟨_,rfl⟩
 rw [hE] at c1 ⊢
 by_cases h0:E = 0
 case neg =>
  rw [if_neg h0]
  have fx:=ai l0 (ai hbl (ai hH' c1))
  refine Ans.go ?_
  clear fx
  exact Ans.pure rfl sH
 obtain ⟨hr0,ha⟩:=Zau (hE.trans h0)
 obtain ⟨hn,hok⟩:=Z1F hr0
 obtain ⟨a1,a2⟩:=admB_w ha
 have hV:=Zck a2
 have hnv':nv = 7 * n:=by have:=hv.1; omega
 subst h0
 rw [if_pos rfl]
 obtain ⟨⟨re,rv,H2,c2,rd⟩,hr,w,q1,q2,q3,q4⟩:=ZaX s v n nv Gl V H (c + 1 + 1 + 1 + 1) [] ((hs.same sH).mono (by omega)) ((hv.same sH).mono (by omega)) hok hn hnv' hV
 obtain ⟨rfl,rfl,-,-,rfl⟩:=Rt.mk.inj q1
 simp only at q2 q3 q4
 have cw:=Z04 hr
 have s2:Z0u c h H2:=sH.trans (q3.mono (by omega))
 have hel:(edF Gl n).length <= 6 * n:=Z1Q _ _
 have b1:∀ x,x ∈ (edF Gl n).map (wgt V) -> 0 <= x /\ x <= 5000000:=fun x hx=>by
  obtain ⟨y,_,rfl⟩:=List.mem_map.1 hx
  exact Z77 hV
 have b2:∀ x,x ∈ V -> 0 <= x /\ x <= 5000000:=fun x hx=>by
  obtain ⟨j,hj,rfl⟩:=List.getElem_of_mem hx
  have:=hV j
  rw [Zpt V hj] at this
  omega
 have t1:=fun c' (hc:c2 <= c')=>Z04 (ZfP w _ _ H2 c' [] (q4.sl.mono hc) (by omega) b1)
 have t2:=fun c' (hc:c <= c')=>Z04 (ZfP v _ _ H2 c' [] ((hv.same s2).mono hc) (by omega) b2)
 have k1:=Z4l (B:=5000000) (by omega) b1
 have k2:=Z4l (B:=5000000) (by omega) b2
 rw [List.length_map] at k1
 unfold eulL
 obtain ⟨S1,hS1⟩:∃ S,Z5E ((edF Gl n).map (wgt V)) = S:=⟨_,rfl⟩
 obtain ⟨S2,hS2⟩:∃ S,Z5E V = S:=⟨_,rfl⟩
 rw [hS1] at t1 k1 ⊢
 rw [hS2] at t2 k2 ⊢
 have hg2:Z0a H2 (256 * c) [s]:=hg.eqf (q3 _ (by omega))
 have l2:ld1 H2 (.pointer (some ⟨256 * c,0,none⟩)) = some s:=by rw [Z01 hg2]; rfl
 have ls:=hs.len
 have hl:=Ans.eq (ZlI v s n nv Gl V H2 (c2 + 1) [] ((hs.same s2).mono (by omega)) ((hv.same s2).mono (by omega)) hnv' hn hV hok n 0 (S1 + S2) (by omega) (by omega) (by omega))
 simp only [Int.ofNat_eq_natCast,Int.cast_ofNat_Int] at hl
 have fx:=ai l0 (ai hbl (ai hH' (ai c1 (ai l1 (ai cw (ai t1 (ai t2 (ai l2 (ai ls hl)))))))))
 refine Ans.go ?_
 clear fx
 exact Ans.pure rfl s2
end Go.Proofs.Ytcnndelmnobigaa

namespace Go.Proofs.Ytcnndelmnobigaa
open Go Go.Ab Go.Proofs
theorem Zjm (i j:Nat) (h:FH) (c:Nat) (df:List Nat) (h1:i < j) (h2:j < 4):G (.fn 20) [.int .i64 i,.int .i64 j] h c df = some ⟨.ret,[.int .i64 (ty i j)],h,c,[]⟩:=by
 refine Z0m (fun r e=>Zpy e) (by simp) ?_
 have e:ty (i:Int) j = if i = 0 then (j:Int) - 1 else 5 - i - j:=by
  have:(i = 0 /\ j = 1) ∨ (i = 0 /\ j = 2) ∨ (i = 0 /\ j = 3) ∨ (i = 1 /\ j = 2) ∨ (i = 1 /\ j = 3) ∨ (i = 2 /\ j = 3):=by omega
  rcases this with ⟨rfl,rfl⟩ | ⟨rfl,rfl⟩ | ⟨rfl,rfl⟩ | ⟨rfl,rfl⟩ | ⟨rfl,rfl⟩ | ⟨rfl,rfl⟩ <;> rfl
 unfold ZoB
 rw [e]
 by_cases e0:i = 0
 · rw [if_pos e0]
   subst e0
   have fx:=True.intro
   refine Ans.go ?_
   clear fx
   (have fx:=True.intro; exact Ans.pu)
 · rw [if_neg e0]
   have fx:=True.intro
   refine Ans.go ?_
   clear fx
   (have fx:=True.intro; exact Ans.pu)
theorem ZpS {i j:Nat} (hi:i < 4) (hj:j < 4):ty (i:Int) j = ty j i:=by
 have:∀ a b:Fin 4,ty ((a:Nat):Int) (b:Nat) = ty (b:Nat) (a:Nat):=by decide
 exact this ⟨i,hi⟩ ⟨j,hj⟩
theorem Zcp (i j:Nat) (h:FH) (c:Nat) (df:List Nat) (hi:i < 4) (hj:j < 4) (hne:i ≠ j):G (.fn 20) [.int .i64 i,.int .i64 j] h c df = some ⟨.ret,[.int .i64 (ty i j)],h,c,[]⟩:=by
 by_cases hl:i < j
 · exact Zjm i j h c df hl hj
 · refine Z0m (fun r e=>Zpy e) (by simp) ?_
   unfold ZoB
   have ct:=fun c'=>Z04 (Zjm j i h c' [] (by omega) hi)
   rw [ZpS hi hj]
   have fx:=ct
   refine Ans.go ?_
   clear fx
   (have fx:=True.intro; exact Ans.pu)
theorem ZoM (e i:Nat) (h:FH) (c:Nat) (df:List Nat) (he:e < 6) (hi:i < 4):∀ (r j n:Nat),j + r = 4 -> n <= e -> e < n + r →
 Ans (G (Z86 none) [.int .i64 e,.int .i64 0,.int .i64 0,.int .i64 n,.int .i64 i,.int .i64 j] h c df) fun q=>q = ⟨.ret,[.int .i64 e,.int .i64 i,.int .i64 (j + (e - n):Nat),.int .i64 e,.int .i64 i,.int .i64 (j + (e - n):Nat)],h,c,df⟩:=by
 intro r
 induction r with
 | zero=>intro j n hj hn h1; omega
 | succ r ih =>
  intro j n hj hn h1
  refine Ans.lpG rfl rfl (Z58 ..) ?_
  unfold Z6d
  by_cases e1:n = e
  · subst e1
    have fx:=True.intro
    refine Ans.go ?_
    clear fx
    (have fx:=True.intro; refine Ans.rt0 ?_; clear fx)
    rw [Nat.sub_self,Nat.add_zero]
  · have e2:¬ (n:Int) = e:=by omega
    have fx:=True.intro
    refine Ans.go ?_
    clear fx
    (have fx:=True.intro; refine Ans.nx0 ?_; clear fx)
    rw [show j + (e - n) = j + 1 + (e - (n + 1)) by omega]
    exact ih (j + 1) (n + 1) (by omega) (by omega) (by omega)
theorem Zl4 (e i:Nat) (h:FH) (c:Nat) (df:List Nat) (he:e < 6) (hi:i < 4):∀ (r j n:Nat),j + r = 4 -> n + r <= e →
 Ans (G (Z86 none) [.int .i64 e,.int .i64 0,.int .i64 0,.int .i64 n,.int .i64 i,.int .i64 j] h c df) fun q=>q = ⟨.exit 2,[.int .i64 e,.int .i64 0,.int .i64 0,.int .i64 (n + r:Nat),.int .i64 i,.int .i64 4],h,c,df⟩:=by
 intro r
 induction r with
 | zero =>
  intro j n hj hn
  obtain rfl:j = 4:=by omega
  refine Ans.lpG rfl rfl (Z58 ..) ?_
  unfold Z6d
  have fx:=True.intro
  refine Ans.go ?_
  clear fx
  (have fx:=True.intro; refine Ans.ex0 ?_; clear fx)
  rfl
 | succ r ih =>
  intro j n hj hn
  have e2:¬ (n:Int) = e:=by omega
  refine Ans.lpG rfl rfl (Z58 ..) ?_
  unfold Z6d
  have fx:=True.intro
  refine Ans.go ?_
  clear fx
  (have fx:=True.intro; refine Ans.nx0 ?_; clear fx)
  rw [show n + (r + 1) = n + 1 + r by omega]
  exact ih (j + 1) (n + 1) (by omega) (by omega)
theorem Z9d (e i n:Nat) (h:FH) (c:Nat) (df:List Nat) (he:e < 6) (hi:i < 3) (hn:n <= e) (h1:e < n + (3 - i)) :
 Ans (G (Z4x none) [.int .i64 e,.int .i64 0,.int .i64 0,.int .i64 n,.int .i64 i] h c df) fun q=>q = ⟨.ret,[.int .i64 e,.int .i64 i,.int .i64 (i + 1 + (e - n):Nat),.int .i64 e,.int .i64 i],h,c,df⟩:=by
 have hr:=Ans.eq (ZoM e i h (c + 1 + 1) df he (by omega) (3 - i) (i + 1) n (by omega) hn h1)
 rw [show ((i + 1:Nat):Int) = (i:Int) + 1 by omega] at hr
 refine Ans.lpG rfl rfl (Z7k ..) ?_
 unfold Z8a
 have fx:=hr
 refine Ans.go ?_
 clear fx
 (have fx:=True.intro; refine Ans.rt0 ?_; clear fx)
 rfl
theorem ZdV (e i n:Nat) (h:FH) (c:Nat) (df:List Nat) (he:e < 6) (hi:i < 3) (h1:n + (3 - i) <= e) {Q:Rt FH -> Prop} (k:Ans (G (Z4x none) [.int .i64 e,.int .i64 0,.int .i64 0,.int .i64 (n + (3 - i):Nat),.int .i64 (i + 1:Nat)] h c df) Q) :
 Ans (G (Z4x none) [.int .i64 e,.int .i64 0,.int .i64 0,.int .i64 n,.int .i64 i] h c df) Q:=by
 have hr:=Ans.eq (Zl4 e i h (c + 1 + 1) df he (by omega) (3 - i) (i + 1) n (by omega) h1)
 rw [show ((i + 1:Nat):Int) = (i:Int) + 1 by omega] at hr
 refine Ans.lpG rfl rfl (Z7k ..) ?_
 unfold Z8a
 have fx:=hr
 refine Ans.go ?_
 clear fx
 (have fx:=True.intro; refine Ans.nx0 ?_; clear fx)
 exact k
theorem Zr6 (e:Nat) (h:FH) (c:Nat) (df:List Nat) (he:e < 6):G (.fn 81) [.int .i64 e] h c df = some ⟨.ret,[.tuple #[.int .i64 (edA e),.int .i64 (edB e)]],h,c,[]⟩:=by
 refine Z0m (fun r e=>f81_go e) (OkV.tup2 _ _ _ _ _) ?_
 have hl:Ans (G (Z4x none) [.int .i64 e,.int .i64 0,.int .i64 0,.int .i64 0,.int .i64 0] h (c + 1 + 1 + 1) []) fun q=>q.e = .ret /\ q.h = h /\ q.c = c + 1 + 1 + 1 /\ q.df = [] /\ q.v 1 = .int .i64 (edA e) /\ q.v 2 = .int .i64 (edB e):=by
  have hz:e = 0 ∨ e = 1 ∨ e = 2 ∨ e = 3 ∨ e = 4 ∨ e = 5:=by omega
  rcases Nat.lt_or_ge e 3 with k | k
  · refine (Z9d e 0 0 h (c + 1 + 1 + 1) [] he (by omega) (by omega) (by omega)).mono ?_
    rintro q rfl
    rcases hz with rfl | rfl | rfl | rfl | rfl | rfl <;> first | exact ⟨rfl,rfl,rfl,rfl,rfl,rfl⟩ | omega
  refine ZdV e 0 0 h (c + 1 + 1 + 1) [] he (by omega) (by omega) ?_
  rcases Nat.lt_or_ge e 5 with k2 | k2
  · refine (Z9d e 1 3 h (c + 1 + 1 + 1) [] he (by omega) (by omega) (by omega)).mono ?_
    rintro q rfl
    rcases hz with rfl | rfl | rfl | rfl | rfl | rfl <;> first | exact ⟨rfl,rfl,rfl,rfl,rfl,rfl⟩ | omega
  refine ZdV e 1 3 h (c + 1 + 1 + 1) [] he (by omega) (by omega) ?_
  refine (Z9d e 2 5 h (c + 1 + 1 + 1) [] he (by omega) (by omega) (by omega)).mono ?_
  rintro q rfl
  rcases hz with rfl | rfl | rfl | rfl | rfl | rfl <;> first | exact ⟨rfl,rfl,rfl,rfl,rfl,rfl⟩ | omega
 obtain ⟨⟨re,rv,rh,rc,rd⟩,hr,r1,r2,r3,r4,r5,r6⟩:=hl
 simp only at r1 r2 r3 r4
 subst r1 r2 r3 r4
 unfold Zqt
 have fx:=hr
 refine Ans.go ?_
 clear fx
 rw [r5,r6]
 (have fx:=True.intro; exact Ans.pu)
theorem Z9f (e:Nat) (h:FH) (c:Nat) (he:e < 6):callF G 81 [.int .i64 e] h c = some (.tuple #[.int .i64 (edA e),.int .i64 (edB e)],h,c):=Z04 (Zr6 e h c [] he)
theorem Zlv (i j:Int) (h:FH) (c:Nat) (df:List Nat):∀ (r k:Nat),k + r = 6 →
 Ans (G (Zbn none) [.int .i64 i,.int .i64 j,.int .i64 0,.int .i64 k] h c df) fun q=>q.h = h /\ q.c = c /\ q.df = df ∧
  ((q.e = .exit 0 /\ edI i j r k = -1) ∨ (q.e = .ret /\ q.v 2 = .int .i64 (edI i j r k))):=by
 intro r
 induction r with
 | zero =>
  intro k hk
  obtain rfl:k = 6:=by omega
  refine Ans.lpG rfl rfl (Z17 ..) ?_
  unfold Z1Z
  have fx:=True.intro
  refine Ans.go ?_
  clear fx
  (have fx:=True.intro; refine Ans.ex0 ?_; clear fx)
  exact ⟨rfl,rfl,rfl,.inl ⟨rfl,rfl⟩⟩
 | succ r ih =>
  intro k hk
  have hk6:k < 6:=by omega
  have ce:=fun c'=>Z9f k h c' hk6
  have hE:edI i j (r + 1) k = if Zqe (edA k) (edB k) i j = true then (k:Int) else edI i j r (k + 1):=by
   have hz:k = 0 ∨ k = 1 ∨ k = 2 ∨ k = 3 ∨ k = 4 ∨ k = 5:=by omega
   rcases hz with rfl | rfl | rfl | rfl | rfl | rfl <;> rfl
  rw [hE]
  have hk6':(k:Int) < 6:=by omega
  obtain ⟨A,hA⟩:∃ A,edA k = A:=⟨_,rfl⟩
  obtain ⟨B,hB⟩:∃ B,edB k = B:=⟨_,rfl⟩
  rw [hA,hB] at ce ⊢
  have hi:=ih (k + 1) (by omega)
  unfold Zqe
  by_cases h1:(A = i /\ B = j) ∨ (A = j /\ B = i)
  · rw [if_pos (by simpa using h1)]
    by_cases a1:A = i
    · subst a1
      by_cases a2:B = j
      · subst a2
        refine Ans.lpG rfl rfl (Z17 ..) ?_
        unfold Z1Z
        have fx:=ce
        refine Ans.go ?_
        clear fx
        (have fx:=True.intro; refine Ans.rt0 ?_; clear fx)
        exact ⟨rfl,rfl,rfl,.inr ⟨rfl,rfl⟩⟩
      · have a3:A = j:=by omega
        have a4:B = A:=by omega
        subst a3
        exact absurd a4 a2
    · have a3:A = j:=by omega
      have a4:B = i:=by omega
      subst a3 a4
      refine Ans.lpG rfl rfl (Z17 ..) ?_
      unfold Z1Z
      have fx:=ce
      refine Ans.go ?_
      clear fx
      (have fx:=True.intro; refine Ans.rt0 ?_; clear fx)
      exact ⟨rfl,rfl,rfl,.inr ⟨rfl,rfl⟩⟩
  · rw [if_neg (by simpa using h1)]
    by_cases a1:A = i
    · subst a1
      by_cases a2:A = j
      · subst a2
        refine Ans.lpG rfl rfl (Z17 ..) ?_
        unfold Z1Z
        have fx:=ce
        refine Ans.go ?_
        clear fx
        (have fx:=True.intro; refine Ans.nx0 ?_; clear fx)
        exact hi
      · refine Ans.lpG rfl rfl (Z17 ..) ?_
        unfold Z1Z
        have fx:=ce
        refine Ans.go ?_
        clear fx
        (have fx:=True.intro; refine Ans.nx0 ?_; clear fx)
        exact hi
    · by_cases a2:A = j
      · subst a2
        refine Ans.lpG rfl rfl (Z17 ..) ?_
        unfold Z1Z
        have fx:=ce
        refine Ans.go ?_
        clear fx
        (have fx:=True.intro; refine Ans.nx0 ?_; clear fx)
        exact hi
      · refine Ans.lpG rfl rfl (Z17 ..) ?_
        unfold Z1Z
        have fx:=ce
        refine Ans.go ?_
        clear fx
        (have fx:=True.intro; refine Ans.nx0 ?_; clear fx)
        exact hi
theorem Zrl (i j:Int) (h:FH) (c:Nat) (df:List Nat):G (.fn 82) [.int .i64 i,.int .i64 j] h c df = some ⟨.ret,[.int .i64 (edN i j)],h,c,[]⟩:=by
 refine Z0m (fun r e=>f82_go e) (by simp) ?_
 obtain ⟨⟨re,rv,rh,rc,rd⟩,hr,r1,r2,r3,r4⟩:=Zlv i j h (c + 1 + 1) [] 6 0 (by omega)
 simp only [Int.ofNat_eq_natCast,Int.cast_ofNat_Int] at hr
 simp only at r1 r2 r3 r4
 subst r1 r2 r3
 unfold Zqs edN
 rcases r4 with ⟨rfl,r5⟩ | ⟨rfl,r5⟩
 · rw [r5]
   have fx:=hr
   refine Ans.go ?_
   clear fx
   (have fx:=True.intro; exact Ans.pu)
 · have fx:=hr
   refine Ans.go ?_
   clear fx
   rw [r5]
   (have fx:=True.intro; exact Ans.pu)
theorem ZiY (i j:Int) (h:FH) (c:Nat):callF G 82 [.int .i64 i,.int .i64 j] h c = some (.int .i64 (edN i j),h,c):=Z04 (Zrl i j h c [])
end Go.Proofs.Ytcnndelmnobigaa

namespace Go.Proofs.Ytcnndelmnobigaa
open Go Go.Ab Go.Proofs
theorem Zdo (s:Value) (n:Nat) (V:List Int) (t:Nat) (A B:Nat) (h:FH) (c:Nat) (df:List Nat) (hs:SlI h c s 1 n V) (htn:7 * t + 7 <= n) (hn:n <= 1000000) (hA:A < 4) (hB:B < 4) (hne:A ≠ B) (hV:∀ j,0 <= gi V j /\ gi V j <= 1000000) :
 ∀ (r k:Nat) (a:Int),k + r = 3 -> 0 <= a -> a <= (2 + (k:Int)) * 1000000 →
 Ans (G (Zbw none) [s,.int .i64 t,.int .i64 A,.int .i64 B,.int .i64 a,.int .i64 k] h c df) fun q=>q = ⟨.exit 0,[s,.int .i64 t,.int .i64 A,.int .i64 B,.int .i64 (wK V t (ty A B) r k a),.int .i64 3],h,c,df⟩:=by
 intro r
 have o1:=hs.okV
 have ct:=fun c'=>Z04 (Zcp A B h c' [] hA hB hne)
 obtain ⟨T,hT⟩:∃ T,ty A B = T:=⟨_,rfl⟩
 rw [hT] at ct ⊢
 induction r with
 | zero =>
  intro k a hk h1 h2
  obtain rfl:k = 3:=by omega
  refine Ans.lpG rfl rfl (Z7p ..) ?_
  unfold Z8m
  have fx:=True.intro
  refine Ans.go ?_
  clear fx
  (have fx:=o1; refine Ans.ex0 ?_; clear fx)
  rfl
 | succ r ih =>
  intro k a hk h1 h2
  have l1:=hs.rdi (7 * (t:Int) + 4 + k) (by omega) (by omega)
  have v1:=hV (7 * (t:Int) + 4 + k)
  rw [wK]
  obtain ⟨X,hX⟩:∃ X,gi V (7 * (t:Int) + 4 + k) = X:=⟨_,rfl⟩
  rw [hX] at l1 v1 ⊢
  have hk3:(k:Int) < 3:=by omega
  refine Ans.lpG rfl rfl (Z7p ..) ?_
  unfold Z8m
  by_cases e:(k:Int) = T
  · rw [if_pos e]
    have fx:=ct
    refine Ans.go ?_
    clear fx
    (have fx:=o1; refine Ans.nx0 ?_; clear fx)
    exact ih (k + 1) a (by omega) h1 (by omega)
  · rw [if_neg e]
    have fx:=ai ct (ai hs.ixs1 l1)
    refine Ans.go ?_
    clear fx
    (have fx:=o1; refine Ans.nx0 ?_; clear fx)
    exact ih (k + 1) _ (by omega) (by omega) (by omega)
theorem ZhO (s:Value) (n:Nat) (V:List Int) (t:Nat) (e:Nat) (h:FH) (c:Nat) (df:List Nat) (hs:SlI h c s 1 n V) (htn:7 * t + 7 <= n) (hn:n <= 1000000) (he6:e < 6) (hV:∀ j,0 <= gi V j /\ gi V j <= 1000000) :
 G (.fn 65) [s,.int .i64 t,.int .i64 e] h c df = some ⟨.ret,[.int .i64 (Z1N V t e)],h,c,[]⟩:=by
 refine Z0m (fun r e=>f65_go e) (by simp) ?_
 unfold ZqE Z1N
 obtain ⟨g1,g2,g3,g4,g5⟩:=Zar (e:=(e:Int)) (by omega) (by omega)
 have ce:=fun c'=>Z9f e h c' he6
 obtain ⟨A,hA⟩:∃ A:Nat,edA e = A:=⟨(edA e).toNat,by omega⟩
 obtain ⟨B,hB⟩:∃ B:Nat,edB e = B:=⟨(edB e).toNat,by omega⟩
 rw [hA] at g1 g2 g5 ce ⊢
 rw [hB] at g3 g4 g5 ce ⊢
 have l1:=hs.rdi (7 * (t:Int) + A) (by omega) (by omega)
 have l2:=hs.rdi (7 * (t:Int) + B) (by omega) (by omega)
 have v1:=hV (7 * (t:Int) + A)
 have v2:=hV (7 * (t:Int) + B)
 obtain ⟨X,hX⟩:∃ X,gi V (7 * (t:Int) + A) = X:=⟨_,rfl⟩
 obtain ⟨Y,hY⟩:∃ Y,gi V (7 * (t:Int) + B) = Y:=⟨_,rfl⟩
 rw [hX] at l1 v1 ⊢
 rw [hY] at l2 v2 ⊢
 have hr:=fun c' (hc:c <= c')=>Ans.eq (Zdo s n V t A B h c' [] (hs.mono hc) htn hn (by omega) (by omega) (by omega) hV 3 0 (X + Y) (by omega) (by omega) (by omega))
 simp only [Int.ofNat_eq_natCast,Int.cast_ofNat_Int] at hr
 have fx:=ai ce (ai hs.ixs1 (ai l1 (ai l2 hr)))
 refine Ans.go ?_
 clear fx
 (have fx:=True.intro; exact Ans.pu)
theorem Zj0 (s:Value) (n nv:Nat) (V:List Int) (t f:Nat) (h:FH) (c:Nat) (df:List Nat) (hs:SlI h c s 1 nv V) (hnv:nv = 7 * n) (hn:n <= 60) (ht:t < n) (hf:f < 4) (hV:∀ j,0 <= gi V j /\ gi V j <= 1000000) :
 ∀ (r i:Nat) (a:Int),i + r = 4 -> 0 <= a -> a <= (i:Int) * 2000000 →
 Ans (G (Zbv none) [s,.int .i64 t,.int .i64 f,.int .i64 a,.int .i64 i] h c df) fun q=>q = ⟨.exit 0,[s,.int .i64 t,.int .i64 f,.int .i64 (a + sI V t f r i),.int .i64 4],h,c,df⟩:=by
 intro r
 have o1:=hs.okV
 induction r with
 | zero =>
  intro i a hi h1 h2
  obtain rfl:i = 4:=by omega
  refine Ans.lpG rfl rfl (Z5f ..) ?_
  unfold Z6g
  have fx:=True.intro
  refine Ans.go ?_
  clear fx
  (have fx:=o1; refine Ans.ex0 ?_; clear fx)
  rw [sI,Int.add_zero]
  rfl
 | succ r ih =>
  intro i a hi h1 h2
  have hi4:(i:Int) < 4:=by omega
  rw [sI]
  by_cases e:i = f
  · subst e
    rw [if_pos rfl,Int.zero_add]
    refine Ans.lpG rfl rfl (Z5f ..) ?_
    unfold Z6g
    have fx:=True.intro
    refine Ans.go ?_
    clear fx
    (have fx:=o1; refine Ans.nx0 ?_; clear fx)
    exact ih (i + 1) a (by omega) h1 (by omega)
  · rw [if_neg e]
    have e':¬ ((i:Int) = f):=by omega
    have ct:=fun c'=>Z04 (Zcp i f h c' [] (by omega) hf e)
    have hr:=Z2C (i:=(i:Int)) (f:=(f:Int)) (by omega) (by omega) (by omega) (by omega) (by omega)
    unfold Z7P
    obtain ⟨T,hT⟩:∃ T,ty i f = T:=⟨_,rfl⟩
    rw [hT] at ct hr ⊢
    have l1:=hs.rdi (7 * (t:Int) + i) (by omega) (by omega)
    have l2:=hs.rdi (7 * (t:Int) + 4 + T) (by omega) (by omega)
    have v1:=hV (7 * (t:Int) + i)
    have v2:=hV (7 * (t:Int) + 4 + T)
    obtain ⟨X,hX⟩:∃ X,gi V (7 * (t:Int) + i) = X:=⟨_,rfl⟩
    obtain ⟨Y,hY⟩:∃ Y,gi V (7 * (t:Int) + 4 + T) = Y:=⟨_,rfl⟩
    rw [hX] at l1 v1 ⊢
    rw [hY] at l2 v2 ⊢
    refine Ans.lpG rfl rfl (Z5f ..) ?_
    unfold Z6g
    have fx:=ai ct (ai hs.ixs1 (ai l1 (ai l2 Z2j)))
    refine Ans.go ?_
    clear fx
    (have fx:=o1; refine Ans.nx0 ?_; clear fx)
    rw [show a + (X + Y + sI V t f r (i + 1)) = a + X + Y + sI V t f r (i + 1) by omega]
    exact ih (i + 1) (a + X + Y) (by omega) (by omega) (by omega)
theorem Zp3 (s:Value) (n nv:Nat) (V:List Int) (t f:Nat) (h:FH) (c:Nat) (df:List Nat) (hs:SlI h c s 1 nv V) (hnv:nv = 7 * n) (hn:n <= 60) (ht:t < n) (hf:f < 4) (hV:∀ j,0 <= gi V j /\ gi V j <= 1000000) :
 G (.fn 66) [s,.int .i64 t,.int .i64 f] h c df = some ⟨.ret,[.int .i64 (sI V t f 4 0)],h,c,[]⟩:=by
 refine Z0m (fun r e=>f66_go e) (by simp) ?_
 have hr:=Ans.eq (Zj0 s n nv V t f h (c + 1 + 1 + 1) [] (hs.mono (by omega)) hnv hn ht hf hV 4 0 0 (by omega) (by omega) (by omega))
 simp only [Int.ofNat_eq_natCast,Int.cast_ofNat_Int,Int.zero_add] at hr
 unfold ZqD
 have fx:=hr
 refine Ans.go ?_
 clear fx
 (have fx:=True.intro; exact Ans.pu)
theorem Zcy (s:Value) (n:Nat) (Gl:List Int) (h:FH) (c:Nat) (df:List Nat) (hs:SlI h c s 20 n Gl):G (.fn 58) [.agg #[s]] h c df = some ⟨.ret,[.int .i64 (Z4a Gl n)],h,c,[]⟩:=by
 refine Z0m (fun r e=>f58_go e) (by simp) ?_
 unfold ZqL
 rw [Z4c hs.flat,Z43,Nat.add_zero]
 simp only [cond_true]
 obtain ⟨H,hH⟩:∃ H,newB h (256 * c) [s] = H:=⟨_,rfl⟩
 have sH:Z0u c h H:=by rw [← hH]; simp (disch:=omega)
 have hg:Z0a H (256 * c) [s]:=by rw [← hH]; exact Z0a.newB_same _ _ _
 have l0:=Z0C hg
 have l1:ld1 H (.pointer (some ⟨256 * c,0,none⟩)) = some s:=by rw [Z01 hg]; rfl
 have ll:=hs.len
 have ck:=fun c' (hc:c <= c')=>Ze1 s n Gl H c' ((hs.same sH).mono hc)
 have h2:=hs.2.1
 unfold Z4a
 by_cases h1:n <= 1000 /\ Z0t Gl n = true
 · rw [if_pos h1] at ck ⊢
   by_cases h3:60 < n
   · rw [if_pos h3]
     have fx:=ai hH (ai l0 (ai ck (ai l1 ll)))
     refine Ans.go ?_
     clear fx
     (have fx:=sH; exact Ans.pu)
   · rw [if_neg h3]
     have fx:=ai hH (ai l0 (ai ck (ai l1 ll)))
     refine Ans.go ?_
     clear fx
     (have fx:=sH; exact Ans.pu)
 · rw [if_neg h1] at ck ⊢
   have fx:=ai hH (ai l0 ck)
   refine Ans.go ?_
   clear fx
   (have fx:=sH; exact Ans.pu)
end Go.Proofs.Ytcnndelmnobigaa

namespace Go.Ab
open Go Go.ChangeShapes Go.RowKit
variable {P:Program}
theorem Zm1 {W:World} {base:Nat} {t:TypeId} {fs:Array Field} {v:Value} {ts:List TypeId} (ht:P.underlying t = some (.struct fs)) (hts:P.cellTypes P.depth t = some ts) (hval:Value.okWide P W .any base t v) :
 ∃ cs,v = .agg cs /\ cs.size = P.cellsOf t /\ ∀ i x,cs[i]? = some x -> ∃ u,ts[i % ts.length]? = some u /\ Cell.okWide P W .any base u x:=by
 unfold Value.okWide at hval
 rw [ht] at hval
 obtain ⟨cs,rfl,h1,ts',h2,_,h3⟩:=hval
 rw [hts] at h2
 cases h2
 exact ⟨cs,rfl,h1,h3⟩
theorem Zq5 {H:Type} {enc:TypeId × Value -> H} {W:World} {base:Nat} {tG tS e:TypeId} {sz:Nat} {v:Value} {f0:Field} {d:DataW H} {ps:List MemPlace} (ht:P.underlying tG = some (.struct #[f0])) (hts:P.cellTypes P.depth tG = some [tS]) (hc:P.cellsOf tG = 1)
 (hS:P.underlying tS = some (.slice e)) (h0:f0.type = tS) (o0:f0.offset = 0) (hcS:P.cellsOf tS = 1) (hf:Z4X P e sz) (hz:0 < sz) (hval:Value.okWide P W .any base tG v) (hd:DataW.Trod enc P W 0 (fun _=>true) true tG v d ps) :
 ∃ s n Gl,v = .agg #[s] /\ Z5J W s sz n Gl:=by
 obtain ⟨cs,rfl,h1,h2⟩:=Zm1 ht hts hval
 rw [hc] at h1
 have hcs:∃ s,cs = #[s]:=by
  obtain ⟨l⟩:=cs
  match l,h1 with
  | [s],_=>exact ⟨s,rfl⟩
 match hcs with
 | ⟨s,hs⟩ =>
  subst hs
  obtain ⟨u,hu,hok⟩:=h2 0 s rfl
  simp at hu
  subst hu
  obtain ⟨fuel,hd⟩:=hd
  obtain ⟨y0,n,_,_,h3⟩:=trod_struct1 ht hd
  rw [h0,o0,hcS] at h3
  obtain ⟨n,Gl,ho⟩:=ZdB hS hf hz hok (fuel:=n) (x:=y0) (by simpa [Value.cells] using h3)
  exact ⟨s,n,Gl,rfl,ho⟩
theorem Zq4 {H:Type} {enc:TypeId × Value -> H} {W:World} {base:Nat} {tS e:TypeId} {sz:Nat} {v:Value} {d:DataW H} {ps:List MemPlace} (hS:P.underlying tS = some (.slice e)) (hf:Z4X P e sz) (hz:0 < sz)
 (hval:Value.okWide P W .any base tS v) (hd:DataW.Trod enc P W 0 (fun _=>true) true tS v d ps):∃ n Gl,Z5J W v sz n Gl:=by
 unfold Value.okWide at hval
 rw [hS] at hval
 obtain ⟨fuel,hd⟩:=hd
 have hcs:v.cells.toList = [v]:=by
  have hok:Cell.ok P W .any base tS v:=by
   unfold Cell.okWide at hval
   rw [hS] at hval
   cases v <;> exact hval
  unfold Cell.ok at hok
  rw [hS] at hok
  cases v <;> first | rfl | exact hok.elim
 exact ZdB hS hf hz hval (fuel:=fuel) (x:=(d,ps)) (by rw [← hcs]; exact hd)
theorem VR.agg1 {μ:Mu} {a b:Value} (h:VR μ a b):VR μ (.agg #[a]) (.agg #[b]):=VR.agg_iff.2 (VRs.cons h (VRs.nil _))
def ZpL (W:World) (e:Ending) (W':World):Prop:=e = .returned (.bool true) /\ Below W.heap.size W W'
end Go.Ab

namespace Go.Ab
open Go Go.ChangeShapes Go.RowKit
theorem Zjy {W:World} (l:List (Value × Nat × Nat × List Int)) (hl:l.length <= 256) (h:∀ (k:Nat) (p:Value × Nat × Nat × List Int),l[k]? = some p -> Z5J W p.1 p.2.1 p.2.2.1 p.2.2.2) :
 ∃ (A:FH) (μ:Mu),R μ A W /\ Z23 μ 1 /\ (∀ i m,μ i = some m -> wrB (HeapC.get A i) = false) /\ ∀ (k:Nat) (p:Value × Nat × Nat × List Int),l[k]? = some p -> SlI A 1 (Zp7 k p.1) p.2.1 p.2.2.1 p.2.2.2 /\ VR μ (Zp7 k p.1) p.1 /\ SlX A (Zp7 k p.1) p.2.1 p.2.2.1:=by
 let blk:Nat -> Option ABlk:=fun i=>(l[i]?).bind fun p=>(ZpJ p.1).map fun _=>.cells true none (ints p.2.2.2)
 let mu:Mu:=fun i=>(l[i]?).bind fun p=>ZpJ p.1
 have key:∀ i m,mu i = some m -> ∃ p,l[i]? = some p /\ ZpJ p.1 = some m /\ blk i = some (.cells true none (ints p.2.2.2)):=by
  intro i m e
  cases hp:l[i]? with
  | none=>simp only [mu,hp] at e; cases e
  | some p =>
   simp only [mu,hp,Option.bind_some] at e
   exact ⟨p,rfl,e,by simp only [blk,hp,Option.bind_some,e,Option.map_some]⟩
 refine ⟨⟨blk⟩,mu,⟨fun i m e=>?_,fun i j mi mj ei ej hne di dj hro=>?_,fun i m e=>?_⟩,fun i hi=>?_,fun i m e=>?_,fun k p hp=>?_⟩
 · obtain ⟨p,h1,h2,h3⟩:=key i m e
   have:=((h i p h1).blk (μ:=mu) h2).1
   show Z7Q mu m W.heap (blk i)
   rw [h3]; exact this
 · obtain ⟨p,h1,h2,h3⟩:=key i mi ei
   obtain ⟨q,g1,g2,g3⟩:=key j mj ej
   exact absurd (show roB (blk i) = true /\ roB (blk j) = true by rw [h3,g3]; exact ⟨rfl,rfl⟩) hro
 · obtain ⟨p,h1,h2,h3⟩:=key i m e
   exact ((h i p h1).blk (μ:=mu) h2).2
 · have:l[i]? = none:=List.getElem?_eq_none (by omega)
   simp only [mu,this]; rfl
 · obtain ⟨p,h1,h2,h3⟩:=key i m e
   show wrB (blk i) = false
   rw [h3]; rfl
 · have hk:k < l.length:=(List.getElem?_eq_some_iff.1 hp).1
   refine ⟨(h k p hp).sl (by omega) (fun m hm=>?_),(h k p hp).vr (fun m hm=>?_),(h k p hp).slx (fun m hm=>?_)⟩
   · show blk k = _
     simp only [blk,hp,Option.bind_some,hm,Option.map_some]
   · simp only [mu,hp,Option.bind_some,hm]
   · show blk k = _
     simp only [blk,hp,Option.bind_some,hm,Option.map_some]
end Go.Ab

namespace Go.Ab
open Go Go.ChangeShapes Go.RowKit
def SlC (h:FH) (s:Value) (sz n:Nat) (L:List Int):Prop:=Z0S h sz s = some (ints L,n)
theorem Z5J.slc {W:World} {v:Value} {sz n:Nat} {Gl:List Int} (h:Z5J W v sz n Gl) {A:FH} {i:Nat} (ha:∀ m,ZpJ v = some m -> A.f i = some (.cells true none (ints Gl))):SlC A (Zp7 i v) sz n Gl:=by
 obtain ⟨h1,h2,⟨rfl,rfl⟩ | ⟨b,o,cap,C,E,fr,rfl,g1,_,_⟩⟩:=h
 · have:Gl = []:=List.eq_nil_of_length_eq_zero (by omega)
   subst this
   rfl
 · have hg:HeapC.get A i = some (.cells true none (ints Gl)):=ha _ rfl
   have hb:Nat.ble (0 + n * sz) (ints Gl).length = true:=Nat.ble_eq_true_of_le (by simp [h1])
   simp only [SlC,Zp7,Z0S,Z1g,Z0v,hg,Option.bind_some,hb,cond_true,List.drop_zero]
   rw [List.take_of_length_le (by simp [h1])]
theorem SlI.slc {h:FH} {c:Nat} {s:Value} {sz n:Nat} {L:List Int} (hs:SlI h c s sz n L) (hn:0 < n) (hz:0 < sz):SlC h s sz n L:=by
 obtain ⟨g1,g2,a,cap,rfl,h4⟩:=hs
 rcases h4 with ⟨e,hv⟩ | ⟨b,o,cs,rfl,e2,⟨ro,op,e3⟩,e4⟩
 · omega
 · have hl:(ints L).length = n * sz:=by simp [g1]
   have h0:0 < n * sz:=Nat.mul_pos hn hz
   have hle:o + n * sz <= cs.length:=by
    rw [← e4,List.length_take,List.length_drop] at hl
    omega
   have hb:Nat.ble (o + n * sz) cs.length = true:=Nat.ble_eq_true_of_le hle
   have hg:HeapC.get h b = some (.cells ro op cs):=e3
   simp only [SlC,Z0S,Z1g,Z0v,hg,Option.bind_some,hb,cond_true,e4]
end Go.Ab

namespace Go.Ab
open Go
def Zcj (c0:Nat) (h:FH) (c:Nat) (v:Value) (n:Nat) (cs:List Value):Prop:=(v = .slice none 0 0 /\ n = 0 /\ cs = []) ∨ Z6Q c0 h c v n cs
theorem Zcj.mono {c0:Nat} {h:FH} {c c':Nat} {v:Value} {n:Nat} {cs:List Value} (hc:c <= c') (ha:Zcj c0 h c v n cs):Zcj c0 h c' v n cs:=ha.imp id (·.mono hc)
theorem Zcj.keep {c0:Nat} {h h':FH} {c:Nat} {v:Value} {n:Nat} {cs:List Value} (ha:Zcj c0 h c v n cs) (hh:v ≠ .slice none 0 0 -> h'.f (Z0p v) = h.f (Z0p v)):Zcj c0 h' c v n cs:=by
 rcases ha with ha | ha
 · exact .inl ha
 · refine .inr (ha.keep (hh ?_))
   obtain ⟨_,_,_,i,op,rfl,_⟩:=ha
   intro e; cases e
theorem Zcj.len {c0:Nat} {h:FH} {c:Nat} {v:Value} {n:Nat} {cs:List Value} (ha:Zcj c0 h c v n cs):Z11 v = some (.int .i64 n):=by
 rcases ha with ⟨rfl,rfl,_⟩ | ⟨_,_,_,i,op,rfl,_⟩ <;> rfl
theorem Zcj.blk {c0:Nat} {h:FH} {c:Nat} {v:Value} {n:Nat} {cs:List Value} (ha:Zcj c0 h c v n cs) (hv:v ≠ .slice none 0 0):256 * c0 <= Z0p v /\ Z0p v < 256 * c:=by
 rcases ha with ⟨e,_⟩ | ha
 · exact absurd e hv
 · exact ha.blk
theorem Zcj.okV {c0:Nat} {h:FH} {c:Nat} {v:Value} {n:Nat} {cs:List Value} (ha:Zcj c0 h c v n cs):OkV c v:=by
 rcases ha with ⟨rfl,_⟩ | ⟨_,_,_,i,op,rfl,_,h6,_⟩
 · exact OkV.sl0 _ _ _
 · exact OkV.sl h6
theorem Zcj.length {c0:Nat} {h:FH} {c:Nat} {v:Value} {n:Nat} {cs:List Value} (ha:Zcj c0 h c v n cs):cs.length = n:=by
 rcases ha with ⟨_,rfl,rfl⟩ | ha
 · rfl
 · exact ha.1
theorem Zcj.app {c0:Nat} {h:FH} {c c':Nat} {v:Value} {n:Nat} {cs:List Value} (ha:Zcj c0 h c v n cs) (x:Value) (hx:Z0e x = true) (by' b id:Nat) (hb:256 * c <= b) (hid:256 * c <= id) (hne:b ≠ id) (hc0:c0 <= c)
 (hid':id < 256 * c') (hlim:(n + 1) * (by' + 1) <= 17592186044416) :
 ∃ h',Zde (newB h b [x]) id 1 by' v (.slice (some ⟨b,0,none⟩) 1 1) = some (.slice (some ⟨id,0,none⟩) (n + 1) (n + 1),h') /\ Z6Q c0 h' c' (.slice (some ⟨id,0,none⟩) (n + 1) (n + 1)) (n + 1) (cs ++ [x]) ∧
  (∀ j,j < 256 * c -> (v ≠ .slice none 0 0 -> j ≠ Z0p v) -> h'.f j = h.f j):=by
 rcases ha with ⟨rfl,rfl,rfl⟩ | ha
 · have hlim':Nat.ble ((0 + 1) * (by' + 1)) 17592186044416 = true:=Nat.ble_eq_true_of_le hlim
   have hsrc:Z0S (newB h b [x]) 1 (.slice (some ⟨b,0,none⟩) 1 1) = some ([x],1):=by
    have:Nat.ble (0 + 1 * 1) [x].length = true:=rfl
    simp only [Z0S,Z1g,Z0v,get_newB_same,Option.bind_some,this,cond_true,List.drop_zero]
    rfl
   have hcap:Nat.ble (0 + 1) 0 = false:=rfl
   have hfx:[x].all Z0e = true:=by simp [hx]
   refine ⟨HeapC.set (newB h b [x]) id (.cells false (some 1) [x]), ?_,⟨rfl,by omega,hfx,id,some 1,rfl,by omega,hid',by rw [Z0E,if_pos rfl]; rfl,.inr rfl⟩,fun j hj _=>?_⟩
   · simp only [Zde,hsrc,Option.bind_some,appTo,hcap,cond_false,Z4g,hlim',hfx,Bool.and_self,cond_true,Nat.beq_refl]
   · rw [Z0E,if_neg (by omega),Z07,if_neg (by omega)]
 · obtain ⟨h',e1,e2,e3⟩:=ha.app x hx by' b id hb hid hne hc0 hid' hlim
   refine ⟨h',e1,e2,fun j hj hv=>e3 j hj (hv ?_)⟩
   obtain ⟨_,_,_,i,op,rfl,_⟩:=ha
   intro e; cases e
end Go.Ab

namespace Go.Proofs.Ytcnndelmnobigaa
open Go Go.Ab Go.Proofs
def EqN (c0:Nat) (h:FH) (c n:Nat) (v:Value) (D:List (List Int)):Prop :=
 ∃ vals,Zcj c0 h c v D.length vals /\ ∀ (k:Nat) (m:List Int),D[k]? = some m -> ∃ x,vals[k]? = some x /\ RowV c0 h c x (7 * n) (Z1C n m) /\ Z0p x ≠ Z0p v
theorem EqN.nil (c0:Nat) (h:FH) (c n:Nat):EqN c0 h c n (.slice none 0 0) []:=⟨[],.inl ⟨rfl,rfl,rfl⟩,fun k m e=>by simp at e⟩
theorem EqN.mono {c0:Nat} {h:FH} {c c' n:Nat} {v:Value} {D:List (List Int)} (hc:c <= c') (e:EqN c0 h c n v D):EqN c0 h c' n v D:=by
 obtain ⟨vals,h1,h2⟩:=e
 refine ⟨vals,h1.mono hc,fun k m hk=>?_⟩
 obtain ⟨x,x1,⟨b,y1,y2,y3,y4⟩,x3⟩:=h2 k m hk
 exact ⟨x,x1,⟨b,y1,y2,by omega,y4⟩,x3⟩
theorem EqN.same {c0:Nat} {h h':FH} {c n:Nat} {v:Value} {D:List (List Int)} (hh:∀ b,256 * c0 <= b -> b < 256 * c -> h'.f b = h.f b) (e:EqN c0 h c n v D):EqN c0 h' c n v D:=by
 obtain ⟨vals,h1,h2⟩:=e
 refine ⟨vals,h1.keep fun hv=>hh _ (h1.blk hv).1 (h1.blk hv).2,fun k m hk=>?_⟩
 obtain ⟨x,x1,⟨b,y1,y2,y3,y4,y5⟩,x3⟩:=h2 k m hk
 exact ⟨x,x1,⟨b,y1,y2,y3,(hh b y2 y3).trans y4,y5⟩,x3⟩
def FrN (c0 cc:Nat) (v:Value) (h h':FH):Prop:=∀ b,b < 256 * cc -> (256 * c0 <= b -> v ≠ .slice none 0 0 -> b ≠ Z0p v) -> h'.f b = h.f b
theorem FrN.low {c0 cc:Nat} {v:Value} {h h':FH} (f:FrN c0 cc v h h') (hc:c0 <= cc):Z0u c0 h h':=fun b hb=>f b (by omega) (fun q=>by omega)
set_option maxHeartbeats 4000000 in
theorem ZjD (s:Value) (n:Nat) (Gl:List Int) (gb xb c0 t f:Nat) (df:List Nat) (hn:n <= 60) (hok:Z0t Gl n = true) (hG:Gl.length = n * 20) (ht:t < n) (hf:f < 4) (hsk:Z1v Gl t f = false) (hgb:gb < 256 * c0) :
 ∀ (k i cc:Nat) (h:FH) (v:Value) (D:List (List Int)),i + k = 4 -> c0 <= cc -> xb < 256 * cc -> 256 * c0 <= xb -> (v ≠ .slice none 0 0 -> xb ≠ Z0p v) -> Z0a h gb [s] -> SlI h c0 s 20 n Gl -> Z0a h xb (ints (Z02 Gl t f)) -> EqN c0 h cc n v D -> D.length + k <= 2000 →
 Ans (G (ZbV none) [ptrTo gb,v,.int .i64 t,.int .i64 f,ptrTo xb,.int .i64 i] h cc df) fun r=>r.e = .exit 4 /\ cc <= r.c /\ r.df = df /\ FrN c0 cc v h r.h /\ ∃ v',r.vs = [ptrTo gb,v',.int .i64 t,.int .i64 f,ptrTo xb,.int .i64 4] /\ EqN c0 r.h r.c n v' (D ++ mI Gl t f k i) /\ (v' = v ∨ v' ≠ .slice none 0 0 /\ 256 * cc <= Z0p v'):=by
 intro k
 induction k with
 | zero =>
  intro i cc h v D hi hc hx hx0 hxv hg hs hxh he hD
  obtain rfl:i = 4:=by omega
  rw [mI,List.append_nil]
  refine Ans.lpN rfl rfl (Z5u ..) ?_
  unfold Z6s
  have fx:=True.intro
  refine Ans.go ?_
  clear fx
  exact Ans.exitN ⟨rfl,(by show cc <= cc + 1; omega),rfl,fun _ _ _=>rfl,v,rfl,he.mono (by show cc <= cc + 1; omega),.inl rfl⟩
 | succ k ih =>
  intro i cc h v D hi hc hx hx0 hxv hg hs hxh he hD
  rw [mI]
  by_cases hif:i = f
  · rw [if_pos hif,]
    subst hif
    refine Ans.lpN rfl rfl (Z5u ..) ?_
    unfold Z6s
    have fx:=True.intro
    refine Ans.go ?_
    clear fx
    refine Ans.nextN ?_
    refine (ih (i + 1) _ h v D (by omega) (by omega) (by omega) hx0 hxv hg hs hxh (he.mono (by omega)) (by omega)).mono ?_
    rintro r ⟨q1,q2,q3,q4,v',q5,q6,q7⟩
    exact ⟨q1,by omega,q3,fun b hb hv=>q4 b (by omega) hv,v',q5,q6,q7.imp id (fun ⟨a,b⟩=>⟨a,by omega⟩)⟩
  rw [if_neg hif]
  have hif':¬ (i:Int) = f:=by omega
  have hi4:i < 4:=by omega
  obtain ⟨k1,k2,k3⟩:=Z81 hok hG ht hf hi4 hif hsk
  have hpf:=Z0U k3 hf
  have hpi:=Z0U k3 hi4
  have hpn:=Zm4 k3 hi4 hf hif
  have hfl:=Z0i hG ht hf
  have b0:∀ H:FH,Z0a H xb (ints (Z02 Gl t f)) -> ld1 H (.pointer (some ⟨xb,0,none⟩)) = some (.int .i64 (Z0B (Z02 Gl t f))):=fun H hH=>by rw [Z01 hH,ints_getD _ _ (by omega)]; rfl
  have bp:∀ (H:FH) (x:Nat),Z0a H xb (ints (Z02 Gl t f)) -> x < 4 -> ld1 H (.pointer (some ⟨xb,1 + x,none⟩)) = some (.int .i64 ((Z0c (Z02 Gl t f)).getD x 0)):=fun H x hH hx=>by
   rw [Z01 hH,ints_getD _ _ (by omega)]
   unfold Z0c
   rw [Z1H _ _ _ (by omega),Z1I]
  have m0:(Z24 Gl t f i).getD 0 0 = t:=rfl
  have m1:(Z24 Gl t f i).getD 1 0 = f:=rfl
  have m2:(Z24 Gl t f i).getD 2 0 = i:=rfl
  have m3:(Z24 Gl t f i).getD 3 0 = Z0B (Z02 Gl t f):=rfl
  have m4:(Z24 Gl t f i).getD 4 0 = (Z0c (Z02 Gl t f)).getD f 0:=rfl
  have m5:(Z24 Gl t f i).getD 5 0 = (Z0c (Z02 Gl t f)).getD i 0:=rfl
  obtain ⟨M,hM⟩:∃ M,Z24 Gl t f i = M:=⟨_,rfl⟩
  obtain ⟨F,hF⟩:∃ F,Z02 Gl t f = F:=⟨_,rfl⟩
  rw [hM] at m0 m1 m2 m3 m4 m5 ⊢
  rw [hF] at b0 bp hxh
  rw [hF] at k1 k2 hpf hpi hpn m3 m4 m5
  obtain ⟨U,hU⟩:∃ U:Nat,Z0B F = U:=⟨(Z0B F).toNat,by omega⟩
  obtain ⟨Y,hY⟩:∃ Y:Nat,(Z0c F).getD f 0 = Y:=⟨((Z0c F).getD f 0).toNat,by omega⟩
  obtain ⟨Z,hZ⟩:∃ Z:Nat,(Z0c F).getD i 0 = Z:=⟨((Z0c F).getD i 0).toNat,by omega⟩
  have bf:=fun H hH=>bp H f hH hf
  have bi:=fun H hH=>bp H i hH hi4
  rw [hU] at b0 k1 k2 m3
  rw [hY] at bf hpf m4 hpn
  rw [hZ] at bi hpi m5 hpn
  have ct1:=fun H c'=>Z04 (Zcp i f H c' [] hi4 hf hif)
  have ct2:=fun H c'=>Z04 (Zcp Z Y H c' [] (by omega) (by omega) (by omega))
  have e1:Z1C n M = Z2N (Z2N (Z2N (Z2N (List.replicate (7 * n) 0) (7 * (t:Int) + i).toNat 1) (7 * (t:Int) + 4 + ty i f).toNat 1) (7 * (U:Int) + Z).toNat (-1)) (7 * (U:Int) + 4 + ty Z Y).toNat (-1):=by
   unfold Z1C
   rw [m0,m1,m2,m3,m4,m5]
  have tr1:=Z2C (i:=(i:Int)) (f:=(f:Int)) (by omega) (by omega) (by omega) (by omega) (by omega)
  have tr2:=Z2C (i:=(Z:Int)) (f:=(Y:Int)) (by omega) (by omega) (by omega) (by omega) (by omega)
  obtain ⟨T1,hT1⟩:∃ T:Nat,ty i f = T:=⟨(ty i f).toNat,by omega⟩
  obtain ⟨T2,hT2⟩:∃ T:Nat,ty Z Y = T:=⟨(ty Z Y).toNat,by omega⟩
  rw [hT1] at e1 tr1 ct1
  rw [hT2] at e1 tr2 ct2
  rw [show (7 * (t:Int) + i).toNat = 7 * t + i by omega,show (7 * (t:Int) + 4 + T1).toNat = 7 * t + 4 + T1 by omega,show (7 * (U:Int) + Z).toNat = 7 * U + Z by omega,show (7 * (U:Int) + 4 + T2).toNat = 7 * U + 4 + T2 by omega] at e1
  obtain ⟨L0,hL0⟩:∃ L,L = List.replicate (7 * n) (0:Int):=⟨_,rfl⟩
  obtain ⟨L1,hL1⟩:∃ L,L = Z2N L0 (7 * t + i) 1:=⟨_,rfl⟩
  obtain ⟨L2,hL2⟩:∃ L,L = Z2N L1 (7 * t + 4 + T1) 1:=⟨_,rfl⟩
  obtain ⟨L3,hL3⟩:∃ L,L = Z2N L2 (7 * U + Z) (-1):=⟨_,rfl⟩
  rw [← hL0,← hL1,← hL2,← hL3] at e1
  have n0:L0.length = 7 * n:=by rw [hL0]; simp
  have n1:L1.length = 7 * n:=by rw [hL1,Z0l,n0]
  have n2:L2.length = 7 * n:=by rw [hL2,Z0l,n1]
  have n3:L3.length = 7 * n:=by rw [hL3,Z0l,n2]
  have n4:=Z9s n M
  have c0':∀ k,-(0:Int) <= L0.getD k 0 /\ L0.getD k 0 <= 0:=by rw [hL0]; exact Z7R _
  have c1:=Z0X c0' (by omega) (7 * t + i) 1 (by omega)
  rw [← hL1] at c1
  have c2:=Z0X c1 (by omega) (7 * t + 4 + T1) 1 (by omega)
  rw [← hL2] at c2
  have c3:=Z0X c2 (by omega) (7 * U + Z) (-1) (by omega)
  rw [← hL3] at c3
  have g0:=c0' (7 * t + i)
  have g1:=c1 (7 * t + 4 + T1)
  have g2:=c2 (7 * U + Z)
  have g3:=c3 (7 * U + 4 + T2)
  clear c0' c1 c2 c3
  have lg:ld1 h (.pointer (some ⟨gb,0,none⟩)) = some s:=by rw [Z01 hg]; rfl
  have ll:=hs.len
  have mk:=Z5R 1 8 .i64 .i64 (7 * n) (by omega) (by omega)
  rw [← hL0,show ((7 * n:Nat):Int) = 7 * (n:Int) by omega] at mk
  obtain ⟨rb,hrb⟩:∃ rb,256 * (cc + 1 + 1) + 4 = rb:=⟨_,rfl⟩
  have hxR:∀ L,Z0a (newB h rb L) xb (ints F):=fun L=>hxh.newB_ne (by omega)
  have ldx:=fun L=>b0 _ (hxR L)
  have ldf:=fun L=>bf _ (hxR L)
  have ldi:=fun L=>bi _ (hxR L)
  have a1:ld1 (newB h rb (ints L0)) (.pointer (some ⟨rb,7 * t + i,none⟩)) = some (.int .i64 (L0.getD (7 * t + i) 0)):=Z45 _ _ _ _ (by omega)
  have st0:stN (newB h rb (ints L0)) 1 (.pointer (some ⟨rb,7 * t + i,none⟩)) (.int .i64 (L0.getD (7 * t + i) 0 + 1)) = some (newB h rb (ints L1)):=by
   rw [st1_int _ _ _ _ _ _ (by simp; omega),Z0K,hL1]; rfl
  have a2:ld1 (newB h rb (ints L1)) (.pointer (some ⟨rb,7 * t + 4 + T1,none⟩)) = some (.int .i64 (L1.getD (7 * t + 4 + T1) 0)):=Z45 _ _ _ _ (by omega)
  have st1':stN (newB h rb (ints L1)) 1 (.pointer (some ⟨rb,7 * t + 4 + T1,none⟩)) (.int .i64 (L1.getD (7 * t + 4 + T1) 0 + 1)) = some (newB h rb (ints L2)):=by
   rw [st1_int _ _ _ _ _ _ (by simp; omega),Z0K,hL2]; rfl
  have a3:ld1 (newB h rb (ints L2)) (.pointer (some ⟨rb,7 * U + Z,none⟩)) = some (.int .i64 (L2.getD (7 * U + Z) 0)):=Z45 _ _ _ _ (by omega)
  have st2:stN (newB h rb (ints L2)) 1 (.pointer (some ⟨rb,7 * U + Z,none⟩)) (.int .i64 (L2.getD (7 * U + Z) 0 - 1)) = some (newB h rb (ints L3)):=by
   rw [st1_int _ _ _ _ _ _ (by simp; omega),Z0K,hL3]; rfl
  have a4:ld1 (newB h rb (ints L3)) (.pointer (some ⟨rb,7 * U + 4 + T2,none⟩)) = some (.int .i64 (L3.getD (7 * U + 4 + T2) 0)):=Z45 _ _ _ _ (by omega)
  have st3:stN (newB h rb (ints L3)) 1 (.pointer (some ⟨rb,7 * U + 4 + T2,none⟩)) (.int .i64 (L3.getD (7 * U + 4 + T2) 0 - 1)) = some (newB h rb (ints (Z1C n M))):=by
   rw [st1_int _ _ _ _ _ _ (by simp; omega),Z0K,e1]; rfl
  obtain ⟨R4,hR4⟩:∃ R,newB h rb (ints (Z1C n M)) = R:=⟨_,rfl⟩
  rw [hR4] at st3
  have fR:∀ b,b ≠ rb -> R4.f b = h.f b:=fun b hb=>by rw [← hR4,Z07,if_neg hb]
  have fRb:R4.f rb = some (.cells false none (ints (Z1C n M))):=by rw [← hR4,Z07,if_pos rfl]
  have lx4:=b0 R4 (hxh.eqf (fR xb (by omega)))
  obtain ⟨d0,hd0⟩:∃ d,L0.getD (7 * t + i) 0 = d:=⟨_,rfl⟩
  obtain ⟨d1,hd1⟩:∃ d,L1.getD (7 * t + 4 + T1) 0 = d:=⟨_,rfl⟩
  obtain ⟨d2,hd2⟩:∃ d,L2.getD (7 * U + Z) 0 = d:=⟨_,rfl⟩
  obtain ⟨d3,hd3⟩:∃ d,L3.getD (7 * U + 4 + T2) 0 = d:=⟨_,rfl⟩
  rw [hd0] at a1 st0 g0
  rw [hd1] at a2 st1' g1
  rw [hd2] at a3 st2 g2
  rw [hd3] at a4 st3 g3
  have z1:(7 * (t:Int) + i).toNat = 7 * t + i:=by omega
  have z2:(7 * (t:Int) + 4 + T1).toNat = 7 * t + 4 + T1:=by omega
  have z3:(7 * (U:Int) + Z).toNat = 7 * U + Z:=by omega
  have z4:(7 * (U:Int) + 4 + T2).toNat = 7 * U + 4 + T2:=by omega
  obtain ⟨vals,h1,h2⟩:=he
  have hvl:=h1.length
  have aR:Zcj c0 R4 (cc + 1 + 1 + 1) v D.length vals:=(h1.keep fun hv=>fR _ (by have:=(h1.blk hv).2; omega)).mono (by omega)
  have hbl:Z48 [(.slice none 0 0)] [(0,1,(.slice (some ⟨rb,0,none⟩) (7 * n) (7 * n)))] = some [.slice (some ⟨rb,0,none⟩) (7 * n) (7 * n)]:=rfl
  obtain ⟨h',p1,p2,p3⟩:=(aR.mono (c':=cc + 1 + 1 + 1 + 1 + 1 + 1 + 1 + 1 + 1) (by omega)).app (c':=cc + 1 + 1 + 1 + 1 + 1 + 1 + 1 + 1 + 1 + 1 + 1) (.slice (some ⟨rb,0,none⟩) (7 * n) (7 * n)) rfl 24 (256 * (cc + 1 + 1 + 1 + 1 + 1 + 1 + 1 + 1 + 1) + 2) (256 * (cc + 1 + 1 + 1 + 1 + 1 + 1 + 1 + 1 + 1) + 3) (by omega) (by omega) (by omega) (by omega) (by omega) (by omega)
  refine Ans.lpN rfl rfl (Z5u ..) ?_
  unfold Z6s
  rw [hrb]
  have fx:=ai lg (ai ll (ai mk (ai ldx (ai ldf (ai ldi (ai z1 (ai z2 (ai z3 (ai z4 (ai a1 (ai st0 (ai ct1 (ai a2 (ai st1' (ai a3 (ai st2 (ai ct2 (ai a4 (ai st3 (ai lx4 (ai Z2j (ai hbl p1))))))))))))))))))))))
  refine Ans.go ?_
  clear fx
  refine Ans.nextN ?_
  have fin:FrN c0 cc v h h':=fun b hb hv=>by
   have:∀ hv':v ≠ .slice none 0 0,b ≠ Z0p v:=fun hv'=>by
    rcases Nat.lt_or_ge b (256 * c0) with q | q
    · have:=(h1.blk hv').1; omega
    · exact hv q hv'
   rw [p3 b (by omega) this,fR b (by omega)]
  have lowc:Z0u c0 h h':=fin.low hc
  refine (ih (i + 1) _ h' _ (D ++ [M]) (by omega) (by omega) (by omega) hx0 (fun _=>by rw [blkOf_sl]; omega) (hg.same hgb lowc) (hs.same lowc) (hF ▸ hxh.eqf (fin xb hx (fun _ hv=>hxv hv))) ⟨vals ++ [.slice (some ⟨rb,0,none⟩) (7 * n) (7 * n)],.inr (by rw [List.length_append]; exact p2.mono (by omega)),fun j m hj=>?_⟩ (by simp; omega)).mono ?_
  · rw [blkOf_sl]
    rcases Nat.lt_or_ge j D.length with q | q
    · rw [List.getElem?_append_left q] at hj
      obtain ⟨x,x1,⟨b,rfl,y2,y3,y4,y5⟩,x3⟩:=h2 j m hj
      rw [blkOf_sl] at x3
      exact ⟨_,by rw [List.getElem?_append_left (by omega)]; exact x1,⟨b,rfl,y2,by omega,by rw [fin b y3 (fun _ _=>x3),y4],y5⟩,by rw [blkOf_sl]; omega⟩
    · rw [List.getElem?_append_right q] at hj
      obtain ⟨hj0,rfl⟩:j - D.length = 0 /\ m = M:=by
       rcases hq:j - D.length with _ | q'
       · rw [hq] at hj; exact ⟨rfl,by simpa using hj.symm⟩
       · rw [hq] at hj; simp at hj
      refine ⟨.slice (some ⟨rb,0,none⟩) (7 * n) (7 * n),by rw [List.getElem?_append_right (by omega),hvl,show j - D.length = 0 by omega]; rfl,⟨rb,rfl,by omega,by omega, ?_,n4,by omega⟩,by rw [blkOf_sl]; omega⟩
      rw [p3 rb (by omega) (fun hv=>by have:=(h1.blk hv).2; omega),fRb]
  · rintro r ⟨q1,q2,q3,q4,v',q5,q6,q7⟩
    refine ⟨q1,by omega,q3,fun b hb hv=>?_,v',q5,by rw [List.append_assoc] at q6; exact q6,.inr ?_⟩
    · rw [q4 b (by omega) (fun _ _=>by rw [blkOf_sl]; omega),fin b hb hv]
    · rcases q7 with rfl | ⟨q7,q8⟩
      · exact ⟨(fun e=>by cases e),by rw [blkOf_sl]; omega⟩
      · exact ⟨q7,by omega⟩
end Go.Proofs.Ytcnndelmnobigaa

namespace Go.Proofs.Ytcnndelmnobigaa
open Go Go.Ab Go.Proofs
theorem Zk0 (Gl:List Int) (t f:Nat):Z1v Gl t f = (decide (Z0B (Z02 Gl t f) < t) || (decide (Z0B (Z02 Gl t f) = t) && decide ((Z0c (Z02 Gl t f)).getD f 0 < f))):=by
 unfold Z1v
 by_cases h:Z0B (Z02 Gl t f) < 0
 · rw [decide_eq_true h,decide_eq_true (show Z0B (Z02 Gl t f) < t by omega)]; simp
 · rw [decide_eq_false h]; simp
set_option maxHeartbeats 2000000 in
theorem ZjE (s:Value) (n:Nat) (Gl:List Int) (gb c0 t:Nat) (df:List Nat) (hn:n <= 60) (hok:Z0t Gl n = true) (ht:t < n) (hgb:gb < 256 * c0) :
 ∀ (k f cc:Nat) (h:FH) (v:Value) (D:List (List Int)),f + k = 4 -> c0 <= cc -> Z0a h gb [s] -> SlI h c0 s 20 n Gl -> EqN c0 h cc n v D -> D.length + 4 * k <= 1900 →
 Ans (G (Z6r none) [ptrTo gb,v,.int .i64 t,.int .i64 f] h cc df) fun r=>r.e = .exit 2 /\ cc <= r.c /\ r.df = df /\ FrN c0 cc v h r.h /\ ∃ v',r.vs = [ptrTo gb,v',.int .i64 t,.int .i64 4] /\ EqN c0 r.h r.c n v' (D ++ mF Gl t k f) /\ (v' = v ∨ v' ≠ .slice none 0 0 /\ 256 * cc <= Z0p v'):=by
 intro k
 induction k with
 | zero =>
  intro f cc h v D hf hc hg hs he hD
  obtain rfl:f = 4:=by omega
  rw [mF,List.append_nil]
  refine Ans.lpN rfl rfl (Z5v ..) ?_
  unfold Z6t
  have fx:=True.intro
  refine Ans.go ?_
  clear fx
  exact Ans.exitN ⟨rfl,(by show cc <= cc + 1; omega),rfl,fun _ _ _=>rfl,v,rfl,he.mono (by show cc <= cc + 1; omega),.inl rfl⟩
 | succ k ih =>
  intro f cc h v D hf hc hg hs he hD
  have hG:=hs.1
  have hf4:f < 4:=by omega
  have hfl:=Z0i hG ht hf4
  have lg:ld1 h (.pointer (some ⟨gb,0,none⟩)) = some s:=by rw [Z01 hg]; rfl
  have lf:=hs.face (t:Int) (f:Int) (by omega) (by omega) (by omega) (by omega)
  rw [Int.toNat_natCast,Int.toNat_natCast] at lf
  have hsx:=hs.ixs
  obtain ⟨xb,hxb⟩:∃ xb,256 * (cc + 1) + 7 = xb:=⟨_,rfl⟩
  obtain ⟨H,hH⟩:∃ H,newB h xb (ints (Z02 Gl t f)) = H:=⟨_,rfl⟩
  have hst:stN (newB h xb [.int .i64 0,.int .i64 0,.int .i64 0,.int .i64 0,.int .i64 0]) 5 (.pointer (some ⟨xb,0,none⟩)) (av (Z02 Gl t f)) = some H:=by rw [← hH]; exact stN_all _ _ 5 _ _ hfl rfl
  have fH:∀ b,b ≠ xb -> H.f b = h.f b:=fun b hb=>by rw [← hH,Z07,if_neg hb]
  have hxh:Z0a H xb (ints (Z02 Gl t f)):=by rw [← hH]; exact Z0a.newB_same _ _ _
  have b0:ld1 H (.pointer (some ⟨xb,0,none⟩)) = some (.int .i64 (Z0B (Z02 Gl t f))):=by rw [Z01 hxh,ints_getD _ _ (by omega)]; rfl
  have b1:ld1 H (.pointer (some ⟨xb,1 + f,none⟩)) = some (.int .i64 ((Z0c (Z02 Gl t f)).getD f 0)):=by
   rw [Z01 hxh,ints_getD _ _ (by omega)]
   unfold Z0c
   rw [Z1H _ _ _ (by omega),Z1I]
  have hsv:=Zk0 Gl t f
  have hgH:Z0a H gb [s]:=hg.eqf (fH gb (by omega))
  have hsH:SlI H c0 s 20 n Gl:=hs.keep fun hp=>fH _ (by have:=hs.blk hp; omega)
  have heH:EqN c0 H cc n v D:=he.same fun b h1 h2=>fH b (by omega)
  rw [mF]
  have stepS:Z1v Gl t f = true -> ∀ c',cc <= c' -> Ans (G (Z6r none) [ptrTo gb,v,.int .i64 t,.int .i64 (f + 1:Nat)] H c' df) fun r=>r.e = .exit 2 /\ cc <= r.c /\ r.df = df /\ FrN c0 cc v h r.h /\ ∃ v',r.vs = [ptrTo gb,v',.int .i64 t,.int .i64 4] /\ EqN c0 r.h r.c n v' (D ++ ((if Z1v Gl t f = true then [] else mI Gl t f 4 0) ++ mF Gl t k (f + 1))) /\ (v' = v ∨ v' ≠ .slice none 0 0 /\ 256 * cc <= Z0p v'):=fun hs' c' hc'=>by
   rw [if_pos hs',List.nil_append]
   refine (ih (f + 1) c' H v D (by omega) (by omega) hgH hsH (heH.mono hc') (by omega)).mono ?_
   rintro r ⟨q1,q2,q3,q4,v',q5,q6,q7⟩
   exact ⟨q1,by omega,q3,fun b hb hv=>by rw [q4 b (by omega) hv,fH b (by omega)],v',q5,q6,q7.imp id (fun ⟨a,b⟩=>⟨a,by omega⟩)⟩
  cases hsk:Z1v Gl t f with
  | true =>
   have stepS':=stepS hsk
   rw [hsk] at hsv stepS'
   obtain ⟨U,hU⟩:∃ U,Z0B (Z02 Gl t f) = U:=⟨_,rfl⟩
   obtain ⟨Q,hQ⟩:∃ Q,(Z0c (Z02 Gl t f)).getD f 0 = Q:=⟨_,rfl⟩
   rw [hU] at b0 hsv
   rw [hQ] at b1 hsv
   refine Ans.lpN rfl rfl (Z5v ..) ?_
   unfold Z6t
   by_cases h3:U < t
   · have fx:=ai lg (ai hsx (ai lf (ai hxb (ai hst b0))))
     refine Ans.go ?_
     clear fx
     refine Ans.nextN ?_
     exact stepS' _ (by omega)
   · have h4:U = t:=by
      rw [decide_eq_false h3] at hsv
      simp only [Bool.false_or] at hsv
      have:=hsv.symm
      simp only [Bool.and_eq_true,decide_eq_true_eq] at this
      exact this.1
     have h5:Q < f:=by
      rw [decide_eq_false h3] at hsv
      simp only [Bool.false_or] at hsv
      have:=hsv.symm
      simp only [Bool.and_eq_true,decide_eq_true_eq] at this
      exact this.2
     have fx:=ai lg (ai hsx (ai lf (ai hxb (ai hst (ai b0 b1)))))
     refine Ans.go ?_
     clear fx
     refine Ans.nextN ?_
     exact stepS' _ (by omega)
  | false =>
   rw [hsk] at hsv
   obtain ⟨⟨re,rv,rh,rc,rd⟩,hr,r1,r2,r3,r4,v',r5,r6,r7⟩:=ZjD s n Gl gb xb c0 t f df hn hok hG ht hf4 hsk hgb 4 0 (cc + 1 + 1 + 1 + 1) H v D (by omega) (by omega) (by omega) (by omega) (fun hv=>by
    obtain ⟨vals,a1,a2⟩:=he
    have:=(a1.blk hv).2; omega) hgH hsH hxh (heH.mono (by omega)) (by omega)
   simp only [Int.ofNat_eq_natCast,Int.cast_ofNat_Int] at hr
   simp only at r1 r2 r3 r4 r5 r6
   subst r1 r3 r5
   obtain ⟨U,hU⟩:∃ U,Z0B (Z02 Gl t f) = U:=⟨_,rfl⟩
   obtain ⟨Q,hQ⟩:∃ Q,(Z0c (Z02 Gl t f)).getD f 0 = Q:=⟨_,rfl⟩
   rw [hU] at b0 hsv
   rw [hQ] at b1 hsv
   have h3:¬ U < t:=fun q=>by rw [decide_eq_true q] at hsv; cases hsv
   have fin:FrN c0 cc v h rh:=fun b hb hv=>by rw [r4 b (by omega) hv,fH b (by omega)]
   have lowc:=fin.low hc
   have hml:(mI Gl t f 4 0).length <= 4:=Za9 Gl t f 4 0
   have fin2:Ans (G (Z6r none) [ptrTo gb,v',.int .i64 t,.int .i64 (f + 1:Nat)] rh (rc + 1) rd) fun r=>r.e = .exit 2 /\ cc <= r.c /\ r.df = rd /\ FrN c0 cc v h r.h /\ ∃ v',r.vs = [ptrTo gb,v',.int .i64 t,.int .i64 4] /\ EqN c0 r.h r.c n v' (D ++ (mI Gl t f 4 0 ++ mF Gl t k (f + 1))) /\ (v' = v ∨ v' ≠ .slice none 0 0 /\ 256 * cc <= Z0p v'):=by
    refine (ih (f + 1) (rc + 1) rh v' (D ++ mI Gl t f 4 0) (by omega) (by omega) (hg.same hgb lowc) (hs.same lowc) (r6.mono (by omega)) (by simp; omega)).mono ?_
    rintro r ⟨q1,q2,q3,q4,w,q5,q6,q7⟩
    refine ⟨q1,by omega,q3,fun b hb hv=>?_,w,q5,by rw [List.append_assoc] at q6; exact q6, ?_⟩
    · rw [q4 b (by omega) (fun h1 h2=>?_),fin b hb hv]
      rcases r7 with rfl | ⟨r7,r8⟩
      · exact hv h1 h2
      · omega
    · rcases q7 with rfl | ⟨q7,q8⟩
      · rcases r7 with rfl | ⟨r7,r8⟩
        · exact .inl rfl
        · exact .inr ⟨r7,by omega⟩
      · exact .inr ⟨q7,by omega⟩
   refine Ans.lpN rfl rfl (Z5v ..) ?_
   unfold Z6t
   by_cases h4:U = t
   · have h5:¬ Q < f:=fun q=>by rw [decide_eq_true h4,decide_eq_true q] at hsv; simp at hsv
     have fx:=ai lg (ai hsx (ai lf (ai hxb (ai hst (ai b0 (ai b1 hr))))))
     refine Ans.go ?_
     clear fx
     refine Ans.nextN ?_
     exact fin2
   · have fx:=ai lg (ai hsx (ai lf (ai hxb (ai hst (ai b0 (ai b1 hr))))))
     refine Ans.go ?_
     clear fx
     refine Ans.nextN ?_
     exact fin2
theorem ZjC (s:Value) (n:Nat) (Gl:List Int) (gb c0:Nat) (df:List Nat) (hn:n <= 60) (hok:Z0t Gl n = true) (hgb:gb < 256 * c0) :
 ∀ (k t cc:Nat) (h:FH) (v:Value) (D:List (List Int)),t + k = n -> c0 <= cc -> Z0a h gb [s] -> SlI h c0 s 20 n Gl -> EqN c0 h cc n v D -> D.length + 16 * k <= 1000 →
 Ans (G (ZbW none) [ptrTo gb,v,.int .i64 t] h cc df) fun r=>r.e = .exit 0 /\ cc <= r.c /\ r.df = df /\ FrN c0 cc v h r.h /\ ∃ v',r.vs = [ptrTo gb,v',.int .i64 n] /\ EqN c0 r.h r.c n v' (D ++ mT Gl k t) /\ (v' = v ∨ v' ≠ .slice none 0 0 /\ 256 * cc <= Z0p v'):=by
 intro k
 induction k with
 | zero =>
  intro t cc h v D ht hc hg hs he hD
  obtain rfl:t = n:=by omega
  have lg:ld1 h (.pointer (some ⟨gb,0,none⟩)) = some s:=by rw [Z01 hg]; rfl
  have ll:=hs.len
  rw [mT,List.append_nil]
  refine Ans.lpN rfl rfl (Z7E ..) ?_
  unfold Z96
  have fx:=ai lg ll
  refine Ans.go ?_
  clear fx
  exact Ans.exitN ⟨rfl,(by show cc <= cc + 1; omega),rfl,fun _ _ _=>rfl,v,rfl,he.mono (by show cc <= cc + 1; omega),.inl rfl⟩
 | succ k ih =>
  intro t cc h v D ht hc hg hs he hD
  have lg:ld1 h (.pointer (some ⟨gb,0,none⟩)) = some s:=by rw [Z01 hg]; rfl
  have ll:=hs.len
  obtain ⟨⟨re,rv,rh,rc,rd⟩,hr,r1,r2,r3,r4,v',r5,r6,r7⟩:=ZjE s n Gl gb c0 t df hn hok (by omega) hgb 4 0 (cc + 1 + 1) h v D (by omega) (by omega) hg hs (he.mono (by omega)) (by omega)
  simp only [Int.ofNat_eq_natCast,Int.cast_ofNat_Int] at hr
  simp only at r1 r2 r3 r4 r5 r6
  subst r1 r3 r5
  have fin:FrN c0 cc v h rh:=fun b hb hv=>r4 b (by omega) hv
  have lowc:=fin.low hc
  have hml:(mF Gl t 4 0).length <= 4 * 4:=Zaa Gl t 4 0
  rw [mT]
  refine Ans.lpN rfl rfl (Z7E ..) ?_
  unfold Z96
  have fx:=ai lg (ai ll hr)
  refine Ans.go ?_
  clear fx
  refine Ans.nextN ?_
  refine (ih (t + 1) (rc + 1) rh v' (D ++ mF Gl t 4 0) (by omega) (by omega) (hg.same hgb lowc) (hs.same lowc) (r6.mono (by omega)) (by simp; omega)).mono ?_
  rintro r ⟨q1,q2,q3,q4,w,q5,q6,q7⟩
  refine ⟨q1,by omega,q3,fun b hb hv=>?_,w,q5,by rw [List.append_assoc] at q6; exact q6, ?_⟩
  · rw [q4 b (by omega) (fun h1 h2=>?_),fin b hb hv]
    rcases r7 with rfl | ⟨r7,r8⟩
    · exact hv h1 h2
    · omega
  · rcases q7 with rfl | ⟨q7,q8⟩
    · rcases r7 with rfl | ⟨r7,r8⟩
      · exact .inl rfl
      · exact .inr ⟨r7,by omega⟩
    · exact .inr ⟨q7,by omega⟩
theorem ZjB (s:Value) (n:Nat) (Gl:List Int) (h:FH) (c:Nat) (df:List Nat) (hs:SlI h c s 20 n Gl) :
 Ans (G (.fn 26) [.agg #[s]] h c df) fun r=>r.e = .ret /\ r.df = [] /\ c <= r.c /\ Z0u c h r.h ∧
  ((Z4a Gl n ≠ 0 /\ r.vs = [.tuple #[.slice none 0 0,.int .i64 (Z4a Gl n)]]) ∨ (Z4a Gl n = 0 /\ ∃ v,r.vs = [.tuple #[v,.int .i64 0]] /\ EqN c r.h r.c n v (Z1s Gl n))):=by
 refine Ans.call' (fun r e=>f26_go e) ?_
 unfold ZqY
 rw [Z4c hs.flat,Z43,Nat.add_zero]
 simp only [cond_true]
 obtain ⟨H,hH⟩:∃ H,newB h (256 * c) [s] = H:=⟨_,rfl⟩
 have sH:Z0u c h H:=by rw [← hH]; simp (disch:=omega)
 have hg:Z0a H (256 * c) [s]:=by rw [← hH]; exact Z0a.newB_same _ _ _
 have l0:=Z0C hg
 have cr:=fun c' (hc:c <= c')=>Z04 (Zcy s n Gl H c' [] ((hs.same sH).mono hc))
 by_cases h0:Z4a Gl n = 0
 case neg =>
  obtain ⟨E,hE⟩:∃ E,Z4a Gl n = E:=⟨_,rfl⟩
  rw [hE] at cr h0 ⊢
  have fx:=ai hH (ai l0 cr)
  refine Ans.go ?_
  clear fx
  exact .done ⟨rfl,rfl,(by show c <= c + 1 + 1 + 1 + 1; omega),sH,.inl ⟨h0,rfl⟩⟩
 obtain ⟨hn,hok⟩:=Z1F h0
 rw [h0] at cr
 obtain ⟨⟨re,rv,rh,rc,rd⟩,hr,r1,r2,r3,r4,v',r5,r6,r7⟩:=ZjC s n Gl (256 * c) (c + 1) [] hn hok (by omega) n 0 (c + 1 + 1 + 1 + 1 + 1) H (.slice none 0 0) [] (by omega) (by omega) hg ((hs.same sH).mono (by omega)) (EqN.nil _ _ _ _) (by simp; omega)
 simp only [Int.ofNat_eq_natCast,Int.cast_ofNat_Int] at hr
 simp only at r1 r2 r3 r4 r5 r6
 subst r1 r3 r5
 rw [List.nil_append] at r6
 have fx:=ai hH (ai l0 (ai cr hr))
 refine Ans.go ?_
 clear fx
 refine .done ⟨rfl,rfl,(by show c <= rc + 1; omega),fun b hb=>?_,.inr ⟨h0,v',rfl, ?_⟩⟩
 · show rh.f b = _
   rw [r4 b (by omega) (fun _ q=>absurd rfl q),sH b hb]
 · obtain ⟨vals,a1,a2⟩:=r6.mono (c':=rc + 1) (by omega)
   refine ⟨vals, ?_,fun k m hk=>?_⟩
   · rcases a1 with a1 | ⟨z1,z2,z3,i,op,z4,z5,z6,z7,z8⟩
     · exact .inl a1
     · exact .inr ⟨z1,z2,z3,i,op,z4,by omega,z6,z7,z8⟩
   · obtain ⟨x,x1,⟨b,y1,y2,y3,y4⟩,x3⟩:=a2 k m hk
     exact ⟨x,x1,⟨b,y1,by omega,y3,y4⟩,x3⟩
end Go.Proofs.Ytcnndelmnobigaa
