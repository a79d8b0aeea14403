/- Parts of a proof: N8 N9 U6 U7 U8 U9. Conditions: none. -/
import Derived.Test.YtcnndelmnobigaaM17
import Derived.Test.YtcnndelmnobigaaM16
set_option linter.all false
set_option maxRecDepth 100000
namespace Go.Proofs.Ytcnndelmnobigaa
open Go Go.Ab Go.Proofs
def RowV (c0:Nat) (h:FH) (c:Nat) (x:Value) (w:Nat) (L:List Int):Prop:=∃ b,x = .slice (some ⟨b,0,none⟩) w w /\ 256 * c0 <= b /\ b < 256 * c /\ h.f b = some (.cells false none (ints L)) /\ L.length = w /\ w <= 1000000
structure EqI (s:Value) (n:Nat) (Gl:List Int) (gb g2 ob l c0 cb:Nat) (D:List (List Int)) (O:Nat -> Prop) (h:FH) (c:Nat):Prop where
 lc:cb <= c
 g:Z0a h gb [s]
 gg:Z0a h g2 [s]
 sl:SlI h c0 s 20 n Gl
 ng:¬ O g2
 out:∃ vo vals,O = (fun b=>b = ob ∨ b = Z0p vo) /\ h.f ob = some (.cells false none [vo]) /\ Z6Q c0 h c vo D.length vals /\ Z0p vo ≠ ob /\ Z0p vo ≠ l ∧
  ∀ (k:Nat) (m:List Int),D[k]? = some m -> ∃ x,vals[k]? = some x /\ RowV c0 h c x (7 * n) (Z1C n m) /\ Z0p x ≠ ob /\ Z0p x ≠ Z0p vo /\ Z0p x ≠ l
set_option maxHeartbeats 2000000 in
theorem ZoI (s:Value) (n:Nat) (Gl:List Int) (gb g2 ob c0 cb l:Nat) (st:ALoop) (hst:st.state = .ready) (hst2:st.pending = none) (hok:Z0t Gl n = true) (hn:n <= 60)
 (hgb:gb < 256 * c0) (hg2:g2 < 256 * cb) (hob:ob < 256 * cb) (hl:l < 256 * cb) (hc0:c0 <= cb) (h1:l ≠ gb) (h2:l ≠ g2) (h3:l ≠ ob) (hgo:gb ≠ ob) (hg2o:g2 ≠ ob) (hls:0 < n -> Z0p s ≠ l /\ Z0p s ≠ ob)
 {D:List (List Int)} {O:Nat -> Prop} {h:FH} {c t f i:Nat} (ht:t < n) (hf:f < 4) (hi:i < 4) (hif:i ≠ f) (hsk:Z1v Gl t f = false) (hI:EqI s n Gl gb g2 ob l c0 cb D O h c) (hD:D.length < 100000) (hlp:h.f l = some (.loop st)) :
 Ans (Z6q G l (av (Z24 Gl t f i)) (ptrTo gb) (ptrTo ob) h c) (fun r=>c <= r.c /\ ∃ O',(∀ b,O' b -> O b ∨ 256 * c <= b) /\ (∀ b,b < 256 * c -> ¬ O b -> b ≠ l -> r.h.f b = h.f b) ∧
  (r.vs = [.bool true] /\ r.h.f l = some (.loop st) /\ EqI s n Gl gb g2 ob l c0 cb (D ++ [Z24 Gl t f i]) O' r.h r.c)):=by
 have hlc:=hI.lc
 have hG:=hI.sl.1
 obtain ⟨k1,k2,k3⟩:=Z81 hok hG ht hf hi hif hsk
 have hpf:=Z0U k3 hf
 have hpi:=Z0U k3 hi
 have hpn:=Zm4 k3 hi hf hif
 have m0:(Z24 Gl t f i).getD 0 0 = t:=rfl
 have m1:(Z24 Gl t f i).getD 1 0 = f:=rfl
 have m2:(Z24 Gl t f i).getD 2 0 = i:=rfl
 have m3:(Z24 Gl t f i).getD 3 0 = Z0B (Z02 Gl t f):=rfl
 have m4:(Z24 Gl t f i).getD 4 0 = (Z0c (Z02 Gl t f)).getD f 0:=rfl
 have m5:(Z24 Gl t f i).getD 5 0 = (Z0c (Z02 Gl t f)).getD i 0:=rfl
 have ml:(Z24 Gl t f i).length = 6:=rfl
 obtain ⟨M,hM⟩:∃ M,Z24 Gl t f i = M:=⟨_,rfl⟩
 obtain ⟨U,hU⟩:∃ U,Z0B (Z02 Gl t f) = U:=⟨_,rfl⟩
 obtain ⟨Y,hY⟩:∃ Y,(Z0c (Z02 Gl t f)).getD f 0 = Y:=⟨_,rfl⟩
 obtain ⟨Z,hZ⟩:∃ Z,(Z0c (Z02 Gl t f)).getD i 0 = Z:=⟨_,rfl⟩
 rw [hM] at m0 m1 m2 m3 m4 m5 ml ⊢
 rw [hU] at k1 k2 m3
 rw [hY] at hpf m4 hpn
 rw [hZ] at hpi m5 hpn
 have hn0:0 < n:=by omega
 obtain ⟨ls1,ls2⟩:=hls hn0
 have bs:=hI.sl.blk hn0
 have hg2O:=hI.ng
 obtain ⟨vo,vals,o1,o2,o3,o4,hlvo,o5⟩:=hI.out
 have bvo:=o3.blk
 have hg2vo:g2 ≠ Z0p vo:=fun e=>hg2O (by rw [o1]; exact .inr e)
 have e1:Z1C n M = Z2N (Z2N (Z2N (Z2N (List.replicate (7 * n) 0) (7 * (t:Int) + i).toNat 1) (7 * (t:Int) + 4 + ty i f).toNat 1) (7 * U + Z).toNat (-1)) (7 * U + 4 + ty Z Y).toNat (-1):=by
  unfold Z1C
  rw [m0,m1,m2,m3,m4,m5]
 have tr1:=Z2C (i:=(i:Int)) (f:=(f:Int)) (by omega) (by omega) (by omega) (by omega) (by omega)
 have tr2:=Z2C hpi.1 hpi.2 hpf.1 hpf.2 hpn
 obtain ⟨T1,hT1⟩:∃ T,ty i f = T:=⟨_,rfl⟩
 obtain ⟨T2,hT2⟩:∃ T,ty Z Y = T:=⟨_,rfl⟩
 have x1:=Z5U tyT 4 4 .i64 (i:Int) (by omega) (by omega) rfl
 have x2:=Z6L ((tyT.drop ((i:Int).toNat * 4)).take 4) 4 .i64 (f:Int) (by omega) (by omega) (by simp [tyT]; omega)
 rw [show ((tyT.drop ((i:Int).toNat * 4)).take 4).getD (f:Int).toNat 0 = ty i f from rfl,hT1] at x2
 have x3:=Z5U tyT 4 4 .i64 Z hpi.1 (by omega) rfl
 have x4:=Z6L ((tyT.drop (Z.toNat * 4)).take 4) 4 .i64 Y hpf.1 (by omega) (by simp [tyT]; omega)
 rw [show ((tyT.drop (Z.toNat * 4)).take 4).getD Y.toNat 0 = ty Z Y from rfl,hT2] at x4
 obtain ⟨A1,hA1⟩:∃ A,(tyT.drop ((i:Int).toNat * 4)).take 4 = A:=⟨_,rfl⟩
 obtain ⟨A2,hA2⟩:∃ A,(tyT.drop (Z.toNat * 4)).take 4 = A:=⟨_,rfl⟩
 rw [hA1] at x1 x2
 rw [hA2] at x3 x4
 rw [hT1] at e1 tr1
 rw [hT2] at e1 tr2
 obtain ⟨L0,hL0⟩:∃ L,L = List.replicate (7 * n) (0:Int):=⟨_,rfl⟩
 obtain ⟨L1,hL1⟩:∃ L,L = Z2N L0 (7 * (t:Int) + i).toNat 1:=⟨_,rfl⟩
 obtain ⟨L2,hL2⟩:∃ L,L = Z2N L1 (7 * (t:Int) + 4 + T1).toNat 1:=⟨_,rfl⟩
 obtain ⟨L3,hL3⟩:∃ L,L = Z2N L2 (7 * U + Z).toNat (-1):=⟨_,rfl⟩
 rw [← hL0,← hL1,← hL2,← hL3] at e1
 have n0:L0.length = 7 * n:=by rw [hL0]; simp
 have n1:L1.length = 7 * n:=by rw [hL1,Z0l,n0]
 have n2:L2.length = 7 * n:=by rw [hL2,Z0l,n1]
 have n3:L3.length = 7 * n:=by rw [hL3,Z0l,n2]
 have n4:=Z9s n M
 have b0:∀ k,-(0:Int) <= L0.getD k 0 /\ L0.getD k 0 <= 0:=by rw [hL0]; exact Z7R _
 have b1:=Z0X b0 (by omega) (7 * (t:Int) + i).toNat 1 (by omega)
 rw [← hL1] at b1
 have b2:=Z0X b1 (by omega) (7 * (t:Int) + 4 + T1).toNat 1 (by omega)
 rw [← hL2] at b2
 have b3:=Z0X b2 (by omega) (7 * U + Z).toNat (-1) (by omega)
 rw [← hL3] at b3
 have b0':=b0 (7 * (t:Int) + i).toNat
 have b1':=b1 (7 * (t:Int) + 4 + T1).toNat
 have b2':=b2 (7 * U + Z).toNat
 have b3':=b3 (7 * U + 4 + T2).toNat
 clear b0 b1 b2 b3
 obtain ⟨H,hH⟩:∃ H,H = HeapC.set (newB h (256 * c) (ints M)) l (.loop { st with state:=.busy }):=⟨_,rfl⟩
 have hb:Z1D (newB h (256 * c) (ints M)) l = some H:=by
  rw [hH]
  exact Z6x (by rw [get_newB_ne _ _ _ _ (by omega)]; exact hlp) hst
 have r0:∀ j,j < 256 * c -> j ≠ l -> H.f j = h.f j:=by
  intro j hj hne
  rw [hH,Z0E,if_neg hne,Z07,if_neg (by omega)]
 have rl:H.f l = some (.loop { st with state:=.busy }):=by rw [hH,Z0E,if_pos rfl]
 have hA:Z0a H (256 * c) (ints M):=by rw [hH]; exact ((Z0a.newB_same h _ _).set_ne (by omega))
 clear hH
 have rd:∀ j:Nat,j < 6 -> ld1 H (.pointer (some ⟨256 * c,j,none⟩)) = some (.int .i64 (M.getD j 0)):=fun j hj=>by rw [Z01 hA,ints_getD _ _ (by omega)]
 have a0:=rd 0 (by omega)
 have a1:=rd 1 (by omega)
 have a2:=rd 2 (by omega)
 have a3:=rd 3 (by omega)
 have a4:=rd 4 (by omega)
 have a5:=rd 5 (by omega)
 clear rd
 rw [m0] at a0
 rw [m1] at a1
 rw [m2] at a2
 rw [m3] at a3
 rw [m4] at a4
 rw [m5] at a5
 have lg:ld1 H (.pointer (some ⟨gb,0,none⟩)) = some s:=by rw [Z01 (hI.g.eqf (r0 gb (by omega) (Ne.symm h1)))]; rfl
 have lo:ld1 H (.pointer (some ⟨ob,0,none⟩)) = some vo:=by rw [Z01 (cs:=[vo]) ⟨false,none,(r0 ob (by omega) (Ne.symm h3)).trans o2⟩]; rfl
 have ll:=hI.sl.len
 have hst6:stN (newB h (256 * c) [.int .i64 0,.int .i64 0,.int .i64 0,.int .i64 0,.int .i64 0,.int .i64 0]) 6 (.pointer (some ⟨256 * c,0,none⟩)) (av M) = some (newB h (256 * c) (ints M)):=stN_all _ _ 6 _ _ ml rfl
 have mk:=Z5R 1 8 .i64 .i64 (7 * n) (by omega) (by omega)
 rw [← hL0,show ((7 * n:Nat):Int) = 7 * (n:Int) by omega] at mk
 obtain ⟨rb,hrb⟩:∃ rb,rb = 256 * (c + 1) + 4:=⟨_,rfl⟩
 have ld0:ld1 (newB H rb (ints L0)) (.pointer (some ⟨rb,(7 * (t:Int) + i).toNat,none⟩)) = some (.int .i64 (L0.getD (7 * (t:Int) + i).toNat 0)):=Z45 _ _ _ _ (by omega)
 have st0:stN (newB H rb (ints L0)) 1 (.pointer (some ⟨rb,(7 * (t:Int) + i).toNat,none⟩)) (.int .i64 (L0.getD (7 * (t:Int) + i).toNat 0 + 1)) = some (newB H rb (ints L1)):=by
  rw [st1_int _ _ _ _ _ _ (by simp; omega),Z0K,hL1]; rfl
 have ld1':ld1 (newB H rb (ints L1)) (.pointer (some ⟨rb,(7 * (t:Int) + 4 + T1).toNat,none⟩)) = some (.int .i64 (L1.getD (7 * (t:Int) + 4 + T1).toNat 0)):=Z45 _ _ _ _ (by omega)
 have st1':stN (newB H rb (ints L1)) 1 (.pointer (some ⟨rb,(7 * (t:Int) + 4 + T1).toNat,none⟩)) (.int .i64 (L1.getD (7 * (t:Int) + 4 + T1).toNat 0 + 1)) = some (newB H rb (ints L2)):=by
  rw [st1_int _ _ _ _ _ _ (by simp; omega),Z0K,hL2]; rfl
 have ld2:ld1 (newB H rb (ints L2)) (.pointer (some ⟨rb,(7 * U + Z).toNat,none⟩)) = some (.int .i64 (L2.getD (7 * U + Z).toNat 0)):=Z45 _ _ _ _ (by omega)
 have st2:stN (newB H rb (ints L2)) 1 (.pointer (some ⟨rb,(7 * U + Z).toNat,none⟩)) (.int .i64 (L2.getD (7 * U + Z).toNat 0 - 1)) = some (newB H rb (ints L3)):=by
  rw [st1_int _ _ _ _ _ _ (by simp; omega),Z0K,hL3]; rfl
 have ld3:ld1 (newB H rb (ints L3)) (.pointer (some ⟨rb,(7 * U + 4 + T2).toNat,none⟩)) = some (.int .i64 (L3.getD (7 * U + 4 + T2).toNat 0)):=Z45 _ _ _ _ (by omega)
 have st3:stN (newB H rb (ints L3)) 1 (.pointer (some ⟨rb,(7 * U + 4 + T2).toNat,none⟩)) (.int .i64 (L3.getD (7 * U + 4 + T2).toNat 0 - 1)) = some (newB H rb (ints (Z1C n M))):=by
  rw [st1_int _ _ _ _ _ _ (by simp; omega),Z0K,e1]; rfl
 obtain ⟨R4,hR4⟩:∃ R,newB H rb (ints (Z1C n M)) = R:=⟨_,rfl⟩
 rw [hR4] at st3
 have fR:∀ b,b ≠ rb -> R4.f b = H.f b:=fun b hb=>by rw [← hR4,Z07,if_neg hb]
 have fRb:R4.f rb = some (.cells false none (ints (Z1C n M))):=by rw [← hR4,Z07,if_pos rfl]
 have lo':ld1 R4 (.pointer (some ⟨ob,0,none⟩)) = some vo:=by rw [← hR4,ld1_newB_ne _ _ _ _ _ (by omega)]; exact lo
 obtain ⟨d0,hd0⟩:∃ d,L0.getD (7 * (t:Int) + i).toNat 0 = d:=⟨_,rfl⟩
 obtain ⟨d1,hd1⟩:∃ d,L1.getD (7 * (t:Int) + 4 + T1).toNat 0 = d:=⟨_,rfl⟩
 obtain ⟨d2,hd2⟩:∃ d,L2.getD (7 * U + Z).toNat 0 = d:=⟨_,rfl⟩
 obtain ⟨d3,hd3⟩:∃ d,L3.getD (7 * U + 4 + T2).toNat 0 = d:=⟨_,rfl⟩
 rw [hd0] at ld0 st0 b0'
 rw [hd1] at ld1' st1' b1'
 rw [hd2] at ld2 st2 b2'
 rw [hd3] at ld3 st3 b3'
 have hbl:Z48 [(.slice none 0 0)] [(0,1,(.slice (some ⟨rb,0,none⟩) (7 * n) (7 * n)))] = some [.slice (some ⟨rb,0,none⟩) (7 * n) (7 * n)]:=rfl
 obtain ⟨h',p1,p2,p3⟩:=((o3.keep (h':=R4) (by rw [fR _ (by omega),r0 _ (by omega) hlvo])).mono (c':=c + 1 + 1 + 1 + 1 + 1 + 1) (by omega)).app (c':=c + 1 + 1 + 1 + 1 + 1 + 1 + 1) (.slice (some ⟨rb,0,none⟩) (7 * n) (7 * n)) rfl 24 (256 * (c + 1 + 1 + 1 + 1 + 1 + 1) + 2) (256 * (c + 1 + 1 + 1 + 1 + 1 + 1) + 3) (by omega) (by omega) (by omega) (by omega) (by omega) (by omega)
 have ho':h'.f ob = some (.cells false none [vo]):=by rw [p3 ob (by omega) (Ne.symm o4),fR ob (by omega),r0 ob (by omega) (Ne.symm h3),o2]
 obtain ⟨id,hid⟩:∃ id,id = 256 * (c + 1 + 1 + 1 + 1 + 1 + 1) + 3:=⟨_,rfl⟩
 rw [← hid] at p1 p2
 have w1:=Z3U (v:=.slice (some ⟨id,0,none⟩) (D.length + 1) (D.length + 1)) (o:=0) (show HeapC.get h' ob = _ from ho') (by simp) rfl rfl
 have hl':h'.f l = some (.loop { st with state:=.busy }):=by rw [p3 l (by omega) (Ne.symm hlvo),fR l (by omega),rl]
 have sT:Z0A (HeapC.set h' ob (.cells false none [.slice (some ⟨id,0,none⟩) (D.length + 1) (D.length + 1)])) l .ready none = some (HeapC.set (HeapC.set h' ob (.cells false none [.slice (some ⟨id,0,none⟩) (D.length + 1) (D.length + 1)])) l (.loop st)):=by
  rw [Z6T (st:={ st with state:=.busy }) (by rw [get_set_ne _ _ _ _ h3]; exact hl')]
  congr 3
  rw [← hst,← hst2]
 unfold Z6q
 rw [← hrb]
 repeat' (first | ((with_reducible first | refine Ans.bz ?_ | refine Ans.r1 ?_ | refine Ans.pkT ?_ | refine Ans.pkF ?_); try dsimp only [v_zero,v_succ]) | (with_reducible first | refine Ans.btL ?_ | refine Ans.bfL ?_ | refine Ans.gyT ?_ | refine Ans.gyF ?_ | refine Ans.gyG ?_ | refine Ans.bb ?_ | refine Ans.bc ?_ | refine Ans.ba ?_) | ((with_reducible first | refine Ans.lsT ?_ ?_ | refine Ans.leT ?_ ?_ | refine Ans.grT ?_ ?_ | refine Ans.geT ?_ ?_ | refine Ans.eqT ?_ ?_ | refine Ans.neT ?_ ?_); (focus omega)) | ((with_reducible first | refine Ans.lsF ?_ ?_ | refine Ans.leF ?_ ?_ | refine Ans.grF ?_ ?_ | refine Ans.geF ?_ ?_ | refine Ans.eqF ?_ ?_ | refine Ans.neF ?_ ?_); (focus omega)) | (with_reducible first | refine Ans.lsS (fun _=>?_) (fun _=>?_) | refine Ans.leS (fun _=>?_) (fun _=>?_) | refine Ans.grS (fun _=>?_) (fun _=>?_) | refine Ans.geS (fun _=>?_) (fun _=>?_) | refine Ans.eqS (fun _=>?_) (fun _=>?_) | refine Ans.neS (fun _=>?_) (fun _=>?_)) | ((with_reducible first | refine Ans.addN ?_ ?_ | refine Ans.add ?_ ?_ | refine Ans.sub ?_ ?_ | refine Ans.mul ?_ ?_); (focus omega)) | ((with_reducible first | refine Ans.ct ?_ ?_); (focus (simp (disch:=(first | omega | with_reducible assumption | (simp <;> omega) | fail)) [hst6,hb,lg,lo,ll,mk,a0,a1,a2,a3,a4,a5,ld0,st0,ld1',st1',ld2,st2,ld3,st3,Z2A,x1,x2,x3,x4,lo',hbl,← hid,p1,w1,sT,-ld1_newB_same]; done))) | ((with_reducible first | refine Ans.cf ?_ ?_); (focus (simp (disch:=(first | omega | with_reducible assumption | (simp <;> omega) | fail)) [hst6,hb,lg,lo,ll,mk,a0,a1,a2,a3,a4,a5,ld0,st0,ld1',st1',ld2,st2,ld3,st3,Z2A,x1,x2,x3,x4,lo',hbl,← hid,p1,w1,sT,-ld1_newB_same]; done))) | (refine Ans.step (by simp (disch:=(first | omega | with_reducible assumption | (simp <;> omega) | fail)) [hst6,hb,lg,lo,ll,mk,a0,a1,a2,a3,a4,a5,ld0,st0,ld1',st1',ld2,st2,ld3,st3,Z2A,x1,x2,x3,x4,lo',hbl,← hid,p1,w1,sT,-ld1_newB_same,-List.getD_eq_getElem?_getD] <;> rfl) ?_; try dsimp only [v_zero,v_succ]) | fail)
 have fin:∀ b,b < 256 * c -> ¬ O b -> b ≠ l -> (HeapC.set (HeapC.set h' ob (.cells false none [.slice (some ⟨id,0,none⟩) (D.length + 1) (D.length + 1)])) l (.loop st):FH).f b = h.f b:=fun b g1 g2 g3=>by
  rw [o1] at g2
  simp only [not_or] at g2
  rw [Z0E,if_neg g3,Z0E,if_neg g2.1,p3 b (by omega) g2.2,fR b (by omega),r0 b g1 g3]
 have hgO:¬ O gb:=by
  rw [o1]
  rintro (e | e)
  · exact hgo e
  · omega
 refine .done ⟨(by show c <= c + 1 + 1 + 1 + 1 + 1 + 1 + 1; omega),(fun b=>b = ob ∨ b = id),fun b hb=>?_,fin,rfl, ?_, ?_⟩
 · rcases hb with rfl | rfl
   · rw [o1]; exact .inl (.inl rfl)
   · exact .inr (by omega)
 · show (HeapC.set _ _ _:FH).f l = _
   rw [Z0E,if_pos rfl]
 · have ob':(HeapC.set (HeapC.set h' ob (.cells false none [.slice (some ⟨id,0,none⟩) (D.length + 1) (D.length + 1)])) l (.loop st):FH).f ob = some (.cells false none [.slice (some ⟨id,0,none⟩) (D.length + 1) (D.length + 1)]):=by rw [Z0E,if_neg (Ne.symm h3),Z0E,if_pos rfl]
   refine ⟨by show cb <= c + 1 + 1 + 1 + 1 + 1 + 1 + 1; omega,hI.g.eqf (fin gb (by omega) hgO (Ne.symm h1)),hI.gg.eqf (fin g2 (by omega) hg2O (Ne.symm h2)),hI.sl.keep (fun _=>fin _ (by omega) (by rw [o1]; rintro (e | e); exact ls2 e; omega) ls1),by rintro (e | e); exact hg2o e; omega,.slice (some ⟨id,0,none⟩) (D.length + 1) (D.length + 1),vals ++ [.slice (some ⟨rb,0,none⟩) (7 * n) (7 * n)],rfl,ob', ?_,by rw [blkOf_sl]; omega,by rw [blkOf_sl]; omega, ?_⟩
   · have e:(D ++ [M]).length = D.length + 1:=by simp
     rw [e]
     exact p2.keep (by rw [blkOf_sl,Z0E,if_neg (by omega),Z0E,if_neg (by omega)])
   · intro k m hk
     have hvl:vals.length = D.length:=o3.1
     rcases Nat.lt_or_ge k D.length with hkl | hkl
     · rw [List.getElem?_append_left hkl] at hk
       obtain ⟨x,x1,⟨b,rfl,y1,y2,y3,y4,y5⟩,x3,x4,hbl'⟩:=o5 k m hk
       rw [blkOf_sl] at x3 x4 hbl'
       refine ⟨_,by rw [List.getElem?_append_left (by omega)]; exact x1,⟨b,rfl,y1,by show b < 256 * (c + 1 + 1 + 1 + 1 + 1 + 1 + 1); omega, ?_,y4,y5⟩,by rw [blkOf_sl]; exact x3,by rw [blkOf_sl,blkOf_sl]; omega,by rw [blkOf_sl]; exact hbl'⟩
       rw [← y3]
       exact fin b (by omega) (by rw [o1]; rintro (e | e); exact x3 e; exact x4 e) hbl'
     · have hk0:k = D.length:=by
        have:=(List.getElem?_eq_some_iff.1 hk).1
        simp at this; omega
       subst hk0
       rw [List.getElem?_append_right (Nat.le_refl _),Nat.sub_self] at hk
       cases hk
       refine ⟨_,by rw [List.getElem?_append_right (by omega),hvl,Nat.sub_self]; rfl,⟨rb,rfl,by omega,by show rb < 256 * (c + 1 + 1 + 1 + 1 + 1 + 1 + 1); omega, ?_,n4,by omega⟩,by rw [blkOf_sl]; omega,by rw [blkOf_sl,blkOf_sl]; omega,by rw [blkOf_sl]; omega⟩
       show (HeapC.set _ _ _:FH).f rb = _
       rw [Z0E,if_neg (by omega),Z0E,if_neg (by omega),p3 rb (by omega) (by omega),fRb]
end Go.Proofs.Ytcnndelmnobigaa

namespace Go.Proofs.Ytcnndelmnobigaa
open Go Go.Ab Go.Proofs
theorem Zl1 (s:Value) (n:Nat) (Gl:List Int) (gb g2 ob l c0 cb:Nat) (hok:Z0t Gl n = true) (hn:n <= 60)
 (hgb:gb < 256 * c0) (hg2:g2 < 256 * cb) (hob:ob < 256 * cb) (hl:l < 256 * cb) (hc0:c0 <= cb) (h1:l ≠ gb) (h2:l ≠ g2) (h3:l ≠ ob) (hgo:gb ≠ ob) (hg2o:g2 ≠ ob) (hls:0 < n -> Z0p s ≠ l /\ Z0p s ≠ ob) :
 RoundI s n Gl g2 l cb (Z64 83 [1,5] #[16] Z2t Z2s [ptrTo gb,ptrTo ob] (l + 1)) none [ptrTo gb,ptrTo ob] (EqI s n Gl gb g2 ob l c0 cb) (fun _ _ _=>False) where
 stab:=fun D O h c h' c' hi hc hs=>by
  have:=hi.lc
  obtain ⟨vo,vals,o1,o2,o3,o4,o5,o6⟩:=hi.out
  have bvo:=o3.blk
  refine ⟨by omega,hi.g.eqf (hs _ (by omega) (Ne.symm h1)),hi.gg.eqf (hs _ (by omega) (Ne.symm h2)),hi.sl.keep (fun hp=>hs _ (by have:=hi.sl.blk hp; omega) (hls hp).1),hi.ng,vo,vals,o1,(hs _ (by omega) (Ne.symm h3)).trans o2,(o3.keep (hs _ bvo.2 o5)).mono hc,o4,o5,fun k m hk=>?_⟩
  obtain ⟨x,x1,⟨b,rfl,y1,y2,y3,y4,y5⟩,x3,x4,x5⟩:=o6 k m hk
  exact ⟨_,x1,⟨b,rfl,y1,by omega,(hs b y2 x5).trans y3,y4,y5⟩,x3,x4,x5⟩
 jstab:=fun O h c h' c' hj hc hs=>hj
 own:=fun D O h c hi b hb=>by
  have:=hi.lc
  obtain ⟨vo,vals,o1,o2,o3,o4,o5,o6⟩:=hi.out
  rw [o1] at hb
  rcases hb with rfl | rfl
  · omega
  · exact o3.blk.2
 ownJ:=fun O h c hj b hb=>hj.elim
 read:=fun D O h c hi=>⟨hi.gg,hi.sl.mono (by have:=hi.lc; omega)⟩
 step:=fun D O h c t f i ht hf hi hif hsk hpre hc hI hlp=>by
  obtain ⟨R,hR⟩:=hpre
  have hD:D.length < 100000:=by
   have h1:=congrArg List.length hR
   have h2:=Z75 Gl n
   simp at h1; omega
  obtain ⟨r,hr,q1,O',q2,q3,q4⟩:=ZoI s n Gl gb g2 ob c0 cb l _ rfl rfl hok hn hgb hg2 hob hl hc0 h1 h2 h3 hgo hg2o hls ht hf hi hif hsk hI hD hlp
  exact ⟨r,ZiJ hr,q1,O',q2,q3,.inl q4⟩
def EqV (c0:Nat) (h:FH) (c n:Nat) (Gl:List Int) (v:Value):Prop :=
 ∃ vals,Z6Q c0 h c v (Z1s Gl n).length vals /\ ∀ (k:Nat) (m:List Int),(Z1s Gl n)[k]? = some m -> ∃ x,vals[k]? = some x /\ RowV c0 h c x (7 * n) (Z1C n m)
set_option maxHeartbeats 1000000 in
theorem ZdU (s:Value) (n:Nat) (Gl:List Int) (h:FH) (c:Nat) (df:List Nat) (hs:SlI h c s 20 n Gl) :
 Ans (G (.fn 27) [.agg #[s]] h c df) fun r=>r.e = .ret /\ r.df = [] /\ c <= r.c /\ Z0u c h r.h ∧
  ((Z4a Gl n ≠ 0 /\ r.vs = [.tuple #[.slice none 0 0,.int .i64 (Z4a Gl n)]]) ∨ (Z4a Gl n = 0 /\ ∃ v,r.vs = [.tuple #[v,.int .i64 0]] /\ EqV c r.h r.c n Gl v)):=by
 refine Ans.call' (fun r e=>f27_go e) ?_
 unfold ZqX
 rw [Z4c hs.flat,Z43,Nat.add_zero]
 simp only [cond_true]
 obtain ⟨H,hH⟩:∃ H,H = newB h (256 * c) [s]:=⟨_,rfl⟩
 have sH:Z0u c h H:=by rw [hH]; simp (disch:=omega)
 have hg:Z0a H (256 * c) [s]:=by rw [hH]; exact Z0a.newB_same _ _ _
 rw [← hH]
 clear hH
 have l1:=Z0C hg
 have c1:=Z04 (Z7V s n Gl H (c + 1 + 1) [] ((hs.same sH).mono (by omega)))
 obtain ⟨E,hE⟩:∃ E,Z4a Gl n = E:=⟨_,rfl⟩
 have hE0:E = 0 -> n <= 60 /\ Z0t Gl n = true:=fun e=>Z1F (hE.trans e)
 rw [hE] at c1 ⊢
 by_cases h0:E = 0
 case neg =>
  have fx:=ai l1 c1
  refine Ans.go ?_
  clear fx
  exact .done ⟨rfl,rfl,(by show c <= c + 1 + 1 + 1 + 1; omega),sH,.inl ⟨h0,rfl⟩⟩
 obtain ⟨hn,hok⟩:=hE0 h0
 have hb0:Z48 [] [] = some []:=rfl
 obtain ⟨N,hN⟩:∃ N,N = newB (newB H (256 * (c + 1 + 1 + 1)) []) (256 * (c + 1 + 1 + 1) + 1) [.slice (some ⟨256 * (c + 1 + 1 + 1),0,none⟩) 0 0]:=⟨_,rfl⟩
 have hst:stN (newB (newB H (256 * (c + 1 + 1 + 1)) []) (256 * (c + 1 + 1 + 1) + 1) [.slice none 0 0]) 1 (.pointer (some ⟨256 * (c + 1 + 1 + 1) + 1,0,none⟩)) (.slice (some ⟨256 * (c + 1 + 1 + 1),0,none⟩) 0 0) = some N:=by
  rw [hN,st1_sl _ _ _ _ _ _ _ (by simp)]; rfl
 have fN:∀ b,b < 256 * (c + 1 + 1 + 1) -> N.f b = H.f b:=fun b hb=>by rw [hN,Z07,if_neg (by omega),Z07,if_neg (by omega)]
 have fN0:N.f (256 * (c + 1 + 1 + 1)) = some (.cells false none []):=by rw [hN,Z07,if_neg (by omega),Z07,if_pos rfl]
 have fN1:N.f (256 * (c + 1 + 1 + 1) + 1) = some (.cells false none [.slice (some ⟨256 * (c + 1 + 1 + 1),0,none⟩) 0 0]):=by rw [hN,Z07,if_pos rfl]
 clear hN
 have l2:=Z0C (hg.eqf (fN _ (by omega)))
 have cm:=Z5S s N (c + 1 + 1 + 1 + 1 + 1) hs.flat
 have fx:=ai l1 (ai c1 (ai hb0 (ai hst (ai l2 cm))))
 refine Ans.go ?_
 clear fx
 obtain ⟨M,hM⟩:∃ M,M = newB N (256 * (c + 1 + 1 + 1 + 1 + 1)) [s]:=⟨_,rfl⟩
 rw [← hM]
 have fM:∀ b,b < 256 * (c + 1 + 1 + 1 + 1 + 1) -> M.f b = N.f b:=fun b hb=>by rw [hM,Z07,if_neg (by omega)]
 have gM:M.f (256 * (c + 1 + 1 + 1 + 1 + 1)) = some (.cells false none [s]):=by rw [hM,Z07,if_pos rfl]
 clear hM
 have hI:=Zl1 s n Gl (256 * c) (256 * (c + 1 + 1 + 1 + 1 + 1)) (256 * (c + 1 + 1 + 1) + 1) (256 * (c + 1 + 1 + 1 + 1 + 1 + 1 + 1)) (c + 1) (c + 1 + 1 + 1 + 1 + 1 + 1 + 1 + 1) hok hn (by omega) (by omega) (by omega) (by omega) (by omega) (by omega) (by omega) (by omega) (by omega) (by omega)
  (fun hp=>⟨by have:=hs.blk hp; omega,by have:=hs.blk hp; omega⟩)
 have hEf:∀ b,b < 256 * (c + 1 + 1 + 1 + 1 + 1 + 1 + 1) -> (Z21 M (c + 1 + 1 + 1 + 1 + 1 + 1 + 1) 83 [1,5] #[16] Z2t Z2s [ptrTo (256 * c),ptrTo (256 * (c + 1 + 1 + 1) + 1)]).f b = M.f b:=fun b hb=>by
  rw [Z2U,if_neg (by omega),if_neg (by omega)]
 have hI0:EqI s n Gl (256 * c) (256 * (c + 1 + 1 + 1 + 1 + 1)) (256 * (c + 1 + 1 + 1) + 1) (256 * (c + 1 + 1 + 1 + 1 + 1 + 1 + 1)) (c + 1) (c + 1 + 1 + 1 + 1 + 1 + 1 + 1 + 1) [] (fun b=>b = 256 * (c + 1 + 1 + 1) + 1 ∨ b = 256 * (c + 1 + 1 + 1))
  (Z21 M (c + 1 + 1 + 1 + 1 + 1 + 1 + 1) 83 [1,5] #[16] Z2t Z2s [ptrTo (256 * c),ptrTo (256 * (c + 1 + 1 + 1) + 1)]) (c + 1 + 1 + 1 + 1 + 1 + 1 + 1 + 1):=by
  refine ⟨Nat.le_refl _,hg.eqf (by rw [hEf _ (by omega),fM _ (by omega),fN _ (by omega)]),⟨false,none, ?_⟩, ?_,by omega,.slice (some ⟨256 * (c + 1 + 1 + 1),0,none⟩) 0 0,[],rfl, ?_,⟨rfl,by simp,rfl,256 * (c + 1 + 1 + 1),none,rfl,by omega,by omega, ?_,.inl rfl⟩,by rw [blkOf_sl]; omega,by rw [blkOf_sl]; omega,fun k m hk=>by simp at hk⟩
  · show (Z21 _ _ _ _ _ _ _ _:FH).f _ = _
    rw [hEf _ (by omega),gM]
  · exact ((hs.same sH).mono (by omega:c <= c + 1)).keep (fun hp=>by have:=hs.blk hp; rw [hEf _ (by omega),fM _ (by omega),fN _ (by omega)])
  · rw [hEf _ (by omega),fM _ (by omega),fN1]
  · rw [hEf _ (by omega),fM _ (by omega),fN0]
 refine Ans.head (Z51 (by omega) (by omega) rfl hI (O:=fun b=>b = 256 * (c + 1 + 1 + 1) + 1 ∨ b = 256 * (c + 1 + 1 + 1)) (fun b hb=>by omega) hI0) ?_
 rintro ⟨qe,qh,qc,qd⟩ ⟨qr,O',e1,e2,e3,e4,e5,e6⟩
 simp only [Prod.mk.injEq] at e1
 obtain ⟨rfl,-,rfl⟩:=e1
 simp only at e2 e6
 rcases e6 with ⟨rfl,hi⟩ | ⟨-,hj⟩
 case inr=>exact hj.elim
 obtain ⟨vo,vals,o1,o2,o3,o4,o5,o6⟩:=hi.out
 have lv:ld1 (HeapC.del qr (256 * (c + 1 + 1 + 1 + 1 + 1 + 1 + 1))) (.pointer (some ⟨256 * (c + 1 + 1 + 1) + 1,0,none⟩)) = some vo:=by
  rw [Z01 (cs:=[vo]) ⟨false,none,by show (HeapC.del _ _:FH).f _ = _; rw [Z6F,if_neg (by omega)]; exact o2⟩]; rfl
 obtain ⟨h9,t1,t2⟩:=Z4k (df:=[256 * (c + 1 + 1 + 1 + 1 + 1 + 1 + 1) + 1]) (h:=HeapC.del qr (256 * (c + 1 + 1 + 1 + 1 + 1 + 1 + 1))) (by simp) (fun d hd=>by
  rw [List.mem_singleton.1 hd,Z6F,if_neg (by omega)]; exact e3)
 have k9:∀ b,b ≠ 256 * (c + 1 + 1 + 1 + 1 + 1 + 1 + 1) -> b ≠ 256 * (c + 1 + 1 + 1 + 1 + 1 + 1 + 1) + 1 -> h9.f b = qr.f b:=fun b h1 h2=>by
  rw [t2 b (by simpa using h2),Z6F,if_neg h1]
 have fx:=ai lv t1
 refine Ans.go ?_
 clear fx
 have bvo:=o3.blk
 refine .done ⟨rfl,rfl,(by show c <= qc + 1; omega),fun b hb=>?_,.inr ⟨h0,vo,rfl,vals, ?_,fun k m hk=>?_⟩⟩
 · show h9.f b = h.f b
   rw [k9 b (by omega) (by omega),e5 b (by omega) (by omega),fM b (by omega),fN b (by omega),sH b hb]
 · refine Z6Q.mono (c:=qc) (by show qc <= qc + 1; omega) (Z6Q.keep (h:=qr) ?_ (k9 _ o5 ?_))
   · obtain ⟨z1,z2,z3,i,op,z4,z5,z6⟩:=o3
     exact ⟨z1,z2,z3,i,op,z4,by omega,z6⟩
   · obtain ⟨z1,z2,z3,i,op,z4,z5,z6,z7,z8⟩:=o3
     rw [z4,blkOf_sl]
     rintro rfl
     rw [e3] at z7; cases z7
 · obtain ⟨x,x1,⟨b,rfl,y1,y2,y3,y4,y5⟩,x3,x4,x5⟩:=o6 k m hk
   rw [blkOf_sl] at x5
   refine ⟨_,x1,b,rfl,by omega,by show b < 256 * (qc + 1); omega, ?_,y4,y5⟩
   show h9.f b = _
   rw [k9 b x5 (by rintro rfl; rw [e3] at y3; cases y3),y3]
theorem Zl7 {A B:List Int} {i n:Nat} (hA:A.length = n) (hB:B.length = n) (hi:i < n):Zc7 (A.drop i) (B.drop i) = A.getD i 0 * B.getD i 0 + Zc7 (A.drop (i + 1)) (B.drop (i + 1)):=by
 rw [List.drop_eq_getElem_cons (by omega),List.drop_eq_getElem_cons (by omega:i < B.length),Zc7]
 simp [List.getD,List.getElem?_eq_getElem (by omega:i < A.length),List.getElem?_eq_getElem (by omega:i < B.length)]
theorem mul_bd {a b:Int} (h1:-4 <= a) (h2:a <= 4) (h3:0 <= b) (h4:b <= 1000000):-4000000 <= a * b /\ a * b <= 4000000:=by
 have h5:a * b <= 4 * b:=Int.mul_le_mul_of_nonneg_right h2 h3
 have h6:-4 * b <= a * b:=Int.mul_le_mul_of_nonneg_right h1 h3
 omega
theorem ZoT (s v:Value) (n:Nat) (A B:List Int) (h:FH) (c:Nat) (hn:n <= 1000000) (hs:SlI h c s 1 n A) (hv:SlI h c v 1 n B) (hA:∀ k,-4 <= A.getD k 0 /\ A.getD k 0 <= 4) (hB:∀ k:Nat,0 <= gi B k /\ gi B k <= 1000000) (df:List Nat) :
 ∀ (k i:Nat) (m:Int),i + k = n -> -(4000000 * (i:Int)) <= m -> m <= 4000000 * i →
 Ans (G (ZbN none) [s,v,.int .i64 m,.int .i64 i] h c df) fun r=>r = ⟨.exit 0,[s,v,.int .i64 (m + Zc7 (A.drop i) (B.drop i)),.int .i64 n],h,c,df⟩:=by
 intro k
 have o1:=hs.okV
 have o2:=hv.okV
 have l1:=hs.len
 induction k with
 | zero =>
  intro i m hi h1 h2
  obtain rfl:i = n:=by omega
  refine Ans.lpG rfl rfl (Z7w ..) ?_
  unfold Z8N
  have fx:=l1
  refine Ans.go ?_
  clear fx
  (have fx:=ai o1 o2; refine Ans.ex0 ?_; clear fx)
  rw [List.drop_of_length_le (by have:=hs.1; omega)]
  simp [Zc7]
 | succ k ih =>
  intro i m hi h1 h2
  have ha:=hs.rdi i (by omega) (by omega)
  have hb:=hv.rdi i (by omega) (by omega)
  simp only [Int.toNat_natCast] at ha hb
  have b1:=hA i
  have b2:=hB i
  have hd:=Zl7 (A:=A) (B:=B) (i:=i) (n:=n) (by have:=hs.1; omega) (by have:=hv.1; omega) (by omega)
  rw [Z3Z] at ha hb b2
  obtain ⟨X,hX⟩:∃ X,A.getD i 0 = X:=⟨_,rfl⟩
  obtain ⟨Y,hY⟩:∃ Y,B.getD i 0 = Y:=⟨_,rfl⟩
  rw [hX] at ha b1 hd
  rw [hY] at hb b2 hd
  have b3:=mul_bd b1.1 b1.2 b2.1 b2.2
  obtain ⟨Z,hZ⟩:∃ Z,X * Y = Z:=⟨_,rfl⟩
  have hm:=aBinOp_mul (P:=P) 3 X Y (by omega) (by omega)
  rw [hZ] at hm b3 hd
  refine Ans.lpG rfl rfl (Z7w ..) ?_
  unfold Z8N
  repeat' (first | ((with_reducible first | refine Ans.bz ?_ | refine Ans.r1 ?_ | refine Ans.pkT ?_ | refine Ans.pkF ?_); try dsimp only [v_zero,v_succ]) | (with_reducible first | refine Ans.btL ?_ | refine Ans.bfL ?_ | refine Ans.gyT ?_ | refine Ans.gyF ?_ | refine Ans.gyG ?_ | refine Ans.bb ?_ | refine Ans.bc ?_ | refine Ans.ba ?_) | ((with_reducible first | refine Ans.lsT ?_ ?_ | refine Ans.leT ?_ ?_ | refine Ans.grT ?_ ?_ | refine Ans.geT ?_ ?_ | refine Ans.eqT ?_ ?_ | refine Ans.neT ?_ ?_); (focus omega)) | ((with_reducible first | refine Ans.lsF ?_ ?_ | refine Ans.leF ?_ ?_ | refine Ans.grF ?_ ?_ | refine Ans.geF ?_ ?_ | refine Ans.eqF ?_ ?_ | refine Ans.neF ?_ ?_); (focus omega)) | (with_reducible first | refine Ans.lsS (fun _=>?_) (fun _=>?_) | refine Ans.leS (fun _=>?_) (fun _=>?_) | refine Ans.grS (fun _=>?_) (fun _=>?_) | refine Ans.geS (fun _=>?_) (fun _=>?_) | refine Ans.eqS (fun _=>?_) (fun _=>?_) | refine Ans.neS (fun _=>?_) (fun _=>?_)) | ((with_reducible first | refine Ans.addN ?_ ?_ | refine Ans.add ?_ ?_ | refine Ans.sub ?_ ?_ | refine Ans.mul ?_ ?_); (focus omega)) | ((with_reducible first | refine Ans.ct ?_ ?_); (focus (simp (disch:=(first | omega | with_reducible assumption | (simp <;> omega) | fail)) [l1,hs.ixs1,hv.ixs1,ha,hb,hm,-aBinOp_mul]; done))) | ((with_reducible first | refine Ans.cf ?_ ?_); (focus (simp (disch:=(first | omega | with_reducible assumption | (simp <;> omega) | fail)) [l1,hs.ixs1,hv.ixs1,ha,hb,hm,-aBinOp_mul]; done))) | (refine Ans.step (by simp (disch:=(first | omega | with_reducible assumption | (simp <;> omega) | fail)) [l1,hs.ixs1,hv.ixs1,ha,hb,hm,-aBinOp_mul,-List.getD_eq_getElem?_getD] <;> rfl) ?_; try dsimp only [v_zero,v_succ]) | fail)
  (have fx:=ai o1 o2; refine Ans.nx0 ?_; clear fx)
  rw [hZ]
  refine (ih (i + 1) (m + Z) (by omega) (by omega) (by omega)).mono ?_
  rintro r rfl
  rw [hd,Int.add_assoc]
theorem dot_sp (s v:Value) (n:Nat) (A B:List Int) (h:FH) (c:Nat) (df:List Nat) (hn:n <= 1000000) (hs:SlI h c s 1 n A) (hv:SlI h c v 1 n B) (hA:∀ k,-4 <= A.getD k 0 /\ A.getD k 0 <= 4) (hB:∀ k:Nat,0 <= gi B k /\ gi B k <= 1000000) :
 G (.fn 33) [s,v] h c df = some ⟨.ret,[.int .i64 (Zc7 A B)],h,c,[]⟩:=by
 refine Z0m (fun r e=>f33_go e) (by simp) ?_
 unfold ZqR
 have hr:=Ans.eq (ZoT s v n A B h (c + 1 + 1 + 1) hn (hs.mono (by omega)) (hv.mono (by omega)) hA hB [] n 0 0 (by omega) (by omega) (by omega))
 rw [List.drop_zero,List.drop_zero,Int.zero_add] at hr
 simp only [Int.ofNat_eq_natCast,Int.cast_ofNat_Int] at hr
 have fx:=hr
 refine Ans.go ?_
 clear fx
 (have fx:=True.intro; exact Ans.pu)
end Go.Proofs.Ytcnndelmnobigaa

namespace Go.Proofs.Ytcnndelmnobigaa
open Go Go.Ab Go.Proofs
theorem Zlb (s:Value) (n:Nat) (Gl:List Int) (gb g2 vc vs vu ec es eu c0 cb l:Nat) (hok:Z0t Gl n = true) (hn:n <= 60)
 (hgb:gb < 256 * c0) (hg2:g2 < 256 * cb) (hl:l < 256 * cb) (hc0:c0 <= cb) (hvc:vc < 256 * cb) (hvs:vs < 256 * cb) (hvu:vu < 256 * cb) (hec:ec < 256 * cb) (hes:es < 256 * cb) (heu:eu < 256 * cb)
 (hgl:gb ≠ l) (hn1:gb ≠ vu /\ gb ≠ eu /\ g2 ≠ vu /\ g2 ≠ eu /\ vc ≠ vu /\ vc ≠ eu /\ ec ≠ vu /\ ec ≠ eu /\ vs ≠ eu /\ es ≠ vu /\ vu ≠ eu) (hn2:l ≠ g2 /\ l ≠ vc /\ l ≠ vs /\ l ≠ vu /\ l ≠ ec /\ l ≠ es /\ l ≠ eu) (hls:0 < n -> Z0p s ≠ l /\ Z0p s ≠ vu /\ Z0p s ≠ eu) :
 RoundI s n Gl g2 l cb (Z64 92 [1,5,6] #[25] Z1d Z1c [ptrTo gb,ptrTo vc,ptrTo ec] (l + 1)) none [ptrTo gb,ptrTo vc,ptrTo ec] (ClI s n Gl gb g2 vc vs vu ec es eu c0 cb) (fun _ _ _=>False) where
 stab:=fun D O h c h' c' hi hc hs=>by
  have:=hi.lc
  obtain ⟨x1,x2,x3,x4,x5,x6,x7⟩:=hn2
  exact ⟨by omega,hi.g.eqf (hs _ (by omega) hgl),hi.gg.eqf (hs _ (by omega) (Ne.symm x1)),hi.sl.keep (fun hp=>hs _ (by have:=hi.sl.blk hp; omega) (hls hp).1),hi.pv.eqf (hs _ (by omega) (Ne.symm x2)),hi.pe.eqf (hs _ (by omega) (Ne.symm x5)),
   hi.uv.keep (hs _ (by omega) (Ne.symm x3)) (hs _ (by omega) (Ne.symm x4)),hi.ue.keep (hs _ (by omega) (Ne.symm x6)) (hs _ (by omega) (Ne.symm x7)),hi.own⟩
 jstab:=fun O h c h' c' hj hc hs=>hj
 own:=fun D O h c hi b hb=>by
  have:=hi.lc
  rw [hi.own] at hb
  rcases hb with rfl | rfl <;> omega
 ownJ:=fun O h c hj b hb=>hj.elim
 read:=fun D O h c hi=>⟨hi.gg,hi.sl.mono (by have:=hi.lc; omega)⟩
 step:=fun D O h c t f i ht hf hi hif hsk hpre hc hI hlp=>by
  obtain ⟨r,hr,q1,O',q2,q3,q4⟩:=ZoX s n Gl gb g2 vc vs vu ec es eu c0 cb l _ rfl rfl hok hn hgb hg2 hl hc0 hvc hvs hvu hec hes heu hgl hn1 hn2 hls ht hf hi hif hsk hI hlp
  exact ⟨r,ZiB hr,q1,O',q2,q3,.inl q4⟩
set_option maxHeartbeats 1000000 in
theorem Zc9 (s:Value) (n:Nat) (Gl:List Int) (h:FH) (c:Nat) (df:List Nat) (hs:SlI h c s 20 n Gl) (hok:Z0t Gl n = true) (hn:n <= 60) :
 Ans (G (.fn 44) [.agg #[s]] h c df) fun r=>r.e = .ret /\ r.df = [] /\ c <= r.c /\ Z0u c h r.h /\ ∃ vs vu es eu,r.vs = [.tuple #[ptrTo vs,ptrTo es]] /\ vs < 256 * r.c /\ vu < 256 * r.c /\ es < 256 * r.c /\ eu < 256 * r.c ∧
  Uf r.h vs vu (4 * n) (vCl n (Z1s Gl n)) /\ Uf r.h es eu (6 * n) (eCl Gl n (Z1s Gl n)):=by
 refine Ans.call' (fun r e=>f44_go e) ?_
 unfold ZkL
 rw [Z4c hs.flat,Z43,Nat.add_zero]
 simp only [cond_true]
 obtain ⟨H,hH⟩:∃ H,H = newB h (256 * c) [s]:=⟨_,rfl⟩
 have sH:Z0u c h H:=by rw [hH]; simp (disch:=omega)
 have hg:Z0a H (256 * c) [s]:=by rw [hH]; exact Z0a.newB_same _ _ _
 rw [← hH]
 clear hH
 have l1:ld1 H (.pointer (some ⟨256 * c,0,none⟩)) = some s:=by rw [Z01 hg]; rfl
 have ll:=hs.len
 obtain ⟨⟨re,rv,H1,rc,rd⟩,hr,r1,r2,r3⟩:=Za6 (4 * n) H (c + 1 + 1 + 1) [] (by omega)
 simp only at r1 r2 r3
 obtain ⟨rfl,rfl,-,rfl,rfl⟩:=Rt.mk.inj r1
 clear r1
 have cu1:=Z04 hr
 rw [show ((4 * n:Nat):Int) = 4 * (n:Int) by omega] at cu1
 obtain ⟨B0,hB0⟩:∃ B0,256 * (c + 1 + 1 + 1 + 1) + 1 = B0:=⟨_,rfl⟩
 rw [hB0] at cu1 r3
 obtain ⟨vs,hvs⟩:∃ vs,256 * (c + 1 + 1) + 4 = vs:=⟨_,rfl⟩
 obtain ⟨H2,hH2⟩:∃ H2,newB H1 vs [.slice (some ⟨B0,0,none⟩) (4 * n) (4 * n)] = H2:=⟨_,rfl⟩
 obtain ⟨⟨re,rv,H3,rc,rd⟩,hr',r1',r2',r3'⟩:=Za6 (6 * n) H2 (c + 1 + 1 + 1 + 1 + 1 + 1 + 1) [] (by omega)
 simp only at r1' r2' r3'
 obtain ⟨rfl,rfl,-,rfl,rfl⟩:=Rt.mk.inj r1'
 clear r1'
 have cu2:=Z04 hr'
 rw [show ((6 * n:Nat):Int) = 6 * (n:Int) by omega] at cu2
 obtain ⟨B1,hB1⟩:∃ B1,256 * (c + 1 + 1 + 1 + 1 + 1 + 1 + 1 + 1) + 1 = B1:=⟨_,rfl⟩
 rw [hB1] at cu2 r3'
 obtain ⟨es,hes⟩:∃ es,256 * (c + 1 + 1) + 9 = es:=⟨_,rfl⟩
 obtain ⟨vc,hvc⟩:∃ vc,256 * (c + 1 + 1) + 10 = vc:=⟨_,rfl⟩
 obtain ⟨ec,hec⟩:∃ ec,256 * (c + 1 + 1) + 11 = ec:=⟨_,rfl⟩
 have b1:Z4f [.slice none 0 0] [(0,1,.agg #[.slice (some ⟨B0,0,none⟩) (4 * n) (4 * n)])] = some (.agg #[.slice (some ⟨B0,0,none⟩) (4 * n) (4 * n)]):=rfl
 have b2:Z4f [.slice none 0 0] [(0,1,.agg #[.slice (some ⟨B1,0,none⟩) (6 * n) (6 * n)])] = some (.agg #[.slice (some ⟨B1,0,none⟩) (6 * n) (6 * n)]):=rfl
 obtain ⟨N,hN⟩:∃ N,N = newB (newB (newB H3 es [.slice (some ⟨B1,0,none⟩) (6 * n) (6 * n)]) vc [ptrTo vs]) ec [ptrTo es]:=⟨_,rfl⟩
 have st1:stN (newB (newB (newB H3 es [.slice (some ⟨B1,0,none⟩) (6 * n) (6 * n)]) vc [.pointer none]) ec [.pointer none]) 1 (.pointer (some ⟨vc,0,none⟩)) (.pointer (some ⟨vs,0,none⟩)) = some (newB (newB (newB H3 es [.slice (some ⟨B1,0,none⟩) (6 * n) (6 * n)]) vc [ptrTo vs]) ec [.pointer none]):=by
  rw [Z3U (cs:=[.pointer none]) (op:=none) (by rw [get_newB_ne _ _ _ _ (by omega),get_newB_same]) (by simp) rfl rfl]
  congr 1
  apply FH.ext; intro j
  simp only [Z0E,Z07]
  have hve:vc ≠ ec:=by omega
  have hev:ec ≠ vc:=by omega
  by_cases e1:j = vc <;> by_cases e2:j = ec <;> (first | (exfalso; omega) | skip) <;> simp [e1,e2,ptrTo,hve,hev]
 have st2:stN (newB (newB (newB H3 es [.slice (some ⟨B1,0,none⟩) (6 * n) (6 * n)]) vc [ptrTo vs]) ec [.pointer none]) 1 (.pointer (some ⟨ec,0,none⟩)) (.pointer (some ⟨es,0,none⟩)) = some N:=by
  rw [Z3U (cs:=[.pointer none]) (op:=none) (by rw [get_newB_same]) (by simp) rfl rfl,hN]
  congr 1
  apply FH.ext; intro j
  simp only [Z0E,Z07]
  have hve:vc ≠ ec:=by omega
  have hev:ec ≠ vc:=by omega
  by_cases e1:j = vc <;> by_cases e2:j = ec <;> (first | (exfalso; omega) | skip) <;> simp [e1,e2,ptrTo,hve,hev]
 have fN:∀ b,b ≠ es -> b ≠ vc -> b ≠ ec -> N.f b = H3.f b:=fun b h1 h2 h3=>by rw [hN,Z07,if_neg h3,Z07,if_neg h2,Z07,if_neg h1]
 have fNe:N.f es = some (.cells false none [.slice (some ⟨B1,0,none⟩) (6 * n) (6 * n)]):=by rw [hN,Z07,if_neg (by omega),Z07,if_neg (by omega),Z07,if_pos rfl]
 have fNvc:N.f vc = some (.cells false none [ptrTo vs]):=by rw [hN,Z07,if_neg (by omega),Z07,if_pos rfl]
 have fNec:N.f ec = some (.cells false none [ptrTo es]):=by rw [hN,Z07,if_pos rfl]
 clear hN
 have fH2:∀ b,b ≠ vs -> H2.f b = H1.f b:=fun b hb=>by rw [← hH2,Z07,if_neg hb]
 have fH2v:H2.f vs = some (.cells false none [.slice (some ⟨B0,0,none⟩) (4 * n) (4 * n)]):=by rw [← hH2,Z07,if_pos rfl]
 have low:∀ b,b < 256 * (c + 1) -> N.f b = H.f b:=fun b hb=>by rw [fN b (by omega) (by omega) (by omega),r2' b (by omega),fH2 b (by omega),r2 b (by omega)]
 have fNvs:N.f vs = some (.cells false none [.slice (some ⟨B0,0,none⟩) (4 * n) (4 * n)]):=by rw [fN vs (by omega) (by omega) (by omega),r2' vs (by omega),fH2v]
 have fNvu:N.f B0 = some (.cells false none (ints (Z0n (4 * n)))):=by rw [fN B0 (by omega) (by omega) (by omega),r2' B0 (by omega),fH2 B0 (by omega),r3]
 have fNeu:N.f B1 = some (.cells false none (ints (Z0n (6 * n)))):=by rw [fN B1 (by omega) (by omega) (by omega),r3']
 have lN:=Z0C (hg.eqf (low _ (by omega)))
 have cm:=Z5S s N (c + 1 + 1 + 1 + 1 + 1 + 1 + 1 + 1 + 1 + 1 + 1 + 1) hs.flat
 have fl1:((Value.agg #[.slice (some ⟨B0,0,none⟩) (4 * n) (4 * n)]).cells.toList.all Z0e) = true:=rfl
 have fl2:((Value.agg #[.slice (some ⟨B1,0,none⟩) (6 * n) (6 * n)]).cells.toList.all Z0e) = true:=rfl
 rw [hvs,hes,hvc,hec]
 have fx:=ai Z43 (ai l1 (ai ll (ai cu1 (ai b1 (ai fl1 (ai hH2 (ai cu2 (ai b2 fl2))))))))
 refine Ans.go ?_
 clear fx
 rw [show (Value.agg #[.slice (some ⟨B1,0,none⟩) (6 * n) (6 * n)]).cells.toList = [.slice (some ⟨B1,0,none⟩) (6 * n) (6 * n)] from rfl]
 refine Ans.step st1 (Ans.step st2 ?_)
 have fx:=ai lN cm
 refine Ans.go ?_
 clear fx
 obtain ⟨g2,hg2⟩:∃ g2,256 * (c + 1 + 1 + 1 + 1 + 1 + 1 + 1 + 1 + 1 + 1 + 1 + 1) = g2:=⟨_,rfl⟩
 obtain ⟨l,hl⟩:∃ l,256 * (c + 1 + 1 + 1 + 1 + 1 + 1 + 1 + 1 + 1 + 1 + 1 + 1 + 1 + 1) = l:=⟨_,rfl⟩
 rw [hg2]
 obtain ⟨M,hM⟩:∃ M,M = newB N g2 [s]:=⟨_,rfl⟩
 rw [← hM]
 have fM:∀ b,b ≠ g2 -> M.f b = N.f b:=fun b hb=>by rw [hM,Z07,if_neg hb]
 have gM:M.f g2 = some (.cells false none [s]):=by rw [hM,Z07,if_pos rfl]
 clear hM
 have hI:=Zlb s n Gl (256 * c) g2 vc vs B0 ec es B1 (c + 1) (c + 1 + 1 + 1 + 1 + 1 + 1 + 1 + 1 + 1 + 1 + 1 + 1 + 1 + 1 + 1) l hok hn (by omega) (by omega) (by omega) (by omega) (by omega) (by omega) (by omega) (by omega) (by omega) (by omega) (by omega) ⟨by omega,by omega,by omega,by omega,by omega,by omega,by omega,by omega,by omega,by omega,by omega⟩ ⟨by omega,by omega,by omega,by omega,by omega,by omega,by omega⟩
  (fun hp=>⟨by have:=hs.blk hp; omega,by have:=hs.blk hp; omega,by have:=hs.blk hp; omega⟩)
 have hEf:∀ b,b < l -> (Z21 M (c + 1 + 1 + 1 + 1 + 1 + 1 + 1 + 1 + 1 + 1 + 1 + 1 + 1 + 1) 92 [1,5,6] #[25] Z1d Z1c [ptrTo (256 * c),ptrTo vc,ptrTo ec]).f b = M.f b:=fun b hb=>by
  rw [Z2U,if_neg (by omega),if_neg (by omega)]
 have hI0:ClI s n Gl (256 * c) g2 vc vs B0 ec es B1 (c + 1) (c + 1 + 1 + 1 + 1 + 1 + 1 + 1 + 1 + 1 + 1 + 1 + 1 + 1 + 1 + 1) [] (fun b=>b = B0 ∨ b = B1) (Z21 M (c + 1 + 1 + 1 + 1 + 1 + 1 + 1 + 1 + 1 + 1 + 1 + 1 + 1 + 1) 92 [1,5,6] #[25] Z1d Z1c [ptrTo (256 * c),ptrTo vc,ptrTo ec]) (c + 1 + 1 + 1 + 1 + 1 + 1 + 1 + 1 + 1 + 1 + 1 + 1 + 1 + 1 + 1):=by
  refine ⟨Nat.le_refl _,hg.eqf (by rw [hEf _ (by omega),fM _ (by omega),low _ (by omega)]),⟨false,none, ?_⟩, ?_,⟨false,none, ?_⟩,⟨false,none, ?_⟩,⟨?_, ?_,by omega,Z0z _,by omega⟩,⟨?_, ?_,by omega,Z0z _,by omega⟩,rfl⟩
  · show (Z21 _ _ _ _ _ _ _ _:FH).f _ = _
    rw [hEf _ (by omega),gM]
  · exact ((hs.same sH).mono (by omega:c <= c + 1)).keep (fun hp=>by have:=hs.blk hp; rw [hEf _ (by omega),fM _ (by omega),low _ (by omega)])
  · show (Z21 _ _ _ _ _ _ _ _:FH).f _ = _
    rw [hEf _ (by omega),fM _ (by omega),fNvc]
  · show (Z21 _ _ _ _ _ _ _ _:FH).f _ = _
    rw [hEf _ (by omega),fM _ (by omega),fNec]
  · rw [hEf _ (by omega),fM _ (by omega),fNvs]
  · rw [hEf _ (by omega),fM _ (by omega),fNvu]; rfl
  · rw [hEf _ (by omega),fM _ (by omega),fNe]
  · rw [hEf _ (by omega),fM _ (by omega),fNeu]; rfl
 rw [← hl] at hI
 refine Ans.head (Z51 (by omega) (by omega) rfl hI (O:=fun b=>b = B0 ∨ b = B1) (fun b hb=>by omega) hI0) ?_
 rw [hl]
 rintro ⟨qe,qh,qc,qd⟩ ⟨qr,O',e1,e2,e3,e4,e5,e6⟩
 simp only [Prod.mk.injEq] at e1
 obtain ⟨rfl,-,rfl⟩:=e1
 simp only at e2 e6
 rcases e6 with ⟨rfl,hi⟩ | ⟨-,hj⟩
 case inr=>exact hj.elim
 have fd:∀ b,b ≠ l -> (HeapC.del qr l).f b = qr.f b:=fun b hb=>by rw [Z6F,if_neg hb]
 have lv:ld1 (HeapC.del qr l) (.pointer (some ⟨vc,0,none⟩)) = some (.pointer (some ⟨vs,0,none⟩)):=by rw [Z01 (hi.pv.eqf (fd vc (by omega)))]; rfl
 have le:ld1 (HeapC.del qr l) (.pointer (some ⟨ec,0,none⟩)) = some (.pointer (some ⟨es,0,none⟩)):=by rw [Z01 (hi.pe.eqf (fd ec (by omega)))]; rfl
 obtain ⟨h9,t1,t2⟩:=Z4k (df:=[l + 1]) (h:=HeapC.del qr l) (by simp) (fun d hd=>by
  rw [List.mem_singleton.1 hd,Z6F,if_neg (by omega)]; exact e3)
 have k9:∀ b,b ≠ l -> b ≠ l + 1 -> h9.f b = qr.f b:=fun b h1 h2=>by
  rw [t2 b (by simpa using h2),fd b h1]
 have fx:=ai lv (ai le t1)
 refine Ans.go ?_
 clear fx
 refine .done ⟨rfl,rfl,(by show c <= qc + 1; omega),fun b hb=>?_,vs,B0,es,B1,rfl, ?_, ?_, ?_, ?_, ?_, ?_⟩
 · show h9.f b = h.f b
   rw [k9 b (by omega) (by omega),e5 b (by omega) (by omega),fM b (by omega),low b (by omega),sH b hb]
 · show vs < 256 * (qc + 1); omega
 · show B0 < 256 * (qc + 1); omega
 · show es < 256 * (qc + 1); omega
 · show B1 < 256 * (qc + 1); omega
 · exact hi.uv.keep (k9 _ (by omega) (by omega)) (k9 _ (by omega) (by omega))
 · exact hi.ue.keep (k9 _ (by omega) (by omega)) (k9 _ (by omega) (by omega))
end Go.Proofs.Ytcnndelmnobigaa

namespace Go.Proofs.Ytcnndelmnobigaa
open Go Go.Ab Go.Proofs
def wK (V:List Int) (t:Int) (T:Int):Nat -> Nat -> Int -> Int
 | 0,_,a=>a
 | r + 1,k,a=>wK V t T r (k + 1) (if (k:Int) = T then a else a + gi V (7 * t + 4 + k))
def edA (e:Int):Int:=((edL.drop (e.toNat * 2)).take 2).getD 0 0
def edB (e:Int):Int:=((edL.drop (e.toNat * 2)).take 2).getD 1 0
theorem Zar {e:Int} (h1:0 <= e) (h2:e < 6):0 <= edA e /\ edA e < 4 /\ 0 <= edB e /\ edB e < 4 /\ edA e ≠ edB e:=by
 have:((List.range 6).all fun e=>decide (0 <= edA (e:Nat) /\ edA (e:Nat) < 4 /\ 0 <= edB (e:Nat) /\ edB (e:Nat) < 4 /\ edA (e:Nat) ≠ edB (e:Nat))) = true:=by decide
 rw [List.all_eq_true] at this
 have h5:=this e.toNat (by simp; omega)
 have e1:((e.toNat:Nat):Int) = e:=by omega
 rw [e1] at h5
 exact of_decide_eq_true h5
def Z1N (V:List Int) (t e:Int):Int:=wK V t (ty (edA e) (edB e)) 3 0 (gi V (7 * t + edA e) + gi V (7 * t + edB e))
theorem Zed (s:Value) (n:Nat) (V:List Int) (t:Nat) (A B:Int) (h:FH) (c:Nat) (df:List Nat) (hs:SlI h c s 1 n V) (htn:7 * t + 7 <= n) (hn:n <= 1000000) (hA:0 <= A /\ A < 4) (hB:0 <= B /\ B < 4) (hne:A ≠ B) (hV:∀ j,0 <= gi V j /\ gi V j <= 1000000) :
 ∀ (r k:Nat) (a:Int),k + r = 3 -> 0 <= a -> a <= (2 + (k:Int)) * 1000000 →
 Ans (G (Zbt none) [s,.int .i64 t,.int .i64 A,.int .i64 B,.int .i64 a,.int .i64 k] h c df) fun q=>q = ⟨.exit 0,[s,.int .i64 t,.int .i64 A,.int .i64 B,.int .i64 (wK V t (ty A B) r k a),.int .i64 3],h,c,df⟩:=by
 intro r
 have o1:=hs.okV
 have x1:=Z5U tyT 4 4 .i64 A hA.1 (by omega) rfl
 have hl4:((tyT.drop (A.toNat * 4)).take 4).length = 4:=by simp [tyT]; omega
 have x2:=Z6L ((tyT.drop (A.toNat * 4)).take 4) 4 .i64 B hB.1 (by omega) hl4
 rw [show ((tyT.drop (A.toNat * 4)).take 4).getD B.toNat 0 = ty A B from rfl] at x2
 obtain ⟨R,hR⟩:∃ R,(tyT.drop (A.toNat * 4)).take 4 = R:=⟨_,rfl⟩
 rw [hR] at x1 x2
 obtain ⟨T,hT⟩:∃ T,ty A B = T:=⟨_,rfl⟩
 rw [hT] at x2 ⊢
 induction r with
 | zero =>
  intro k a hk h1 h2
  obtain rfl:k = 3:=by omega
  refine Ans.lpG rfl rfl (Z5d ..) ?_
  unfold Z4A
  have fx:=True.intro
  refine Ans.go ?_
  clear fx
  (have fx:=o1; refine Ans.ex0 ?_; clear fx)
  rfl
 | succ r ih =>
  intro k a hk h1 h2
  have l1:=hs.rdi (7 * (t:Int) + 4 + k) (by omega) (by omega)
  have v1:=hV (7 * (t:Int) + 4 + k)
  rw [wK]
  obtain ⟨X,hX⟩:∃ X,gi V (7 * (t:Int) + 4 + k) = X:=⟨_,rfl⟩
  rw [hX] at l1 v1 ⊢
  have hk3:(k:Int) < 3:=by omega
  refine Ans.lpG rfl rfl (Z5d ..) ?_
  unfold Z4A
  by_cases e:(k:Int) = T
  · rw [if_pos e]
    have fx:=ai Z2A (ai x1 x2)
    refine Ans.go ?_
    clear fx
    (have fx:=o1; refine Ans.nx0 ?_; clear fx)
    exact ih (k + 1) a (by omega) h1 (by omega)
  · rw [if_neg e]
    have fx:=ai Z2A (ai x1 (ai x2 (ai hs.ixs1 l1)))
    refine Ans.go ?_
    clear fx
    (have fx:=o1; refine Ans.nx0 ?_; clear fx)
    exact ih (k + 1) _ (by omega) (by omega) (by omega)
theorem ZfM {V:List Int} {t T:Int} (hV:∀ j,0 <= gi V j /\ gi V j <= 1000000):∀ {r k:Nat} {a:Int},0 <= a -> 0 <= wK V t T r k a /\ wK V t T r k a <= a + r * 1000000
 | 0,k,a,h=>by rw [wK]; omega
 | r + 1,k,a,h=>by
  rw [wK]
  have:=hV (7 * t + 4 + k)
  have:=ZfM hV (t:=t) (T:=T) (r:=r) (k:=k + 1) (a:=if (k:Int) = T then a else a + gi V (7 * t + 4 + k)) (by split <;> omega)
  split at this <;> rename_i e
  · rw [if_pos e]; omega
  · rw [if_neg e]; omega
theorem Z77 {V:List Int} {t e:Int} (hV:∀ j,0 <= gi V j /\ gi V j <= 1000000):0 <= Z1N V t e /\ Z1N V t e <= 5000000:=by
 unfold Z1N
 have h1:=hV (7 * t + edA e)
 have h2:=hV (7 * t + edB e)
 have:=ZfM hV (t:=t) (T:=ty (edA e) (edB e)) (r:=3) (k:=0) (a:=gi V (7 * t + edA e) + gi V (7 * t + edB e)) (by omega)
 omega
theorem Zji (s:Value) (n:Nat) (V:List Int) (t:Nat) (e:Int) (h:FH) (c:Nat) (df:List Nat) (hs:SlI h c s 1 n V) (htn:7 * t + 7 <= n) (hn:n <= 1000000) (he:0 <= e) (he6:e < 6) (hV:∀ j,0 <= gi V j /\ gi V j <= 1000000) :
 G (.fn 74) [s,.int .i64 t,.int .i64 e] h c df = some ⟨.ret,[.int .i64 (Z1N V t e)],h,c,[]⟩:=by
 refine Z0m (fun r e=>f74_go e) (by simp) ?_
 unfold Zkv Z1N
 obtain ⟨g1,g2,g3,g4,g5⟩:=Zar he he6
 have x1:=Z5U edL 6 2 .i64 e he (by omega) rfl
 have hl2:((edL.drop (e.toNat * 2)).take 2).length = 2:=by simp [edL]; omega
 have x2:=Z6L ((edL.drop (e.toNat * 2)).take 2) 2 .i64 0 (by omega) (by omega) hl2
 have x3:=Z6L ((edL.drop (e.toNat * 2)).take 2) 2 .i64 1 (by omega) (by omega) hl2
 rw [show ((edL.drop (e.toNat * 2)).take 2).getD (Int.toNat 0) 0 = edA e from rfl] at x2
 rw [show ((edL.drop (e.toNat * 2)).take 2).getD (Int.toNat 1) 0 = edB e from rfl] at x3
 obtain ⟨R,hR⟩:∃ R,(edL.drop (e.toNat * 2)).take 2 = R:=⟨_,rfl⟩
 rw [hR] at x1 x2 x3
 obtain ⟨A,hA⟩:∃ A,edA e = A:=⟨_,rfl⟩
 obtain ⟨B,hB⟩:∃ B,edB e = B:=⟨_,rfl⟩
 rw [hA] at x2 g1 g2 g5 ⊢
 rw [hB] at x3 g3 g4 g5 ⊢
 have l1:=hs.rdi (7 * (t:Int) + A) (by omega) (by omega)
 have l2:=hs.rdi (7 * (t:Int) + B) (by omega) (by omega)
 have v1:=hV (7 * (t:Int) + A)
 have v2:=hV (7 * (t:Int) + B)
 obtain ⟨X,hX⟩:∃ X,gi V (7 * (t:Int) + A) = X:=⟨_,rfl⟩
 obtain ⟨Y,hY⟩:∃ Y,gi V (7 * (t:Int) + B) = Y:=⟨_,rfl⟩
 rw [hX] at l1 v1 ⊢
 rw [hY] at l2 v2 ⊢
 have hr:=fun c' (hc:c <= c')=>Ans.eq (Zed s n V t A B h c' [] (hs.mono hc) htn hn ⟨g1,g2⟩ ⟨g3,g4⟩ g5 hV 3 0 (X + Y) (by omega) (by omega) (by omega))
 simp only [Int.ofNat_eq_natCast,Int.cast_ofNat_Int] at hr
 have fx:=ai Zaw (ai x1 (ai x2 (ai x3 (ai hs.ixs1 (ai l1 (ai l2 hr))))))
 refine Ans.go ?_
 clear fx
 (have fx:=True.intro; exact Ans.pu)
end Go.Proofs.Ytcnndelmnobigaa

namespace Go.Proofs.Ytcnndelmnobigaa
open Go Go.Ab Go.Proofs
def wgt (V:List Int) (x:Int):Int:=Z1N V (x / 6) (x % 6)
theorem Zcl (V:List Int) (k:Nat):wgt V k = Z1N V (k / 6:Nat) (k % 6:Nat):=by
 unfold wgt
 congr 1
theorem Zdn (v:Value) (nv:Nat) (V:List Int) (n c0:Nat) (F:Value) (m:Nat) (L:List Int) (hn:n <= 60) (hnv:nv = 7 * n) (hV:∀ j,0 <= gi V j /\ gi V j <= 1000000) (hL:∀ x,x ∈ L -> ∃ k:Nat,x = k /\ k < 6 * n) (hm:m <= 1000) (df:List Nat) :
 ∀ (k i cc:Nat) (h:FH) (out:Value),i + k = m -> c0 <= cc -> SlI h c0 v 1 nv V -> SlI h cc F 1 m L -> (0 < m -> Z0p F ≠ Z0p out) -> Z6Q c0 h cc out i (ints ((L.take i).map (wgt V))) →
 Ans (G (ZbH none) [v,out,F,.int .i64 m,.int .i64 i] h cc df) fun r=>r.e = .exit 0 /\ cc <= r.c /\ r.df = df /\ Z0u c0 h r.h /\ Z6Q c0 r.h r.c (r.v 1) m (ints (L.map (wgt V))):=by
 intro k
 induction k with
 | zero =>
  intro i cc h out hi hc sv sf hne ha
  obtain rfl:i = m:=by omega
  have e:L.take i = L:=List.take_of_length_le (by have:=sf.1; omega)
  rw [e] at ha
  refine Ans.lpN rfl rfl (Z5m ..) ?_
  unfold Z4F
  have fx:=True.intro
  refine Ans.go ?_
  clear fx
  exact Ans.exitN ⟨rfl,(by show cc <= cc + 1; omega),rfl,fun _ _=>rfl,ha.mono (by show cc <= cc + 1; omega)⟩
 | succ k ih =>
  intro i cc h out hi hc sv sf hne ha
  have hl:=sf.1
  have l1:=sf.rdi i (by omega) (by omega)
  simp only [Int.toNat_natCast] at l1
  rw [Z3Z] at l1
  have hLi:L.getD i 0 = L[i]'(by omega):=by simp [List.getD_eq_getElem?_getD,List.getElem?_eq_getElem (by omega:i < L.length)]
  obtain ⟨x,hx,hx6⟩:=hL (L[i]'(by omega)) (List.getElem_mem _)
  have ht:(L.take (i + 1)).map (wgt V) = (L.take i).map (wgt V) ++ [Z1N V (x / 6:Nat) (x % 6:Nat)]:=by
   rw [List.take_succ_eq_append_getElem (by omega),List.map_append,hx,← Zcl]; rfl
  rw [hLi,hx] at l1
  have q1:Z00 P .quo 3 (.int .i64 (x:Int)) (.int .i64 6) = some (.int .i64 (x / 6:Nat)):=by
   rw [aBinOp_quo _ _ _ (by omega) (by rw [Int.tdiv_eq_ediv_of_nonneg (by omega)]; omega) (by rw [Int.tdiv_eq_ediv_of_nonneg (by omega)]; omega),Int.tdiv_eq_ediv_of_nonneg (by omega)]; rfl
  have q2:Z00 P .rem 3 (.int .i64 (x:Int)) (.int .i64 6) = some (.int .i64 (x % 6:Nat)):=by
   rw [aBinOp_rem _ _ _ (by omega),Int.tmod_eq_emod_of_nonneg (by omega)]; rfl
  have cw:=fun c' (hc':c0 <= c')=>Z04 (Zji v nv V (x / 6) (x % 6:Nat) h c' [] (sv.mono hc') (by omega) (by omega) (by omega) (by omega) hV)
  obtain ⟨T,hT⟩:∃ T,x / 6 = T:=⟨_,rfl⟩
  obtain ⟨E,hE⟩:∃ E,x % 6 = E:=⟨_,rfl⟩
  rw [hT] at q1 cw ht
  rw [hE] at q2 cw ht
  obtain ⟨W,hW⟩:∃ W,Z1N V (T:Int) E = W:=⟨_,rfl⟩
  rw [hW] at cw ht
  have hb:Z48 [.int .i64 0] [(0,1,.int .i64 W)] = some [.int .i64 W]:=rfl
  obtain ⟨h',p1,p2,p3⟩:=(ha.mono (c':=cc + 1 + 1) (by omega)).app (c':=cc + 1 + 1 + 1) (.int .i64 W) rfl 8 (256 * (cc + 1 + 1) + 7) (256 * (cc + 1 + 1) + 8) (by omega) (by omega) (by omega) (by omega) (by omega) (by omega)
  have bo:=ha.blk
  refine Ans.lpN rfl rfl (Z5m ..) ?_
  unfold Z4F
  have fx:=ai sf.ixs1 (ai l1 (ai q1 (ai q2 (ai cw (ai hb p1)))))
  refine Ans.go ?_
  clear fx
  refine Ans.nextN ?_
  have s0:Z0u c0 h h':=fun b hb=>p3 b (by omega) (by omega)
  refine (ih (i + 1) _ h' _ (by omega) (by omega) (sv.same s0) ?_ (fun hp=>?_) ?_).mono ?_
  · exact (sf.keep (fun hp=>p3 _ (by have:=sf.blk hp; omega) (hne hp))).mono (by omega)
  · rw [blkOf_sl]; have:=sf.blk hp; omega
  · rw [ht]
    rw [ints,List.map_append]
    exact p2.mono (by omega)
  · rintro r ⟨q1,q2,q3,q4,q5⟩
    exact ⟨q1,by omega,q3,s0.trans q4,q5⟩
def edF (Gl:List Int) (n:Nat):List Int:=Z0s (eCl Gl n (Z1s Gl n)) (6 * n)
theorem ZaX (s v:Value) (n nv:Nat) (Gl V:List Int) (h:FH) (c:Nat) (df:List Nat) (hs:SlI h c s 20 n Gl) (hv:SlI h c v 1 nv V) (hok:Z0t Gl n = true) (hn:n <= 60) (hnv:nv = 7 * n) (hV:∀ j,0 <= gi V j /\ gi V j <= 1000000) :
 Ans (G (.fn 49) [.agg #[s],v] h c df) fun r=>∃ w,r = ⟨.ret,[w],r.h,r.c,[]⟩ /\ c <= r.c /\ Z0u c h r.h /\ Z6Q c r.h r.c w (edF Gl n).length (ints ((edF Gl n).map (wgt V))):=by
 refine Ans.call' (fun r e=>f49_go e) ?_
 unfold ZkF
 rw [Z4c hs.flat,Z43,Nat.add_zero]
 simp only [cond_true]
 obtain ⟨H,hH⟩:∃ H,H = newB h (256 * c) [s]:=⟨_,rfl⟩
 have sH:Z0u c h H:=by rw [hH]; simp (disch:=omega)
 have hg:Z0a H (256 * c) [s]:=by rw [hH]; exact Z0a.newB_same _ _ _
 rw [← hH]
 clear hH
 have l1:=Z0C hg
 obtain ⟨⟨re,rv,H1,c1,rd⟩,hr,r1,r2,r3,r4,vs,vu,es,eu,rfl,b1,b2,b3,b4,u1,u2⟩:=Zc9 s n Gl H (c + 1 + 1) [] ((hs.same sH).mono (by omega)) hok hn
 simp only at r1 r2 r3 r4 b1 b2 b3 b4 u1 u2
 subst r1 r2
 have cc:=Z04 hr
 have hb0:Z48 [] [] = some []:=rfl
 obtain ⟨H2,hH2⟩:∃ H2,newB H1 (256 * c1) [] = H2:=⟨_,rfl⟩
 have s12:Z0u c1 H1 H2:=by rw [← hH2]; intro b hb; rw [Z07,if_neg (by omega)]
 have f2:H2.f (256 * c1) = some (.cells false none []):=by rw [← hH2,Z07,if_pos rfl]
 obtain ⟨⟨re,rv,H3,c3,rd⟩,hr',F,q1,q2,q3,q4⟩:=ZdO es eu (6 * n) _ H2 (c1 + 1 + 1) [] (u2.same s12 b3 b4) (by omega) (by omega)
 obtain ⟨rfl,rfl,-,-,rfl⟩:=Rt.mk.inj q1
 simp only at q2 q3 q4
 have cf:callF G 45 [.pointer (some ⟨es,0,none⟩)] H2 (c1 + 1 + 1) = some (F,H3,c3):=Z04 hr'
 have hFl:=Z1Q (eCl Gl n (Z1s Gl n)) (6 * n)
 have hmem:∀ x,x ∈ Z0s (eCl Gl n (Z1s Gl n)) (6 * n) -> ∃ k:Nat,x = k /\ k < 6 * n:=fun x hx=>by
  obtain ⟨k,h1,h2,_⟩:=Z6Z hx; exact ⟨k,h1,h2⟩
 have lf:=q4.sl.len
 unfold edF
 obtain ⟨L,hL⟩:∃ L,Z0s (eCl Gl n (Z1s Gl n)) (6 * n) = L:=⟨_,rfl⟩
 rw [hL] at q4 lf hFl hmem ⊢
 have sv:Z0u c h H3:=sH.trans (((r4.mono (by omega:c <= c + 1 + 1)).trans (s12.mono (by omega))).trans (q3.mono (by omega)))
 have hne:0 < L.length -> Z0p F ≠ Z0p (.slice (some ⟨256 * c1,0,none⟩) 0 0):=fun hp=>by
  obtain ⟨z1,z2,⟨rfl,z3⟩ | ⟨i,rfl,z3,z4,z5⟩⟩:=q4
  · omega
  · rw [blkOf_sl,blkOf_sl]; omega
 have f3:H3.f (256 * c1) = some (.cells false none []):=by rw [q3 _ (by omega),f2]
 obtain ⟨⟨re,rv,H4,c4,rd⟩,hr2,g1,g2,g3,g4,g5⟩:=Zdn v nv V n c1 F L.length L hn hnv hV hmem (by omega) [] L.length 0 c3 H3 (.slice (some ⟨256 * c1,0,none⟩) 0 0) (by omega) (by omega) ((hv.same sv).mono (by omega)) q4.sl hne ⟨rfl,by omega,rfl,256 * c1,none,rfl,by omega,by omega,f3,.inl rfl⟩
 simp only [Int.ofNat_eq_natCast,Int.cast_ofNat_Int] at hr2
 simp only at g1 g2 g3 g4 g5
 subst g1 g3
 have fx:=ai l1 (ai cc (ai hb0 (ai hH2 (ai cf (ai lf hr2)))))
 refine Ans.go ?_
 clear fx
 have g6:Z6Q c H4 (c4 + 1) (Rt.v ⟨Ex.exit 0,rv,H4,c4,[]⟩ 1) L.length (ints (L.map (wgt V))):=by
  obtain ⟨z1,z2,z3,i,op,z4,z5,z6,z7,z8⟩:=g5
  exact ⟨z1,z2,z3,i,op,z4,by omega,by omega,z7,z8⟩
 exact .done ⟨_,rfl,(by show c <= c4 + 1; omega),sv.trans (g4.mono (by omega)),g6⟩
end Go.Proofs.Ytcnndelmnobigaa

namespace Go.Proofs.Ytcnndelmnobigaa
open Go Go.Ab Go.Proofs
theorem Zck {V:List Int} (h:Z0P V = true) (j:Int):0 <= gi V j /\ gi V j <= 1000000:=by
 have:=Z4h h j.toNat
 unfold gi at this ⊢
 rwa [Int.toNat_natCast] at this
def Z5E:List Int -> Int
 | []=>0
 | x :: l=>x + Z5E l
theorem Z4l {B:Int} (hB:0 <= B):∀ {L:List Int},(∀ x,x ∈ L -> 0 <= x /\ x <= B) -> 0 <= Z5E L /\ Z5E L <= L.length * B
 | [],_=>by simp [Z5E]
 | x :: l,h=>by
  have h1:=h x (by simp)
  have h2:=Z4l hB (L:=l) fun y hy=>h y (by simp [hy])
  rw [Z5E,List.length_cons]
  have:((l.length + 1:Nat):Int) * B = l.length * B + B:=by rw [Int.natCast_add,Int.add_mul]; simp
  omega
theorem Z9O:∀ (A B:List Int),Z5E (A ++ B) = Z5E A + Z5E B
 | [],B=>by simp [Z5E]
 | x :: A,B=>by rw [List.cons_append,Z5E,Z5E,Z9O A B]; omega
theorem ZhT (s:Value) (m:Nat) (L:List Int) (h:FH) (c:Nat) (hs:SlI h c s 1 m L) (hm:m <= 1000000) (hL:∀ x,x ∈ L -> 0 <= x /\ x <= 5000000) (df:List Nat):∀ (k i:Nat),i + k = m →
 Ans (G (ZbI none) [.int .i64 (Z5E (L.take i)),s,.int .i64 m,.int .i64 i] h c df) fun r=>r = ⟨.exit 0,[.int .i64 (Z5E L),s,.int .i64 m,.int .i64 m],h,c,df⟩:=by
 intro k
 have o1:=hs.okV
 have hl:=hs.1
 induction k with
 | zero =>
  intro i hi
  obtain rfl:i = m:=by omega
  rw [List.take_of_length_le (by omega)]
  refine Ans.lpG rfl rfl (Z5n ..) ?_
  unfold Z4G
  have fx:=True.intro
  refine Ans.go ?_
  clear fx
  (have fx:=o1; refine Ans.ex0 ?_; clear fx)
  rfl
 | succ k ih =>
  intro i hi
  have l1:=hs.rdi i (by omega) (by omega)
  simp only [Int.toNat_natCast] at l1
  rw [Z3Z] at l1
  have hLi:L.getD i 0 = L[i]'(by omega):=by simp [List.getD_eq_getElem?_getD,List.getElem?_eq_getElem (by omega:i < L.length)]
  have e1:Z5E (L.take (i + 1)) = Z5E (L.take i) + L.getD i 0:=by
   rw [List.take_succ_eq_append_getElem (by omega),Z9O,hLi]
   simp [Z5E]
  have b1:=Z4l (B:=5000000) (by omega) (L:=L.take i) fun x hx=>hL x (List.mem_of_mem_take hx)
  have b2:=hL (L[i]'(by omega)) (List.getElem_mem _)
  rw [← hLi] at b2
  have hlt:(L.take i).length = i:=by rw [List.length_take]; omega
  rw [hlt] at b1
  obtain ⟨X,hX⟩:∃ X,L.getD i 0 = X:=⟨_,rfl⟩
  obtain ⟨Y,hY⟩:∃ Y,Z5E (L.take i) = Y:=⟨_,rfl⟩
  rw [hX] at l1 e1 b2
  rw [hY] at e1 b1 ⊢
  refine Ans.lpG rfl rfl (Z5n ..) ?_
  unfold Z4G
  have fx:=ai hs.ixs1 l1
  refine Ans.go ?_
  clear fx
  (have fx:=o1; refine Ans.nx0 ?_; clear fx)
  rw [← e1]
  exact ih (i + 1) (by omega)
theorem ZfP (s:Value) (m:Nat) (L:List Int) (h:FH) (c:Nat) (df:List Nat) (hs:SlI h c s 1 m L) (hm:m <= 1000000) (hL:∀ x,x ∈ L -> 0 <= x /\ x <= 5000000) :
 G (.fn 48) [s] h c df = some ⟨.ret,[.int .i64 (Z5E L)],h,c,[]⟩:=by
 refine Z0m (fun r e=>f48_go e) (by simp) ?_
 unfold ZkG
 have hl:=hs.len
 have hr:=Ans.eq (ZhT s m L h (c + 1 + 1 + 1) (hs.mono (by omega)) hm hL [] m 0 (by omega))
 rw [List.take_zero] at hr
 simp only [Int.ofNat_eq_natCast,Int.cast_ofNat_Int,Z5E] at hr
 have fx:=ai hl hr
 refine Ans.go ?_
 clear fx
 (have fx:=True.intro; exact Ans.pu)
theorem Zlm {h:FH} {c:Nat} {v:Value} {sz n:Nat} {V:List Int} (hv:SlI h c v sz n V):Z48 [(.slice none 0 0)] [(0,1,v)] = some [v]:=by
 obtain ⟨_,_,a,cap,rfl,_⟩:=hv
 rfl
theorem Zec (s v:Value) (n nv:Nat) (Gl V:List Int) (h:FH) (c:Nat) (df:List Nat) (hs:SlI h c s 20 n Gl) (hv:SlI h c v 1 nv V) (hx:SlX h v 1 nv) (hnv:nv <= 1000000) :
 Ans (G (.fn 16) [.agg #[s],v] h c df) fun r=>r.e = .ret /\ r.df = [] /\ c <= r.c /\ Z0u c h r.h ∧
  ((Z7O Gl n (Z2Y Gl n V) ≠ 0 /\ r.vs = [.tuple #[.slice none 0 0,.int .i64 (Z7O Gl n (Z2Y Gl n V))]]) ∨
   (Z7O Gl n (Z2Y Gl n V) = 0 /\ ∃ w,r.vs = [.tuple #[w,.int .i64 0]] /\ Z6Q c r.h r.c w (edF Gl n).length (ints ((edF Gl n).map (wgt V))))):=by
 refine Ans.call' (fun r e=>f16_go e) ?_
 unfold ZkR
 rw [Z4c hs.flat,Z43,Nat.add_zero]
 simp only [cond_true]
 have hbl:=Zlm hv
 obtain ⟨H,hH⟩:∃ H,H = newB (newB h (256 * c) [s]) (256 * (c + 1) + 2) [v]:=⟨_,rfl⟩
 have sH:Z0u c h H:=by rw [hH]; simp (disch:=omega)
 have hg:Z0a H (256 * c) [s]:=by rw [hH]; exact (Z0a.newB_same _ _ _).newB_ne (by omega)
 have hq:Z0a H (256 * (c + 1) + 2) [v]:=by rw [hH]; exact Z0a.newB_same _ _ _
 have l0:ldN (newB h (256 * c) [s]) 1 (.pointer (some ⟨256 * c,0,none⟩)) = some (.agg #[s]):=Z0C (Z0a.newB_same _ _ _)
 have l1:=Z0C hg
 have c1:=Zlh s v n nv Gl V (256 * (c + 1) + 2) H (c + 1 + 1) ((hs.same sH).mono (by omega)) ((hv.same sH).mono (by omega)) (SlX.keep hv sH hx) hnv (by omega) hq
 have hH':=hH.symm
 obtain ⟨E,hE⟩:∃ E,Z7O Gl n (Z2Y Gl n V) = E:=⟨_,rfl⟩
 by_cases h0:E = 0
 case neg =>
  rw [hE] at c1 ⊢
  have fx:=ai l0 (ai hbl (ai hH' c1))
  refine Ans.go ?_
  clear fx
  exact .done ⟨rfl,rfl,(by show c <= c + 1 + 1 + 1 + 1; omega),sH,.inl ⟨h0,rfl⟩⟩
 have hr0:Z4a Gl n = 0 /\ Z2Y Gl n V = true:=by
  rw [h0] at hE
  unfold Z7O at hE
  split at hE
  · rename_i h1
    split at hE
    · rename_i h2; exact ⟨h1,h2⟩
    · cases hE
  · rename_i h1; exact absurd hE h1
 obtain ⟨hn,hok⟩:=Z1F hr0.1
 have ha:=hr0.2
 unfold Z2Y at ha
 simp only [Bool.and_eq_true,decide_eq_true_eq] at ha
 obtain ⟨⟨⟨a1,a2⟩,_⟩,_⟩:=ha
 rw [hE] at c1 ⊢
 obtain ⟨⟨re,rv,H2,c2,rd⟩,hr,w,q1,q2,q3,q4⟩:=ZaX s v n nv Gl V H (c + 1 + 1 + 1 + 1) [] ((hs.same sH).mono (by omega)) ((hv.same sH).mono (by omega)) hok hn (by have:=hv.1; omega) (Zck a2)
 obtain ⟨rfl,rfl,-,-,rfl⟩:=Rt.mk.inj q1
 simp only at q2 q3 q4
 have cw:=Z04 hr
 subst h0
 have fx:=ai l0 (ai hbl (ai hH' (ai c1 (ai l1 cw))))
 refine Ans.go ?_
 clear fx
 have g6:Z6Q c H2 c2 w (edF Gl n).length (ints ((edF Gl n).map (wgt V))):=by
  obtain ⟨z1,z2,z3,i,op,z4,z5,z6,z7,z8⟩:=q4
  exact ⟨z1,z2,z3,i,op,z4,by omega,by omega,z7,z8⟩
 exact .done ⟨rfl,rfl,(by show c <= c2; omega),sH.trans (q3.mono (by omega)),.inr ⟨rfl,w,rfl,g6⟩⟩
end Go.Proofs.Ytcnndelmnobigaa
