/- Parts of a proof: L4 K29 L5 AbSk L1. Conditions: none. -/
import Derived.Test.YtdodippbpdechaaM18
import Derived.Test.YtdodippbpdechaaM14
import Derived.Test.YtdodippbpdechaaM17
import Derived.Test.YtdodippbpdechaaM13
set_option linter.all false
set_option maxRecDepth 100000
namespace Go.Proofs.Ytdodippbpdechaa
open Go Go.Ab Go.Proofs
theorem Z3B (s:Value) (n:Nat) (Gl x:List Int) (lab:Nat) (hx:WOk n x) (hl:lab<4) (hok:Z0A Gl n=true) (h:FH) (c:Nat) (hs:SlI h c s 20 n Gl) :
 callF G 58 [.agg #[s],av x,.int .i64 lab] h c=some (.tuple #[av ((wN Gl lab x).getD zr5),.bool (wN Gl lab x).isSome],h,c):=Z0b (Zie s n Gl x lab hx hl hok h c [] hs)
theorem Zgt {Gl:List Int} {n lab:Nat} {s:List Int} (hok:Z0A Gl n=true) (hG:Gl.length=n*20) (hl:lab<4) (hs:WOk n s):∀ {k:Nat},(∀ j,j<k->(it (wN Gl lab) s j).isSome=true)->(rgL Gl lab s k).length=k*5
 | 0,_=>rfl
 | k+1,h=>by
  obtain ⟨x,hx⟩:=Option.isSome_iff_exists.1 (h k qO)
  have hw:=Z5t (S:=WOk n) (Z1M hok hG hl) hs hx
  rw [Z2r hx,List.length_append,Zgt hok hG hl hs fun j hj=>h j qO,hw.l]
  omega
theorem ZgU {α:Type} {f:α->Option α} {s x:α} {k:Nat} (h:it f s k=some x) {j:Nat} (hj:j<=k):(it f s j).isSome=true:=by
 cases e:it f s j with
 | some y=>rfl
 | none=>rw [Zco e hj] at h; cases h
theorem rgL_at {Gl:List Int} {n lab:Nat} {s x:List Int} (hok:Z0A Gl n=true) (hG:Gl.length=n*20) (hl:lab<4) (hs:WOk n s) {k:Nat} (hx:it (wN Gl lab) s k=some x):((rgL Gl lab s (k+1)).drop (k*5)).take 5=x:=by
 have hw:=Z5t (S:=WOk n) (Z1M hok hG hl) hs hx
 have hlen:=Zgt hok hG hl hs (k:=k) fun j hj=>ZgU hx qO
 rw [Z2r hx,List.drop_append,List.drop_of_length_le qO,List.nil_append,hlen,Nat.sub_self,List.drop_zero,List.take_of_length_le (by rw [hw.l]; omega)]
structure RE (s:Value) (n:Nat) (Gl x0:List Int) (g0 fp c0 cb:Nat) (h:FH):Prop where
 g:h.f g0=some (.cells false none [s])
 f:h.f fp=some (.cells false none (ints x0))
 sl:SlI h cb s 20 n Gl
 ok:Z0A Gl n=true
 hn:n<=60
 x:WOk n x0
 lg:g0<256*c0
 lf:fp<256*c0
 lb:cb<=c0
theorem RE.keep {s:Value} {n:Nat} {Gl x0:List Int} {g0 fp c0 cb:Nat} {h h':FH} (e:RE s n Gl x0 g0 fp c0 cb h) (hs:Z0q c0 h h'):RE s n Gl x0 g0 fp c0 cb h' :=
 ⟨(hs _ e.lg).trans e.g,(hs _ e.lf).trans e.f,e.sl.same (hs.mono e.lb),e.ok,e.hn,e.x,e.lg,e.lf,e.lb⟩
set_option maxHeartbeats 1000000 in
theorem ZlB (s:Value) (n:Nat) (Gl x0:List Int) (g0 fp c0 cb N:Nat) (h0:FH) (e:RE s n Gl x0 g0 fp c0 cb h0) (hN:N<=20000) (fuel:∀ k x,it (wN Gl 2) x0 k=some x->(∀ j,1<=j->j<=k->it (wN Gl 2) x0 j ≠ some x0)->k<N) (df:List Nat) :
 ∀ (r k c:Nat) (x:List Int) (ov:Value) (H:FH),N<=k+r->c0<=c->it (wN Gl 2) x0 k=some x->(∀ j,1<=j->j<=k->it (wN Gl 2) x0 j ≠ some x0)->Z0q c0 h0 H->GrA c0 H c ov 5 (k+1) (ints (rgL Gl 2 x0 (k+1))) →
 Ans (G (Z9R none) [ptrTo g0,.slice none 0 0,.bool false,.int .i64 0,ptrTo fp,ov] H c df) fun q=>q.df=df/\c<=q.c/\Z0q c0 h0 q.h ∧
  ((q.e = .exit 0/\(∃ ov',q.vs=[ptrTo g0,.slice none 0 0,.bool false,.int .i64 0,ptrTo fp,ov']) /\ ∃ m,it (wN Gl 2) x0 m=none) ∨ (q.e = .ret /\ ∃ ov' k,q.vs=[ptrTo g0,ov',.bool true,.int .i64 0,ptrTo fp,ov']/\RgC Gl x0 2 (k+1)/\GrA c0 q.h q.c ov' 5 (k+1) (ints (rgL Gl 2 x0 (k+1))))):=by
 intro r
 induction r with
 | zero =>
  intro k c x ov H hN' hc hx hj hs g
  have:=fuel k x hx hj
  omega
 | succ r ih =>
  intro k c x ov H hN' hc hx hj hs g
  have hkN:=fuel k x hx hj
  have eH:=e.keep hs
  have hG:=e.sl.1
  have hw:=Z5t (S:=WOk n) (Z1M e.ok hG qO) e.x hx
  have l0:ldN H 1 (.pointer (some ⟨g0,0,none⟩))=some (.agg #[s]):=Z0O (cs:=[]) ⟨false,none,eH.g⟩
  have gl:=g.len
  have sl:=g.sl
  have ix:=sl.ixs .i64 (k:Int) qO qO
  rw [Int.toNat_natCast] at ix
  have l1:ldN H 5 (.pointer (some ⟨Z0w ov,Z4T ov+k*5,none⟩))=some (av x):=by
   rw [sl.rdN 5 _ qO qO,rgL_at e.ok hG qO e.x hx]
  have cn:=Z3B s n Gl x 2 hw qO e.ok H (c+1) (eH.sl.mono (by have:=e.lb; omega))
  simp only [Int.ofNat_eq_natCast,Int.cast_ofNat_Int] at cn
  have xv0:∀ a b:Value,Z1m (.tuple #[a,b]) 0=some a:=fun _ _=>rfl
  have xv1:∀ a b:Value,Z1m (.tuple #[a,b]) 1=some b:=fun _ _=>rfl
  obtain ⟨kb,hkb⟩:∃ b,256*c+11=b:=⟨_,rfl⟩
  have e1:((k+1:Nat):Int)-1=k:=by omega
  have gb:=g.blk
  cases hnx:wN Gl 2 x with
  | none =>
   rw [hnx] at cn
   have st:stN (newB H kb z5) 5 (.pointer (some ⟨kb,0,none⟩)) (av zr5)=some (newB H kb (ints zr5)):=stN_all _ _ 5 _ _ rfl rfl
   have cn':callF G 58 [.agg #[s],av x,.int .i64 2] H (c+1)=some (.tuple #[av zr5,.bool false],H,c+1):=cn
   obtain ⟨Y,hY⟩:∃ Y,av zr5=Y:=⟨_,rfl⟩
   rw [hY] at cn' st
   obtain ⟨H1,hH1⟩:∃ H1,newB H kb (ints zr5)=H1:=⟨_,rfl⟩
   have s1:Z0q c0 h0 H1:=fun j hj=>by rw [← hH1,Z01,if_neg qO]; exact hs j hj
   rw [hH1] at st
   have en:it (wN Gl 2) x0 (k+1)=none:=by rw [it,hx]; exact hnx
   refine Ans.lpN rfl rfl (Z4C ..) ?_
   unfold Z5h
   rw [show [Value.int .i64 0,Value.int .i64 0,Value.int .i64 0,Value.int .i64 0,Value.int .i64 0]=z5 from rfl]
   obtain ⟨Z,hZ⟩:∃ Z,z5=Z:=⟨_,rfl⟩
   rw [hZ] at st ⊢
   have fx:=ai l0 (ai gl (ai e1 (ai ix (ai l1 (ai cn' (ai xv0 (ai xv1 (ai hkb st))))))))
   refine Ans.go ?_
   clear fx
   exact Ans.exitN ⟨rfl,by dsimp only; omega,s1,.inl ⟨rfl,⟨ov,rfl⟩,k+1,en⟩⟩
  | some y =>
   have hy:=Z1M e.ok hG qO _ _ hw hnx
   have hy5:=hy.l
   rw [hnx] at cn
   have cn':callF G 58 [.agg #[s],av x,.int .i64 2] H (c+1)=some (.tuple #[av y,.bool true],H,c+1):=cn
   have st:stN (newB H kb z5) 5 (.pointer (some ⟨kb,0,none⟩)) (av y)=some (newB H kb (ints y)):=stN_all _ _ 5 _ _ hy5 rfl
   obtain ⟨H1,hH1⟩:∃ H1,newB H kb (ints y)=H1:=⟨_,rfl⟩
   rw [hH1] at st
   have H1f:∀ j,j ≠ kb->H1.f j=H.f j:=fun j hj=>by rw [← hH1,Z01,if_neg hj]
   have s1:Z0q c0 h0 H1:=fun j hj=>by rw [H1f j qO]; exact hs j hj
   have l2:ldN H1 5 (.pointer (some ⟨kb,0,none⟩))=some (av y):=Z0v (by rw [← hH1,Z01,if_pos rfl]) (by rw [ints_length,hy5])
   have hlf:=e.lf
   have l3:ldN H1 5 (.pointer (some ⟨fp,0,none⟩))=some (av x0):=Z0v ((H1f fp qO).trans eH.f) (by rw [ints_length,e.x.l])
   have eq:=Zht y x0 hy5 e.x.l
   have hx':it (wN Gl 2) x0 (k+1)=some y:=by rw [it,hx]; exact hnx
   have g1:GrA c0 H1 c ov 5 (k+1) (ints (rgL Gl 2 x0 (k+1))):=g.keep (H1f _ qO)
   by_cases q:y=x0
   · rw [decide_eq_true q] at eq
     have rc:RgC Gl x0 2 (k+1):=⟨by omega,by rw [hx',q],fun j j1 j2=>hj j j1 qO⟩
     obtain ⟨Y,hY⟩:∃ Y,av y=Y:=⟨_,rfl⟩
     rw [hY] at cn' st l2 eq
     refine Ans.lpN rfl rfl (Z4C ..) ?_
     unfold Z5h
     rw [show [Value.int .i64 0,Value.int .i64 0,Value.int .i64 0,Value.int .i64 0,Value.int .i64 0]=z5 from rfl]
     obtain ⟨Z,hZ⟩:∃ Z,z5=Z:=⟨_,rfl⟩
     rw [hZ] at st ⊢
     have fx:=ai l0 (ai gl (ai e1 (ai ix (ai l1 (ai cn' (ai xv0 (ai xv1 (ai hkb (ai st (ai l2 (ai l3 eq)))))))))))
     refine Ans.go ?_
     clear fx
     exact Ans.retN ⟨rfl,by dsimp only; omega,s1,.inr ⟨rfl,ov,k,rfl,rc,g1.mono (by dsimp only; omega)⟩⟩
   · rw [decide_eq_false q] at eq
     have bl:=Z53 z5 y 5 rfl hy5
     obtain ⟨b,hb⟩:∃ b,256*(c+1+1+1)+2=b:=⟨_,rfl⟩
     obtain ⟨id,hid⟩:∃ b,256*(c+1+1+1)+3=b:=⟨_,rfl⟩
     obtain ⟨H2,a1,a2,a3⟩:=(g1.mono (show c<=c+1+1 by omega)).app (c':=c+1+1+1+1) (ints y) (by rw [ints_length,hy5]) (Z0p _) qO 40 b id qO qO qO qO qO qO
     rw [Z0W,← Z2r hx'] at a2
     have s2:Z0q c0 h0 H2:=fun j hj=>by rw [a3 j qO qO]; exact s1 j hj
     have hk:=ih (k+1) (c+1+1+1+1) y _ H2 qO qO hx' (fun j j1 j2=>by
      by_cases ej:j=k+1
      · rw [ej,hx']; exact fun z=>q (Option.some.inj z)
      · exact hj j j1 qO) s2 a2
     obtain ⟨Y,hY⟩:∃ Y,av y=Y:=⟨_,rfl⟩
     rw [hY] at cn' st l2 eq bl
     obtain ⟨W,hW⟩:∃ Y,ints y=Y:=⟨_,rfl⟩
     rw [hW] at bl a1
     refine Ans.lpN rfl rfl (Z4C ..) ?_
     unfold Z5h
     rw [show [Value.int .i64 0,Value.int .i64 0,Value.int .i64 0,Value.int .i64 0,Value.int .i64 0]=z5 from rfl]
     obtain ⟨Z,hZ⟩:∃ Z,z5=Z:=⟨_,rfl⟩
     rw [hZ] at st bl ⊢
     have fx:=ai l0 (ai gl (ai e1 (ai ix (ai l1 (ai cn' (ai xv0 (ai xv1 (ai hkb (ai st (ai l2 (ai l3 (ai eq (ai bl (ai hb (ai hid a1)))))))))))))))
     refine Ans.go ?_
     clear fx
     refine Ans.nextN (hk.mono ?_)
     rintro q ⟨z1,z2,z3⟩
     exact ⟨z1,by omega,z3⟩
set_option maxHeartbeats 1000000 in
theorem ZlC (s:Value) (n:Nat) (Gl x0:List Int) (g0 fp c0 cb:Nat) (h0:FH) (e:RE s n Gl x0 g0 fp c0 cb h0) {m:Nat} (hm:it (wN Gl 3) x0 m=none) (fst:Nat) (hf0:256*c0<=fst) (df:List Nat) :
 ∀ (r k c xb:Nat) (x:List Int) (H:FH),m<=k+r->c0<=c->fst<256*c->it (wN Gl 3) x0 k=some x->Z0q c0 h0 H->H.f fst=some (.cells false none (ints x))->xb<256*c->fst ≠ xb->256*c0<=xb->H.f xb=some (.cells false none (ints ((wN Gl 3 x).getD zr5))) →
 Ans (G (Z9Q none) [ptrTo g0,ptrTo fst,ptrTo xb,.bool (wN Gl 3 x).isSome] H c df) fun q=>q.df=df/\c<=q.c/\Z0q c0 h0 q.h/\q.e = .exit 2/\(∃ xb',q.vs=[ptrTo g0,ptrTo fst,ptrTo xb',.bool false]) /\ ∃ k y,it (wN Gl 3) x0 k=some y/\it (wN Gl 3) x0 (k+1)=none/\q.h.f fst=some (.cells false none (ints y)):=by
 intro r
 induction r with
 | zero =>
  intro k c xb x H hN' hc hfc hx hs hf hb hne hxb hfx
  have:=Z8t hx hm
  omega
 | succ r ih =>
  intro k c xb x H hN' hc hfc hx hs hf hb hne hxb hfx
  have eH:=e.keep hs
  have hG:=e.sl.1
  have hw:=Z5t (S:=WOk n) (Z1M e.ok hG qO) e.x hx
  cases hnx:wN Gl 3 x with
  | none =>
   have en:it (wN Gl 3) x0 (k+1)=none:=by rw [it,hx]; exact hnx
   refine Ans.lpN rfl rfl (Z6g ..) ?_
   unfold Z7k
   rw [show (none:Option (List Int)).isSome=false from rfl]
   have fx:=True.intro
   refine Ans.go ?_
   clear fx
   exact Ans.exitN ⟨rfl,by dsimp only; omega,hs,rfl,⟨xb,rfl⟩,k,x,hx,en,hf⟩
  | some y =>
   have hy:=Z1M e.ok hG qO _ _ hw hnx
   have hy5:=hy.l
   have hx':it (wN Gl 3) x0 (k+1)=some y:=by rw [it,hx]; exact hnx
   rw [hnx] at hfx
   have hfx:H.f xb=some (.cells false none (ints y)):=hfx
   have l1:ldN H 5 (.pointer (some ⟨xb,0,none⟩))=some (av y):=Z0v hfx (by rw [ints_length,hy5])
   have st:stN H 5 (.pointer (some ⟨fst,0,none⟩)) (av y)=some (newB H fst (ints y)):=Z6y hf (by rw [ints_length,hw.l]) (by rw [ints_length,hy5]) (Z0p _)
   obtain ⟨H1,hH1⟩:∃ H1,newB H fst (ints y)=H1:=⟨_,rfl⟩
   rw [hH1] at st
   have H1f:∀ j,j ≠ fst->H1.f j=H.f j:=fun j hj=>by rw [← hH1,Z01,if_neg hj]
   have H1s:H1.f fst=some (.cells false none (ints y)):=by rw [← hH1,Z01,if_pos rfl]
   have l2:ldN H1 5 (.pointer (some ⟨xb,0,none⟩))=some (av y):=Z0v ((H1f xb (Ne.symm hne)).trans hfx) (by rw [ints_length,hy5])
   obtain ⟨kb,hkb⟩:∃ b,256*(c+1+1+1)=b:=⟨_,rfl⟩
   have st2:stN (newB H1 kb z5) 5 (.pointer (some ⟨kb,0,none⟩)) (av y)=some (newB H1 kb (ints y)):=stN_all _ _ 5 _ _ hy5 rfl
   obtain ⟨H2,hH2⟩:∃ H1',newB H1 kb (ints y)=H1':=⟨_,rfl⟩
   rw [hH2] at st2
   have H2f:∀ j,j ≠ kb->H2.f j=H1.f j:=fun j hj=>by rw [← hH2,Z01,if_neg hj]
   have s2:Z0q c0 h0 H2:=fun j hj=>by rw [H2f j qO,H1f j qO]; exact hs j hj
   have e2:=e.keep s2
   have l3:ldN H2 1 (.pointer (some ⟨g0,0,none⟩))=some (.agg #[s]):=Z0O (cs:=[]) ⟨false,none,e2.g⟩
   have l4:ldN H2 5 (.pointer (some ⟨fst,0,none⟩))=some (av y):=Z0v ((H2f fst qO).trans H1s) (by rw [ints_length,hy5])
   have cn:=Z3B s n Gl y 3 hy qO e.ok H2 (c+1+1+1+1+1) (e2.sl.mono (by have:=e.lb; omega))
   simp only [Int.ofNat_eq_natCast,Int.cast_ofNat_Int] at cn
   have xv0:∀ a b:Value,Z1m (.tuple #[a,b]) 0=some a:=fun _ _=>rfl
   have xv1:∀ a b:Value,Z1m (.tuple #[a,b]) 1=some b:=fun _ _=>rfl
   have hz5:((wN Gl 3 y).getD zr5).length=5:=by
    cases hq:wN Gl 3 y with
    | none=>rfl
    | some z=>exact (Z1M e.ok hG qO _ _ hy hq).l
   obtain ⟨V,hV⟩:∃ V,(wN Gl 3 y).getD zr5=V:=⟨_,rfl⟩
   have st3:stN H2 5 (.pointer (some ⟨kb,0,none⟩)) (av V)=some (newB H2 kb (ints V)):=by
    rw [hV] at hz5
    exact Z6y (z:=ints y) (by rw [← hH2,Z01,if_pos rfl]) (by rw [ints_length,hy5]) (by rw [ints_length,hz5]) (Z0p _)
   obtain ⟨H3,hH3⟩:∃ H1',newB H2 kb (ints V)=H1':=⟨_,rfl⟩
   have H3f:∀ j,j ≠ kb->H3.f j=H2.f j:=fun j hj=>by rw [← hH3,Z01,if_neg hj]
   have s3:Z0q c0 h0 H3:=fun j hj=>by rw [H3f j qO]; exact s2 j hj
   have hk:=ih (k+1) (c+1+1+1+1+1) kb y H3 qO qO qO hx' s3 (by rw [H3f _ qO,H2f _ qO]; exact H1s) qO qO qO (by rw [hV,← hH3,Z01,if_pos rfl])
   rw [hV] at cn
   rw [hH3] at st3
   rw [show (some y).isSome=true from rfl]
   obtain ⟨B,hB⟩:∃ V,(wN Gl 3 y).isSome=V:=⟨_,rfl⟩
   rw [hB] at cn hk
   obtain ⟨Y,hY⟩:∃ Y,av y=Y:=⟨_,rfl⟩
   rw [hY] at l1 st l2 st2 l4 cn
   refine Ans.lpN rfl rfl (Z6g ..) ?_
   unfold Z7k
   rw [show [Value.int .i64 0,Value.int .i64 0,Value.int .i64 0,Value.int .i64 0,Value.int .i64 0]=z5 from rfl]
   obtain ⟨Z,hZ⟩:∃ Z,z5=Z:=⟨_,rfl⟩
   rw [hZ] at st2 ⊢
   simp only [Nat.add_zero]
   have fx:=ai l1 (ai st (ai l2 (ai hkb (ai st2 (ai l3 (ai l4 (ai cn (ai xv0 (ai xv1 st3)))))))))
   refine Ans.go ?_
   clear fx
   subst hkb
   refine Ans.nextN (hk.mono ?_)
   rintro q ⟨z1,z2,z3⟩
   exact ⟨z1,by omega,z3⟩
set_option maxHeartbeats 1000000 in
theorem rr_fwd (s:Value) (n:Nat) (Gl x0:List Int) (g0 fp c0 cb:Nat) (h0:FH) (e:RE s n Gl x0 g0 fp c0 cb h0) {m:Nat} (hm:it (wN Gl 2) x0 m=none) (hm9:m<=90000) (df:List Nat) :
 ∀ (r k c xb:Nat) (x:List Int) (ov:Value) (H:FH),m<=k+r->c0<=c->it (wN Gl 2) x0 k=some x->Z0q c0 h0 H->GrA c0 H c ov 5 (k+1) (ints (rgL Gl 2 x0 (k+1)))->xb<256*c->Z0w ov ≠ xb->256*c0<=xb->H.f xb=some (.cells false none (ints ((wN Gl 2 x).getD zr5))) →
 Ans (G (Z9P none) [ptrTo g0,ov,ptrTo xb,.bool (wN Gl 2 x).isSome] H c df) fun q=>q.df=df/\c<=q.c/\Z0q c0 h0 q.h/\q.e = .exit 4 /\ ∃ xb' ov' k y,q.vs=[ptrTo g0,ov',ptrTo xb',.bool false]/\it (wN Gl 2) x0 k=some y/\it (wN Gl 2) x0 (k+1)=none/\GrA c0 q.h q.c ov' 5 (k+1) (ints (rgL Gl 2 x0 (k+1))):=by
 intro r
 induction r with
 | zero =>
  intro k c xb x ov H hN' hc hx hs g hb hne hxb hfx
  have:=Z8t hx hm
  omega
 | succ r ih =>
  intro k c xb x ov H hN' hc hx hs g hb hne hxb hfx
  have hkm:=Z8t hx hm
  have eH:=e.keep hs
  have hG:=e.sl.1
  have hw:=Z5t (S:=WOk n) (Z1M e.ok hG qO) e.x hx
  have gb:=g.blk
  cases hnx:wN Gl 2 x with
  | none =>
   have en:it (wN Gl 2) x0 (k+1)=none:=by rw [it,hx]; exact hnx
   refine Ans.lpN rfl rfl (Z6f ..) ?_
   unfold Z7j
   rw [show (none:Option (List Int)).isSome=false from rfl]
   have fx:=True.intro
   refine Ans.go ?_
   clear fx
   exact Ans.exitN ⟨rfl,by dsimp only; omega,hs,rfl,xb,ov,k,x,rfl,hx,en,g.mono (by dsimp only; omega)⟩
  | some y =>
   have hy:=Z1M e.ok hG qO _ _ hw hnx
   have hy5:=hy.l
   have hx':it (wN Gl 2) x0 (k+1)=some y:=by rw [it,hx]; exact hnx
   rw [hnx] at hfx
   have hfx:H.f xb=some (.cells false none (ints y)):=hfx
   have l1:ldN H 5 (.pointer (some ⟨xb,0,none⟩))=some (av y):=Z0v hfx (by rw [ints_length,hy5])
   have bl:=Z53 z5 y 5 rfl hy5
   obtain ⟨b,hb'⟩:∃ b,256*(c+1)+2=b:=⟨_,rfl⟩
   obtain ⟨id,hid⟩:∃ b,256*(c+1)+3=b:=⟨_,rfl⟩
   obtain ⟨H1,a1,a2,a3⟩:=(g.mono (show c<=c+1 by omega)).app (c':=c+1+1) (ints y) (by rw [ints_length,hy5]) (Z0p _) qO 40 b id qO qO qO qO qO qO
   rw [Z0W,← Z2r hx'] at a2
   have H1x:H1.f xb=some (.cells false none (ints y)):=(a3 xb qO (Ne.symm hne)).trans hfx
   have l2:ldN H1 5 (.pointer (some ⟨xb,0,none⟩))=some (av y):=Z0v H1x (by rw [ints_length,hy5])
   obtain ⟨kb,hkb⟩:∃ b,256*(c+1+1+1)=b:=⟨_,rfl⟩
   have st2:stN (newB H1 kb z5) 5 (.pointer (some ⟨kb,0,none⟩)) (av y)=some (newB H1 kb (ints y)):=stN_all _ _ 5 _ _ hy5 rfl
   obtain ⟨H2,hH2⟩:∃ H1',newB H1 kb (ints y)=H1':=⟨_,rfl⟩
   rw [hH2] at st2
   have H2f:∀ j,j ≠ kb->H2.f j=H1.f j:=fun j hj=>by rw [← hH2,Z01,if_neg hj]
   have s2:Z0q c0 h0 H2:=fun j hj=>by rw [H2f j qO,a3 j qO qO]; exact hs j hj
   have e2:=e.keep s2
   have l3:ldN H2 1 (.pointer (some ⟨g0,0,none⟩))=some (.agg #[s]):=Z0O (cs:=[]) ⟨false,none,e2.g⟩
   have l4:ldN H2 5 (.pointer (some ⟨kb,0,none⟩))=some (av y):=Z0v (by rw [← hH2,Z01,if_pos rfl]) (by rw [ints_length,hy5])
   have cn:=Z3B s n Gl y 2 hy qO e.ok H2 (c+1+1+1+1+1) (e2.sl.mono (by have:=e.lb; omega))
   simp only [Int.ofNat_eq_natCast,Int.cast_ofNat_Int] at cn
   have xv0:∀ a b:Value,Z1m (.tuple #[a,b]) 0=some a:=fun _ _=>rfl
   have xv1:∀ a b:Value,Z1m (.tuple #[a,b]) 1=some b:=fun _ _=>rfl
   have hz5:((wN Gl 2 y).getD zr5).length=5:=by
    cases hq:wN Gl 2 y with
    | none=>rfl
    | some z=>exact (Z1M e.ok hG qO _ _ hy hq).l
   obtain ⟨V,hV⟩:∃ V,(wN Gl 2 y).getD zr5=V:=⟨_,rfl⟩
   have st3:stN H2 5 (.pointer (some ⟨kb,0,none⟩)) (av V)=some (newB H2 kb (ints V)):=by
    rw [hV] at hz5
    exact Z6y (z:=ints y) (by rw [← hH2,Z01,if_pos rfl]) (by rw [ints_length,hy5]) (by rw [ints_length,hz5]) (Z0p _)
   obtain ⟨H3,hH3⟩:∃ H1',newB H2 kb (ints V)=H1':=⟨_,rfl⟩
   have H3f:∀ j,j ≠ kb->H3.f j=H2.f j:=fun j hj=>by rw [← hH3,Z01,if_neg hj]
   have s3:Z0q c0 h0 H3:=fun j hj=>by rw [H3f j qO]; exact s2 j hj
   have a2':GrA c0 H3 (c+1+1+1+1+1) (.slice (some ⟨id,0,none⟩) (k+1+1) (k+1+1)) 5 (k+1+1) (ints (rgL Gl 2 x0 (k+1+1))):=(a2.keep (by rw [blkOf_sl,H3f _ qO,H2f _ qO])).mono qO
   have hk:=ih (k+1) (c+1+1+1+1+1) kb y _ H3 qO qO hx' s3 a2' qO (by rw [blkOf_sl]; omega) qO (by rw [hV,← hH3,Z01,if_pos rfl])
   rw [hV] at cn
   rw [hH3] at st3
   rw [show (some y).isSome=true from rfl]
   obtain ⟨B,hB⟩:∃ V,(wN Gl 2 y).isSome=V:=⟨_,rfl⟩
   rw [hB] at cn hk
   obtain ⟨Y,hY⟩:∃ Y,av y=Y:=⟨_,rfl⟩
   rw [hY] at l1 l2 st2 l4 cn bl
   obtain ⟨W,hW⟩:∃ Y,ints y=Y:=⟨_,rfl⟩
   rw [hW] at bl a1
   refine Ans.lpN rfl rfl (Z6f ..) ?_
   unfold Z7j
   rw [show [Value.int .i64 0,Value.int .i64 0,Value.int .i64 0,Value.int .i64 0,Value.int .i64 0]=z5 from rfl]
   obtain ⟨Z,hZ⟩:∃ Z,z5=Z:=⟨_,rfl⟩
   rw [hZ] at st2 bl ⊢
   simp only [Nat.add_zero]
   have fx:=ai l1 (ai bl (ai hb' (ai hid (ai a1 (ai l2 (ai hkb (ai st2 (ai l3 (ai l4 (ai cn (ai xv0 (ai xv1 st3))))))))))))
   refine Ans.go ?_
   clear fx
   subst hkb
   refine Ans.nextN (hk.mono ?_)
   rintro q ⟨z1,z2,z3⟩
   exact ⟨z1,by omega,z3⟩

theorem Z83 {h:FH} {b:Nat} {v:Value} (hf:h.f b=some (.cells false none [v])) (h1:v.cells = #[v]) (h2:Z06 v=true):stN h 1 (.pointer (some ⟨b,0,none⟩)) v=some h:=by
 rw [Z3p (show HeapC.get h b=_ from hf) (by simp) h1 h2]
 congr 1
 apply FH.ext; intro j
 rw [Z0o]; split
 · rename_i e; rw [e,hf]; rfl
 · rfl
theorem Zgk {h:FH} {b:Nat} {v w:Value} (hf:h.f b=some (.cells false none [w])) (h1:v.cells = #[v]) (h2:Z06 v=true):stN h 1 (.pointer (some ⟨b,0,none⟩)) v=some (newB h b [v]):=by
 rw [Z3p (show HeapC.get h b=_ from hf) (by simp) h1 h2]
 rfl
theorem Z1B {h:FH} {b:Nat} {v:Value} (hf:h.f b=some (.cells false none [v])):ld1 h (.pointer (some ⟨b,0,none⟩))=some v:=by
 rw [Z05 (cs:=[v]) ⟨false,none,hf⟩]; rfl
theorem Z7q (s:Value) (x:List Int) (lab:Int) (h:FH) (c:Nat) (hs:Z06 s=true):callF G 57 [.agg #[s],av x,.int .i64 lab] h c=some (.func (.func 78) [].toArray [ptrTo (256*c+1),ptrTo (256*c),ptrTo (256*c+2)].toArray,newB (newB (newB h (256*c) [s]) (256*c+1) (ints x)) (256*c+2) [.int .i64 lab],c+1+1):=by
 refine Z0b (f57_go (r:=⟨.ret,[_],_,_,[]⟩) ?_)
 unfold ZmI
 have Z4X:((Value.agg #[s]).cells.toList.all Z06)=true:=by simp [Value.cells,hs]
 have Z52:(Value.agg #[s]).cells.toList=[s]:=rfl
 have flat2:((av x).cells.toList.all Z06)=true:=by simp
 rw [Z4X,flat2,Z52,Z1s]
 rfl
def RgO (Gl x0 y:List Int) (k:Nat):Prop:=(∃ m,it (wN Gl 2) x0 m=none)/\(∃ i,it (wN Gl 3) x0 i=some y/\it (wN Gl 3) x0 (i+1)=none) /\ ∃ x,it (wN Gl 2) y k=some x/\it (wN Gl 2) y (k+1)=none
def RgA (c0:Nat) (h:FH) (c:Nat) (ov:Value) (cl:Bool) (e t:Int) (p:List Int) (n:Nat) (Gl:List Int):Prop :=
 (Z0A Gl n=false/\ov = .slice none 0 0/\cl=false/\e=7) ∨ (Z0A Gl n=true /\ ¬ (0<=t/\t<n/\Z0y p=true)/\ov = .slice none 0 0/\cl=false/\e=1) ∨
 (Z0A Gl n=true/\(0<=t/\t<n/\Z0y p=true)/\e=0/\((cl=true /\ ∃ k,RgC Gl (t::p) 2 k/\GrC c0 h c ov 5 k (ints (rgL Gl 2 (t::p) k))) ∨ (cl=false /\ ∃ y k,RgO Gl (t::p) y k/\GrC c0 h c ov 5 (k+1) (ints (rgL Gl 2 y (k+1))))))
theorem Zlq {s:Value} {n:Nat} {Gl x:List Int} {lab cb c:Nat} {M:FH} (sl:SlI M cb s 20 n Gl) (hc:cb<=c) (ok:Z0A Gl n=true) (hn:n<=60) (hx:WOk n x) (l4:lab<4) :
 WC s n Gl x lab (256*c+1) (256*c) (256*c+2) cb (c+1+1) (newB (newB (newB M (256*c) [s]) (256*c+1) (ints x)) (256*c+2) [.int .i64 lab]):=by
 refine ⟨?_,⟨false,none, ?_⟩,⟨false,none, ?_⟩,by omega,by omega,by omega,by omega,sl.same fun j hj=>?_,ok,hn,hx,l4⟩
 · rw [Z01,if_neg qO,Z01,if_pos rfl]
 · show FH.f (newB _ _ _) _=_
   rw [Z01,if_neg qO,Z01,if_neg qO,Z01,if_pos rfl]
 · show FH.f (newB _ _ _) _=_
   rw [Z01,if_pos rfl]
 · rw [Z01,if_neg qO,Z01,if_neg qO,Z01,if_neg qO]
theorem Zc2 (M:FH) (c:Nat) (s:Value) (x:List Int) (v:Value) {j:Nat} (hj:j<256*c):(newB (newB (newB M (256*c) [s]) (256*c+1) (ints x)) (256*c+2) [v]).f j=M.f j:=by
 rw [Z01,if_neg qO,Z01,if_neg qO,Z01,if_neg qO]
set_option maxHeartbeats 2000000 in
theorem Znd (s:Value) (n:Nat) (Gl:List Int) (t:Int) (p:List Int) (hp:p.length=4) (h:FH) (c:Nat) (df:List Nat) (hs:SlI h c s 20 n Gl) (hn:n<=60) :
 Ans (G (.fn 29) [.agg #[s],.int .i64 t,av p] h c df) fun r=>∃ ov cl e,r=⟨.ret,[.tuple #[ov,.bool cl,.int .i64 e]],r.h,r.c,[]⟩/\c<=r.c/\Z0q c h r.h/\RgA c r.h r.c ov cl e t p n Gl:=by
 refine Ans.call' (fun r e=>f29_go e) ?_
 have hsf:=hs.flat
 have Z4X:((Value.agg #[s]).cells.toList.all Z06)=true:=by simp [Value.cells,hs.flat]
 have Z52:(Value.agg #[s]).cells.toList=[s]:=rfl
 have flat2:((av p).cells.toList.all Z06)=true:=by simp
 unfold ZmU
 rw [Z4X,flat2,Z52,Z1s]
 simp only [cond_true,Nat.add_zero]
 obtain ⟨g0,hg0⟩:∃ b,256*c=b:=⟨_,rfl⟩
 obtain ⟨p0,hp0⟩:∃ b,256*c+1=b:=⟨_,rfl⟩
 obtain ⟨rp,hrp⟩:∃ b,256*c+2=b:=⟨_,rfl⟩
 obtain ⟨tp,htp⟩:∃ b,256*c+3=b:=⟨_,rfl⟩
 obtain ⟨ep,hep⟩:∃ b,256*c+4=b:=⟨_,rfl⟩
 rw [hp0,hrp,htp,hep,hg0]
 obtain ⟨M,hM⟩:∃ M,newB (newB (newB (newB (newB h g0 [s]) p0 (ints p)) rp [.slice none 0 0]) tp [.bool false]) ep [.int .i64 0]=M:=⟨_,rfl⟩
 rw [hM]
 have Mf:∀ j,M.f j=if j=ep then some (.cells false none [.int .i64 0]) else if j=tp then some (.cells false none [.bool false]) else if j=rp then some (.cells false none [.slice none 0 0]) else if j=p0 then some (.cells false none (ints p)) else if j=g0 then some (.cells false none [s]) else h.f j:=fun j=>by rw [← hM,Z01,Z01,Z01,Z01,Z01]
 have sM:Z0q c h M:=fun j hj=>by rw [Mf,if_neg qO,if_neg qO,if_neg qO,if_neg qO,if_neg qO]
 have Mg:M.f g0=some (.cells false none [s]):=by rw [Mf,if_neg qO,if_neg qO,if_neg qO,if_neg qO,if_pos rfl]
 have Mp:M.f p0=some (.cells false none (ints p)):=by rw [Mf,if_neg qO,if_neg qO,if_neg qO,if_pos rfl]
 have Mr:M.f rp=some (.cells false none [.slice none 0 0]):=by rw [Mf,if_neg qO,if_neg qO,if_pos rfl]
 have Mt:M.f tp=some (.cells false none [.bool false]):=by rw [Mf,if_neg qO,if_pos rfl]
 have Me:M.f ep=some (.cells false none [.int .i64 0]):=by rw [Mf,if_pos rfl]
 have slM:SlI M c s 20 n Gl:=hs.same sM
 have l0:ldN M 1 (.pointer (some ⟨g0,0,none⟩))=some (.agg #[s]):=Z0O (cs:=[]) ⟨false,none,Mg⟩
 have ck:=Z0b (Zes s n Gl M (c+1+1) [] (slM.mono qO))
 have w1:=Z83 Mr rfl rfl
 have w2:=Z83 Mt rfl rfl
 have r1:=Z1B Mr
 have r2:=Z1B Mt
 have hE:∀ v:Int,∃ E,stN M 1 (.pointer (some ⟨ep,0,none⟩)) (.int .i64 v)=some E/\E.f ep=some (.cells false none [.int .i64 v]) /\ ∀ j,j ≠ ep->E.f j=M.f j:=fun v=>⟨_,Zgk Me rfl rfl,by rw [Z01,if_pos rfl],fun j hj=>by rw [Z01,if_neg hj]⟩
 have fail:∀ (k:Nat) (v:Int),c<=k -> ∃ E,stN M 1 (.pointer (some ⟨ep,0,none⟩)) (.int .i64 v)=some E/\ld1 E (.pointer (some ⟨rp,0,none⟩))=some (.slice none 0 0)/\ld1 E (.pointer (some ⟨tp,0,none⟩))=some (.bool false)/\ld1 E (.pointer (some ⟨ep,0,none⟩))=some (.int .i64 v)/\Z0q c h E:=fun k v hk=>by
  obtain ⟨E,e1,e2,e3⟩:=hE v
  exact ⟨E,e1,Z1B ((e3 rp qO).trans Mr),Z1B ((e3 tp qO).trans Mt),Z1B e2,fun j hj=>(e3 j qO).trans (sM j hj)⟩
 by_cases hok:Z0A Gl n=true
 · rw [if_pos ⟨by omega,hok⟩] at ck
   have g1:=Z1B Mg
   have len:=hs.len
   have l4:ldN M 4 (.pointer (some ⟨p0,0,none⟩))=some (av p):=Z0v Mp (by rw [ints_length,hp])
   have cv:=Z18 p hp M (c+1+1+1)
   obtain ⟨E1,f1,f2,f3,f4,f5⟩:=fail (c+1+1+1) 1 qO
   by_cases h1:t<0
   · have fx:=ai l0 (ai ck (ai w1 (ai w2 (ai f1 (ai f2 (ai f3 f4))))))
     refine Ans.go ?_
     clear fx
     exact .done ⟨_,false,1,rfl,by dsimp only; omega,f5,.inr (.inl ⟨hok,by omega,rfl,rfl,rfl⟩)⟩
   by_cases h2:(n:Int)<=t
   · have fx:=ai l0 (ai ck (ai g1 (ai len (ai w1 (ai w2 (ai f1 (ai f2 (ai f3 f4))))))))
     refine Ans.go ?_
     clear fx
     exact .done ⟨_,false,1,rfl,by dsimp only; omega,f5,.inr (.inl ⟨hok,by omega,rfl,rfl,rfl⟩)⟩
   by_cases h3:Z0y p=true
   · rw [h3] at cv
     have hp24:=Zao hp h3
     obtain ⟨u,rfl⟩:∃ u:Nat,t=u:=⟨t.toNat,by omega⟩
     have hx:WOk n ((u:Int)::p):=WOk.mk' qO hp24
     obtain ⟨x0,hx0⟩:∃ x,(u:Int)::p=x:=⟨_,rfl⟩
     have b5:Z1d z5 [(0,1,.int .i64 u),(1,4,av p)]=some (av x0):=by
      rw [← hx0]
      match p,hp with
      | [a,b,d,e],_=>rfl
     rw [hx0] at hx
     have hx5:=hx.l
     obtain ⟨fp,hfp⟩:∃ b,256*(c+1+1+1)+3=b:=⟨_,rfl⟩
     have st:stN (newB M fp z5) 5 (.pointer (some ⟨fp,0,none⟩)) (av x0)=some (newB M fp (ints x0)):=stN_all _ _ 5 _ _ hx5 rfl
     obtain ⟨A,hA⟩:∃ A,newB M fp (ints x0)=A:=⟨_,rfl⟩
     rw [hA] at st
     have Af:∀ j,j ≠ fp->A.f j=M.f j:=fun j hj=>by rw [← hA,Z01,if_neg hj]
     have Afp:A.f fp=some (.cells false none (ints x0)):=by rw [← hA,Z01,if_pos rfl]
     have a0:ldN A 1 (.pointer (some ⟨g0,0,none⟩))=some (.agg #[s]):=Z0O (cs:=[]) ⟨false,none,(Af g0 qO).trans Mg⟩
     have a5:ldN A 5 (.pointer (some ⟨fp,0,none⟩))=some (av x0):=Z0v Afp (by rw [ints_length,hx5])
     have slA:SlI A c s 20 n Gl:=slM.same fun j hj=>Af j qO
     have cw1:=Z7q s x0 2 A (c+1+1+1+1+1) hsf
     have W1:WC s n Gl x0 2 _ _ _ c (c+1+1+1+1+1+1+1) _:=Zlq (c:=c+1+1+1+1+1) slA qO hok hn hx qO
     have B1:=fun j hj=>Zc2 A (c+1+1+1+1+1) s x0 (.int .i64 (2:Nat)) (j:=j) hj
     obtain ⟨B,hB⟩:∃ B,newB (newB (newB A (256*(c+1+1+1+1+1)) [s]) (256*(c+1+1+1+1+1)+1) (ints x0)) (256*(c+1+1+1+1+1)+2) [.int .i64 (2:Nat)]=B:=⟨_,rfl⟩
     have hB':newB (newB (newB A (256*(c+1+1+1+1+1)) [s]) (256*(c+1+1+1+1+1)+1) (ints x0)) (256*(c+1+1+1+1+1)+2) [.int .i64 2]=B:=hB
     rw [hB'] at cw1
     rw [hB] at W1
     simp only [hB] at B1
     obtain ⟨⟨e1,Q,k1,d1⟩,hq1,y1,y2,y3,y4,y5⟩:=ZeN (rp:=rp) (tp:=tp) (ep:=ep) (fp:=fp) W1 qO qO qO qO qO qO qO qO qO qO qO qO
      (by rw [B1 _ qO,Af _ qO]; exact Mr) (by rw [B1 _ qO,Af _ qO]; exact Mt) (by rw [B1 _ qO,Af _ qO]; exact Me) ⟨false,none,by show B.f fp=_; rw [B1 _ qO]; exact Afp⟩ []
     dsimp only at y1 y2 y3 y4 y5
     subst y2
     have low1:∀ j,j<256*(c+1+1+1)->j ≠ rp->j ≠ tp->Q.f j=M.f j:=fun j hj q1 q2=>by rw [y4 j qO q1 q2,B1 j qO,Af j qO]
     rw [show [Value.int .i64 0,Value.int .i64 0,Value.int .i64 0,Value.int .i64 0,Value.int .i64 0]=z5 from rfl]
     obtain ⟨Z,hZ⟩:∃ Z,z5=Z:=⟨_,rfl⟩
     rcases y5 with ⟨rfl,z1,k,ov,z2,z3,z4⟩ | ⟨rfl,z1,m,ov,z2,z3,z4,z5'⟩
     · obtain ⟨Q',t1,t2⟩:=Z6w (df:=[256*(c+1+1+1+1+1+1+1)+1]) (h:=Q) (by simp) (fun d hd=>by simp only [List.mem_singleton] at hd; rw [hd]; exact y3)
       have t2':∀ j,j ≠ 256*(c+1+1+1+1+1+1+1)+1->Q'.f j=Q.f j:=fun j hj=>t2 j (by simpa using hj)
       have v1:=Z1B ((t2' rp qO).trans z3)
       have v2:=Z1B ((t2' tp qO).trans z1)
       have v3:=Z1B ((t2' ep qO).trans ((low1 ep qO qO qO).trans Me))
       rw [hZ] at b5 st ⊢
       have fx:=ai l0 (ai ck (ai g1 (ai len (ai l4 (ai cv (ai b5 (ai hfp (ai st (ai a0 (ai a5 (ai cw1 (ai hq1 (ai t1 (ai v1 (ai v2 v3)))))))))))))))
       refine Ans.go ?_
       clear fx
       refine .done ⟨ov,true,0,rfl,by dsimp only; omega,fun j hj=>?_,.inr (.inr ⟨hok,⟨by omega,by omega,h3⟩,rfl,.inl ⟨rfl,k, ?_, ?_⟩⟩)⟩
       · show Q'.f j=_
         rw [t2' j qO,low1 j qO qO qO]; exact sM j hj
       · rw [hx0]; exact z2
       · rw [hx0]
         refine Z5Z (c1:=c+1+1+1+1+1+1+1) (z4.keep fun hv=>t2' _ fun e=>?_) qO
         rcases z4 with ⟨q,_⟩ | ⟨_,_,_,_,i,rfl,_,_,q⟩
         · exact hv q
         · rw [blkOf_sl] at e
           rw [e,y3] at q; cases q
     · -- the walk meets a free face
       have hxQ:Q.f fp=some (.cells false none (ints x0)):=by rw [y4 fp qO qO qO,B1 fp qO]; exact Afp
       have qa:ldN Q 5 (.pointer (some ⟨fp,0,none⟩))=some (av x0):=Z0v hxQ (by rw [ints_length,hx5])
       obtain ⟨sp,hsp⟩:∃ b,256*k1+1=b:=⟨_,rfl⟩
       have st2:stN (newB Q sp z5) 5 (.pointer (some ⟨sp,0,none⟩)) (av x0)=some (newB Q sp (ints x0)):=stN_all _ _ 5 _ _ hx5 rfl
       obtain ⟨A2,hA2⟩:∃ A,newB Q sp (ints x0)=A:=⟨_,rfl⟩
       rw [hA2] at st2
       have A2f:∀ j,j ≠ sp->A2.f j=Q.f j:=fun j hj=>by rw [← hA2,Z01,if_neg hj]
       have A2s:A2.f sp=some (.cells false none (ints x0)):=by rw [← hA2,Z01,if_pos rfl]
       have Qg:Q.f g0=some (.cells false none [s]):=(low1 g0 qO qO qO).trans Mg
       have q0:ldN A2 1 (.pointer (some ⟨g0,0,none⟩))=some (.agg #[s]):=Z0O (cs:=[]) ⟨false,none,(A2f g0 qO).trans Qg⟩
       have q5:ldN A2 5 (.pointer (some ⟨fp,0,none⟩))=some (av x0):=Z0v ((A2f fp qO).trans hxQ) (by rw [ints_length,hx5])
       have slA2:SlI A2 c s 20 n Gl:=slM.same fun j hj=>(A2f j qO).trans (low1 j qO qO qO)
       have cw2:=Z7q s x0 3 A2 (k1+1+1) hsf
       have W2:WC s n Gl x0 3 _ _ _ c (k1+1+1+1+1) _:=Zlq (c:=k1+1+1) slA2 qO hok hn hx qO
       have B2:=fun j hj=>Zc2 A2 (k1+1+1) s x0 (.int .i64 (3:Nat)) (j:=j) hj
       obtain ⟨C,hC⟩:∃ B,newB (newB (newB A2 (256*(k1+1+1)) [s]) (256*(k1+1+1)+1) (ints x0)) (256*(k1+1+1)+2) [.int .i64 (3:Nat)]=B:=⟨_,rfl⟩
       have hC':newB (newB (newB A2 (256*(k1+1+1)) [s]) (256*(k1+1+1)+1) (ints x0)) (256*(k1+1+1)+2) [.int .i64 3]=C:=hC
       rw [hC'] at cw2
       rw [hC] at W2
       simp only [hC] at B2
       obtain ⟨m3,m31,m32⟩:=ZgX (f:=wN Gl 2) (b:=wN Gl 3) (S:=WOk n) (cd:=wCd) (N:=256*n) (Z1M hok hs.1 qO) (Z1M hok hs.1 qO) Z7r Z4M (Z4e hok hs.1 (lab:=2) (lab':=3) qO qO rfl) (Z4e hok hs.1 (lab:=3) (lab':=2) qO qO rfl) hx z2
       obtain ⟨⟨e2,Q2,k2,d2⟩,hq2,i,y,rfl,x2,rfl,x4,x5,x6,x7,x8⟩:=ZeO (sp:=sp) W2 qO qO qO qO qO ((B2 sp qO).trans A2s) m32 [256*(c+1+1+1+1+1+1+1)+1]
       dsimp only at x2 x4 x5 x8
       have hy:WOk n y:=Z5t (S:=WOk n) (Z1M hok hs.1 qO) hx x6
       have hy5:=hy.l
       have low2:∀ j,j<256*k1->j ≠ sp->Q2.f j=Q.f j:=fun j hj q1=>by rw [x5 j qO q1,B2 j qO,A2f j q1]
       have Q2r:Q2.f rp=some (.cells false none [ov]):=(low2 rp qO qO).trans z3
       have st3:=Zgk (v:=.slice none 0 0) Q2r rfl rfl
       obtain ⟨D,hD⟩:∃ D,newB Q2 rp [.slice none 0 0]=D:=⟨_,rfl⟩
       rw [hD] at st3
       have Df:∀ j,j ≠ rp->D.f j=Q2.f j:=fun j hj=>by rw [← hD,Z01,if_neg hj]
       have Dr:D.f rp=some (.cells false none [.slice none 0 0]):=by rw [← hD,Z01,if_pos rfl]
       have D1:∀ j,j<256*(c+1+1+1)->j ≠ rp->j ≠ tp->D.f j=M.f j:=fun j hj q1 q2=>by rw [Df j q1,low2 j qO qO,low1 j hj q1 q2]
       have u0:ldN D 1 (.pointer (some ⟨g0,0,none⟩))=some (.agg #[s]):=Z0O (cs:=[]) ⟨false,none,(D1 g0 qO qO qO).trans Mg⟩
       have u5:ldN D 5 (.pointer (some ⟨sp,0,none⟩))=some (av y):=Z0v ((Df sp qO).trans x8) (by rw [ints_length,hy5])
       have slD:SlI D c s 20 n Gl:=slM.same fun j hj=>D1 j qO qO qO
       have cw3:=Z7q s y 2 D (k2+1+1) hsf
       have W3:WC s n Gl y 2 _ _ _ c (k2+1+1+1+1) _:=Zlq (c:=k2+1+1) slD qO hok hn hy qO
       have B3:=fun j hj=>Zc2 D (k2+1+1) s y (.int .i64 (2:Nat)) (j:=j) hj
       obtain ⟨F,hF⟩:∃ B,newB (newB (newB D (256*(k2+1+1)) [s]) (256*(k2+1+1)+1) (ints y)) (256*(k2+1+1)+2) [.int .i64 (2:Nat)]=B:=⟨_,rfl⟩
       have hF':newB (newB (newB D (256*(k2+1+1)) [s]) (256*(k2+1+1)+1) (ints y)) (256*(k2+1+1)+2) [.int .i64 2]=F:=hF
       rw [hF'] at cw3
       rw [hF] at W3
       simp only [hF] at B3
       have y3n:wN Gl 3 y=none:=by
        have:=x7
        rw [it,x6] at this; exact this
       obtain ⟨m4,m41,m42⟩:=Zat (f:=wN Gl 2) (S:=WOk n) (cd:=wCd) (N:=256*n) (Z1M hok hs.1 qO) Z7r Z4M (Z98 hok hs.1 qO) hy (fun a ha e=>by
        have:=Z4e hok hs.1 (lab:=2) (lab':=3) qO qO rfl a y ha e
        rw [y3n] at this; cases this)
       obtain ⟨⟨e3,Q3,k3,d3⟩,hq3,k,x,ow,rfl,j2,rfl,j4,j5,j6,j7,j8,j9⟩:=Zgy (rp:=rp) W3 qO qO qO qO qO ((B3 rp qO).trans Dr) m42 qO [256*(k1+1+1+1+1)+1,256*(c+1+1+1+1+1+1+1)+1]
       dsimp only at j2 j4 j5 j8 j9
       have low3:∀ j,j<256*k2->j ≠ rp->Q3.f j=Q2.f j:=fun j hj q1=>by rw [j5 j qO q1,B3 j qO,Df j q1]
       have v0:=Z1B j8
       have v1:=Z83 j8 j9.flat.2 j9.flat.1
       have Q3t:Q3.f tp=some (.cells false none [.bool false]):=by rw [low3 tp qO qO,low2 tp qO qO]; exact z1
       have v2:=Z83 Q3t rfl rfl
       have Q3e:Q3.f ep=some (.cells false none [.int .i64 0]):=by rw [low3 ep qO qO,low2 ep qO qO,low1 ep qO qO qO]; exact Me
       have v3:=Z83 Q3e rfl rfl
       obtain ⟨Q',t1,t2⟩:=Z6w (df:=[256*(k2+1+1+1+1)+1,256*(k1+1+1+1+1)+1,256*(c+1+1+1+1+1+1+1)+1]) (h:=Q3) (by simp; omega) (fun d hd=>by
        simp only [List.mem_cons,List.not_mem_nil,or_false] at hd
        rcases hd with rfl | rfl | rfl
        · exact j4
        · exact (low3 (256*(k1+1+1+1+1)+1) qO qO).trans x4
        · exact ((low3 (256*(c+1+1+1+1+1+1+1)+1) qO qO).trans (low2 (256*(c+1+1+1+1+1+1+1)+1) qO qO)).trans y3)
       have t2':∀ j,j<256*(c+1+1+1)->Q'.f j=Q3.f j:=fun j hj=>t2 j (by simp; omega)
       have v4:=Z1B ((t2' rp qO).trans j8)
       have v5:=Z1B ((t2' tp qO).trans Q3t)
       have v6:=Z1B ((t2' ep qO).trans Q3e)
       rw [hZ] at b5 st st2 ⊢
       have fx:=ai l0 (ai ck (ai g1 (ai len (ai l4 (ai cv (ai b5 (ai hfp (ai st (ai a0 (ai a5 (ai cw1 (ai hq1 (ai qa (ai hsp (ai st2 (ai q0 (ai q5 (ai cw2 (ai hq2 (ai st3 (ai u0 (ai u5 (ai cw3 (ai hq3 (ai v0 (ai v1 (ai v2 (ai v3 (ai t1 (ai v4 (ai v5 v6)))))))))))))))))))))))))))))))
       refine Ans.go ?_
       clear fx
       refine .done ⟨ow,false,0,rfl,by dsimp only; omega,fun j hj=>?_,.inr (.inr ⟨hok,⟨by omega,by omega,h3⟩,rfl,.inr ⟨rfl,y,k, ?_, ?_⟩⟩)⟩
       · show Q'.f j=_
         rw [t2' j qO,low3 j qO qO,low2 j qO qO,low1 j qO qO qO]; exact sM j hj
       · rw [hx0]; exact ⟨⟨m,z2⟩,⟨i,x6,x7⟩,x,j6,j7⟩
       · refine Z5Z (c1:=k2+1+1+1+1) ((j9.mono (show k3<=k3+1 by omega)).keep fun hv=>t2 _ ?_) qO
         have hb:=(j9.blk hv).1
         rcases j9 with ⟨q,_⟩ | ⟨_,_,_,_,i,rfl,_,_,q⟩
         · exact absurd q hv
         · rw [blkOf_sl] at hb ⊢
           simp only [List.mem_cons,List.not_mem_nil,or_false,not_or]
           refine ⟨fun e=>?_,by omega,by omega⟩
           rw [e,j4] at q; cases q
   · have cv':Z0y p=false:=by simpa using h3
     rw [cv'] at cv
     have fx:=ai l0 (ai ck (ai g1 (ai len (ai l4 (ai cv (ai w1 (ai w2 (ai f1 (ai f2 (ai f3 f4))))))))))
     refine Ans.go ?_
     clear fx
     exact .done ⟨_,false,1,rfl,by dsimp only; omega,f5,.inr (.inl ⟨hok,fun z=>h3 z.2.2,rfl,rfl,rfl⟩)⟩
 · rw [if_neg (fun z=>hok z.2)] at ck
   obtain ⟨E1,f1,f2,f3,f4,f5⟩:=fail (c+1+1+1) 7 qO
   have fx:=ai l0 (ai ck (ai w1 (ai w2 (ai f1 (ai f2 (ai f3 f4))))))
   refine Ans.go ?_
   clear fx
   exact .done ⟨_,false,7,rfl,by dsimp only; omega,f5,.inl ⟨by simpa using hok,rfl,rfl,rfl⟩⟩

theorem Zl7 {α:Type} {f:α->Option α} {s x:α} {a:Nat} (h:it f s a=some x):∀ b,it f s (a+b)=it f x b
 | 0=>h
 | b+1=>by rw [← Nat.add_assoc,it,it,Zl7 h b]
theorem ZgW {α:Type} {f:α->Option α} {s:α} {k:Nat} (hk:1<=k) (h:it f s k=some s):∀ m,it f s m ≠ none:=by
 intro m
 induction m using Nat.strongRecOn with
 | ind m ih =>
  intro e
  rcases Nat.lt_or_ge m k with q | q
  · have:=ZgU h (Nat.le_of_lt q)
    rw [e] at this; cases this
  · have:=Zl7 h (m-k)
    rw [show k+(m-k)=m by omega,e] at this
    exact ih (m-k) qO this.symm
def RgB (c0:Nat) (h:FH) (c:Nat) (ov:Value) (cl:Bool) (e t:Int) (p:List Int) (n:Nat) (Gl:List Int):Prop :=
 (Z0A Gl n=false/\ov = .slice none 0 0/\cl=false/\e=7) ∨ (Z0A Gl n=true /\ ¬ (0<=t/\t<n/\Z0y p=true)/\ov = .slice none 0 0/\cl=false/\e=1) ∨
 (Z0A Gl n=true/\(0<=t/\t<n/\Z0y p=true)/\e=0/\((cl=true /\ ∃ k,RgC Gl (t::p) 2 k/\GrA c0 h c ov 5 k (ints (rgL Gl 2 (t::p) k))) ∨ (cl=false /\ ∃ y k,RgO Gl (t::p) y k/\GrA c0 h c ov 5 (k+1) (ints (rgL Gl 2 y (k+1))))))
theorem Ze2 {c0 c1:Nat} {h:FH} {c:Nat} {v:Value} {sz n:Nat} {L:List Value} (ha:GrA c1 h c v sz n L) (hc:c0<=c1):GrA c0 h c v sz n L:=by
 obtain ⟨a,b,d,x,i,op,e,f,g,k⟩:=ha
 exact ⟨a,b,d,x,i,op,e,by omega,g,k⟩
set_option maxHeartbeats 2000000 in
theorem ZkZ (s:Value) (n:Nat) (Gl:List Int) (t:Int) (p:List Int) (hp:p.length=4) (h:FH) (c:Nat) (df:List Nat) (hs:SlI h c s 20 n Gl) (hn:n<=60) :
 Ans (G (.fn 33) [.agg #[s],.int .i64 t,av p] h c df) fun r=>∃ ov cl e,r=⟨.ret,[.tuple #[ov,.bool cl,.int .i64 e]],r.h,r.c,[]⟩/\c<=r.c/\Z0q c h r.h/\RgB c r.h r.c ov cl e t p n Gl:=by
 refine Ans.call' (fun r e=>f33_go e) ?_
 have Z4X:((Value.agg #[s]).cells.toList.all Z06)=true:=by simp [Value.cells,hs.flat]
 have Z52:(Value.agg #[s]).cells.toList=[s]:=rfl
 have flat2:((av p).cells.toList.all Z06)=true:=by simp
 unfold ZmS
 rw [Z4X,flat2,Z52,Z1s]
 simp only [cond_true,Nat.add_zero]
 obtain ⟨g0,hg0⟩:∃ b,256*c=b:=⟨_,rfl⟩
 obtain ⟨p0,hp0⟩:∃ b,256*c+1=b:=⟨_,rfl⟩
 rw [hp0,hg0,show [Value.int .i64 0,Value.int .i64 0,Value.int .i64 0,Value.int .i64 0,Value.int .i64 0]=z5 from rfl]
 obtain ⟨M,hM⟩:∃ M,newB (newB h g0 [s]) p0 (ints p)=M:=⟨_,rfl⟩
 rw [hM]
 have Mf:∀ j,M.f j=if j=p0 then some (.cells false none (ints p)) else if j=g0 then some (.cells false none [s]) else h.f j:=fun j=>by rw [← hM,Z01,Z01]
 have sM:Z0q c h M:=fun j hj=>by rw [Mf,if_neg qO,if_neg qO]
 have Mg:M.f g0=some (.cells false none [s]):=by rw [Mf,if_neg qO,if_pos rfl]
 have Mp:M.f p0=some (.cells false none (ints p)):=by rw [Mf,if_pos rfl]
 have slM:SlI M c s 20 n Gl:=hs.same sM
 have l0:ldN M 1 (.pointer (some ⟨g0,0,none⟩))=some (.agg #[s]):=Z0O (cs:=[]) ⟨false,none,Mg⟩
 have g1:=Z1B Mg
 have len:=hs.len
 have l4:ldN M 4 (.pointer (some ⟨p0,0,none⟩))=some (av p):=Z0v Mp (by rw [ints_length,hp])
 have ck:=Z0b (ZbP s n Gl M (c+1+1) [] (slM.mono qO))
 have cv:=Z0L p hp M (c+1+1+1+1)
 by_cases hok:Z0A Gl n=true
 · rw [if_pos ⟨by omega,hok⟩] at ck
   by_cases h1:t<0
   · have fx:=ai l0 ck
     refine Ans.go ?_
     clear fx
     exact .done ⟨_,false,1,rfl,by dsimp only; omega,sM,.inr (.inl ⟨hok,by omega,rfl,rfl,rfl⟩)⟩
   by_cases h2:(n:Int)<=t
   · have fx:=ai l0 (ai ck (ai g1 len))
     refine Ans.go ?_
     clear fx
     exact .done ⟨_,false,1,rfl,by dsimp only; omega,sM,.inr (.inl ⟨hok,by omega,rfl,rfl,rfl⟩)⟩
   by_cases h3:Z0y p=true
   · rw [h3] at cv
     have hp24:=Zao hp h3
     obtain ⟨u,rfl⟩:∃ u:Nat,t=u:=⟨t.toNat,by omega⟩
     have hx:WOk n ((u:Int)::p):=WOk.mk' qO hp24
     obtain ⟨x0,hx0⟩:∃ x,(u:Int)::p=x:=⟨_,rfl⟩
     have b5:Z1d z5 [(0,1,.int .i64 u),(1,4,av p)]=some (av x0):=by
      rw [← hx0]
      match p,hp with
      | [a,b,d,e],_=>rfl
     rw [hx0] at hx
     have hx5:=hx.l
     obtain ⟨fp,hfp⟩:∃ b,256*(c+1+1+1+1)+3=b:=⟨_,rfl⟩
     have st:stN (newB M fp z5) 5 (.pointer (some ⟨fp,0,none⟩)) (av x0)=some (newB M fp (ints x0)):=stN_all _ _ 5 _ _ hx5 rfl
     obtain ⟨A,hA⟩:∃ A,newB M fp (ints x0)=A:=⟨_,rfl⟩
     rw [hA] at st
     have Af:∀ j,j ≠ fp->A.f j=M.f j:=fun j hj=>by rw [← hA,Z01,if_neg hj]
     have Afp:A.f fp=some (.cells false none (ints x0)):=by rw [← hA,Z01,if_pos rfl]
     have a5:ldN A 5 (.pointer (some ⟨fp,0,none⟩))=some (av x0):=Z0v Afp (by rw [ints_length,hx5])
     have bl:=Z53 z5 x0 5 rfl hx5
     obtain ⟨qb,hqb⟩:∃ b,256*(c+1+1+1+1+1)+1=b:=⟨_,rfl⟩
     obtain ⟨B,hB⟩:∃ B,newB A qb (ints x0)=B:=⟨_,rfl⟩
     have Bf:∀ j,j ≠ qb->B.f j=A.f j:=fun j hj=>by rw [← hB,Z01,if_neg hj]
     have Bq:B.f qb=some (.cells false none (ints x0)):=by rw [← hB,Z01,if_pos rfl]
     have Blow:∀ j,j<256*(c+1+1+1+1)->B.f j=M.f j:=fun j hj=>by rw [Bf j qO,Af j qO]
     have e0:RE s n Gl x0 g0 fp (c+1+1+1+1+1) c B:=⟨by rw [Blow _ qO]; exact Mg,by rw [Bf _ qO]; exact Afp,slM.same fun j hj=>Blow j qO,hok,hn,hx,by omega,by omega,by omega⟩
     have gA:GrA (c+1+1+1+1+1) B (c+1+1+1+1+1+1) (.slice (some ⟨qb,0,none⟩) (0+1) (0+1)) 5 (0+1) (ints (rgL Gl 2 x0 (0+1))):=by
      refine ⟨by omega, ?_,by omega,Z0p _,qb,none,rfl,by omega,by omega, ?_,.inl rfl⟩
      · rw [ints_length,Z2r (k:=0) (x:=x0) rfl]; show ([]++x0).length=_; rw [List.nil_append,hx5]
      · rw [Z2r (k:=0) (x:=x0) rfl]; rw [show rgL Gl 2 x0 0++x0=x0 from rfl]; exact Bq
     have hend:=ZbE (f:=wN Gl 2) (S:=WOk n) (cd:=wCd) (N:=256*n) (s:=x0) (Z1M hok hs.1 qO) Z7r Z4M (Z98 hok hs.1 qO) hx
     have fuel:∀ k x,it (wN Gl 2) x0 k=some x->(∀ j,1<=j->j<=k->it (wN Gl 2) x0 j ≠ some x0)->k<256*n+1:=fun k x hx hj=>by
      rcases hend with ⟨m,m1,m2⟩ | ⟨m,m1,m2,m3⟩
      · have:=Z8t hx m2; omega
      · rcases Nat.lt_or_ge k m with q | q
        · omega
        · exact absurd m3 (hj m m1 q)
     obtain ⟨⟨e1,vs1,Q,k1,d1⟩,hq1,z1,z2,z3,z4⟩:=ZlB s n Gl x0 g0 fp (c+1+1+1+1+1) c (256*n+1) B e0 qO fuel [] (256*n+1) 0 (c+1+1+1+1+1+1) x0 _ B qO qO rfl (fun j j1 j2=>by omega) (Z0q.refl _ _) gA
     dsimp only at z1 z2 z3 z4
     subst z1
     simp only [Nat.zero_add] at hq1
     have Qlow:∀ j,j<256*(c+1+1+1+1)->Q.f j=M.f j:=fun j hj=>by rw [z3 j qO,Blow j hj]
     have tk:∀ h:FH,Z07 h []=some h:=fun _=>rfl
     obtain ⟨Z,hZ⟩:∃ Z,z5=Z:=⟨_,rfl⟩
     rcases z4 with ⟨rfl,⟨ov',rfl⟩,m,hm⟩ | ⟨rfl,ov',k,rfl,rc,gr⟩
     · have eQ:=e0.keep z3
       have qa:ldN Q 5 (.pointer (some ⟨fp,0,none⟩))=some (av x0):=Z0v eQ.f (by rw [ints_length,hx5])
       obtain ⟨fb,hfb⟩:∃ b,256*k1+1=b:=⟨_,rfl⟩
       have st2:stN (newB Q fb z5) 5 (.pointer (some ⟨fb,0,none⟩)) (av x0)=some (newB Q fb (ints x0)):=stN_all _ _ 5 _ _ hx5 rfl
       obtain ⟨A2,hA2⟩:∃ A,newB Q fb (ints x0)=A:=⟨_,rfl⟩
       rw [hA2] at st2
       have A2f:∀ j,j ≠ fb->A2.f j=Q.f j:=fun j hj=>by rw [← hA2,Z01,if_neg hj]
       have A2s:A2.f fb=some (.cells false none (ints x0)):=by rw [← hA2,Z01,if_pos rfl]
       have sA2:Z0q (c+1+1+1+1+1) B A2:=fun j hj=>by rw [A2f j qO]; exact z3 j hj
       have eA2:=e0.keep sA2
       have q0:ldN A2 1 (.pointer (some ⟨g0,0,none⟩))=some (.agg #[s]):=Z0O (cs:=[]) ⟨false,none,eA2.g⟩
       have q5:ldN A2 5 (.pointer (some ⟨fb,0,none⟩))=some (av x0):=Z0v A2s (by rw [ints_length,hx5])
       have cn:=Z3B s n Gl x0 3 hx qO hok A2 (k1+1+1) (eA2.sl.mono qO)
       simp only [Int.ofNat_eq_natCast,Int.cast_ofNat_Int] at cn
       have xv0:∀ a b:Value,Z1m (.tuple #[a,b]) 0=some a:=fun _ _=>rfl
       have xv1:∀ a b:Value,Z1m (.tuple #[a,b]) 1=some b:=fun _ _=>rfl
       have hz5:∀ lab z,lab<4->WOk n z->((wN Gl lab z).getD zr5).length=5:=fun lab z hl hz=>by
        cases hq:wN Gl lab z with
        | none=>rfl
        | some y=>exact (Z1M hok hs.1 hl _ _ hz hq).l
       obtain ⟨xb,hxb⟩:∃ b,256*(k1+1)+6=b:=⟨_,rfl⟩
       obtain ⟨V,hV⟩:∃ V,(wN Gl 3 x0).getD zr5=V:=⟨_,rfl⟩
       have hV5:=hz5 3 x0 qO hx
       rw [hV] at hV5
       have st3:stN (newB A2 xb z5) 5 (.pointer (some ⟨xb,0,none⟩)) (av V)=some (newB A2 xb (ints V)):=stN_all _ _ 5 _ _ hV5 rfl
       obtain ⟨A3,hA3⟩:∃ A,newB A2 xb (ints V)=A:=⟨_,rfl⟩
       rw [hA3] at st3
       have A3f:∀ j,j ≠ xb->A3.f j=A2.f j:=fun j hj=>by rw [← hA3,Z01,if_neg hj]
       have sA3:Z0q (c+1+1+1+1+1) B A3:=fun j hj=>by rw [A3f j qO]; exact sA2 j hj
       obtain ⟨m3,m31,m32⟩:=ZgX (f:=wN Gl 2) (b:=wN Gl 3) (S:=WOk n) (cd:=wCd) (N:=256*n) (Z1M hok hs.1 qO) (Z1M hok hs.1 qO) Z7r Z4M (Z4e hok hs.1 (lab:=2) (lab':=3) qO qO rfl) (Z4e hok hs.1 (lab:=3) (lab':=2) qO qO rfl) hx hm
       obtain ⟨⟨e2,vs2,Q2,k2,d2⟩,hq2,y1,y2,y3,y4,⟨xb2,y5⟩,i,y,y6,y7,y8⟩:=ZlC s n Gl x0 g0 fp (c+1+1+1+1+1) c B e0 m32 fb qO [] m3 0 (k1+1+1) xb x0 A3 qO qO qO rfl sA3 (by rw [A3f _ qO]; exact A2s) qO qO qO (by rw [hV,← hA3,Z01,if_pos rfl])
       dsimp only at y1 y2 y3 y4 y5 y8
       subst y1 y4 y5
       have hy:WOk n y:=Z5t (S:=WOk n) (Z1M hok hs.1 qO) hx y6
       have hy5:=hy.l
       have u5:ldN Q2 5 (.pointer (some ⟨fb,0,none⟩))=some (av y):=Z0v y8 (by rw [ints_length,hy5])
       have bl2:=Z53 z5 y 5 rfl hy5
       obtain ⟨rb,hrb⟩:∃ b,256*k2+1=b:=⟨_,rfl⟩
       obtain ⟨D,hD⟩:∃ B,newB Q2 rb (ints y)=B:=⟨_,rfl⟩
       have Df:∀ j,j ≠ rb->D.f j=Q2.f j:=fun j hj=>by rw [← hD,Z01,if_neg hj]
       have sD:Z0q (c+1+1+1+1+1) B D:=fun j hj=>by rw [Df j qO]; exact y3 j hj
       have eD:=e0.keep sD
       have d0:ldN D 1 (.pointer (some ⟨g0,0,none⟩))=some (.agg #[s]):=Z0O (cs:=[]) ⟨false,none,eD.g⟩
       have d5:ldN D 5 (.pointer (some ⟨fb,0,none⟩))=some (av y):=Z0v ((Df fb qO).trans y8) (by rw [ints_length,hy5])
       have cn2:=Z3B s n Gl y 2 hy qO hok D (k2+1+1) (eD.sl.mono qO)
       simp only [Int.ofNat_eq_natCast,Int.cast_ofNat_Int] at cn2
       obtain ⟨vb,hvb⟩:∃ b,256*(k2+1)+6=b:=⟨_,rfl⟩
       obtain ⟨V2,hV2⟩:∃ V,(wN Gl 2 y).getD zr5=V:=⟨_,rfl⟩
       have hV25:=hz5 2 y qO hy
       rw [hV2] at hV25
       have st4:stN (newB D vb z5) 5 (.pointer (some ⟨vb,0,none⟩)) (av V2)=some (newB D vb (ints V2)):=stN_all _ _ 5 _ _ hV25 rfl
       obtain ⟨E,hE⟩:∃ A,newB D vb (ints V2)=A:=⟨_,rfl⟩
       rw [hE] at st4
       have Ef:∀ j,j ≠ vb->E.f j=D.f j:=fun j hj=>by rw [← hE,Z01,if_neg hj]
       have sE:Z0q (c+1+1+1+1+1) B E:=fun j hj=>by rw [Ef j qO]; exact sD j hj
       have y3n:wN Gl 3 y=none:=by
        have:=y7
        rw [it,y6] at this; exact this
       obtain ⟨m4,m41,m42⟩:=Zat (f:=wN Gl 2) (S:=WOk n) (cd:=wCd) (N:=256*n) (Z1M hok hs.1 qO) Z7r Z4M (Z98 hok hs.1 qO) hy (fun a ha e=>by
        have:=Z4e hok hs.1 (lab:=2) (lab':=3) qO qO rfl a y ha e
        rw [y3n] at this; cases this)
       have e0':RE s n Gl y g0 fb (k2) c E:=⟨by rw [sE _ qO]; exact e0.g,by rw [Ef _ qO,Df _ qO]; exact y8,e0.sl.same (sE.mono qO),hok,hn,hy,by omega,by omega,by omega⟩
       have gE:GrA k2 E (k2+1+1) (.slice (some ⟨rb,0,none⟩) (0+1) (0+1)) 5 (0+1) (ints (rgL Gl 2 y (0+1))):=by
        refine ⟨by omega, ?_,by omega,Z0p _,rb,none,rfl,by omega,by omega, ?_,.inl rfl⟩
        · rw [ints_length,Z2r (k:=0) (x:=y) rfl]; show ([]++y).length=_; rw [List.nil_append,hy5]
        · rw [Z2r (k:=0) (x:=y) rfl]; rw [show rgL Gl 2 y 0++y=y from rfl,Ef _ qO,← hD,Z01,if_pos rfl]
       obtain ⟨⟨e3,vs3,Q3,k3,d3⟩,hq3,w1,w2,w3,w4,xb3,ow,k,x,w5,w6,w7,w8⟩:=rr_fwd s n Gl y g0 fb k2 c E e0' m42 qO [] m4 0 (k2+1+1) vb y _ E qO qO rfl (Z0q.refl _ _) gE qO (by rw [blkOf_sl]; omega) qO (by rw [hV2,← hE,Z01,if_pos rfl])
       dsimp only at w1 w2 w3 w4 w5 w8
       subst w1 w4 w5
       simp only [Nat.zero_add] at hq3
       rw [hV] at cn
       rw [hV2] at cn2
       obtain ⟨B3,hB3⟩:∃ V,(wN Gl 3 x0).isSome=V:=⟨_,rfl⟩
       obtain ⟨B2,hB2⟩:∃ V,(wN Gl 2 y).isSome=V:=⟨_,rfl⟩
       rw [hB3] at cn hq2
       rw [hB2] at cn2 hq3
       rw [hZ] at b5 st st2 st3 st4 bl bl2 ⊢
       obtain ⟨I0,hI0⟩:∃ Y,ints x0=Y:=⟨_,rfl⟩
       obtain ⟨I1,hI1⟩:∃ Y,ints y=Y:=⟨_,rfl⟩
       rw [hI0] at bl hB
       rw [hI1] at bl2 hD
       have fx:=ai l0 (ai ck (ai g1 (ai len (ai l4 (ai cv (ai b5 (ai hfp (ai st (ai a5 (ai bl (ai hqb (ai hB (ai hq1 (ai qa (ai hfb (ai st2 (ai q0 (ai q5 (ai cn (ai xv0 (ai xv1 (ai hxb (ai st3 (ai hq2 (ai u5 (ai bl2 (ai hrb (ai hD (ai d0 (ai d5 (ai cn2 (ai hvb (ai st4 (ai hq3 tk))))))))))))))))))))))))))))))))))
       refine Ans.go ?_
       clear fx
       refine .done ⟨ow,false,0,rfl,by dsimp only; omega,fun j hj=>?_,.inr (.inr ⟨hok,⟨by omega,by omega,h3⟩,rfl,.inr ⟨rfl,y,k, ?_, ?_⟩⟩)⟩
       · show Q3.f j=_
         rw [w3 j qO,sE j qO,Blow j qO]; exact sM j hj
       · rw [hx0]; exact ⟨⟨m,hm⟩,⟨i,y6,y7⟩,x,w6,w7⟩
       · exact Ze2 (w8.mono (show k3<=k3+1 by omega)) qO
     · rw [hZ] at b5 st bl ⊢
       obtain ⟨I0,hI0⟩:∃ Y,ints x0=Y:=⟨_,rfl⟩
       rw [hI0] at bl hB
       have fx:=ai l0 (ai ck (ai g1 (ai len (ai l4 (ai cv (ai b5 (ai hfp (ai st (ai a5 (ai bl (ai hqb (ai hB (ai hq1 tk)))))))))))))
       refine Ans.go ?_
       clear fx
       refine .done ⟨ov',true,0,rfl,by dsimp only; omega,fun j hj=>?_,.inr (.inr ⟨hok,⟨by omega,by omega,h3⟩,rfl,.inl ⟨rfl,k+1, ?_, ?_⟩⟩)⟩
       · show Q.f j=_
         rw [Qlow j qO]; exact sM j hj
       · rw [hx0]; exact rc
       · rw [hx0]; exact Ze2 gr qO
   · have cv':Z0y p=false:=by simpa using h3
     rw [cv'] at cv
     have fx:=ai l0 (ai ck (ai g1 (ai len (ai l4 cv))))
     refine Ans.go ?_
     clear fx
     exact .done ⟨_,false,1,rfl,by dsimp only; omega,sM,.inr (.inl ⟨hok,fun z=>h3 z.2.2,rfl,rfl,rfl⟩)⟩
 · rw [if_neg (fun z=>hok z.2)] at ck
   have fx:=ai l0 ck
   refine Ans.go ?_
   clear fx
   exact .done ⟨_,false,7,rfl,by dsimp only; omega,sM,.inl ⟨by simpa using hok,rfl,rfl,rfl⟩⟩
end Go.Proofs.Ytdodippbpdechaa

namespace Go.Ab
open Go
def cl (C:List Int) (x:Nat):Nat:=Z3J C (Z0a C x)
section
variable {C:List Int} {m:Nat} (hd:Z3H C m)
 include hd
theorem Zn7 {r:Nat} (hr:r<m) (e:Z0a C r=r):cl C r=Z3J C r:=by unfold cl; rw [e]
theorem Zn6 {v:Nat} (hv:v<Z3J C m):∃ r,r<m/\Z0a C r=r/\cl C r=v:=by
 have hl:v<(Z1Q C m).length:=hv
 have hm:=List.getElem_mem hl
 obtain ⟨k,h1,h2,h3⟩:=Zcm hm
 refine ⟨k,h2,h3, ?_⟩
 rw [Zn7 hd h2 h3]
 exact Z8x (m:=m) (by rw [List.getElem?_eq_getElem hl,h1])
end
theorem ZlN (C:List Int) {m k:Nat} (h:k<m):(Zal C m).getD k 0=(cl C k:Nat):=Z8i C h
structure GB (Gl:List Int) (n t f:Nat):Prop where
 u:fU Gl t f<n
 j:∀ i,i<4->fJ Gl t f i<4
 inj:∀ i k,i<4->k<4->fJ Gl t f i=fJ Gl t f k->i=k
 ne:¬ (fU Gl t f=t/\fJ Gl t f f=f)
 g:¬ Z0Q (Z03 Gl (fU Gl t f) (fJ Gl t f f))<0
 bu:fU Gl (fU Gl t f) (fJ Gl t f f)=t
 bj:∀ i,i<4->fJ Gl (fU Gl t f) (fJ Gl t f f) (fJ Gl t f i)=i
theorem Zct {Gl:List Int} {n t f:Nat} (hok:Z0A Gl n=true) (hG:Gl.length=n*20) (ht:t<n) (hf:f<4) (hg:¬ Z0Q (Z03 Gl t f)<0):GB Gl n t f:=by
 obtain ⟨k1,k2,k3,k4⟩:=Z2h (Z3Q hok ht hf) hg
 have hp:=Zao (Z1j (Z0h hG ht hf)) k2
 have hJ:∀ i,i<4->(Z0j (Z03 Gl t f)).getD i 0=(fJ Gl t f i:Nat)/\fJ Gl t f i<4:=fun i hi=>by
  have:=Z3u hp hi
  unfold fJ; omega
 have hfl:=hJ f hf
 have hU:Z0Q (Z03 Gl t f)=(fU Gl t f:Nat):=by unfold fU; omega
 have hb:Z03 Gl (fU Gl t f) (fJ Gl t f f)=(t:Int)::inv (Z0j (Z03 Gl t f)):=k4
 have h4:=Z4l (inv24 hp)
 have hp':Z0j ((t:Int)::inv (Z0j (Z03 Gl t f)))=inv (Z0j (Z03 Gl t f)):=by
  show (inv _).take 4=_
  exact List.take_of_length_le qO
 refine ⟨by omega,fun i hi=>(hJ i hi).2,fun i k hi hk e=>?_,fun ⟨e1,e2⟩=>k3 ⟨by omega,by omega⟩, ?_, ?_,fun i hi=>?_⟩
 · by_cases z:i=k
   · exact z
   · have:=ne24 hp hi hk z
     have:=hJ i hi
     have:=hJ k hk
     omega
 · rw [hb]
   show ¬ (t:Int)<0
   omega
 · rw [fU,hb]
   show ((t:Int)).toNat=t
   omega
 · rw [fJ,hb,hp']
   have e:(Z13 (inv (Z0j (Z03 Gl t f))) (Z0j (Z03 Gl t f))).getD i 0=[0,1,2,3].getD i (0:Int):=by rw [Ze0 hp]
   rw [Z5N (Z4l hp) hi,(hJ i hi).1,Int.toNat_natCast] at e
   rw [e]
   match i,hi with
   | 0,_=>rfl
   | 1,_=>rfl
   | 2,_=>rfl
   | 3,_=>rfl
section
variable {Gl:List Int} {n:Nat} {p:Nat × Nat}
theorem Z4k {α:Type} {c:Prop} [Decidable c] {x:α} {l:List α}:x ∈ (if c then [] else l) ↔ ¬ c/\x ∈ l:=by
 by_cases h:c
 · rw [if_pos h]; simp [h]
 · rw [if_neg h]; simp [h]
theorem mem_vP:p ∈ vP Gl n ↔ ∃ t f i,t<n/\f<4/\i<4 /\ ¬ Z0Q (Z03 Gl t f)<0/\i ≠ f/\p=(4*t+i,4*fU Gl t f+fJ Gl t f i):=by
 unfold vP vT vF vI
 constructor
 · intro h
   obtain ⟨t,ht,h⟩:=Z5K.1 h
   obtain ⟨f,hf,h⟩:=Z5K.1 h
   obtain ⟨h1,h⟩:=Z4k.1 h
   obtain ⟨i,hi,h⟩:=Z5K.1 h
   obtain ⟨h2,h3⟩:=Z4k.1 h
   exact ⟨t,f,i,ht,hf,hi,h1,h2,List.mem_singleton.1 h3⟩
 · rintro ⟨t,f,i,ht,hf,hi,h1,h2,rfl⟩
   exact Z5K.2 ⟨t,ht,Z5K.2 ⟨f,hf,Z4k.2 ⟨h1,Z5K.2 ⟨i,hi,Z4k.2 ⟨h2,by simp⟩⟩⟩⟩⟩
end
section
variable {Gl:List Int} {n:Nat} (hok:Z0A Gl n=true) (hG:Gl.length=n*20)
 include hok hG
theorem vP_lt:∀ p,p ∈ vP Gl n->p.1<4*n/\p.2<4*n:=fun p hp=>by
 obtain ⟨t,f,i,ht,hf,hi,hg,hif,rfl⟩:=mem_vP.1 hp
 have b:=Zct hok hG ht hf hg
 have:=b.u
 have:=b.j i hi
 exact ⟨by dsimp only; omega,by dsimp only; omega⟩
theorem Zd3:Z3H (vCs Gl n) (4*n):=(ZgT _ _ (Z4g _) (vP_lt hok hG)).1
end
end Go.Ab

namespace Go.Proofs.Ytdodippbpdechaa
open Go Go.Ab Go.Proofs
theorem Z4m (b m:Nat) (k:IntKind) (i:Nat) (h:i<m):ixS 1 (.slice (some ⟨b,0,none⟩) m m) (.int k (i:Int))=some (.pointer (some ⟨b,i,none⟩)):=by
 rw [ixS_sl 1 b 0 m m k (i:Int) qO qO,Nat.zero_add,Nat.mul_one,Int.toNat_natCast]
theorem Zde {h:FH} {b i:Nat} {L:List Int} (hf:h.f b=some (.cells false none (ints L))) (hi:i<L.length):ld1 h (.pointer (some ⟨b,i,none⟩))=some (.int .i64 (L.getD i 0)):=by
 rw [Z05 (cs:=ints L) ⟨false,none,hf⟩,ints_getD _ _ hi]
theorem Z7W {h:FH} {b i:Nat} {L:List Int} (hf:h.f b=some (.cells false none (ints L))) (hi:i<L.length) (x:Int):stN h 1 (.pointer (some ⟨b,i,none⟩)) (.int .i64 x)=some (newB h b (ints (L.set i x))):=by
 rw [Z3p (show HeapC.get h b=_ from hf) (by simpa using hi) rfl rfl,Z4n]
 rfl
theorem ZlP (h:FH) (b:Nat) (cs ds:List Value):newB (newB h b cs) b ds=newB h b ds:=by
 apply FH.ext; intro j
 rw [Z01,Z01,Z01]
 split <;> rfl
theorem Zbr (h0:FH) (b m c:Nat) (df:List Nat) (hb:b<256*c) (hm:m<=1000000) :
 ∀ (k i:Nat) (X:List Int),i+k=m->X.length=m->(∀ j,j<i->X.getD j 0=j) →
 Ans (G (Z9v none) [.slice (some ⟨b,0,none⟩) m m,.int .i64 m,.int .i64 i] (newB h0 b (ints X)) c df) fun r=>r=⟨.exit 0,[.slice (some ⟨b,0,none⟩) m m,.int .i64 m,.int .i64 m],newB h0 b (ints (Z0G m)),c,df⟩:=by
 intro k
 induction k with
 | zero =>
  intro i X hi hX hf
  obtain rfl:i=m:=by omega
  have e:X=Z0G i:=Z1u (m:=i) hX (by simp [Z0G]) fun j hj=>by rw [hf j hj,Z82 hj]
  rw [e]
  refine Ans.lpG rfl rfl (Z65 ..) ?_
  unfold Z6Q
  have fx:=True.intro
  refine Ans.go ?_
  clear fx
  (have fx:=hb; refine Ans.ex0 ?_; clear fx)
  rfl
 | succ k ih =>
  intro i X hi hX hf
  have ix:=Z4m b m .i64 i qO
  have hs:=Z7W (h:=newB h0 b (ints X)) (b:=b) (i:=i) (L:=X) (by rw [Z01,if_pos rfl]) qO i
  rw [ZlP] at hs
  refine Ans.lpG rfl rfl (Z65 ..) ?_
  unfold Z6Q
  have fx:=ai ix hs
  refine Ans.go ?_
  clear fx
  (have fx:=hb; refine Ans.nxB (B:=newB h0 b (ints (X.set i i))) ?_ ?_; exact (Z2n.both (Z1l.ints _ _) (Z2n.refl _ _) hb); clear fx)
  refine ih (i+1) (X.set i i) qO (by simp [hX]) (fun j hj=>?_)
  rw [Z17]
  by_cases e:i=j
  · rw [if_pos ⟨e,by omega⟩,e]
  · rw [if_neg (fun q=>e q.1)]; exact hf j qO
theorem ZeH (m:Nat) (h:FH) (c:Nat) (df:List Nat) (hm:m<=1000000) :
 G (.fn 80) [.int .i64 m] h c df=some ⟨.ret,[.slice (some ⟨256*(c+1)+1,0,none⟩) m m],newB h (256*(c+1)+1) (ints (Z0G m)),c+1+1+1+1,[]⟩:=by
 refine f80_go (Ans.eq ?_)
 unfold Zmq
 have mk:=Z8k 1 8 .i64 .i64 m qO qO
 obtain ⟨b,hb⟩:∃ b,256*(c+1)+1=b:=⟨_,rfl⟩
 rw [hb]
 have hl:=Ans.eq (Zbr h b m (c+1+1+1) [] qO hm m 0 (List.replicate m 0) qO (by simp) (fun j hj=>by omega))
 simp only [Int.ofNat_eq_natCast,Int.cast_ofNat_Int] at hl
 have fx:=ai mk hl
 refine Ans.go ?_
 clear fx
 exact .done rfl
theorem ZeJ (b m c:Nat) (h:FH) (L:List Int) (hd:Z3H L m) (hf:h.f b=some (.cells false none (ints L))) (hb:b<256*c) (hm:m<=1000000) (df:List Nat):∀ (k i:Nat),i<k->i<m →
 Ans (G (Z9q none) [.slice (some ⟨b,0,none⟩) m m,.int .i64 i] h c df) fun r=>r=⟨.exit 0,[.slice (some ⟨b,0,none⟩) m m,.int .i64 (Z0a L i)],h,c,df⟩:=by
 intro k
 have hl:=hd.1
 induction k with
 | zero=>intro i h1; omega
 | succ k ih =>
  intro i h1 hi
  have ix:=Z4m b m .i64 i hi
  have l1:=Zde hf (i:=i) qO
  have d:=hd.2 i hi
  refine Ans.lpG rfl rfl (ZaF ..) ?_
  unfold Z9r
  by_cases e:L.getD i 0=i
  · rw [Z0R e]
    rw [e] at l1
    have fx:=ai ix l1
    refine Ans.go ?_
    clear fx
    (have fx:=hb; refine Ans.ex0 ?_; clear fx)
    rfl
  · rw [Z0S hd hi e]
    obtain ⟨x,hx⟩:∃ x:Nat,L.getD i 0=x:=⟨(L.getD i 0).toNat,by omega⟩
    rw [hx] at l1 d e
    have hk:=ih x qO qO
    rw [hx,Int.toNat_natCast]
    have fx:=ai ix l1
    refine Ans.go ?_
    clear fx
    (have fx:=hb; refine Ans.nx0 ?_; clear fx)
    exact hk
theorem Zag (b m:Nat) (L:List Int) (hd:Z3H L m) (h:FH) (c:Nat) (df:List Nat) (hf:h.f b=some (.cells false none (ints L))) (hb:b<256*c) (hm:m<=1000000) (i:Nat) (hi:i<m) :
 G (.fn 87) [.slice (some ⟨b,0,none⟩) m m,.int .i64 i] h c df=some ⟨.ret,[.int .i64 (Z0a L i)],h,c,[]⟩:=by
 refine Z3E (fun r e=>f87_go e) (by simp) ?_
 unfold Zml
 have hl:=Ans.eq (ZeJ b m (c+1) h L hd hf qO hm [] (i+1) i qO hi)
 have fx:=hl
 refine Ans.go ?_
 clear fx
 (have fx:=True.intro; exact Ans.pu)
theorem Zcr (b m:Nat) (L:List Int) (hd:Z3H L m) (h:FH) (c:Nat) (df:List Nat) (hf:h.f b=some (.cells false none (ints L))) (hb:b<256*c) (hm:m<=1000000) (i j:Nat) (hi:i<m) (hj:j<m) :
 G (.fn 81) [.slice (some ⟨b,0,none⟩) m m,.int .i64 i,.int .i64 j] h c df=some ⟨.ret,[.tuple #[]],newB h b (ints (Z1o L i j)),c,[]⟩:=by
 have c1:=fun c' (hc:b<256*c')=>Z0b (Zag b m L hd h c' [] hf hc hm i hi)
 have c2:=fun c' (hc:b<256*c')=>Z0b (Zag b m L hd h c' [] hf hc hm j hj)
 have c1:=c1 (c+1) qO
 have c2:=c2 (c+1+1) qO
 have r1:=Z2d hd hi
 have r2:=Z2d hd hj
 have hl:=hd.1
 have hS:Zk2 G (.slice (some ⟨b,0,none⟩) m m) (.int .i64 i) (.int .i64 j) h c=some ⟨.ret,[.tuple #[]],newB h b (ints (Z1o L i j)),c+1+1+1+1,[]⟩:=by
  refine Ans.eq ?_
  unfold Zk2
  by_cases q:Z0a L i<Z0a L j
  · have ix:=Z4m b m .i64 (Z0a L j) qO
    have hw:=Z7W hf (i:=Z0a L j) qO (Z0a L i)
    have e:Z1o L i j=L.set (Z0a L j) (Z0a L i:Nat):=by
     unfold Z1o
     rw [Nat.max_eq_right qO,Nat.min_eq_left qO]
    rw [← e] at hw
    obtain ⟨K,hK⟩:∃ K,newB h b (ints (Z1o L i j))=K:=⟨_,rfl⟩
    rw [hK] at hw ⊢
    obtain ⟨A,hA⟩:∃ K,Z0a L i=K:=⟨_,rfl⟩
    obtain ⟨B,hB⟩:∃ K,Z0a L j=K:=⟨_,rfl⟩
    rw [hA] at c1 hw r1 q
    rw [hB] at c2 hw r2 q ix
    have q':(A:Int)<B:=by omega
    have fx:=ai c1 (ai c2 (ai ix hw))
    refine Ans.go ?_
    clear fx
    exact .done rfl
  · have ix:=Z4m b m .i64 (Z0a L i) qO
    have hw:=Z7W hf (i:=Z0a L i) qO (Z0a L j)
    have e:Z1o L i j=L.set (Z0a L i) (Z0a L j:Nat):=by
     unfold Z1o
     rw [Nat.max_eq_left qO,Nat.min_eq_right qO]
    rw [← e] at hw
    obtain ⟨K,hK⟩:∃ K,newB h b (ints (Z1o L i j))=K:=⟨_,rfl⟩
    rw [hK] at hw ⊢
    obtain ⟨A,hA⟩:∃ K,Z0a L i=K:=⟨_,rfl⟩
    obtain ⟨B,hB⟩:∃ K,Z0a L j=K:=⟨_,rfl⟩
    rw [hA] at c1 hw r1 q ix
    rw [hB] at c2 hw r2 q
    have q':¬ (A:Int)<B:=by omega
    have fx:=ai c1 (ai c2 (ai ix hw))
    refine Ans.go ?_
    clear fx
    exact .done rfl
 rw [f81_go hS,ZbI (B:=newB h b (ints (Z1o L i j))) ?_ ?_ ?_]
 · exact Z1l.cons ⟨.tuple #[],.tuple rfl (fun k x y h=>by simp at h)⟩ (Z1l.nil c)
 · exact fun _ _=>rfl
 · exact Z2n.old hb (Z1l.ints _ _) (Z2n.refl _ _)
theorem Zak (b ob m c:Nat) (L:List Int) (hd:Z3H L m) (h0:FH) (hf:h0.f b=some (.cells false none (ints L))) (hne:b ≠ ob) (hb:b<256*c) (hob:ob<256*c) (hm:m<=1000000) (df:List Nat) :
 ∀ (k i:Nat),i+k=m->Ans (G (Z9u none) [.slice (some ⟨b,0,none⟩) m m,.slice (some ⟨ob,0,none⟩) m m,.int .i64 (Z3J L i),.int .i64 m,.int .i64 i] (newB h0 ob (ints (Z3v L m i))) c df) fun r =>
  r=⟨.exit 0,[.slice (some ⟨b,0,none⟩) m m,.slice (some ⟨ob,0,none⟩) m m,.int .i64 (Z3J L m),.int .i64 m,.int .i64 m],newB h0 ob (ints (Zal L m)),c,df⟩:=by
 intro k
 induction k with
 | zero =>
  intro i hi
  obtain rfl:i=m:=by omega
  have e:Z3v L i i=Zal L i:=Z1u (m:=i) (Z0N _ _ _) (Z3w _ _) fun k hk=>by
   rw [Z8i _ hk]
   simp [Z3v,List.getD_eq_getElem?_getD,hk]
  rw [e]
  refine Ans.lpG rfl rfl (Z64 ..) ?_
  unfold Z6O
  have fx:=True.intro
  refine Ans.go ?_
  clear fx
  (have fx:=ai hb hob; refine Ans.ex0 ?_; clear fx)
  rfl
 | succ k ih =>
  intro i hi
  have him:i<m:=by omega
  have hk:=ih (i+1) qO
  have hfo:(newB h0 ob (ints (Z3v L m i))).f b=some (.cells false none (ints L)):=by rw [Z01,if_neg hne]; exact hf
  have c1:=Z0b (Zag b m L hd (newB h0 ob (ints (Z3v L m i))) (c+1+1+1) [] hfo qO hm i him)
  have hl:=Z0N L m i
  have ix:=Z4m ob m .i64 i him
  have hr:=Z2d hd him
  have fo:(newB h0 ob (ints (Z3v L m i))).f ob=some (.cells false none (ints (Z3v L m i))):=by rw [Z01,if_pos rfl]
  have hw:=fun x=>Z7W fo (i:=i) qO x
  simp only [ZlP] at hw
  have hP:(Z3v L m i).set i (Z3J L (Z0a L i):Nat)=Z3v L m (i+1):=Z1u (m:=m) (by rw [List.length_set]; exact hl) (Z0N _ _ _) fun j hj=>by
   rw [Z17]
   have e1:∀ i',(Z3v L m i').getD j 0=if j<i' then ((Z3J L (Z0a L j):Nat):Int) else 0:=fun i'=>by
    simp [Z3v,List.getD_eq_getElem?_getD,hj]
   rw [e1,e1]
   by_cases q:i=j
   · subst q; rw [if_pos ⟨rfl,by omega⟩,if_pos qO]
   · rw [if_neg (fun z=>q z.1)]
     by_cases q2:j<i
     · rw [if_pos q2,if_pos qO]
     · rw [if_neg q2,if_neg qO]
  have up:Z2n c (newB h0 ob (ints (Z3v L m i))) (newB h0 ob (ints (Z3v L m (i+1)))):=Z2n.both (Z1l.ints _ _) (Z2n.refl _ _) hob
  have hfl:Z3J L i<=i:=Zay _ _
  rw [ZbJ] at hk
  refine Ans.lpG rfl rfl (Z64 ..) ?_
  unfold Z6O
  by_cases e:Z0a L i=i
  · have hw1:=hw (Z3J L i:Nat)
    rw [e] at c1 hP
    rw [hP] at hw1
    rw [if_pos e] at hk
    obtain ⟨F,hF⟩:∃ F,Z3J L i=F:=⟨_,rfl⟩
    rw [hF] at hw1 hk hfl ⊢
    obtain ⟨S,hS⟩:∃ S,newB h0 ob (ints (Z3v L m i))=S:=⟨_,rfl⟩
    obtain ⟨S',hS'⟩:∃ S,newB h0 ob (ints (Z3v L m (i+1)))=S:=⟨_,rfl⟩
    rw [hS] at c1 hw1 up ⊢
    rw [hS'] at hw1 up hk
    have fx:=ai c1 (ai ix hw1)
    refine Ans.go ?_
    clear fx
    (have fx:=ai hb hob; refine Ans.nxB (B:=S') ?_ ?_; exact (up); clear fx)
    exact hk
  · have hr2:Z0a L i<i:=by omega
    have ix2:=Z4m ob m .i64 (Z0a L i) qO
    have rd:=Zde fo (i:=Z0a L i) qO
    have ev:(Z3v L m i).getD (Z0a L i) 0=(Z3J L (Z0a L i):Nat):=by
     have h1:Z0a L i<m:=by omega
     have h2:=Z9e hd him
     simp [Z3v,List.getD_eq_getElem?_getD,h1,hr2,h2]
    rw [ev] at rd
    have hw1:=hw (Z3J L (Z0a L i):Nat)
    rw [hP] at hw1
    rw [if_neg e,Nat.add_zero] at hk
    obtain ⟨F,hF⟩:∃ F,Z3J L i=F:=⟨_,rfl⟩
    obtain ⟨E,hE⟩:∃ F,Z3J L (Z0a L i)=F:=⟨_,rfl⟩
    rw [hF] at hk hfl ⊢
    rw [hE] at rd hw1
    obtain ⟨R,hR⟩:∃ F,Z0a L i=F:=⟨_,rfl⟩
    rw [hR] at c1 ix2 rd hr2
    have hr3:¬ (R:Int)=i:=by omega
    obtain ⟨S,hS⟩:∃ S,newB h0 ob (ints (Z3v L m i))=S:=⟨_,rfl⟩
    obtain ⟨S',hS'⟩:∃ S,newB h0 ob (ints (Z3v L m (i+1)))=S:=⟨_,rfl⟩
    rw [hS] at c1 hw1 up rd ⊢
    rw [hS'] at hw1 up hk
    have fx:=ai c1 (ai ix2 (ai rd (ai ix hw1)))
    refine Ans.go ?_
    clear fx
    (have fx:=ai hb hob; refine Ans.nxB (B:=S') ?_ ?_; exact (up); clear fx)
    exact hk
theorem Zck (b m:Nat) (L:List Int) (hd:Z3H L m) (h:FH) (c:Nat) (df:List Nat) (hf:h.f b=some (.cells false none (ints L))) (hb:b<256*c) (hm:m<=1000000) :
 G (.fn 82) [.slice (some ⟨b,0,none⟩) m m] h c df=some ⟨.ret,[.tuple #[.slice (some ⟨256*(c+1)+2,0,none⟩) m m,.int .i64 (Z3J L m)]],newB h (256*(c+1)+2) (ints (Zal L m)),c+1+1+1+1+1,[]⟩:=by
 refine f82_go (Ans.eq ?_)
 unfold Zmp
 have mk:=Z8k 1 8 .i64 .i64 m qO qO
 obtain ⟨ob,hob⟩:∃ b,256*(c+1)+2=b:=⟨_,rfl⟩
 rw [hob]
 have e0:Z3v L m 0=List.replicate m 0:=Z1u (m:=m) (Z0N _ _ _) (by simp) fun j hj=>by
  simp [Z3v,List.getD_eq_getElem?_getD,hj]
 have hl:=Ans.eq (Zak b ob m (c+1+1+1+1) L hd h hf qO qO qO hm [] m 0 qO)
 rw [e0,show Z3J L 0=0 from rfl] at hl
 simp only [Int.ofNat_eq_natCast,Int.cast_ofNat_Int] at hl
 have fx:=ai mk hl
 refine Ans.go ?_
 clear fx
 exact .done rfl
end Go.Proofs.Ytdodippbpdechaa
