/- Merged. -/
import Derived.Test.YtalgmjmibamdfaaGreatDoorVS13
set_option linter.all false
set_option maxHeartbeats 16000000
set_option maxRecDepth 100000
namespace Go.Proofs.YtalgmjmibamdfaaGreatDoor
open Go.Proofs.Tryz
open Go.RowKit Tw
theorem XD(L:List Cf)(main:Nat)(hP:Z3 L main)(a7:L.length<=16)(h4: ∀c∈L,c.I9.length<=4000)(A:Option Addr)(cp:Nat)(w:World)(hF:L4 w (.slice A L.length cp) (L.map Cf.pf)):
 Calls prog 35 #[.agg #[.slice A L.length cp,.int .i64 main]] w λe w'=>e=.returned (.int .i64 0)/\Below w.heap.size w w':=by
 have O:=(x7 w.heap.size w).alloc (x6 _) (.cells #[.slice A L.length cp,.int .i64 main] 26);have n:=zh (x9 w (.cells #[.slice A L.length cp,.int .i64 main] 26));have T:=zh (hF.I5 (.of O));have HB:=zh O;have HP:=zh hP;have H4:=zh h4;have a8:=zh a7;clear O hF hP h4
 go_enter func35,ntmps35
 go_upto_region 1 with(fail)
 generalize World.alloc _ _=H at n HB T|-
 generalize U:w.heap.size=P at n HB|-
 have a9:=zh U;clear U;have I:=x5 n.out 0;have t0: ¬((16:Int)<(L.length:Int)):=by omega
 go_wp2_with fail
 clear I t0
 go_loopw[20] (λi wr=> ∃j:Nat,j<=L.length/\i=.int .i64 j/\Hid (Below H.heap.size H wr)) (λi _=>L.length-(intOf i).toNat)
 case atStart=>exact⟨0,C6 _,rfl,zh (x7 _ _)⟩
 case round=>
  obtain⟨j,hj,rfl,a⟩:=hrel
  by_cases y:j<L.length
  ·obtain⟨f,r⟩: ∃f,L[j]?=some f:=⟨_,x8 y⟩
   have s:=B0 r;have t:=HP.out.xQ f s;have V:=H4.out f s;obtain⟨g,c,vo,W,-,z,B,J,K,q⟩:=T.out.at (X9 r);injection W with m C D
   clear C;subst m D;obtain⟨go,Q,rfl,-⟩:=q.at;replace B:=(a.out.cell (p:=⟨g,j*3,none⟩) z).trans B;replace J:=(a.out.cell (p:=⟨g,j*3+1,none⟩) z).trans J;replace K:=(a.out.cell (p:=⟨g,j*3+2,none⟩) z).trans K;have k0:(0:Int)<=(j:Int):=by omega
   have k1:(j:Int)<(L.length:Int):=by omega
   have t1: ¬((6:Int)<(f.params:Int)):=by have:=t.params;omega
   have t2: ¬((64:Int)<(f.vars:Int)):=by have:=t.vars.2;omega
   have t3: ¬((4000:Int)<(f.I9.length:Int)):=by omega
   clear r s t V q z;simp only[Cf.pf,C0]at B J K;have M:=(x7 wr.heap.size wr).alloc (x6 _) (.cells #[.int .i64 f.params,.int .i64 f.vars,.slice (some ⟨go,0,none⟩) f.I9.length Q] 40);have b:=zh (x9 wr (.cells #[.int .i64 f.params,.int .i64 f.vars,.slice (some ⟨go,0,none⟩) f.I9.length Q] 40));have l:=zh (a.out.trans (M.mono a.out.size));clear M
   go_upto_region 6 with(fail)
   clear B J K;generalize World.alloc _ _=wa at b l|-
   generalize wr.heap.size=bf at b|-
   have q0:=x5 b.out 0;have q1:=x5 b.out 1;have q2:=x5 b.out 2
   go_wp2_with fail
   go_roundw
   case rel=>exact⟨j+1,by omega,by go_num,l⟩
   case measure=>simp[intOf];omega
  ·obtain rfl:j=L.length:=by omega
   obtain⟨f,r,X⟩:=HP.out.main;have b0:main<L.length:=(List.getElem?_eq_some_iff.1 r).1;obtain⟨g,c,vo,W,-,z,B,-⟩:=T.out.at (X9 r);injection W with m C D
   clear C;subst m D;have I:=(a.out.cell (p:=⟨P,0,none⟩) (I0 n.out)).trans (x5 n.out 0);have Y:=(a.out.cell (p:=⟨P,1,none⟩) (I0 n.out)).trans (x5 n.out 1);have v0:wr.cell? ⟨g,main*3,none⟩=some (.int .i64 0):=by
    have:=(a.out.cell (p:=⟨g,main*3,none⟩) z).trans B;simp only[Cf.pf,X]at this;exact this
   have k0:(0:Int)<=(main:Int):=by omega
   have k1:(main:Int)<(L.length:Int):=by omega
   have k2: ¬((L.length:Int)<=(main:Int)):=by omega
   have k3: ¬((main:Int)<0):=by omega
   clear r X z B y hj
   go_upto_region 11 with(fail)
   clear Y v0 k0 k1 k2 k3 b0
   go_wp2_with fail
   clear I;obtain⟨wx,rfl⟩: ∃Z:World,Z=wr:=⟨_,rfl⟩
   go_loopw[63] (λi wr=> ∃j:Nat,j<=L.length/\i=.int .i64 j/\Hid (Below H.heap.size H wr)) (λi _=>L.length-(intOf i).toNat)
   case atStart=>exact⟨0,C6 _,rfl,a⟩
   case round=>
    clear a;obtain⟨j,hj,rfl,a⟩:=hrel
    by_cases y:j<L.length
    ·obtain⟨f,r⟩: ∃f,L[j]?=some f:=⟨_,x8 y⟩
     have s:=B0 r;have t:=HP.out.xQ f s;obtain⟨g',c,vo,W,-,z,B,J,K,q⟩:=T.out.at (X9 r);injection W with m C D
     injection m with m;injection m with m
     clear C D;subst m;obtain⟨go,Q,rfl,-,a0,a1⟩:=q.at;replace B:=(a.out.cell (p:=⟨g,j*3,none⟩) z).trans B;replace J:=(a.out.cell (p:=⟨g,j*3+1,none⟩) z).trans J;replace K:=(a.out.cell (p:=⟨g,j*3+2,none⟩) z).trans K;have k0:(0:Int)<=(j:Int):=by omega
     have k1:(j:Int)<(L.length:Int):=by omega
     have t1: ¬((f.params:Int)<0):=by omega
     have t2: ¬((f.vars:Int)<(f.params:Int)):=by have:=t.vars.1;omega
     have V:f.I9.length<=4000:=H4.out f s;have b2:=zh t;have b3:Hid (∀(k:Nat)(o:Q2),(f.I9.map Prod.fst)[k]?=some o->H.cell? ⟨go,k*2,none⟩=some (.int .i64 o.1)/\H.cell? ⟨go,k*2+1,none⟩=some (.int .i64 o.2)):=zh a1;simp only[Cf.pf,C0]at B J K;have M:=(x7 wr.heap.size wr).alloc (x6 _) (.cells #[.int .i64 f.params,.int .i64 f.vars,.slice (some ⟨go,0,none⟩) f.I9.length Q] 40);have b:=zh (x9 wr (.cells #[.int .i64 f.params,.int .i64 f.vars,.slice (some ⟨go,0,none⟩) f.I9.length Q] 40));have l:=zh (a.out.trans (M.mono a.out.size));clear M r s t q z a1
     go_upto_region 14 with(fail)
     clear B J K;generalize World.alloc _ _=wa at b l|-
     generalize wr.heap.size=bf at b|-
     have q0:=x5 b.out 0;have q1:=x5 b.out 1;have q2:=x5 b.out 2
     go_wp2_with fail
     clear q0 q1 q2 t1 t2;obtain⟨wy,rfl⟩: ∃Z:World,Z=wr:=⟨_,rfl⟩
     go_loopw[80] (λi wr=> ∃k:Nat,k<=f.I9.length/\i=.int .i64 k/\Hid (Below H.heap.size H wr)/\Hid (wr.heap[bf]?=some (.cells #[.int .i64 f.params,.int .i64 f.vars,.slice (some ⟨go,0,none⟩) f.I9.length Q] 40 (0,0)))) (λi _=>f.I9.length-(intOf i).toNat)
     case atStart=>exact⟨0,C6 _,rfl,l,b⟩
     case round=>
      clear a l b;obtain⟨k,hk,rfl,E,a2⟩:=hrel
      by_cases a3:k<f.I9.length
      ·obtain⟨d,x,hh,ho⟩: ∃d x h,f.I9[k]?=some ((d,x),h):=⟨_,_,_,x8 a3⟩
       obtain⟨o',h',F,a4⟩:=b2.out.J7 k (C6 _) a3;obtain⟨rfl,rfl⟩:(d,x)=o'/\hh=h':=by rw[ho]at F;injection F with F;injection F with e1 e2;exact⟨e1,e2⟩
       have a5:(f.I9.map Prod.fst)[k]?=some (d,x):=by rw[F6,ho];rfl
       obtain⟨o0,o1⟩:=b3.out k _ a5;replace o0:=(E.out.cell (p:=⟨go,k*2,none⟩) a0).trans o0;replace o1:=(E.out.cell (p:=⟨go,k*2+1,none⟩) a0).trans o1;simp only at o0 o1;have N:qq L.length f.vars f.I9.length (d,x):=by
        have:=a4.1;rw[C0]at this;exact this
       have M:=(x7 wr.heap.size wr).alloc (x6 _) (.cells #[.int .i64 d,.int .i64 x] 74);have G:=zh (x9 wr (.cells #[.int .i64 d,.int .i64 x] 74));have l:=zh (E.out.trans (M.mono E.out.size));have u:=zh ((M.block bf (I0 a2.out)).trans a2.out);have i0:(0:Int)<=(k:Int):=by omega
       have i1:(k:Int)<(f.I9.length:Int):=by omega
       have b4:=zh N;clear M ho F a5 N a4
       go_upto_region 19 with(fail)
       clear o0 o1;generalize World.alloc _ _=wb at G l u|-
       generalize wr.heap.size=bo at G|-
       have I:=(l.out.cell (p:=⟨P,0,none⟩) (I0 n.out)).trans (x5 n.out 0);have Y:=(l.out.cell (p:=⟨P,1,none⟩) (I0 n.out)).trans (x5 n.out 1);have q0:=x5 u.out 0;have q1:=x5 u.out 1;have q2:=x5 u.out 2;have d0:=x5 G.out 0;have d1:=x5 G.out 1;have OC:=zh (zhs (L.map Cf.pf) (some ⟨g,0,none⟩) cp main f.params f.vars f.I9.length (some ⟨go,0,none⟩) Q d x wb (by rw[C0];exact b4.out));rw[C0]at OC
       go_wp2_with fail
       refine OC.out.mono ?_;rintro e w3 ⟨rfl,S⟩;have R:=zh (l.out.trans (S.mono l.out.size));have a6:=zh ((S.block bf (I0 u.out)).trans u.out);clear S I Y q0 q1 q2 d0 d1 u G l OC
       go_wp2_with fail
       go_roundw
       case rel=>exact⟨k+1,by omega,by go_num,R,a6⟩
       case measure=>simp[intOf];omega
      ·obtain rfl:k=f.I9.length:=by omega
       go_wp2_with fail
       go_roundw
       case rel=>exact⟨j+1,by omega,by go_num,E⟩
       case measure=>simp[intOf];omega
    ·obtain rfl:j=L.length:=by omega
     have I:=(a.out.cell (p:=⟨P,0,none⟩) (I0 n.out)).trans (x5 n.out 0)
     go_wp2_with fail
     clear I;obtain⟨wy,rfl⟩: ∃Z:World,Z=wr:=⟨_,rfl⟩
     go_loopw[96] (λi wr=> ∃j:Nat,j<=L.length/\i=.int .i64 j/\Hid (Below H.heap.size H wr)) (λi _=>L.length-(intOf i).toNat)
     case atStart=>exact⟨0,C6 _,rfl,a⟩
     case round=>
      clear a;obtain⟨j,hj,rfl,a⟩:=hrel
      by_cases y:j<L.length
      ·obtain⟨f,r⟩: ∃f,L[j]?=some f:=⟨_,x8 y⟩
       have I:=(a.out.cell (p:=⟨P,0,none⟩) (I0 n.out)).trans (x5 n.out 0);have Y:=(a.out.cell (p:=⟨P,1,none⟩) (I0 n.out)).trans (x5 n.out 1);have HC:=zh (Zh L main HP.out a8.out j f r (H4.out f (B0 r)) (some ⟨g,0,none⟩) cp wr (T.out.I5 (.of a.out)));clear r
       go_wp2_with fail
       refine HC.out.mono ?_;rintro e w3 ⟨S,v,hs,rfl,-,-⟩;have R:=zh (a.out.trans (S.mono a.out.size));clear S I Y HC
       go_wp2_with fail
       go_roundw
       case rel=>exact⟨j+1,by omega,by go_num,R⟩
       case measure=>simp[intOf];omega
      ·obtain rfl:j=L.length:=by omega
       go_wp2_with fail
       go_ret;exact⟨rfl,by rw[a9.out];exact HB.out.trans (a.out.mono (G3 (I0 n.out)))⟩
def Xh(L:List Cf)(xm:List (List Int)):Prop:=xm.length=L.length/\ ∀(i:Nat)(c:Cf),L[i]?=some c-> ∃a:List Int,xm[i]?=some a/\xZ c.I9 a
theorem ZN(L:List Cf)(main:Nat)(hP:Z3 L main)(a0:L.length<=16)(h4: ∀c∈L,c.I9.length<=4000)(A:Option Addr)(cp:Nat)(w:World)(hF:L4 w (.slice A L.length cp) (L.map Cf.pf)):
 Calls prog 47 #[.agg #[.slice A L.length cp,.int .i64 main]] w λe w'=>Below w.heap.size w w'/\ ∃v xm,e=.returned (.tuple #[v,.int .i64 0])/\yg w' v xm/\Xh L xm:=by
 have z:=(x7 w.heap.size w).alloc (x6 _) (.cells #[.slice A L.length cp,.int .i64 main] 26);have m:=zh (x9 w (.cells #[.slice A L.length cp,.int .i64 main] 26));have K:=zh (hF.I5 (.of z));have M:=zh z;have HP:=zh hP;have H4:=zh h4;have N:=zh a0;clear z hF hP h4
 go_enter func47,ntmps47
 go_upto_region 1 with(fail)
 generalize World.alloc _ _=w1 at m M K|-
 generalize O:w.heap.size=Y at m M|-
 have a1:=zh O;clear O;have B:=x5 m.out 0;have c1:=x5 m.out 1;have P:=zh (XD L main HP.out N.out H4.out A cp w1 K.out)
 go_wp2_with fail
 refine P.out.mono ?_;rintro e q ⟨rfl,a⟩;have t:=I0 m.out;replace m:=zh ((a.block Y (I0 m.out)).trans m.out);replace K:=zh (K.out.I5 (.of a));replace M:Hid (Below Y w q):=zh (M.out.trans (a.mono (G3 t)));clear a B c1 P t;have B:=x5 m.out 0
 go_wp2_with fail
 clear B
 go_loopw[5,17] (λov i wr=> ∃(j:Nat)(Z:Option Addr)(ch:Nat)(d:List (List Int×Value)),j<=L.length/\i=.int .i64 j/\ov=.slice Z d.length ch/\d.length=j/\Hid (Below q.heap.size q wr)/\Hid (wr.ownsRow q.heap.size 22 1 (.slice Z d.length ch) d.length (d.map Prod.snd))/\Hid (∀b∈d,qQ wr b.2 b.1)/\Hid (∀(i:Nat)(c:Cf),i<j->L[i]?=some c-> ∃b,d[i]?=some b/\xZ c.I9 b.1)) (λ_ i _=>L.length-(intOf i).toNat)
 case atStart=>exact⟨0,none,0,[],C6 _,rfl,rfl,rfl,zh (x7 _ _),zh ⟨rfl,.inl ⟨rfl,rfl⟩⟩,zh (λ_ h=>by cases h),zh (λi c h=>by omega)⟩
 case round=>
  obtain⟨j,Z,ch,d,hj,rfl,rfl,C,k,D,E,Q⟩:=hrel
  by_cases a2:j<L.length
  ·obtain⟨f,hf⟩: ∃f,L[j]?=some f:=⟨_,x8 a2⟩
   have B:=(k.out.cell (p:=⟨Y,0,none⟩) (I0 m.out)).trans (x5 m.out 0);have c1:=(k.out.cell (p:=⟨Y,1,none⟩) (I0 m.out)).trans (x5 m.out 1);have P:=zh (Zh L main HP.out N.out j f hf (H4.out f (B0 hf)) A cp wr (K.out.I5 (.of k.out)));have a3:=zh hf;have b5:d.length<=16:=by omega
   have F:=zh C;clear hf C
   go_wp2_with fail
   refine P.out.mono ?_;rintro e x ⟨a,v,n,rfl,R,a4⟩;have G:=zh (k.out.trans (a.mono k.out.size));have a5:=zh (K1 D.out a);have a6:Hid (∀b∈d,qQ x b.2 b.1):=zh (λb a7=>(E.out b a7).I5 a);obtain⟨r,s,rfl,S,T⟩:=a4;have a8:Hid (qQ x (.slice (some ⟨r,0,none⟩) n.length s) n):=zh ⟨r,s,rfl,S,T⟩;have a9:=zh R;have H:=(x7 x.heap.size x).alloc (x6 _) (.cells #[.slice (some ⟨r,0,none⟩) n.length s] 22);have I:=zh (K1 a5.out H);have b6:q.heap.size<=x.heap.size:=G.out.size;have J:=zh H;clear a S T R B c1 P D E k H
   go_upto_region 10 with(at_builtin;go_must(refine L6 zcv rfl _ _ rfl q.heap.size (.slice Z d.length ch) d.length (d.map Prod.snd) rfl I.out x.heap.size 1 #[.slice (some ⟨r,0,none⟩) n.length s] rfl (x9 x _) rfl (by simp[Value.oneCell']) (by omega) (by simp;omega) ?_);intro g9 U w9 o g V W)
   have b0:Hid (∀b∈d++[(n,Value.slice (some ⟨r,0,none⟩) n.length s)],qQ w9 b.2 b.1):=zh (by
    have X: ∀{u:Value}{l:List Int},qQ x u l->qQ w9 u l:=λ{u l} h=>by
     obtain⟨g0,B,e0,h1,h2⟩:=h.I5 J.out;exact⟨g0,B,e0,h1,(g.block g0 (I0 h2) (λe=>K5 I.out h2 (by decide) e.symm)).trans h2⟩
    intro b a
    rcases List.mem_append.1 a with a|a
    ·exact X (a6.out b a)
    ·obtain rfl:=List.mem_singleton.1 a
     exact X a8.out)
   have b2:Hid (Below q.heap.size q w9):=zh (L3 (G.out.trans (J.out.mono G.out.size)) I.out (x6 _) (by have:=J.out.size;omega) g);have b3:Hid (w9.ownsRow q.heap.size 22 1 (.slice (some ⟨g9,0,none⟩) (d++[(n,Value.slice (some ⟨r,0,none⟩) n.length s)]).length U) (d++[(n,Value.slice (some ⟨r,0,none⟩) n.length s)]).length ((d++[(n,Value.slice (some ⟨r,0,none⟩) n.length s)]).map Prod.snd)):=zh (by
    rw[y7,List.map_append];exact o)
   have b4:Hid (∀(i:Nat)(c:Cf),i<j+1->L[i]?=some c-> ∃b,(d++[(n,Value.slice (some ⟨r,0,none⟩) n.length s)])[i]?=some b/\xZ c.I9 b.1):=zh (λi c hi y=>by
    by_cases e:i<j
    ·obtain⟨b,a,hk⟩:=Q.out i c e y
     exact⟨b,by have:=F.out;rw[List.getElem?_append_left (by omega)];exact a,hk⟩
    ·obtain rfl:i=j:=by omega
     rw[a3.out]at y;injection y with y;subst y
     exact⟨_,by have:=F.out;rw[List.getElem?_append_right (by omega),this,Nat.sub_self];rfl,a9.out⟩)
   clear o g V W
   go_wp2_with fail
   go_roundw
   case rel=>exact⟨j+1,_,_,_,by omega,by go_num,by rw[y7];rfl,by rw[y7,F.out];rfl,b2,b3,b0,b4⟩
   case measure=>simp[intOf];omega
  ·obtain rfl:j=L.length:=by omega
   go_wp2_with fail
   go_ret2;exact⟨by rw[a1.out];exact M.out.trans (k.out.mono (G3 (I0 m.out))),_,d.map Prod.fst,rfl,yg.jA D.out E.out,by rw[C0];exact C,λi c y=>by
    obtain⟨b,a,hk⟩:=Q.out i c (List.getElem?_eq_some_iff.1 y).1 y;exact⟨b.1,by rw[F6,a];rfl,hk⟩⟩
end Go.Proofs.YtalgmjmibamdfaaGreatDoor
namespace Go.Proofs.YtalgmjmibamdfaaGreatDoor
open Go.RowKit Tw
theorem xZ.rch{C:R2}{hs:List Int}(h:xZ C hs): ∀{k:Nat},Zl C k->xz hs k:=λa=>by
 induction a with
 |start=>exact h.start
 |ji _ b c d=>exact h.XX _ _ _ b d _ c
theorem xZ.at{C:R2}{hs:List Int}(h:xZ C hs){k n:Nat}{o:Q2}(c:Zl C k)(d:C[k]?=some (o,n)):hs[k]?=some (n:Int):=by
 obtain⟨v,b,e⟩:=h.rch c
 rcases h.ok.2 k v b with a|⟨g,i,a,f⟩
 ·exact G5 a e
 ·rw[d]at a;injection a with a;injection a with _ a;subst a;rw[b,f]
section
variable {P:List Cf}{main:Nat}
structure zfB(P:List Cf)(fs:List Fq)(i:Nat)(g:Fq)(c:Cf)(o:Q2)(n:Nat):Prop where
 fn:P[g.fn]?=some c
 op:c.I9[g.pc]?=some (o,n)
 rch:Zl c.I9 g.pc
 vars:g.vars.length=c.vars
 xt:i+1=fs.length->n=g.I1.length
 low:i+1<fs.length-> ∃u cg,fs[i+1]?=some u/\o=(17,(u.fn:Int))/\P[u.fn]?=some cg/\n=g.I1.length+cg.params
theorem zA.at{f:Fq}: ∀{fs:List Fq}{w:Nat},zA P w fs f.fn->(∀x,(fs++[f])[0]?=some x->x.fn=w)/\ ∀(i:Nat)(g:Fq),fs[i]?=some g-> ∃u,(fs++[f])[i+1]?=some u/\zbw P g u.fn
 |[],w,h=>⟨λx hx=>by simp at hx;subst hx;exact h.symm,λi g b=>by cases b⟩
 |a::l,w,h=>by
  obtain⟨d,callee,e,j⟩:=h;obtain⟨k,m⟩:=zA.at j;refine⟨λx hx=>by simp at hx;subst hx;exact d,λi g b=>?_⟩;cases i with
  |zero=>
   simp at b;subst b;obtain⟨u,c⟩: ∃u,(l++[f])[0]?=some u:=⟨_,x8 (by simp)⟩;exact⟨u,by simpa using c,by rw[k u c];exact e⟩
  |succ i=>
   obtain⟨u,c,n⟩:=m i g (by simpa using b);exact⟨u,by simpa using c,n⟩
theorem zaO.XY{fs:List Fq}{f:Fq}(h:zaO P main fs f):(∀x,(fs++[f])[0]?=some x->x.fn=main)/\ ∀(i:Nat)(g:Fq),(fs++[f])[i]?=some g-> ∃c o n,zfB P (fs++[f]) i g c o n:=by
 obtain⟨m,p,-⟩:=h;obtain⟨q,r⟩:=m.at;refine⟨q,λi g a=>?_⟩
 rcases D6 i fs.length with l|l
 ·rw[List.getElem?_append_left l]at a
  obtain⟨u,s,c,t,b,d,j,k,v⟩:=r i g a;exact⟨c,_,_,b,j,k,v,λe=>by simp at e;omega,λ_=>⟨u,t,s,rfl,d,rfl⟩⟩
 ·obtain⟨c,o,b,d,j,k⟩:=p
  obtain rfl:i=fs.length:=by have:=(List.getElem?_eq_some_iff.1 a).1;simp at this;omega
  simp at a;subst a;exact⟨c,o,_,b,d,j,k,λ_=>rfl,λh=>by simp at h⟩
theorem zfB.xx(a:Z3 P main){fs:List Fq}{i:Nat}{g:Fq}{c:Cf}{o:Q2}{n:Nat}(h:zfB P fs i g c o n)(hi:i<fs.length):g.vars.length<=64/\g.I1.length<=600/\g.I1.length<=n:=by
 have d:=a.xQ c (B0 h.fn);have f:=QK a h.fn h.op;have l:I6 (P.map (·.params)) o<=7:=qi (λy j=>by obtain⟨z,k,rfl⟩:=List.mem_map.1 j;exact(a.xQ z k).params) o;have:=f.2.2.1;have m:g.I1.length<=n:=by
  rcases D6 (i+1) fs.length with b|b
  ·obtain⟨u,p,-,-,-,e⟩:=h.low b;omega
  ·rw[h.xt (by omega)];exact x6 _
 have:=d.vars.2;have:=h.vars;omega
theorem qp.xx(d:Z3 P main){M:Mc}(h:qp P main M):M.O2.length<=32/\ ∀g∈M.O2,g.vars.length<=64/\g.I1.length<=600:=by
 rcases h with⟨-,m,f,e,h⟩|⟨-,e⟩|⟨-,-,e⟩
 ·rw[e]
  refine⟨by have:=h.2.2;simp;omega,λg a=>?_⟩;obtain⟨i,b,rfl⟩:=List.mem_iff_getElem.1 a;obtain⟨c,o,n,j⟩:=h.XY.2 i _ (x8 b);obtain⟨k,l,-⟩:=j.xx d b;exact⟨k,l⟩
 ·rw[e];exact⟨by simp,λg a=>by cases a⟩
 ·rw[e];exact⟨by simp,λg a=>by cases a⟩
def P1(P:List Cf)(main:Nat):Mc:=⟨0,0,[⟨main,0,List.replicate (((P[main]?).map (·.vars)).getD 0) 0,[]⟩]⟩
theorem Xd(d:Z3 P main):qp P main (P1 P main)/\McR (P1 P main):=by
 obtain⟨c,a,-⟩:=d.main;obtain⟨o,e⟩:=(d.xQ c (B0 a)).start;refine⟨.inl ⟨rfl,[],_,rfl,rfl,⟨c,o,a,e,.start,by simp[a]⟩,by decide⟩,(by decide:qy 0),λf g=>?_⟩;rw[List.mem_singleton.1 g];exact⟨λx b=>by rw[(List.mem_replicate.1 b).2];decide,λx b=>by cases b⟩
end
end Go.Proofs.YtalgmjmibamdfaaGreatDoor
