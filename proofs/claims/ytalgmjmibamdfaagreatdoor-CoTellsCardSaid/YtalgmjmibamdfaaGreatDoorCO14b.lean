/- Merged. -/
import Derived.Test.YtalgmjmibamdfaaGreatDoorCO14
set_option linter.all false
set_option maxHeartbeats 16000000
set_option maxRecDepth 100000
namespace Go.Proofs.YtalgmjmibamdfaaGreatDoor
open Go.Proofs.Tryz
open Go.RowKit Tw
theorem YC(L:List Cf)(main:Nat)(hP:zk L main)(a7:L.length<=16)(h4: ∀c∈L,c.J6.length<=4000)(A:Option Addr)(cp:Nat)(w:World)(hF:M3 w (.slice A L.length cp) (L.map Cf.pf)):
 Calls prog 35 #[.agg #[.slice A L.length cp,.int .i64 main]] w λe w'=>e=.returned (.int .i64 0)/\Below w.heap.size w w':=by
 have O:=(y7 w.heap.size w).alloc (y6 _) (.cells #[.slice A L.length cp,.int .i64 main] 26);have n:=zh (y9 w (.cells #[.slice A L.length cp,.int .i64 main] 26));have T:=zh (hF.J0 (.of O));have HB:=zh O;have HP:=zh hP;have H4:=zh h4;have a8:=zh a7;clear O hF hP h4
 go_enter func35,ntmps35
 go_upto_region 1 with(fail)
 generalize World.alloc _ _=H at n HB T|-
 generalize U:w.heap.size=P at n HB|-
 have a9:=zh U;clear U;have I:=y5 n.out 0;have t0: ¬((16:Int)<(L.length:Int)):=by omega
 go_wp2_with fail
 clear I t0
 go_loopw[20] (λi wr=> ∃j:Nat,j<=L.length/\i=.int .i64 j/\Hid (Below H.heap.size H wr)) (λi _=>L.length-(intOf i).toNat)
 case atStart=>exact⟨0,E2 _,rfl,zh (y7 _ _)⟩
 case round=>
  obtain⟨j,hj,rfl,a⟩:=hrel
  by_cases y:j<L.length
  ·obtain⟨f,r⟩: ∃f,L[j]?=some f:=⟨_,y8 y⟩
   have s:=B7 r;have t:=HP.out.yF f s;have V:=H4.out f s;obtain⟨g,c,vo,W,-,z,B,J,K,q⟩:=T.out.at (zi r);injection W with m C D
   clear C;subst m D;obtain⟨go,Q,rfl,-⟩:=q.at;replace B:=(a.out.cell (p:=⟨g,j*3,none⟩) z).trans B;replace J:=(a.out.cell (p:=⟨g,j*3+1,none⟩) z).trans J;replace K:=(a.out.cell (p:=⟨g,j*3+2,none⟩) z).trans K;have k0:(0:Int)<=(j:Int):=by omega
   have k1:(j:Int)<(L.length:Int):=by omega
   have t1: ¬((6:Int)<(f.params:Int)):=by have:=t.params;omega
   have t2: ¬((64:Int)<(f.vars:Int)):=by have:=t.vars.2;omega
   have t3: ¬((4000:Int)<(f.J6.length:Int)):=by omega
   clear r s t V q z;simp only[Cf.pf,D9]at B J K;have M:=(y7 wr.heap.size wr).alloc (y6 _) (.cells #[.int .i64 f.params,.int .i64 f.vars,.slice (some ⟨go,0,none⟩) f.J6.length Q] 40);have b:=zh (y9 wr (.cells #[.int .i64 f.params,.int .i64 f.vars,.slice (some ⟨go,0,none⟩) f.J6.length Q] 40));have l:=zh (a.out.trans (M.mono a.out.size));clear M
   go_upto_region 6 with(fail)
   clear B J K;generalize World.alloc _ _=wa at b l|-
   generalize wr.heap.size=bf at b|-
   have q0:=y5 b.out 0;have q1:=y5 b.out 1;have q2:=y5 b.out 2
   go_wp2_with fail
   go_roundw
   case rel=>exact⟨j+1,by omega,by go_num,l⟩
   case measure=>simp[intOf];omega
  ·obtain rfl:j=L.length:=by omega
   obtain⟨f,r,X⟩:=HP.out.main;have b0:main<L.length:=(List.getElem?_eq_some_iff.1 r).1;obtain⟨g,c,vo,W,-,z,B,-⟩:=T.out.at (zi r);injection W with m C D
   clear C;subst m D;have I:=(a.out.cell (p:=⟨P,0,none⟩) (I7 n.out)).trans (y5 n.out 0);have Y:=(a.out.cell (p:=⟨P,1,none⟩) (I7 n.out)).trans (y5 n.out 1);have v0:wr.cell? ⟨g,main*3,none⟩=some (.int .i64 0):=by
    have:=(a.out.cell (p:=⟨g,main*3,none⟩) z).trans B;simp only[Cf.pf,X]at this;exact this
   have k0:(0:Int)<=(main:Int):=by omega
   have k1:(main:Int)<(L.length:Int):=by omega
   have k2: ¬((L.length:Int)<=(main:Int)):=by omega
   have k3: ¬((main:Int)<0):=by omega
   clear r X z B y hj
   go_upto_region 11 with(fail)
   clear Y v0 k0 k1 k2 k3 b0
   go_wp2_with fail
   clear I;obtain⟨wx,rfl⟩: ∃Z:World,Z=wr:=⟨_,rfl⟩
   go_loopw[63] (λi wr=> ∃j:Nat,j<=L.length/\i=.int .i64 j/\Hid (Below H.heap.size H wr)) (λi _=>L.length-(intOf i).toNat)
   case atStart=>exact⟨0,E2 _,rfl,a⟩
   case round=>
    clear a;obtain⟨j,hj,rfl,a⟩:=hrel
    by_cases y:j<L.length
    ·obtain⟨f,r⟩: ∃f,L[j]?=some f:=⟨_,y8 y⟩
     have s:=B7 r;have t:=HP.out.yF f s;obtain⟨g',c,vo,W,-,z,B,J,K,q⟩:=T.out.at (zi r);injection W with m C D
     injection m with m;injection m with m
     clear C D;subst m;obtain⟨go,Q,rfl,-,a0,a1⟩:=q.at;replace B:=(a.out.cell (p:=⟨g,j*3,none⟩) z).trans B;replace J:=(a.out.cell (p:=⟨g,j*3+1,none⟩) z).trans J;replace K:=(a.out.cell (p:=⟨g,j*3+2,none⟩) z).trans K;have k0:(0:Int)<=(j:Int):=by omega
     have k1:(j:Int)<(L.length:Int):=by omega
     have t1: ¬((f.params:Int)<0):=by omega
     have t2: ¬((f.vars:Int)<(f.params:Int)):=by have:=t.vars.1;omega
     have V:f.J6.length<=4000:=H4.out f s;have b2:=zh t;have b3:Hid (∀(k:Nat)(o:S3),(f.J6.map Prod.fst)[k]?=some o->H.cell? ⟨go,k*2,none⟩=some (.int .i64 o.1)/\H.cell? ⟨go,k*2+1,none⟩=some (.int .i64 o.2)):=zh a1;simp only[Cf.pf,D9]at B J K;have M:=(y7 wr.heap.size wr).alloc (y6 _) (.cells #[.int .i64 f.params,.int .i64 f.vars,.slice (some ⟨go,0,none⟩) f.J6.length Q] 40);have b:=zh (y9 wr (.cells #[.int .i64 f.params,.int .i64 f.vars,.slice (some ⟨go,0,none⟩) f.J6.length Q] 40));have l:=zh (a.out.trans (M.mono a.out.size));clear M r s t q z a1
     go_upto_region 14 with(fail)
     clear B J K;generalize World.alloc _ _=wa at b l|-
     generalize wr.heap.size=bf at b|-
     have q0:=y5 b.out 0;have q1:=y5 b.out 1;have q2:=y5 b.out 2
     go_wp2_with fail
     clear q0 q1 q2 t1 t2;obtain⟨wy,rfl⟩: ∃Z:World,Z=wr:=⟨_,rfl⟩
     go_loopw[80] (λi wr=> ∃k:Nat,k<=f.J6.length/\i=.int .i64 k/\Hid (Below H.heap.size H wr)/\Hid (wr.heap[bf]?=some (.cells #[.int .i64 f.params,.int .i64 f.vars,.slice (some ⟨go,0,none⟩) f.J6.length Q] 40 (0,0)))) (λi _=>f.J6.length-(intOf i).toNat)
     case atStart=>exact⟨0,E2 _,rfl,l,b⟩
     case round=>
      clear a l b;obtain⟨k,hk,rfl,E,a2⟩:=hrel
      by_cases a3:k<f.J6.length
      ·obtain⟨d,x,hh,ho⟩: ∃d x h,f.J6[k]?=some ((d,x),h):=⟨_,_,_,y8 a3⟩
       obtain⟨o',h',F,a4⟩:=b2.out.K3 k (E2 _) a3;obtain⟨rfl,rfl⟩:(d,x)=o'/\hh=h':=by rw[ho]at F;injection F with F;injection F with e1 e2;exact⟨e1,e2⟩
       have a5:(f.J6.map Prod.fst)[k]?=some (d,x):=by rw[G3,ho];rfl
       obtain⟨o0,o1⟩:=b3.out k _ a5;replace o0:=(E.out.cell (p:=⟨go,k*2,none⟩) a0).trans o0;replace o1:=(E.out.cell (p:=⟨go,k*2+1,none⟩) a0).trans o1;simp only at o0 o1;have N:jb L.length f.vars f.J6.length (d,x):=by
        have:=a4.1;rw[D9]at this;exact this
       have M:=(y7 wr.heap.size wr).alloc (y6 _) (.cells #[.int .i64 d,.int .i64 x] 74);have G:=zh (y9 wr (.cells #[.int .i64 d,.int .i64 x] 74));have l:=zh (E.out.trans (M.mono E.out.size));have u:=zh ((M.block bf (I7 a2.out)).trans a2.out);have i0:(0:Int)<=(k:Int):=by omega
       have i1:(k:Int)<(f.J6.length:Int):=by omega
       have b4:=zh N;clear M ho F a5 N a4
       go_upto_region 19 with(fail)
       clear o0 o1;generalize World.alloc _ _=wb at G l u|-
       generalize wr.heap.size=bo at G|-
       have I:=(l.out.cell (p:=⟨P,0,none⟩) (I7 n.out)).trans (y5 n.out 0);have Y:=(l.out.cell (p:=⟨P,1,none⟩) (I7 n.out)).trans (y5 n.out 1);have q0:=y5 u.out 0;have q1:=y5 u.out 1;have q2:=y5 u.out 2;have d0:=y5 G.out 0;have d1:=y5 G.out 1;have OC:=zh (ziH (L.map Cf.pf) (some ⟨g,0,none⟩) cp main f.params f.vars f.J6.length (some ⟨go,0,none⟩) Q d x wb (by rw[D9];exact b4.out));rw[D9]at OC
       go_wp2_with fail
       refine OC.out.mono ?_;rintro e w3 ⟨rfl,S⟩;have R:=zh (l.out.trans (S.mono l.out.size));have a6:=zh ((S.block bf (I7 u.out)).trans u.out);clear S I Y q0 q1 q2 d0 d1 u G l OC
       go_wp2_with fail
       go_roundw
       case rel=>exact⟨k+1,by omega,by go_num,R,a6⟩
       case measure=>simp[intOf];omega
      ·obtain rfl:k=f.J6.length:=by omega
       go_wp2_with fail
       go_roundw
       case rel=>exact⟨j+1,by omega,by go_num,E⟩
       case measure=>simp[intOf];omega
    ·obtain rfl:j=L.length:=by omega
     have I:=(a.out.cell (p:=⟨P,0,none⟩) (I7 n.out)).trans (y5 n.out 0)
     go_wp2_with fail
     clear I;obtain⟨wy,rfl⟩: ∃Z:World,Z=wr:=⟨_,rfl⟩
     go_loopw[96] (λi wr=> ∃j:Nat,j<=L.length/\i=.int .i64 j/\Hid (Below H.heap.size H wr)) (λi _=>L.length-(intOf i).toNat)
     case atStart=>exact⟨0,E2 _,rfl,a⟩
     case round=>
      clear a;obtain⟨j,hj,rfl,a⟩:=hrel
      by_cases y:j<L.length
      ·obtain⟨f,r⟩: ∃f,L[j]?=some f:=⟨_,y8 y⟩
       have I:=(a.out.cell (p:=⟨P,0,none⟩) (I7 n.out)).trans (y5 n.out 0);have Y:=(a.out.cell (p:=⟨P,1,none⟩) (I7 n.out)).trans (y5 n.out 1);have HC:=zh (QH L main HP.out a8.out j f r (H4.out f (B7 r)) (some ⟨g,0,none⟩) cp wr (T.out.J0 (.of a.out)));clear r
       go_wp2_with fail
       refine HC.out.mono ?_;rintro e w3 ⟨S,v,hs,rfl,-,-⟩;have R:=zh (a.out.trans (S.mono a.out.size));clear S I Y HC
       go_wp2_with fail
       go_roundw
       case rel=>exact⟨j+1,by omega,by go_num,R⟩
       case measure=>simp[intOf];omega
      ·obtain rfl:j=L.length:=by omega
       go_wp2_with fail
       go_ret;exact⟨rfl,by rw[a9.out];exact HB.out.trans (a.out.mono (I0 (I7 n.out)))⟩
def YM(L:List Cf)(xE:List (List Int)):Prop:=xE.length=L.length/\ ∀(i:Nat)(c:Cf),L[i]?=some c-> ∃a:List Int,xE[i]?=some a/\yQ c.J6 a
theorem QM(L:List Cf)(main:Nat)(hP:zk L main)(a0:L.length<=16)(h4: ∀c∈L,c.J6.length<=4000)(A:Option Addr)(cp:Nat)(w:World)(hF:M3 w (.slice A L.length cp) (L.map Cf.pf)):
 Calls prog 47 #[.agg #[.slice A L.length cp,.int .i64 main]] w λe w'=>Below w.heap.size w w'/\ ∃v xE,e=.returned (.tuple #[v,.int .i64 0])/\yI w' v xE/\YM L xE:=by
 have z:=(y7 w.heap.size w).alloc (y6 _) (.cells #[.slice A L.length cp,.int .i64 main] 26);have m:=zh (y9 w (.cells #[.slice A L.length cp,.int .i64 main] 26));have K:=zh (hF.J0 (.of z));have M:=zh z;have HP:=zh hP;have H4:=zh h4;have N:=zh a0;clear z hF hP h4
 go_enter func47,ntmps47
 go_upto_region 1 with(fail)
 generalize World.alloc _ _=w1 at m M K|-
 generalize O:w.heap.size=Y at m M|-
 have a1:=zh O;clear O;have B:=y5 m.out 0;have c1:=y5 m.out 1;have P:=zh (YC L main HP.out N.out H4.out A cp w1 K.out)
 go_wp2_with fail
 refine P.out.mono ?_;rintro e q ⟨rfl,a⟩;have t:=I7 m.out;replace m:=zh ((a.block Y (I7 m.out)).trans m.out);replace K:=zh (K.out.J0 (.of a));replace M:Hid (Below Y w q):=zh (M.out.trans (a.mono (I0 t)));clear a B c1 P t;have B:=y5 m.out 0
 go_wp2_with fail
 clear B
 go_loopw[5,17] (λov i wr=> ∃(j:Nat)(Z:Option Addr)(ch:Nat)(d:List (List Int×Value)),j<=L.length/\i=.int .i64 j/\ov=.slice Z d.length ch/\d.length=j/\Hid (Below q.heap.size q wr)/\Hid (wr.ownsRow q.heap.size 22 1 (.slice Z d.length ch) d.length (d.map Prod.snd))/\Hid (∀b∈d,jA wr b.2 b.1)/\Hid (∀(i:Nat)(c:Cf),i<j->L[i]?=some c-> ∃b,d[i]?=some b/\yQ c.J6 b.1)) (λ_ i _=>L.length-(intOf i).toNat)
 case atStart=>exact⟨0,none,0,[],E2 _,rfl,rfl,rfl,zh (y7 _ _),zh ⟨rfl,.inl ⟨rfl,rfl⟩⟩,zh (λ_ h=>by cases h),zh (λi c h=>by omega)⟩
 case round=>
  obtain⟨j,Z,ch,d,hj,rfl,rfl,C,k,D,E,Q⟩:=hrel
  by_cases a2:j<L.length
  ·obtain⟨f,hf⟩: ∃f,L[j]?=some f:=⟨_,y8 a2⟩
   have B:=(k.out.cell (p:=⟨Y,0,none⟩) (I7 m.out)).trans (y5 m.out 0);have c1:=(k.out.cell (p:=⟨Y,1,none⟩) (I7 m.out)).trans (y5 m.out 1);have P:=zh (QH L main HP.out N.out j f hf (H4.out f (B7 hf)) A cp wr (K.out.J0 (.of k.out)));have a3:=zh hf;have b5:d.length<=16:=by omega
   have F:=zh C;clear hf C
   go_wp2_with fail
   refine P.out.mono ?_;rintro e x ⟨a,v,n,rfl,R,a4⟩;have G:=zh (k.out.trans (a.mono k.out.size));have a5:=zh (K6 D.out a);have a6:Hid (∀b∈d,jA x b.2 b.1):=zh (λb a7=>(E.out b a7).J0 a);obtain⟨r,s,rfl,S,T⟩:=a4;have a8:Hid (jA x (.slice (some ⟨r,0,none⟩) n.length s) n):=zh ⟨r,s,rfl,S,T⟩;have a9:=zh R;have H:=(y7 x.heap.size x).alloc (y6 _) (.cells #[.slice (some ⟨r,0,none⟩) n.length s] 22);have I:=zh (K6 a5.out H);have b6:q.heap.size<=x.heap.size:=G.out.size;have J:=zh H;clear a S T R B c1 P D E k H
   go_upto_region 10 with(at_builtin;go_must(refine M7 zdC rfl _ _ rfl q.heap.size (.slice Z d.length ch) d.length (d.map Prod.snd) rfl I.out x.heap.size 1 #[.slice (some ⟨r,0,none⟩) n.length s] rfl (y9 x _) rfl (by simp[Value.oneCell']) (by omega) (by simp;omega) ?_);intro g9 U w9 o g V W)
   have b0:Hid (∀b∈d++[(n,Value.slice (some ⟨r,0,none⟩) n.length s)],jA w9 b.2 b.1):=zh (by
    have X: ∀{u:Value}{l:List Int},jA x u l->jA w9 u l:=λ{u l} h=>by
     obtain⟨g0,B,e0,h1,h2⟩:=h.J0 J.out;exact⟨g0,B,e0,h1,(g.block g0 (I7 h2) (λe=>L9 I.out h2 (by decide) e.symm)).trans h2⟩
    intro b a
    rcases List.mem_append.1 a with a|a
    ·exact X (a6.out b a)
    ·obtain rfl:=List.mem_singleton.1 a
     exact X a8.out)
   have b2:Hid (Below q.heap.size q w9):=zh (L8 (G.out.trans (J.out.mono G.out.size)) I.out (y6 _) (by have:=J.out.size;omega) g);have b3:Hid (w9.ownsRow q.heap.size 22 1 (.slice (some ⟨g9,0,none⟩) (d++[(n,Value.slice (some ⟨r,0,none⟩) n.length s)]).length U) (d++[(n,Value.slice (some ⟨r,0,none⟩) n.length s)]).length ((d++[(n,Value.slice (some ⟨r,0,none⟩) n.length s)]).map Prod.snd)):=zh (by
    rw[z9,List.map_append];exact o)
   have b4:Hid (∀(i:Nat)(c:Cf),i<j+1->L[i]?=some c-> ∃b,(d++[(n,Value.slice (some ⟨r,0,none⟩) n.length s)])[i]?=some b/\yQ c.J6 b.1):=zh (λi c hi y=>by
    by_cases e:i<j
    ·obtain⟨b,a,hk⟩:=Q.out i c e y
     exact⟨b,by have:=F.out;rw[List.getElem?_append_left (by omega)];exact a,hk⟩
    ·obtain rfl:i=j:=by omega
     rw[a3.out]at y;injection y with y;subst y
     exact⟨_,by have:=F.out;rw[List.getElem?_append_right (by omega),this,Nat.sub_self];rfl,a9.out⟩)
   clear o g V W
   go_wp2_with fail
   go_roundw
   case rel=>exact⟨j+1,_,_,_,by omega,by go_num,by rw[z9];rfl,by rw[z9,F.out];rfl,b2,b3,b0,b4⟩
   case measure=>simp[intOf];omega
  ·obtain rfl:j=L.length:=by omega
   go_wp2_with fail
   go_ret2;exact⟨by rw[a1.out];exact M.out.trans (k.out.mono (I0 (I7 m.out))),_,d.map Prod.fst,rfl,yI.ql D.out E.out,by rw[D9];exact C,λi c y=>by
    obtain⟨b,a,hk⟩:=Q.out i c (List.getElem?_eq_some_iff.1 y).1 y;exact⟨b.1,by rw[G3,a];rfl,hk⟩⟩
end Go.Proofs.YtalgmjmibamdfaaGreatDoor
namespace Go.Proofs.YtalgmjmibamdfaaGreatDoor
open Go.RowKit Tw
theorem yQ.rch{C:T5}{hs:List Int}(h:yQ C hs): ∀{k:Nat},Ql C k->yg hs k:=λa=>by
 induction a with
 |start=>exact h.start
 |jN _ b c d=>exact h.zab _ _ _ b d _ c
theorem yQ.at{C:T5}{hs:List Int}(h:yQ C hs){k n:Nat}{o:S3}(c:Ql C k)(d:C[k]?=some (o,n)):hs[k]?=some (n:Int):=by
 obtain⟨v,b,e⟩:=h.rch c
 rcases h.ok.2 k v b with a|⟨g,i,a,f⟩
 ·exact I2 a e
 ·rw[d]at a;injection a with a;injection a with _ a;subst a;rw[b,f]
section
variable {P:List Cf}{main:Nat}
structure zg3(P:List Cf)(fs:List Fq)(i:Nat)(g:Fq)(c:Cf)(o:S3)(n:Nat):Prop where
 fn:P[g.fn]?=some c
 op:c.J6[g.pc]?=some (o,n)
 rch:Ql c.J6 g.pc
 vars:g.vars.length=c.vars
 yd:i+1=fs.length->n=g.I8.length
 low:i+1<fs.length-> ∃u cg,fs[i+1]?=some u/\o=(17,(u.fn:Int))/\P[u.fn]?=some cg/\n=g.I8.length+cg.params
theorem zY.at{f:Fq}: ∀{fs:List Fq}{w:Nat},zY P w fs f.fn->(∀x,(fs++[f])[0]?=some x->x.fn=w)/\ ∀(i:Nat)(g:Fq),fs[i]?=some g-> ∃u,(fs++[f])[i+1]?=some u/\zd9 P g u.fn
 |[],w,h=>⟨λx hx=>by simp at hx;subst hx;exact h.symm,λi g b=>by cases b⟩
 |a::l,w,h=>by
  obtain⟨d,callee,e,j⟩:=h;obtain⟨k,m⟩:=zY.at j;refine⟨λx hx=>by simp at hx;subst hx;exact d,λi g b=>?_⟩;cases i with
  |zero=>
   simp at b;subst b;obtain⟨u,c⟩: ∃u,(l++[f])[0]?=some u:=⟨_,y8 (by simp)⟩;exact⟨u,by simpa using c,by rw[k u c];exact e⟩
  |succ i=>
   obtain⟨u,c,n⟩:=m i g (by simpa using b);exact⟨u,by simpa using c,n⟩
theorem zcc.jd{fs:List Fq}{f:Fq}(h:zcc P main fs f):(∀x,(fs++[f])[0]?=some x->x.fn=main)/\ ∀(i:Nat)(g:Fq),(fs++[f])[i]?=some g-> ∃c o n,zg3 P (fs++[f]) i g c o n:=by
 obtain⟨m,p,-⟩:=h;obtain⟨q,r⟩:=m.at;refine⟨q,λi g a=>?_⟩
 rcases E5 i fs.length with l|l
 ·rw[List.getElem?_append_left l]at a
  obtain⟨u,s,c,t,b,d,j,k,v⟩:=r i g a;exact⟨c,_,_,b,j,k,v,λe=>by simp at e;omega,λ_=>⟨u,t,s,rfl,d,rfl⟩⟩
 ·obtain⟨c,o,b,d,j,k⟩:=p
  obtain rfl:i=fs.length:=by have:=(List.getElem?_eq_some_iff.1 a).1;simp at this;omega
  simp at a;subst a;exact⟨c,o,_,b,d,j,k,λ_=>rfl,λh=>by simp at h⟩
theorem zg3.yh(a:zk P main){fs:List Fq}{i:Nat}{g:Fq}{c:Cf}{o:S3}{n:Nat}(h:zg3 P fs i g c o n)(hi:i<fs.length):g.vars.length<=64/\g.I8.length<=600/\g.I8.length<=n:=by
 have d:=a.yF c (B7 h.fn);have f:=JK a h.fn h.op;have l:J4 (P.map (·.params)) o<=7:=qL (λy j=>by obtain⟨z,k,rfl⟩:=List.mem_map.1 j;exact(a.yF z k).params) o;have:=f.2.2.1;have m:g.I8.length<=n:=by
  rcases E5 (i+1) fs.length with b|b
  ·obtain⟨u,p,-,-,-,e⟩:=h.low b;omega
  ·rw[h.yd (by omega)];exact y6 _
 have:=d.vars.2;have:=h.vars;omega
theorem jJ.yh(d:zk P main){M:Mc}(h:jJ P main M):M.P0.length<=32/\ ∀g∈M.P0,g.vars.length<=64/\g.I8.length<=600:=by
 rcases h with⟨-,m,f,e,h⟩|⟨-,e⟩|⟨-,-,e⟩
 ·rw[e]
  refine⟨by have:=h.2.2;simp;omega,λg a=>?_⟩;obtain⟨i,b,rfl⟩:=List.mem_iff_getElem.1 a;obtain⟨c,o,n,j⟩:=h.jd.2 i _ (y8 b);obtain⟨k,l,-⟩:=j.yh d b;exact⟨k,l⟩
 ·rw[e];exact⟨by simp,λg a=>by cases a⟩
 ·rw[e];exact⟨by simp,λg a=>by cases a⟩
def L0(P:List Cf)(main:Nat):Mc:=⟨0,0,[⟨main,0,List.replicate (((P[main]?).map (·.vars)).getD 0) 0,[]⟩]⟩
theorem QO(d:zk P main):jJ P main (L0 P main)/\McR (L0 P main):=by
 obtain⟨c,a,-⟩:=d.main;obtain⟨o,e⟩:=(d.yF c (B7 a)).start;refine⟨.inl ⟨rfl,[],_,rfl,rfl,⟨c,o,a,e,.start,by simp[a]⟩,by decide⟩,(by decide:qX 0),λf g=>?_⟩;rw[List.mem_singleton.1 g];exact⟨λx b=>by rw[(List.mem_replicate.1 b).2];decide,λx b=>by cases b⟩
end
end Go.Proofs.YtalgmjmibamdfaaGreatDoor
namespace Go.Proofs.YtalgmjmibamdfaaGreatDoor
open Go.Proofs.Tryz
open Go.RowKit Tw
theorem QP{w:World}{g base:Nat}{l:List Int}(h:w.heap[g]?=some (.cells (U5 l) 3 (0,0)))(a:base<=g)(b:l.length<=1000000):w.ownsRow base 3 1 (.slice (some ⟨g,0,none⟩) l.length l.length) l.length (iC l):=by
 refine⟨by rw[ju,Nat.mul_one],.inr ⟨g,_,_,rfl,a,h,y6 _,by unfold maxLen;omega,by simp[U5],?_⟩⟩;rw[Nat.mul_one];exact List.take_of_length_le (by simp[U5])
theorem Ym(w:World)(n:Nat):Rows w (bd n) []:=⟨λ_ h=>h.elim,λ_=>(0,false),λi x h=>by cases h⟩
theorem zbq(L:List Cf)(main:Nat)(X:zk L main)(a0:L.length<=16)(h4: ∀c∈L,c.J6.length<=4000)(A:Option Addr)(cp:Nat)(w:World)(G:M3 w (.slice A L.length cp) (L.map Cf.pf)):
 Calls prog 10 #[.agg #[.slice A L.length cp,.int .i64 main]] w λe w'=>Below w.heap.size w w'/\ ∃A' c',e=.returned (.slice A' (K4 (L0 L main)).length c')/\w'.ownsRow w.heap.size 3 1 (.slice A' (K4 (L0 L main)).length c') (K4 (L0 L main)).length (iC (K4 (L0 L main))):=by
 obtain⟨cm,h,a1⟩:=X.main;have b1:=(X.yF cm (B7 h)).vars.2;have b2:main<L.length:=(List.getElem?_eq_some_iff.1 h).1;have u:=(y7 w.heap.size w).alloc (y6 _) (.cells #[.slice A L.length cp,.int .i64 main] 26);have i:=zh (y9 w (.cells #[.slice A L.length cp,.int .i64 main] 26));have H:=zh (G.J0 (.of u));have I:=zh u;have J:Hid (L0 L main=⟨0,0,[⟨main,0,List.replicate cm.vars 0,[]⟩]⟩):=zh (by simp[L0,h]);have HP:=zh X;have H4:=zh h4;have a2:=zh h;clear u G X h4 h a1
 go_enter func10,ntmps10
 go_upto_region 1 with(fail)
 generalize World.alloc _ _=w1 at i I H|-
 generalize K:w.heap.size=m at i I|-
 have M:=zh K;clear K;have C:=y5 i.out 0;have D:=y5 i.out 1;have HC:=zh (YC L main HP.out a0 H4.out A cp w1 H.out)
 go_wp2_with fail
 refine HC.out.mono ?_;rintro e a ⟨rfl,Y⟩;have s:=I7 i.out;replace i:=zh ((Y.block m (I7 i.out)).trans i.out);replace H:=zh (H.out.J0 (.of Y));replace I:Hid (Below m w a):=zh (I.out.trans (Y.mono (I0 s)));clear Y C D HC s
 go_upto_region 3 with(fail)
 have d:=I7 i.out;obtain⟨j,b3,vo,hv,-,b4,u0,Z,u2,-⟩:=H.out.at (zi a2.out);injection hv with a3 a4 a5
 clear a4;subst a3 a5;simp only[Cf.pf]at Z;have C:=y5 i.out 0;have D:=y5 i.out 1;obtain⟨n,hn⟩: ∃n,cm.vars=n:=⟨_,rfl⟩;rw[hn]at Z J;obtain⟨b,rm,v,f,-⟩:=XE a.drew n (by omega);have b5:a.drew.heap.size=a.heap.size:=rfl;have N:=(f.cell (p:=⟨m,0,none⟩) d).trans C;have O:=(f.cell (p:=⟨m,1,none⟩) d).trans D;have k:=f.alloc f.size (.cells #[.int .i64 main,.int .i64 0,.slice (some ⟨a.heap.size,0,none⟩) n n,.slice none 0 0] 95);have P:=(k.cell (p:=⟨m,0,none⟩) d).trans C;have Q:=(k.cell (p:=⟨m,1,none⟩) d).trans D;have j0:(0:Int)<=(main:Int):=by omega
 have j1:(main:Int)<(L.length:Int):=by omega
 refine L4 (by kernel_rfl) [(0,7,.agg #[.slice (some ⟨j,0,none⟩) L.length cp,.int .i64 main]),(1,8,.pointer (some ⟨m,1,none⟩)),(2,9,.int .i64 main),(3,10,.pointer (some ⟨m,0,none⟩)),(4,11,.slice (some ⟨j,0,none⟩) L.length cp),(5,12,.pointer (some ⟨m,1,none⟩)),(6,13,.int .i64 main),(7,14,.pointer (some ⟨j,main*3,none⟩)),(8,15,.pointer (some ⟨j,main*3+1,none⟩)),(9,16,.int .i64 n),(10,17,.slice (some ⟨a.heap.size,0,none⟩) n n),(11,18,.agg #[.int .i64 main,.int .i64 0,.slice (some ⟨a.heap.size,0,none⟩) n n,.slice none 0 0]),(12,19,.slice (some ⟨b.heap.size,0,none⟩) 1 1),(13,20,.agg #[.slice (some ⟨j,0,none⟩) L.length cp,.int .i64 main,.int .i64 0,.int .i64 0,.slice (some ⟨b.heap.size,0,none⟩) 1 1]),(14,21,.pointer (some ⟨b.heap.size+1,0,none⟩)),(15,3,.pointer (some ⟨b.heap.size+1,0,none⟩))] [] _ _ rfl rfl [10,12,14] (λz=>match z with|0=>a.drew|1=>b|2=>b.alloc (.cells #[.int .i64 main,.int .i64 0,.slice (some ⟨a.heap.size,0,none⟩) n n,.slice none 0 0] 95)|_=>(b.alloc (.cells #[.int .i64 main,.int .i64 0,.slice (some ⟨a.heap.size,0,none⟩) n n,.slice none 0 0] 95)).alloc (.cells #[.slice (some ⟨j,0,none⟩) L.length cp,.int .i64 main,.int .i64 0,.int .i64 0,.slice (some ⟨b.heap.size,0,none⟩) 1 1] 98)) [(0,0),(0,1),(0,2),(1,0),(1,1),(2,0),(2,1),(3,0),(4,0),(5,0),(6,0),(7,0),(8,0),(9,0),(10,0),(11,1),(12,1),(13,2),(14,2),(15,3)] (by kernel_rfl) (by kernel_rfl) (by rfl) rfl ?_ ?_
 ·generalize G:J8 _ _=F
  simp[J8]at G;subst G
  repeat' (first|refine List.forall_mem_cons.2 ⟨?_,?_⟩|exact List.forall_mem_nil _)
  all_goals
   intro o E;injection E with E
   subst E
  all_goals simp[X9,execOp,go_sem,C,D,N,O,P,Q,Z,j0,j1,rm]
 have a6:=y9 b (.cells #[.int .i64 main,.int .i64 0,.slice (some ⟨a.heap.size,0,none⟩) n n,.slice none 0 0] 95);have a7:a.heap.size<=b.heap.size:=f.size;have o3:=World.ownsRow_lit (base:=a.heap.size) (e:=95) (size:=4) b #[.int .i64 main,.int .i64 0,.slice (some ⟨a.heap.size,0,none⟩) n n,.slice none 0 0] 1 a7 (by decide) rfl;have S:=k.alloc k.size (.cells #[.slice (some ⟨j,0,none⟩) L.length cp,.int .i64 main,.int .i64 0,.int .i64 0,.slice (some ⟨b.heap.size,0,none⟩) 1 1] 98);have l:=y9 (b.alloc (.cells #[.int .i64 main,.int .i64 0,.slice (some ⟨a.heap.size,0,none⟩) n n,.slice none 0 0] 95)) (.cells #[.slice (some ⟨j,0,none⟩) L.length cp,.int .i64 main,.int .i64 0,.int .i64 0,.slice (some ⟨b.heap.size,0,none⟩) 1 1] 98);have B:=(y7 b.heap.size b).alloc (y6 _) (.cells #[.int .i64 main,.int .i64 0,.slice (some ⟨a.heap.size,0,none⟩) n n,.slice none 0 0] 95);have T:=B.alloc B.size (.cells #[.slice (some ⟨j,0,none⟩) L.length cp,.int .i64 main,.int .i64 0,.int .i64 0,.slice (some ⟨b.heap.size,0,none⟩) 1 1] 98);have t:=(T.block a.heap.size (I7 v)).trans v;have o4:=K6 o3 ((y7 _ _).alloc (y6 _) (.cells #[.slice (some ⟨j,0,none⟩) L.length cp,.int .i64 main,.int .i64 0,.int .i64 0,.slice (some ⟨b.heap.size,0,none⟩) 1 1] 98));have q:=QP t (base:=a.heap.size) (y6 _) (by simp;omega);have es:(b.alloc (.cells #[.int .i64 main,.int .i64 0,.slice (some ⟨a.heap.size,0,none⟩) n n,.slice none 0 0] 95)).heap.size=b.heap.size+1:=by simp
 rw[es]at l;simp only[List.length_replicate]at q;have r:=zh (S);clear C D N O P Q u0 Z u2 rm v f k o3 B T t S a6 es j0 j1;simp only[J8,B6,C0,List.append_nil,List.foldl];go_simp;generalize World.alloc _ _=w4 at l o4 q r|-
 generalize a8:b.heap.size+1=mb at l|-
 have U:zA w4 (bd a.heap.size) mb (some ⟨j,0,none⟩) L.length cp main 0 0 (some ⟨b.heap.size,0,none⟩) 1 [(⟨main,0,List.replicate n 0,[]⟩,.slice (some ⟨a.heap.size,0,none⟩) n n,.slice none 0 0)]:=by
  refine⟨(show a.heap.size<=mb by omega),l,o4,(Ym a a.heap.size).zce (y:=(⟨main,0,List.replicate n 0,[]⟩,.slice (some ⟨a.heap.size,0,none⟩) n n,.slice none 0 0)) (λg cs hg=>r.out.block g (I7 hg)) (by simpa using q) (G5 _ _ _ _) (λg e=>Nat.le_of_eq (by simpa[Value.ownBlock]using e)) (λg e=>by cases e) (λg _ e=>by cases e)⟩
 have HV:=zh U;have V:Hid (Below m w w4):=zh (I.out.trans (((J5 a).trans r.out).mono (I0 d)));clear l o4 q U a8 r;have WC:=zh (XT HV.out ⟨by simp,λx hx=>by rw[List.mem_singleton.1 hx];simp;omega⟩)
 go_wp2_with fail
 refine WC.out.mono ?_;rintro e w5 ⟨W,A',c',rfl,E⟩;have HO:=zh E;have a9:=zh W;clear E W
 go_wp2_with fail
 go_ret;rw[J.out,M.out];have hz:=V.out.size;rw[M.out]at hz;exact⟨V.out.trans (a9.out.mono hz),A',c',rfl,HO.out.mono hz⟩
theorem zdi:R1 prog 43 42 4:=⟨underlying43,by kernel_rfl,by decide⟩
theorem XG{T d:Nat}(E:R1 prog T d 4)(N:d≠3){B:Bd}(F: ∀k,xm B k d){c:Nat}{u w:World}{A:Option Addr}{l:List Fm}(h:S8 w B d A c l)(W:Rows u B l)(O:IK u w)(hs:u.heap.size<=w.heap.size)(G:B<=u.heap.size)(a:Fq){f j:Option Addr}{m o:Nat}
 (Q:w.ownsRow u.heap.size 3 1 (.slice f a.vars.length m) a.vars.length (iC a.vars)) (x:w.ownsRow u.heap.size 3 1 (.slice j a.I8.length o) a.I8.length (iC a.I8)) (X: ∀g,(Value.slice f a.vars.length m).ownBlock=some g->(Value.slice j a.I8.length o).ownBlock≠some g) (hl:l.length<=100):
 ∃R S q,(Builtin.append_ #[T,T] T #[.slice A l.length c,.slice (some ⟨w.heap.size,0,none⟩) 1 1]).run prog (w.alloc (.cells #[.int .i64 a.fn,.int .i64 a.pc,.slice f a.vars.length m,.slice j a.I8.length o] d))=.ok (.slice R (l.length+1) S) q/\
  S8 q B d R S (l++[(a,.slice f a.vars.length m,.slice j a.I8.length o)])/\Vo B w q/\ ∀(g:Nat)(b:Array Value)(t:Nat)(f':Nat×Nat),w.heap[g]?=some (.cells b t f')->t≠d->q.heap[g]?=w.heap[g]?:=by
 have H:B<=w.heap.size:=C4 G hs;have C:=(y7 w.heap.size w).alloc (y6 _) (.cells #[.int .i64 a.fn,.int .i64 a.pc,.slice f a.vars.length m,.slice j a.I8.length o] d);have s:=K6 h.jq C;obtain⟨i,z,Y,Z,I,J,K⟩:=E.get;have hX:=y9 w (.cells #[.int .i64 a.fn,.int .i64 a.pc,.slice f a.vars.length m,.slice j a.I8.length o] d);obtain⟨g2,D,q,r8,o8,U,n8,-⟩:=run_append_lies (P:=prog) (w.alloc (.cells #[.int .i64 a.fn,.int .i64 a.pc,.slice f a.vars.length m,.slice j a.I8.length o] d)) T T B d i z 4 i.bytes E.ut Y Z I rfl K (by decide) _ _ _ s ⟨w.heap.size,0,none⟩ 1 1 [.int .i64 a.fn,.int .i64 a.pc,.slice f a.vars.length m,.slice j a.I8.length o] rfl (World.news_of_block hX) (by simp[Value.oneCell']) (by omega) (by unfold maxLen;omega) (qV J (by omega)) (C4 H C.size) _ rfl;have L: ∀(g:Nat)(b:Array Value)(t:Nat)(f':Nat×Nat),w.heap[g]?=some (.cells b t f')->t≠d->q.heap[g]?=w.heap[g]?:=λg b t f' p h1=>by
  have M:=C.block g (I7 p);rw[U.block g (I7 (M.trans p)) (λe=>L9 s (M.trans p) (λe=>h1 e.symm) e.symm),M]
 have V: ∀{r n:Nat}{v:Value}{xs:List Value},w.ownsRow r 3 1 v n xs->q.ownsRow r 3 1 v n xs:=λho=>M4 ho λg b _ p=>L g b _ _ p (λe=>N e.symm);refine⟨_,D,q,r8,⟨?_,W.zce (y:=(a,.slice f a.vars.length m,.slice j a.I8.length o)) (λg b p=>?_) ((V Q).mono G) ((V x).mono G) (λg e=>(Q.lt g e).1) (λg e=>(x.lt g e).1) X⟩,?_,L⟩
 ·have e:(l++[(a,Value.slice f a.vars.length m,Value.slice j a.I8.length o)]).flatMap Fm.cells=l.flatMap Fm.cells++[.int .i64 a.fn,.int .i64 a.pc,.slice f a.vars.length m,.slice j a.I8.length o]:=by simp[Fm.cells]
  rw[e,z9,List.length_singleton];exact o8
 ·rw[L g b _ _ ((O g b p).trans p) (λe=>N e.symm),O g b p]
 ·exact(Vo.of C H).trans (Vo.W8 s (λg _=>F g) (C4 H C.size) U)
theorem zfT{w:World}{v:Value}{L:List Cf}{xE:List (List Int)}(r:yI w v xE)(m:YM L xE){i k n:Nat}{c:Cf}{o:S3}(s:L[i]?=some c)(t:Ql c.J6 k)(x:c.J6[k]?=some (o,n)):
 ∃b g d h,v=.slice (some ⟨b,0,none⟩) L.length g/\b<w.heap.size/\d<w.heap.size/\w.cell? ⟨b,i,none⟩=some (.slice (some ⟨d,0,none⟩) c.J6.length h)/\w.cell? ⟨d,k,none⟩=some (.int .i64 n):=by
 obtain⟨y,j,p⟩:=m.2 i c s
 rcases r with⟨e,-⟩|⟨b,g,rfl,z,a⟩
 ·rw[e]at j;cases j
 ·obtain⟨u,q,d,h,rfl,l,f⟩:=a i y j
  have A:=p.at t x;rw[p.ok.1]at q l;refine⟨b,g,d,h,by rw[m.1],z,I7 f,q,?_⟩;have:=jh f A;exact this
end Go.Proofs.YtalgmjmibamdfaaGreatDoor
