/- Merged. -/
import Derived.Test.YtalgmjmibamdfaaGreatDoorCO10
set_option linter.all false
set_option maxHeartbeats 16000000
set_option maxRecDepth 100000
namespace Go.Proofs.YtalgmjmibamdfaaGreatDoor
open Go.Proofs.Tryz
open Go.RowKit Tw
theorem Yh(L:List Cf)(main:Nat)(hP:zk L main)(g4:L.length<=16)(h4: ∀c∈L,c.J6.length<=4000)(A:Option Addr)(cp:Nat)(w:World)(hF:M3 w (.slice A L.length cp) (L.map Cf.pf)):
 Calls prog 33 #[.agg #[.slice A L.length cp,.int .i64 main]] w λe w'=>
  Below w.heap.size w w'/\ ∃v xE,e=.returned (.tuple #[v,.int .i64 0])/\yI w' v xE/\xE.length=L.length/\ ∀(i:Nat)(c:Cf),L[i]?=some c-> ∃hs:List Int,xE[i]?=some hs/\yQ c.J6 hs:=by
 have B:=(y7 w.heap.size w).alloc (y6 _) (.cells #[.slice A L.length cp,.int .i64 main] 26);have E:=zh (y9 w (.cells #[.slice A L.length cp,.int .i64 main] 26));have HF:=zh (hF.J0 (.of B));have HB:=zh B;have HP:=zh hP;have H4:=zh h4;clear B hF hP h4
 go_enter func33,ntmps33
 go_upto_region 1 with(fail)
 generalize World.alloc _ _=F at E HF HB|-
 generalize c4:w.heap.size=b1 at E HB|-
 have e5:=zh c4;clear c4;have V:=y5 E.out 0;have t0: ¬((16:Int)<(L.length:Int)):=by omega
 go_wp2_with fail
 clear V
 go_loopw[4,27] (λu i wr=> ∃j:Nat,j<=L.length/\i=.int .i64 j/\u=.bool false/\Hid (Below F.heap.size F wr)) (λ_ i _=>L.length-(intOf i).toNat)
 case atStart=>exact⟨0,E2 _,rfl,by simp,zh (y7 _ _)⟩
 case round=>
  obtain⟨j,hj,rfl,rfl,a⟩:=hrel
  by_cases S:j<L.length
  ·obtain⟨f,I⟩: ∃f,L[j]?=some f:=⟨_,y8 S⟩
   have t:=B7 I;have r:=HP.out.yF f t;have a2:=H4.out f t;obtain⟨g,c,vo,hv,-,G,H,P,Q,s⟩:=HF.out.at (zi I);injection hv with q J K
   clear J;subst q K;obtain⟨go,T,rfl,-⟩:=s.at;replace H:=(a.out.cell (p:=⟨g,j*3,none⟩) G).trans H;replace P:=(a.out.cell (p:=⟨g,j*3+1,none⟩) G).trans P;replace Q:=(a.out.cell (p:=⟨g,j*3+2,none⟩) G).trans Q;have k0:(0:Int)<=(j:Int):=by omega
   have k1:(j:Int)<(L.length:Int):=by omega
   have t1: ¬((6:Int)<(f.params:Int)):=by have:=r.params;omega
   have t2: ¬((64:Int)<(f.vars:Int)):=by have:=r.vars.2;omega
   have t3: ¬((4000:Int)<(f.J6.length:Int)):=by omega
   clear I t r a2 s G;simp only[Cf.pf,D9]at H P Q;have R:=(y7 wr.heap.size wr).alloc (y6 _) (.cells #[.int .i64 f.params,.int .i64 f.vars,.slice (some ⟨go,0,none⟩) f.J6.length T] 40);have n:=zh (y9 wr (.cells #[.int .i64 f.params,.int .i64 f.vars,.slice (some ⟨go,0,none⟩) f.J6.length T] 40));have m:=zh (a.out.trans (R.mono a.out.size));clear R
   go_upto_region 5 with(fail)
   clear H P Q;generalize World.alloc _ _=wa at n m|-
   generalize wr.heap.size=bf at n|-
   have q0:=y5 n.out 0;have q1:=y5 n.out 1;have q2:=y5 n.out 2
   go_wp2_with fail
   go_roundw
   case rel=>exact⟨j+1,by omega,by go_num,by simp,m⟩
   case measure=>simp[intOf];omega
  ·obtain rfl:j=L.length:=by omega
   obtain⟨f,I,c5⟩:=HP.out.main;have e6:main<L.length:=(List.getElem?_eq_some_iff.1 I).1;obtain⟨g,c,vo,hv,-,G,H,-⟩:=HF.out.at (zi I);injection hv with q J K
   clear J;subst q K;have V:=(a.out.cell (p:=⟨b1,0,none⟩) (I7 E.out)).trans (y5 E.out 0);have c1:=(a.out.cell (p:=⟨b1,1,none⟩) (I7 E.out)).trans (y5 E.out 1);have v0:wr.cell? ⟨g,main*3,none⟩=some (.int .i64 0):=by
    have:=(a.out.cell (p:=⟨g,main*3,none⟩) G).trans H;simp only[Cf.pf,c5]at this;exact this
   have k0:(0:Int)<=(main:Int):=by omega
   have k1:(main:Int)<(L.length:Int):=by omega
   have k2: ¬((L.length:Int)<=(main:Int)):=by omega
   clear I c5 G H S hj
   go_upto_region 11 with(fail)
   clear c1 v0 k0 k1 k2 e6
   go_wp2_with fail
   clear V;obtain⟨wx,rfl⟩: ∃wo:World,wo=wr:=⟨_,rfl⟩
   go_loopw[74] (λi wr=> ∃j:Nat,j<=L.length/\i=.int .i64 j/\Hid (Below F.heap.size F wr)) (λi _=>L.length-(intOf i).toNat)
   case atStart=>exact⟨0,E2 _,rfl,a⟩
   case round=>
    clear a;obtain⟨j,hj,rfl,a⟩:=hrel
    by_cases S:j<L.length
    ·obtain⟨f,I⟩: ∃f,L[j]?=some f:=⟨_,y8 S⟩
     have t:=B7 I;have r:=HP.out.yF f t;obtain⟨g',c,vo,hv,-,G,H,P,Q,s⟩:=HF.out.at (zi I);injection hv with q J K
     injection q with q;injection q with q
     clear J K;subst q;obtain⟨go,T,rfl,-,a8,c6⟩:=s.at;replace H:=(a.out.cell (p:=⟨g,j*3,none⟩) G).trans H;replace P:=(a.out.cell (p:=⟨g,j*3+1,none⟩) G).trans P;replace Q:=(a.out.cell (p:=⟨g,j*3+2,none⟩) G).trans Q;have k0:(0:Int)<=(j:Int):=by omega
     have k1:(j:Int)<(L.length:Int):=by omega
     have t1: ¬((f.params:Int)<0):=by omega
     have t2: ¬((f.vars:Int)<(f.params:Int)):=by have:=r.vars.1;omega
     have a2:f.J6.length<=4000:=H4.out f t;have a9:=zh r;have e7:Hid (∀(k:Nat)(o:S3),(f.J6.map Prod.fst)[k]?=some o->F.cell? ⟨go,k*2,none⟩=some (.int .i64 o.1)/\F.cell? ⟨go,k*2+1,none⟩=some (.int .i64 o.2)):=zh c6;simp only[Cf.pf,D9]at H P Q;have R:=(y7 wr.heap.size wr).alloc (y6 _) (.cells #[.int .i64 f.params,.int .i64 f.vars,.slice (some ⟨go,0,none⟩) f.J6.length T] 40);have n:=zh (y9 wr (.cells #[.int .i64 f.params,.int .i64 f.vars,.slice (some ⟨go,0,none⟩) f.J6.length T] 40));have m:=zh (a.out.trans (R.mono a.out.size));clear R I t r s G c6
     go_upto_region 14 with(fail)
     clear H P Q;generalize World.alloc _ _=wa at n m|-
     generalize wr.heap.size=bf at n|-
     have q0:=y5 n.out 0;have q1:=y5 n.out 1;have q2:=y5 n.out 2
     go_wp2_with fail
     clear q0 q1 q2 t1 t2;obtain⟨wy,rfl⟩: ∃wo:World,wo=wr:=⟨_,rfl⟩
     go_loopw[91] (λi wr=> ∃k:Nat,k<=f.J6.length/\i=.int .i64 k/\Hid (Below F.heap.size F wr)/\Hid (wr.heap[bf]?=some (.cells #[.int .i64 f.params,.int .i64 f.vars,.slice (some ⟨go,0,none⟩) f.J6.length T] 40 (0,0)))) (λi _=>f.J6.length-(intOf i).toNat)
     case atStart=>exact⟨0,E2 _,rfl,m,n⟩
     case round=>
      clear a m n;obtain⟨k,hk,rfl,X,c7⟩:=hrel
      by_cases c8:k<f.J6.length
      ·obtain⟨d,x,hh,ho⟩: ∃d x h,f.J6[k]?=some ((d,x),h):=⟨_,_,_,y8 c8⟩
       obtain⟨o',h',Y,e8⟩:=a9.out.K3 k (E2 _) c8;obtain⟨rfl,rfl⟩:(d,x)=o'/\hh=h':=by rw[ho]at Y;injection Y with Y;injection Y with e1 e2;exact⟨e1,e2⟩
       have c9:(f.J6.map Prod.fst)[k]?=some (d,x):=by rw[G3,ho];rfl
       obtain⟨o0,o1⟩:=e7.out k _ c9;replace o0:=(X.out.cell (p:=⟨go,k*2,none⟩) a8).trans o0;replace o1:=(X.out.cell (p:=⟨go,k*2+1,none⟩) a8).trans o1;simp only at o0 o1;obtain⟨d2,-⟩:=e8;obtain⟨e9,f0,U,b0⟩:=d2;have Z:jb (L.map Cf.pf).length f.vars f.J6.length (d,x):=by
        refine⟨e9,f0,?_,b0⟩;have:=U;rw[D9]at this|-
        exact this
       have R:=(y7 wr.heap.size wr).alloc (y6 _) (.cells #[.int .i64 d,.int .i64 x] 74);have M:=zh (y9 wr (.cells #[.int .i64 d,.int .i64 x] 74));have m:=zh (X.out.trans (R.mono X.out.size));have N:=zh ((R.block bf (I7 c7.out)).trans c7.out);have i0:(0:Int)<=(k:Int):=by omega
       have i1:(k:Int)<(f.J6.length:Int):=by omega
       have f1:=zh Z;clear R ho Y c9 Z
       go_upto_region 19 with(fail)
       clear o0 o1;generalize World.alloc _ _=wb at M m N|-
       generalize wr.heap.size=bo at M|-
       have V:=(m.out.cell (p:=⟨b1,0,none⟩) (I7 E.out)).trans (y5 E.out 0);have c1:=(m.out.cell (p:=⟨b1,1,none⟩) (I7 E.out)).trans (y5 E.out 1);have q0:=y5 N.out 0;have q1:=y5 N.out 1;have q2:=y5 N.out 2;have d0:=y5 M.out 0;have d1:=y5 M.out 1;have OC:=zh (zjb (L.map Cf.pf) (some ⟨g,0,none⟩) cp main f.params f.vars f.J6.length (some ⟨go,0,none⟩) T d x wb f1.out (by rw[D9];exact HF.out.J0 (.of m.out)));rw[D9]at OC
       go_wp2_with fail
       refine OC.out.mono ?_;rintro e w3 ⟨rfl,B⟩;have O:=zh (m.out.trans (B.mono m.out.size));have a7:=zh ((B.block bo (I7 M.out)).trans M.out);have a0:=zh ((B.block bf (I7 N.out)).trans N.out);obtain⟨po,a3⟩: ∃z,J4 ((L.map Cf.pf).map Pf.params) (d,x)=z:=⟨_,rfl⟩;obtain⟨pu,d3⟩: ∃z,L3 (d,x)=z:=⟨_,rfl⟩;have a4:d=20-> ¬((6:Int)<(po:Int)):=λe=>by
        have h6:x%8<=6:=b0 e;simp only[J4,e]at a3;simp at a3;have h0:0<=x:=(U (by show d≠1;rw[e];decide)).1;omega
       have U:d≠1->0<=x/\x<_:=U;rw[D9]at U;obtain⟨li,b2⟩: ∃z,Y1 L.length f.vars f.J6.length d=z:=⟨_,rfl⟩;rw[b2]at U;rw[a3,d3,b2];clear B OC V c1 q0 q1 q2 d0 d1 N M m a3 d3 b2 b0;have d0:=y5 a7.out 0;have d1:=y5 a7.out 1
       by_cases a5:d=1
       ·subst a5
        clear U a4
        go_wp2_with fail
        go_roundw
        case rel=>exact⟨k+1,by omega,by go_num,O,a0⟩
        case measure=>simp[intOf];omega
       obtain⟨x0,x1⟩:=U a5;have m1:(d !=1)=true:=by simpa using a5
       have m2: ¬(x<0):=by omega
       have m3: ¬((li:Int)<=x):=by omega
       by_cases a6:d=20
       ·have f2:=a4 a6
        subst a6;clear a4 U
        go_wp2_with fail
        go_roundw
        case rel=>exact⟨k+1,by omega,by go_num,O,a0⟩
        case measure=>simp[intOf];omega
       ·have f2:(d==20)=false:=by simpa using a6
        clear a4 U a6 a5
        go_wp2_with fail
        go_roundw
        case rel=>exact⟨k+1,by omega,by go_num,O,a0⟩
        case measure=>simp[intOf];omega
      ·obtain rfl:k=f.J6.length:=by omega
       go_wp2_with fail
       go_roundw
       case rel=>exact⟨j+1,by omega,by go_num,X⟩
       case measure=>simp[intOf];omega
    ·obtain rfl:j=L.length:=by omega
     have V:=(a.out.cell (p:=⟨b1,0,none⟩) (I7 E.out)).trans (y5 E.out 0)
     go_wp2_with fail
     clear V;obtain⟨wy,rfl⟩: ∃wo:World,wo=wr:=⟨_,rfl⟩
     go_loopw[15,134] (λov i wr=> ∃(j:Nat)(Ah:Option Addr)(ch:Nat)(C:List (List Int×Value)),j<=L.length/\i=.int .i64 j/\ov=.slice Ah C.length ch/\C.length=j/\Hid (Below F.heap.size F wr)/\Hid (wr.ownsRow F.heap.size 22 1 (.slice Ah C.length ch) C.length (C.map Prod.snd))/\Hid (∀b∈C,jA wr b.2 b.1)/\Hid (∀(i:Nat)(c:Cf),i<j->L[i]?=some c-> ∃b,C[i]?=some b/\yQ c.J6 b.1)) (λ_ i _=>L.length-(intOf i).toNat)
     case atStart=>exact⟨0,none,0,[],E2 _,rfl,rfl,rfl,a,zh ⟨rfl,.inl ⟨rfl,rfl⟩⟩,zh (λ_ h=>by cases h),zh (λi c h=>by omega)⟩
     case round=>
      clear a;obtain⟨j,Ah,ch,C,hj,rfl,rfl,b3,a,b4,b5,d4⟩:=hrel
      by_cases S:j<L.length
      ·obtain⟨f,I⟩: ∃f,L[j]?=some f:=⟨_,y8 S⟩
       have t:=B7 I;have r:=HP.out.yF f t;obtain⟨g',c,vo,hv,-,G,H,P,Q,s⟩:=HF.out.at (zi I);injection hv with q J K
       injection q with q;injection q with q
       clear J K;subst q;obtain⟨go,T,rfl,-,a8,-⟩:=s.at;replace H:=(a.out.cell (p:=⟨g,j*3,none⟩) G).trans H;replace P:=(a.out.cell (p:=⟨g,j*3+1,none⟩) G).trans P;replace Q:=(a.out.cell (p:=⟨g,j*3+2,none⟩) G).trans Q;have k0:(0:Int)<=(j:Int):=by omega
       have k1:(j:Int)<(L.length:Int):=by omega
       have a2:f.J6.length<=4000:=H4.out f t;simp only[Cf.pf,D9]at H P Q;have R:=(y7 wr.heap.size wr).alloc (y6 _) (.cells #[.int .i64 f.params,.int .i64 f.vars,.slice (some ⟨go,0,none⟩) f.J6.length T] 40);have n:=zh (y9 wr (.cells #[.int .i64 f.params,.int .i64 f.vars,.slice (some ⟨go,0,none⟩) f.J6.length T] 40));have m:=zh (a.out.trans (R.mono a.out.size));have b6:=zh (K6 b4.out R);have b7:Hid (∀b∈C,jA (wr.alloc (.cells #[.int .i64 f.params,.int .i64 f.vars,.slice (some ⟨go,0,none⟩) f.J6.length T] 40)) b.2 b.1):=zh (λb B=>(b5.out b B).J0 R);have HC:=zh (λW (hW:Below F.heap.size F W)=>zbG (L.map Cf.pf) (some ⟨g,0,none⟩) cp main f.pf (some ⟨go,0,none⟩) T f.J6 W rfl (by rw[jE];exact r.K3) r.start a2 (by rw[jE];intro x U;obtain⟨y,hy,rfl⟩:=List.mem_map.1 U;exact(HP.out.yF y hy).params) (by rw[D9];exact HF.out.J0 (.of hW)) (s.J0 (.of hW)));simp only[Cf.pf,D9]at HC;have f3:=zh I;have g3:C.length<=16:=by omega
       have b8:=zh b3;clear R I t r s G b3
       go_upto_region 30 with(fail)
       clear H P Q;generalize World.alloc _ _=wa at n m b6 b7|-
       generalize wr.heap.size=bf at n|-
       have V:=(m.out.cell (p:=⟨b1,0,none⟩) (I7 E.out)).trans (y5 E.out 0);have c1:=(m.out.cell (p:=⟨b1,1,none⟩) (I7 E.out)).trans (y5 E.out 1);have q0:=y5 n.out 0;have q1:=y5 n.out 1;have q2:=y5 n.out 2;have d5:=zh (HC.out wa m.out);clear HC b4 b5
       go_wp2_with fail
       refine d5.out.mono ?_;rintro e w3 ⟨B,v,hs,rfl,r,t⟩;have O:=zh (m.out.trans (B.mono m.out.size));have f4:=zh (K6 b6.out B);have f5:Hid (∀b∈C,jA w3 b.2 b.1):=zh (λb f6=>(b7.out b f6).J0 B);obtain⟨gv,cv,rfl,d6,d7⟩:=t;have f7:Hid (jA w3 (.slice (some ⟨gv,0,none⟩) hs.length cv) hs):=zh ⟨gv,cv,rfl,d6,d7⟩;have a9:=zh r;have b9:=(y7 w3.heap.size w3).alloc (y6 _) (.cells #[.slice (some ⟨gv,0,none⟩) hs.length cv] 22);have c2:=zh (K6 f4.out b9);have g5:F.heap.size<=w3.heap.size:=O.out.size;have c3:=zh b9;clear B d6 d7 r V c1 q0 q1 q2 d5 b6 b7 m b9
       go_upto_region 34 with(at_builtin;go_must(refine M7 zdC rfl _ _ rfl F.heap.size (.slice Ah C.length ch) C.length (C.map Prod.snd) rfl c2.out w3.heap.size 1 #[.slice (some ⟨gv,0,none⟩) hs.length cv] rfl (y9 w3 _) rfl (by simp[Value.oneCell']) (by omega) (by simp;omega) ?_);intro g9 d8 w9 a1 D d9 e3)
       have f8:Hid (∀b∈C++[(hs,Value.slice (some ⟨gv,0,none⟩) hs.length cv)],jA w9 b.2 b.1):=zh (by
        have e4: ∀{u:Value}{l:List Int},jA w3 u l->jA w9 u l:=λ{u l} h=>by
         obtain⟨g0,V,e0,h1,h2⟩:=h.J0 c3.out;exact⟨g0,V,e0,h1,(D.block g0 (I7 h2) (λe=>L9 c2.out h2 (by decide) e.symm)).trans h2⟩
        intro b B
        rcases List.mem_append.1 B with B|B
        ·exact e4 (f5.out b B)
        ·obtain rfl:=List.mem_singleton.1 B
         exact e4 f7.out)
       have f9:Hid (Below F.heap.size F w9):=zh (L8 (O.out.trans (c3.out.mono O.out.size)) c2.out (y6 _) (by have:=c3.out.size;omega) D);have g1:Hid (w9.ownsRow F.heap.size 22 1 (.slice (some ⟨g9,0,none⟩) (C++[(hs,Value.slice (some ⟨gv,0,none⟩) hs.length cv)]).length d8) (C++[(hs,Value.slice (some ⟨gv,0,none⟩) hs.length cv)]).length ((C++[(hs,Value.slice (some ⟨gv,0,none⟩) hs.length cv)]).map Prod.snd)):=zh (by
        rw[z9,List.map_append];exact a1)
       have g2:Hid (∀(i:Nat)(c:Cf),i<j+1->L[i]?=some c-> ∃b,(C++[(hs,Value.slice (some ⟨gv,0,none⟩) hs.length cv)])[i]?=some b/\yQ c.J6 b.1):=zh (λi c hi hc=>by
        by_cases e:i<j
        ·obtain⟨b,B,hk⟩:=d4.out i c e hc
         exact⟨b,by have:=b8.out;rw[List.getElem?_append_left (by omega)];exact B,hk⟩
        ·obtain rfl:i=j:=by omega
         rw[f3.out]at hc;injection hc with hc;subst hc
         exact⟨_,by have:=b8.out;rw[List.getElem?_append_right (by omega),this,Nat.sub_self];rfl,a9.out⟩)
       clear a1 D d9 e3
       go_wp2_with fail
       go_roundw
       case rel=>exact⟨j+1,_,_,_,by omega,by go_num,by rw[z9];rfl,by rw[z9,b8.out];rfl,f9,g1,f8,g2⟩
       case measure=>simp[intOf];omega
      ·obtain rfl:j=L.length:=by omega
       go_wp2_with fail
       go_ret2;exact⟨by rw[e5.out];exact HB.out.trans (a.out.mono (I0 (I7 E.out))),_,C.map Prod.fst,rfl,yI.ql b4.out b5.out,by rw[D9];exact b3,λi c hc=>by
        obtain⟨b,B,hk⟩:=d4.out i c (List.getElem?_eq_some_iff.1 hc).1 hc;exact⟨b.1,by rw[G3,B];rfl,hk⟩⟩
end Go.Proofs.YtalgmjmibamdfaaGreatDoor
namespace Go.Proofs.YtalgmjmibamdfaaGreatDoor
open Go.RowKit Tw
def Vt0(t:Nat):Prop:=t=3\/t=95\/t=98\/t=42\/t=45
structure Bd where
 n:Nat
 S:Nat->Prop
instance :Coe Bd Nat:=⟨Bd.n⟩
abbrev bd(n:Nat):Bd:=⟨n,λ_=>False⟩
def xm(B:Bd)(k t:Nat):Prop:=t=95\/t=98\/t=42\/t=45\/(t=3/\ ¬B.S k)
theorem xm.int{B:Bd}{k:Nat}(h: ¬B.S k):xm B k 3:=.inr (.inr (.inr (.inr ⟨rfl,h⟩)))
theorem xm.t0{B:Bd}{k t:Nat}(h:xm B k t):Vt0 t:=by
 rcases h with h|h|h|h|h
 ·exact .inr (.inl h)
 ·exact .inr (.inr (.inl h))
 ·exact .inr (.inr (.inr (.inl h)))
 ·exact .inr (.inr (.inr (.inr h)))
 ·exact .inl h.1
structure Vo(B:Bd)(w w':World):Prop where
 O7:Below B w w'
 K3: ∀(k:Nat)(cs:Array Value)(t:Nat)(fr:Nat×Nat),w.heap[k]?=some (.cells cs t fr)-> ¬xm B k t->w'.heap[k]?=w.heap[k]?
section
variable {B:Bd}{w w' w2:World}
theorem Vo.of(h:Below w.heap.size w w')(a:B<=w.heap.size):Vo B w w':=⟨h.mono a,λ_ _ _ _ b _=>h.block _ (I7 b)⟩
theorem Vo.refl:Vo B w w:=⟨y7 _ _,λ_ _ _ _ _ _=>rfl⟩
theorem Vo.trans(h:Vo B w w')(f:Vo B w' w2):Vo B w w2:=⟨h.O7.trans f.O7,λk a t b d e=>(f.K3 k a t b ((h.K3 k a t b d e).trans d) e).trans (h.K3 k a t b d e)⟩
theorem Vo.grown{row:Option Nat}(f:w.grownBy w' row)(j:B<=w.heap.size)(m: ∀g,row=some g->B<=g)(n: ∀b a t d,row=some b->w.heap[b]?=some (.cells a t d)->xm B b t):Vo B w w':=
 ⟨(y7 B w).grown f j m,λk a o d i h=>f.block k (I7 i) λe=>h (n k a o d e.symm i)⟩
theorem Vo.set{b t:Nat}{f:Array Value}{i:Nat×Nat}(a:w.heap[b]?=some (.cells f t i))(d:B<=b)(k:xm B b t)(j:Nat)(u:Value):Vo B w (w.setCell ⟨b,j,none⟩ u):=
 .grown (J2 w b j u) (C4 d (I0 (I7 a))) (λg e=>by injection e with e;subst e;exact d) λp m q n e h=>by
  injection e with e;subst e;rw[a]at h;injection h with h;injection h with _ o;subst o;exact k
theorem Vo.W8{e size n:Nat}{v:Value}{xs:List Value}(d:w.ownsRow B e size v n xs)(j: ∀g,v.ownBlock=some g->xm B g e)(f:B<=w.heap.size)(i:w.grownBy w' v.ownBlock):Vo B w w':=by
 rcases d.2 with⟨rfl,-⟩|⟨g,m,o,rfl,u,a,-⟩
 ·exact .grown i f (λg e=>by cases e) λb p t q e=>by cases e
 ·refine .grown i f (λk e=>(d.lt k e).1) λb p t q e h=>?_
  have r:=j b e;injection e with e;subst e;rw[a]at h;injection h with h;injection h with _ s;subst s;exact r
theorem Vo.xi(h:Vo B w w'):Y2 w w':=⟨λg a t b d e=>h.K3 g a t b d (by rcases e with rfl|rfl<;>simp[xm])⟩
end
theorem M4{w w':World}{base e size n:Nat}{v:Value}{xs:List Value}(h:w.ownsRow base e size v n xs)(i: ∀(g:Nat)(j:Array Value),v.ownBlock=some g->w.heap[g]?=some (.cells j e (0,0))->w'.heap[g]?=w.heap[g]?):w'.ownsRow base e size v n xs:=by
 refine⟨h.1,?_⟩
 rcases h.2 with h|⟨g,a,b,rfl,d,f,r⟩
 ·exact .inl h
 ·exact .inr ⟨g,a,b,rfl,d,(i g _ rfl f).trans f,r⟩
def iC(l:List Int):List Value:=l.map (Value.int .i64)
abbrev Fm:Type:=Fq×Value×Value
def Fm.cells(x:Fm):List Value:=[.int .i64 x.1.fn,.int .i64 x.1.pc,x.2.1,x.2.2]
structure Rw(w:World)(B:Bd)(lab:Nat->Nat×Bool)(i:Nat)(x:Fm):Prop where
 v:w.ownsRow B 3 1 x.2.1 x.1.vars.length (iC x.1.vars)
 s:w.ownsRow B 3 1 x.2.2 x.1.I8.length (iC x.1.I8)
 lv: ∀g,x.2.1.ownBlock=some g->lab g=(i,false)
 ls: ∀g,x.2.2.ownBlock=some g->lab g=(i,true)
 nv: ∀g,x.2.1.ownBlock=some g-> ¬B.S g
 ns: ∀g,x.2.2.ownBlock=some g-> ¬B.S g
def JP(w:World)(B:Bd):Prop:= ∀k,B.S k-> ∃a,w.heap[k]?=some (.cells a 3 (0,0))
theorem JP.lt{w:World}{B:Bd}(h:JP w B){k:Nat}(a:B.S k):k<w.heap.size:=I7 (h k a).choose_spec
theorem JP.to{w w':World}{B:Bd}(h:JP w B)(e: ∀(k:Nat)(a:Array Value),B.S k->w.heap[k]?=some (.cells a 3 (0,0))->w'.heap[k]?=w.heap[k]?):JP w' B:=λk b=>by
 obtain⟨a,d⟩:=h k b;exact⟨a,(e k a b d).trans d⟩
theorem Vo.szs{B:Bd}{w w':World}(h:Vo B w w')(a:JP w B):JP w' B:=a.to λk e b d=>h.K3 k _ _ _ d (by simp[xm,b])
def Rows(w:World)(B:Bd)(l:List Fm):Prop:=JP w B/\ ∃lab,∀(i:Nat)(x:Fm),l[i]?=some x->Rw w B lab i x
section
variable {B:Bd}{w w':World}{l:List Fm}{x y:Fm}{lab:Nat->Nat×Bool}
theorem Rows.put(d:JP w' B)(h: ∀(i:Nat)(z:Fm),l[i]?=some z->Rw w B lab i z)(p: ∀(i:Nat)(b:Bool)(g:Nat)(f:Array Value),i<l.length->lab g=(i,b)->w.heap[g]?=some (.cells f 3 (0,0))->w'.heap[g]?=w.heap[g]?)
 (r:w'.ownsRow B 3 1 y.2.1 y.1.vars.length (iC y.1.vars)) (hs:w'.ownsRow B 3 1 y.2.2 y.1.I8.length (iC y.1.I8))
 (t: ∀g,y.2.1.ownBlock=some g->w.heap.size<=g\/ ∃b,lab g=(l.length,b)) (fs: ∀g,y.2.2.ownBlock=some g->w.heap.size<=g\/ ∃b,lab g=(l.length,b)) (u: ∀g,y.2.1.ownBlock=some g->y.2.2.ownBlock≠some g) (nv: ∀g,y.2.1.ownBlock=some g-> ¬B.S g) (ns: ∀g,y.2.2.ownBlock=some g-> ¬B.S g):Rows w' B (l++[y]):=by
 refine⟨d,λg=>if y.2.1.ownBlock=some g then(l.length,false)else if y.2.2.ownBlock=some g then(l.length,true)else lab g,λi z d=>?_⟩
 rcases E5 i l.length with k|k
 ·rw[List.getElem?_append_left k]at d
  have a:=h i z d
  have j: ∀(g:Nat)(b:Bool),g<w.heap.size->lab g=(i,b)->y.2.1.ownBlock≠some g/\y.2.2.ownBlock≠some g:=λg b m q=>
   ⟨λe=>by rcases t g e with h|⟨C,h⟩;omega;rw[q]at h;injection h with h;omega,λe=>by rcases fs g e with h|⟨C,h⟩;omega;rw[q]at h;injection h with h;omega⟩
  refine⟨M4 a.v λg f e m=>p i _ g f k (a.lv g e) m,M4 a.s λg f e m=>p i _ g f k (a.ls g e) m,λg e=>?_,λg e=>?_,a.nv,a.ns⟩
  ·obtain⟨n,o⟩:=j g _ (a.v.lt g e).2 (a.lv g e)
   rw[B5 n,B5 o];exact a.lv g e
  ·obtain⟨n,o⟩:=j g _ (a.s.lt g e).2 (a.ls g e)
   rw[B5 n,B5 o];exact a.ls g e
 ·obtain rfl:i=l.length:=by have:=(List.getElem?_eq_some_iff.1 d).1;simp at this;omega
  rw[List.getElem?_append_right (y6 _),Nat.sub_self]at d;obtain rfl:y=z:=by simpa using d
  exact⟨r,hs,λg e=>E1 e,λg e=>by rw[B5 λD=>u g D e,E1 e],nv,ns⟩
theorem Rows.zel(h:Rows w B (l++[x])): ∃lab,(∀(i:Nat)(z:Fm),l[i]?=some z->Rw w B lab i z)/\Rw w B lab l.length x:=by
 obtain⟨-,lab,h⟩:=h;exact⟨lab,λi z a=>h i z (by rw[List.getElem?_append_left (List.getElem?_eq_some_iff.1 a).1];exact a),h _ _ (by simp)⟩
theorem Rows.pop(h:Rows w B (l++[x])):Rows w B l:=by
 have a:=h.1;obtain⟨lab,h,-⟩:=h.zel;exact⟨a,lab,h⟩
theorem Rows.qn(h:Rows w B l)(d: ∀(g:Nat)(a:Array Value),w.heap[g]?=some (.cells a 3 (0,0))->w'.heap[g]?=w.heap[g]?):Rows w' B l:=by
 obtain⟨e,lab,h⟩:=h;exact⟨e.to λk a _=>d k a,lab,λi z b=>⟨M4 (h i z b).v λg a _=>d g a,M4 (h i z b).s λg a _=>d g a,(h i z b).lv,(h i z b).ls,(h i z b).nv,(h i z b).ns⟩⟩
theorem Rows.yd(h:Rows w B (l++[x])):w.ownsRow B 3 1 x.2.1 x.1.vars.length (iC x.1.vars)/\w.ownsRow B 3 1 x.2.2 x.1.I8.length (iC x.1.I8)/\ ∀g,x.2.1.ownBlock=some g->x.2.2.ownBlock≠some g:=by
 obtain⟨lab,-,h⟩:=h.zel;exact⟨h.v,h.s,λg e a=>by have:=(h.lv g e).symm.trans (h.ls g a);simp at this⟩
theorem Rows.ZF(h:Rows w B (l++[x])):(∀g,x.2.1.ownBlock=some g-> ¬B.S g)/\ ∀g,x.2.2.ownBlock=some g-> ¬B.S g:=by
 obtain⟨lab,-,h⟩:=h.zel;exact⟨h.nv,h.ns⟩
theorem Rows.stk(h:Rows w B (l++[x]))(m:w.grownBy w' x.2.2.ownBlock){f:Fq}(hf:f.vars=x.1.vars){s:Value}(hs:w'.ownsRow B 3 1 s f.I8.length (iC f.I8))(n: ∀g,s.ownBlock=some g->x.2.2.ownBlock=some g\/w.heap.size<=g):Rows w' B (l++[(f,x.2.1,s)]):=by
 obtain⟨q,-,d⟩:=h.yd;have r:=h.1;obtain⟨lab,h,a⟩:=h.zel;refine .put (r.to λk t j o=>m.block k (I7 o) λe=>a.ns k e.symm j) h (λi b g t v u o=>m.block g (I7 o) λe=>?_) (by
  rw[hf];exact q.kept m (by
   cases e:x.2.1.ownBlock with
   |none=>exact .inl rfl
   |some g=>exact .inr λp=>d g e p.symm)) hs (λg e=>.inr ⟨_,a.lv g e⟩) (λg e=>?_) (λg e p=>?_) a.nv (λg e j=>?_)
 ·have:=(a.ls g e.symm).symm.trans u
  injection this with this;omega
 ·rcases n g e with h|h
  ·exact .inr ⟨_,a.ls g h⟩
  ·exact .inl h
 ·rcases n g p with h|h
  ·exact d g e h
  ·have:=(q.lt g e).2;omega
 ·rcases n g e with h|h
  ·exact a.ns g h j
  ·have:=r.lt j;omega
theorem Rows.Zw(h:Rows w B (l++[x]))(j:w.grownBy w' x.2.1.ownBlock){f:Fq}(hf:f.I8=x.1.I8)(hs:w'.ownsRow B 3 1 x.2.1 f.vars.length (iC f.vars)):Rows w' B (l++[(f,x.2)]):=by
 obtain⟨-,n,d⟩:=h.yd;have o:=h.1;obtain⟨lab,h,a⟩:=h.zel;refine .put (o.to λk p q m=>j.block k (I7 m) λe=>a.nv k e.symm q) h (λi b g p t r m=>j.block g (I7 m) λe=>?_) hs (by
  rw[hf];exact n.kept j (by
   cases e:x.2.2.ownBlock with
   |none=>exact .inl rfl
   |some g=>exact .inr λs=>d g s.symm e)) (λg e=>.inr ⟨_,a.lv g e⟩) (λg e=>.inr ⟨_,a.ls g e⟩) d a.nv a.ns
 have:=(a.lv g e.symm).symm.trans r;injection this with this;omega
theorem Rows.zce(h:Rows w B l)(f: ∀(g:Nat)(a:Array Value),w.heap[g]?=some (.cells a 3 (0,0))->w'.heap[g]?=w.heap[g]?)(j:w'.ownsRow B 3 1 y.2.1 y.1.vars.length (iC y.1.vars))(hs:w'.ownsRow B 3 1 y.2.2 y.1.I8.length (iC y.1.I8))
 (i: ∀g,y.2.1.ownBlock=some g->w.heap.size<=g) (fs: ∀g,y.2.2.ownBlock=some g->w.heap.size<=g) (m: ∀g,y.2.1.ownBlock=some g->y.2.2.ownBlock≠some g):Rows w' B (l++[y]):=by
 obtain⟨b,lab,h⟩:=h;exact .put (b.to λk a _=>f k a) h (λ_ _ g a _ _=>f g a) j hs (λg e=>.inl (i g e)) (λg e=>.inl (fs g e)) m (λg e d=>by have:=b.lt d;have:=i g e;omega) (λg e d=>by have:=b.lt d;have:=fs g e;omega)
end
structure S8(w:World)(B:Bd)(tc:Nat)(A:Option Addr)(c:Nat)(l:List Fm):Prop where
 jq:w.ownsRow B tc 4 (.slice A l.length c) l.length (l.flatMap Fm.cells)
 R9:Rows w B l
section
variable {B:Bd}{tc c:Nat}{w w':World}{A:Option Addr}{l:List Fm}{x y:Fm}
theorem S8.qn(h:S8 w B tc A c l)(d: ∀(g:Nat)(a:Array Value)(t:Nat),w.heap[g]?=some (.cells a t (0,0))->t=3\/t=tc->w'.heap[g]?=w.heap[g]?):S8 w' B tc A c l:=
 ⟨M4 h.jq λg a _ b=>d g a tc b (.inr rfl),h.R9.qn λg a b=>d g a _ b (.inl rfl)⟩
theorem S8.below(h:S8 w B tc A c l)(a:Below w.heap.size w w'):S8 w' B tc A c l:=h.qn λg _ _ b _=>a.block g (I7 b)
theorem S8.else(h:S8 w B tc A c l){b t:Nat}{d:Array Value}{f:Nat×Nat}(i:w.heap[b]?=some (.cells d t f))(k:t≠3)(m:t≠tc)(j:Nat)(u:Value):S8 (w.setCell ⟨b,j,none⟩ u) B tc A c l:=
 h.qn λg n p a o=>(J2 w b j u).block g (I7 a) λe=>by
  injection e with e;subst e;rw[i]at a;injection a with a;injection a with _ e;subst e
  rcases o with h|h
  ·exact k h
  ·exact m h
theorem S8.at(h:S8 w B tc A c l){i:Nat}(hi:l[i]?=some x): ∃g k,A=some ⟨g,0,none⟩/\B<=g/\w.heap[g]?=some (.cells k tc (0,0))/\
 (w.cell? ⟨g,i*4,none⟩=some (.int .i64 x.1.fn)/\w.cell? ⟨g,i*4+1,none⟩=some (.int .i64 x.1.pc)/\w.cell? ⟨g,i*4+2,none⟩=some x.2.1/\w.cell? ⟨g,i*4+3,none⟩=some x.2.2)/\ ∀j,w.frozen? ⟨g,j,none⟩=false:=by
 have q:=(List.getElem?_eq_some_iff.1 hi).1;have b:=h.jq
 rcases b.2 with⟨-,r⟩|⟨g,m,d,e,n,o,-⟩
 ·omega
 ·injection e with e s p
  subst e p;have a: ∀j u,x.cells[j]?=some u->w.cell? ⟨g,i*4+j,none⟩=some u:=λj u f=>by
   have t:j<4:=(List.getElem?_eq_some_iff.1 f).1;rw[b.cellAt (i*4+j) (by omega)];exact Q6 Fm.cells 4 (λ_=>rfl) l i x hi j u f
  exact⟨g,d,rfl,n,o,⟨a 0 _ rfl,a 1 _ rfl,a 2 _ rfl,a 3 _ rfl⟩,b.frozenAt⟩
theorem zbI(l:List Fm)(x y:Fm)(j:Nat)(u:Value)(f:j<4)(e:x.cells.set j u=y.cells):((l++[x]).flatMap Fm.cells).set (l.length*4+j) u=(l++[y]).flatMap Fm.cells:=by
 have b:(l.flatMap Fm.cells).length=l.length*4:=by
  induction l with
  |nil=>rfl
  |cons a l d=>rw[List.flatMap_cons,z9,d,z7];show 4+_=_;omega
 simp only[List.flatMap_append,List.flatMap_cons,List.flatMap_nil,List.append_nil];rw[<-b,List.set_append_right _ _ (by omega),Nat.add_sub_cancel_left,e]
theorem S8.set{g j:Nat}(h:w.ownsRow B tc 4 (.slice (some ⟨g,0,none⟩) (l.length+1) c) (l.length+1) ((l++[x]).flatMap Fm.cells))(b:Rows w B (l++[y]))(d:tc≠3)(f:j<4)(u:Value)(e:x.cells.set j u=y.cells):
 S8 (w.setCell ⟨g,l.length*4+j,none⟩ u) B tc (some ⟨g,0,none⟩) c (l++[y]):=by
 refine⟨?_,b.qn λk i a=>(J2 w g _ u).block k (I7 a) λe=>?_⟩
 ·have:=(h.stored (l.length*4+j) u).1
  rw[zbI l x y j u f e]at this;rw[z9];exact this
 ·injection e with e;subst e
  exact L9 h a d rfl
theorem Rows.pc(h:Rows w B (l++[x])){f:Fq}(a:f.vars=x.1.vars)(b:f.I8=x.1.I8):Rows w B (l++[(f,x.2)]):=
 h.Zw (World.grownBy.refl _ _) b (by rw[a];exact h.yd.1)
theorem Rows.cut(h:Rows w B (l++[x])){f:Fq}(i:f.vars=x.1.vars){k:Nat}{S:Option Addr}{n d:Nat}(hx:x.2.2=.slice S n d)(b:k<=x.1.I8.length)(j:f.I8=x.1.I8.take k):Rows w B (l++[(f,x.2.1,.slice S k d)]):=by
 have a:=h.yd.2.1;have m:n=x.1.I8.length:=by
  rcases a.2 with⟨e,q⟩|⟨g,o,p,e,-⟩
  ·rw[hx]at e;injection e with _ e;omega
  ·rw[hx]at e;injection e with _ e
 subst m;rw[hx]at a;refine h.stk (World.grownBy.refl _ _) i (by
  have:=zZ a k b;rw[j,I5,Nat.min_eq_left b];have e:iC (x.1.I8.take k)=(iC x.1.I8).take (k*1):=by unfold iC;rw[List.map_take,Nat.mul_one]
  rw[e];exact this) λg e=>.inl (by rw[hx];cases S<;>exact e)
end
end Go.Proofs.YtalgmjmibamdfaaGreatDoor
