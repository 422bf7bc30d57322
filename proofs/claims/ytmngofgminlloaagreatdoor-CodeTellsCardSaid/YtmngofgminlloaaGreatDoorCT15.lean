/- Merged. -/
import Derived.Test.YtmngofgminlloaaGreatDoorCT14
set_option linter.all false
set_option maxHeartbeats 16000000
set_option maxRecDepth 100000
namespace Go.Proofs.YtmngofgminlloaaGreatDoor
open Go.Proofs.Tryz
open Go.RowKit Tw
def zfd(w:World)(v:Value)(b:List (List Int)):Prop:=
 (b=[]/\ ∃a c,v=.slice a 0 c)\/ ∃g c,v=.slice (some ⟨g,0,none⟩) b.length c/\g<w.heap.size/\ ∀(i:Nat)(d:List Int),b[i]?=some d-> ∃u,w.cell? ⟨g,i,none⟩=some u/\JX w u d
def zms:qC prog 80 29 1:=⟨underlying80,by kernel_rfl,by decide⟩
def zeG{L:List Cf}{j:Nat}{c:Cf}(h:L[j]?=some c):(L.map Cf.pf)[j]?=some c.pf:=by rw[G2,h];rfl
def zbf(L:List Cf):(L.map Cf.pf).map Pf.params=L.map (·.params):=by rw[List.map_map];rfl
def zfd.ZK{w:World}{base c:Nat}{A}{l:List (List Int×Value)}(h:w.ownsRow base 29 1 (.slice A l.length c) l.length (l.map Prod.snd))(a: ∀b∈l,JX w b.2 b.1):zfd w (.slice A l.length c) (l.map Prod.fst):=by
 rcases Nat.eq_zero_or_pos l.length with d|d
 ·have:l=[]:=List.length_eq_zero_iff.1 d
  subst this;exact .inl ⟨rfl,A,c,rfl⟩
 ·obtain⟨g,rfl⟩:=ZE h d
  refine .inr ⟨g,c,by rw[C6],(h.lt g rfl).2,λk f i=>?_⟩;rw[G2]at i;obtain⟨b,e,rfl⟩:=Option.map_eq_some_iff.1 i;have j:k<l.length:=(List.getElem?_eq_some_iff.1 e).1;refine⟨b.2,?_,a b (B7 e)⟩;rw[h.cellAt k (by omega),G2,e];rfl
def zh8(L:List Cf)(q:Nat)(hP:zlN L q)(g6:L.length<=16)(h4: ∀c∈L,c.S0.length<=4000)(A:Option Addr)(cp:Nat)(w:World)(hF:zF w (.slice A L.length cp) (L.map Cf.pf)):
 Calls prog 85 #[.agg #[.slice A L.length cp,.int .i64 q]] w λe w'=>
  Below w.heap.size w w'/\ ∃v a9,e=.returned (.tuple #[v,.int .i64 0])/\zfd w' v a9/\a9.length=L.length/\ ∀(i:Nat)(c:Cf),L[i]?=some c-> ∃hs:List Int,a9[i]?=some hs/\zhd c.S0 hs:=by
 have C:=(x8 w.heap.size w).alloc (x7 _) (.cells #[.slice A L.length cp,.int .i64 q] 55);have F:=qh (A5 w (.cells #[.slice A L.length cp,.int .i64 q] 55));have HF:=qh (hF.K7 (.of C));have HB:=qh C;have HP:=qh hP;have H4:=qh h4;clear C hF hP h4
 go_enter func85,ntmps85
 go_upto_region 1 with(fail)
 generalize World.alloc _ _=G at F HF HB|-;generalize c6:w.heap.size=b1 at F HB|-;have e7:=qh c6;clear c6;have X:=x6 F.out 0;have t0: ¬((16:Int)<(L.length:Int)):=by omega
 go_wp2_with fail
 clear X
 go_loopw[4,27] (λu i wr=> ∃j:Nat,j<=L.length/\i=.int .i64 j/\u=.bool false/\Hid (Below G.heap.size G wr)) (λ_ i _=>L.length-(intOf i).toNat)
 case atStart=>exact⟨0,D0 _,rfl,by simp,qh (x8 _ _)⟩
 case round=>
  obtain⟨j,hj,rfl,rfl,a⟩:=hrel
  by_cases T:j<L.length
  ·obtain⟨f,J⟩: ∃f,L[j]?=some f:=⟨_,x9 T⟩
   have B:=B7 J;have s:=HP.out.xL f B;have a3:=H4.out f B;obtain⟨g,c,vo,hv,-,H,I,Q,R,t⟩:=HF.out.at (zeG J);injection hv with r K M
   clear K;subst r M;obtain⟨go,U,rfl,-⟩:=t.at;replace I:=(a.out.cell (p:=⟨g,j*3,none⟩) H).trans I;replace Q:=(a.out.cell (p:=⟨g,j*3+1,none⟩) H).trans Q;replace R:=(a.out.cell (p:=⟨g,j*3+2,none⟩) H).trans R;have k0:(0:Int)<=(j:Int):=by omega
   have k1:(j:Int)<(L.length:Int):=by omega
   have t1: ¬((6:Int)<(f.params:Int)):=by have:=s.params;omega
   have t2: ¬((64:Int)<(f.vars:Int)):=by have:=s.vars.2;omega
   have t3: ¬((4000:Int)<(f.S0.length:Int)):=by omega
   clear J B s a3 t H;simp only[Cf.pf,C6]at I Q R;have S:=(x8 wr.heap.size wr).alloc (x7 _) (.cells #[.int .i64 f.params,.int .i64 f.vars,.slice (some ⟨go,0,none⟩) f.S0.length U] 66);have n:=qh (A5 wr (.cells #[.int .i64 f.params,.int .i64 f.vars,.slice (some ⟨go,0,none⟩) f.S0.length U] 66));have m:=qh (a.out.trans (S.mono a.out.size));clear S
   go_upto_region 5 with(fail)
   clear I Q R;generalize World.alloc _ _=wa at n m|-;generalize wr.heap.size=bf at n|-;have q0:=x6 n.out 0;have q1:=x6 n.out 1;have q2:=x6 n.out 2
   go_wp2_with fail
   go_roundw
   case rel=>exact⟨j+1,by omega,by go_num,by simp,m⟩
   case measure=>simp[intOf];omega
  ·obtain rfl:j=L.length:=by omega
   obtain⟨f,J,c7⟩:=HP.out.yA;have e8:q<L.length:=(List.getElem?_eq_some_iff.1 J).1;obtain⟨g,c,vo,hv,-,H,I,-⟩:=HF.out.at (zeG J);injection hv with r K M
   clear K;subst r M;have X:=(a.out.cell (p:=⟨b1,0,none⟩) (I5 F.out)).trans (x6 F.out 0);have c1:=(a.out.cell (p:=⟨b1,1,none⟩) (I5 F.out)).trans (x6 F.out 1);have v0:wr.cell? ⟨g,q*3,none⟩=some (.int .i64 0):=by
    have:=(a.out.cell (p:=⟨g,q*3,none⟩) H).trans I;simp only[Cf.pf,c7]at this;exact this
   have k0:(0:Int)<=(q:Int):=by omega
   have k1:(q:Int)<(L.length:Int):=by omega
   have k2: ¬((L.length:Int)<=(q:Int)):=by omega
   clear J c7 H I T hj
   go_upto_region 11 with(fail)
   clear c1 v0 k0 k1 k2 e8
   go_wp2_with fail
   clear X;obtain⟨wx,rfl⟩: ∃wo:World,wo=wr:=⟨_,rfl⟩
   go_loopw[74] (λi wr=> ∃j:Nat,j<=L.length/\i=.int .i64 j/\Hid (Below G.heap.size G wr)) (λi _=>L.length-(intOf i).toNat)
   case atStart=>exact⟨0,D0 _,rfl,a⟩
   case round=>
    clear a;obtain⟨j,hj,rfl,a⟩:=hrel
    by_cases T:j<L.length
    ·obtain⟨f,J⟩: ∃f,L[j]?=some f:=⟨_,x9 T⟩
     have B:=B7 J;have s:=HP.out.xL f B;obtain⟨g',c,vo,hv,-,H,I,Q,R,t⟩:=HF.out.at (zeG J);injection hv with r K M
     injection r with r;injection r with r
     clear K M;subst r;obtain⟨go,U,rfl,-,b0,c8⟩:=t.at;replace I:=(a.out.cell (p:=⟨g,j*3,none⟩) H).trans I;replace Q:=(a.out.cell (p:=⟨g,j*3+1,none⟩) H).trans Q;replace R:=(a.out.cell (p:=⟨g,j*3+2,none⟩) H).trans R;have k0:(0:Int)<=(j:Int):=by omega
     have k1:(j:Int)<(L.length:Int):=by omega
     have t1: ¬((f.params:Int)<0):=by omega
     have t2: ¬((f.vars:Int)<(f.params:Int)):=by have:=s.vars.1;omega
     have a3:f.S0.length<=4000:=H4.out f B;have b2:=qh s;have e9:Hid (∀(k:Nat)(o:zv),(f.S0.map Prod.fst)[k]?=some o->G.cell? ⟨go,k*2,none⟩=some (.int .i64 o.1)/\G.cell? ⟨go,k*2+1,none⟩=some (.int .i64 o.2)):=qh c8;simp only[Cf.pf,C6]at I Q R;have S:=(x8 wr.heap.size wr).alloc (x7 _) (.cells #[.int .i64 f.params,.int .i64 f.vars,.slice (some ⟨go,0,none⟩) f.S0.length U] 66);have n:=qh (A5 wr (.cells #[.int .i64 f.params,.int .i64 f.vars,.slice (some ⟨go,0,none⟩) f.S0.length U] 66));have m:=qh (a.out.trans (S.mono a.out.size));clear S J B s t H c8
     go_upto_region 14 with(fail)
     clear I Q R;generalize World.alloc _ _=wa at n m|-;generalize wr.heap.size=bf at n|-;have q0:=x6 n.out 0;have q1:=x6 n.out 1;have q2:=x6 n.out 2
     go_wp2_with fail
     clear q0 q1 q2 t1 t2;obtain⟨wy,rfl⟩: ∃wo:World,wo=wr:=⟨_,rfl⟩
     go_loopw[91] (λi wr=> ∃k:Nat,k<=f.S0.length/\i=.int .i64 k/\Hid (Below G.heap.size G wr)/\Hid (wr.heap[bf]?=some (.cells #[.int .i64 f.params,.int .i64 f.vars,.slice (some ⟨go,0,none⟩) f.S0.length U] 66 (0,0)))) (λi _=>f.S0.length-(intOf i).toNat)
     case atStart=>exact⟨0,D0 _,rfl,m,n⟩
     case round=>
      clear a m n;obtain⟨k,hk,rfl,Y,c9⟩:=hrel
      by_cases d2:k<f.S0.length
      ·obtain⟨d,x,hh,ho⟩: ∃d x h,f.S0[k]?=some ((d,x),h):=⟨_,_,_,x9 d2⟩
       obtain⟨o',h',Z,f0⟩:=b2.out.P6 k (D0 _) d2;obtain⟨rfl,rfl⟩:(d,x)=o'/\hh=h':=by rw[ho]at Z;injection Z with Z;injection Z with e1 e2;exact⟨e1,e2⟩
       have d3:(f.S0.map Prod.fst)[k]?=some (d,x):=by rw[G2,ho];rfl
       obtain⟨o0,o1⟩:=e9.out k _ d3;replace o0:=(Y.out.cell (p:=⟨go,k*2,none⟩) b0).trans o0;replace o1:=(Y.out.cell (p:=⟨go,k*2+1,none⟩) b0).trans o1;simp only at o0 o1;obtain⟨d4,-⟩:=f0;obtain⟨f1,f2,V,b3⟩:=d4;have a0:Ys (L.map Cf.pf).length f.vars f.S0.length (d,x):=by
        refine⟨f1,f2,?_,b3⟩;have:=V;rw[C6]at this|-;exact this
       have S:=(x8 wr.heap.size wr).alloc (x7 _) (.cells #[.int .i64 d,.int .i64 x] 166);have N:=qh (A5 wr (.cells #[.int .i64 d,.int .i64 x] 166));have m:=qh (Y.out.trans (S.mono Y.out.size));have O:=qh ((S.block bf (I5 c9.out)).trans c9.out);have i0:(0:Int)<=(k:Int):=by omega
       have i1:(k:Int)<(f.S0.length:Int):=by omega
       have f3:=qh a0;clear S ho Z d3 a0
       go_upto_region 19 with(fail)
       clear o0 o1;generalize World.alloc _ _=wb at N m O|-;generalize wr.heap.size=bo at N|-;have X:=(m.out.cell (p:=⟨b1,0,none⟩) (I5 F.out)).trans (x6 F.out 0);have c1:=(m.out.cell (p:=⟨b1,1,none⟩) (I5 F.out)).trans (x6 F.out 1);have q0:=x6 O.out 0;have q1:=x6 O.out 1;have q2:=x6 O.out 2;have d0:=x6 N.out 0;have d1:=x6 N.out 1;have OC:=qh (znA (L.map Cf.pf) (some ⟨g,0,none⟩) cp q f.params f.vars f.S0.length (some ⟨go,0,none⟩) U d x wb f3.out (by rw[C6];exact HF.out.K7 (.of m.out)));rw[C6]at OC
       go_wp2_with fail
       refine OC.out.mono ?_;rintro e w3 ⟨rfl,C⟩;have P:=qh (m.out.trans (C.mono m.out.size));have a8:=qh ((C.block bo (I5 N.out)).trans N.out);have a1:=qh ((C.block bf (I5 O.out)).trans O.out);obtain⟨po,a4⟩: ∃z,M8 ((L.map Cf.pf).map Pf.params) (d,x)=z:=⟨_,rfl⟩;obtain⟨pu,d5⟩: ∃z,Q0 (d,x)=z:=⟨_,rfl⟩;have a5:d=20-> ¬((6:Int)<(po:Int)):=λe=>by
        have h6:x%8<=6:=b3 e;simp only[M8,e]at a4;simp at a4;have h0:0<=x:=(V (by show d≠1;rw[e];decide)).1;omega
       have V:d≠1->0<=x/\x<_:=V;rw[C6]at V;obtain⟨li,b4⟩: ∃z,xa L.length f.vars f.S0.length d=z:=⟨_,rfl⟩;rw[b4]at V;rw[a4,d5,b4];clear C OC X c1 q0 q1 q2 d0 d1 O N m a4 d5 b4 b3;have d0:=x6 a8.out 0;have d1:=x6 a8.out 1
       by_cases a6:d=1
       ·subst a6
        clear V a5
        go_wp2_with fail
        go_roundw
        case rel=>exact⟨k+1,by omega,by go_num,P,a1⟩
        case measure=>simp[intOf];omega
       obtain⟨x0,x1⟩:=V a6;have m1:(d !=1)=true:=by simpa using a6
       have m2: ¬(x<0):=by omega
       have m3: ¬((li:Int)<=x):=by omega
       by_cases a7:d=20
       ·have f4:=a5 a7
        subst a7;clear a5 V
        go_wp2_with fail
        go_roundw
        case rel=>exact⟨k+1,by omega,by go_num,P,a1⟩
        case measure=>simp[intOf];omega
       ·have f4:(d==20)=false:=by simpa using a7
        clear a5 V a7 a6
        go_wp2_with fail
        go_roundw
        case rel=>exact⟨k+1,by omega,by go_num,P,a1⟩
        case measure=>simp[intOf];omega
      ·obtain rfl:k=f.S0.length:=by omega
       go_wp2_with fail
       go_roundw
       case rel=>exact⟨j+1,by omega,by go_num,Y⟩
       case measure=>simp[intOf];omega
    ·obtain rfl:j=L.length:=by omega
     have X:=(a.out.cell (p:=⟨b1,0,none⟩) (I5 F.out)).trans (x6 F.out 0)
     go_wp2_with fail
     clear X;obtain⟨wy,rfl⟩: ∃wo:World,wo=wr:=⟨_,rfl⟩
     go_loopw[15,134] (λov i wr=> ∃(j:Nat)(Ah:Option Addr)(ch:Nat)(D:List (List Int×Value)),j<=L.length/\i=.int .i64 j/\ov=.slice Ah D.length ch/\D.length=j/\Hid (Below G.heap.size G wr)/\Hid (wr.ownsRow G.heap.size 29 1 (.slice Ah D.length ch) D.length (D.map Prod.snd))/\Hid (∀b∈D,JX wr b.2 b.1)/\Hid (∀(i:Nat)(c:Cf),i<j->L[i]?=some c-> ∃b,D[i]?=some b/\zhd c.S0 b.1)) (λ_ i _=>L.length-(intOf i).toNat)
     case atStart=>exact⟨0,none,0,[],D0 _,rfl,rfl,rfl,a,qh ⟨rfl,.inl ⟨rfl,rfl⟩⟩,qh (λ_ h=>by cases h),qh (λi c h=>by omega)⟩
     case round=>
      clear a;obtain⟨j,Ah,ch,D,hj,rfl,rfl,b5,a,b6,b7,d6⟩:=hrel
      by_cases T:j<L.length
      ·obtain⟨f,J⟩: ∃f,L[j]?=some f:=⟨_,x9 T⟩
       have B:=B7 J;have s:=HP.out.xL f B;obtain⟨g',c,vo,hv,-,H,I,Q,R,t⟩:=HF.out.at (zeG J);injection hv with r K M
       injection r with r;injection r with r
       clear K M;subst r;obtain⟨go,U,rfl,-,b0,-⟩:=t.at;replace I:=(a.out.cell (p:=⟨g,j*3,none⟩) H).trans I;replace Q:=(a.out.cell (p:=⟨g,j*3+1,none⟩) H).trans Q;replace R:=(a.out.cell (p:=⟨g,j*3+2,none⟩) H).trans R;have k0:(0:Int)<=(j:Int):=by omega
       have k1:(j:Int)<(L.length:Int):=by omega
       have a3:f.S0.length<=4000:=H4.out f B;simp only[Cf.pf,C6]at I Q R;have S:=(x8 wr.heap.size wr).alloc (x7 _) (.cells #[.int .i64 f.params,.int .i64 f.vars,.slice (some ⟨go,0,none⟩) f.S0.length U] 66);have n:=qh (A5 wr (.cells #[.int .i64 f.params,.int .i64 f.vars,.slice (some ⟨go,0,none⟩) f.S0.length U] 66));have m:=qh (a.out.trans (S.mono a.out.size));have b8:=qh (qp b6.out S);have b9:Hid (∀b∈D,JX (wr.alloc (.cells #[.int .i64 f.params,.int .i64 f.vars,.slice (some ⟨go,0,none⟩) f.S0.length U] 66)) b.2 b.1):=qh (λb C=>(b7.out b C).K7 S);have HC:=qh (λW (hW:Below G.heap.size G W)=>zf1 (L.map Cf.pf) (some ⟨g,0,none⟩) cp q f.pf (some ⟨go,0,none⟩) U f.S0 W rfl (by rw[zbf];exact s.P6) s.start a3 (by rw[zbf];intro x V;obtain⟨y,hy,rfl⟩:=List.mem_map.1 V;exact(HP.out.xL y hy).params) (by rw[C6];exact HF.out.K7 (.of hW)) (t.K7 (.of hW)));simp only[Cf.pf,C6]at HC;have f5:=qh J;have g5:D.length<=16:=by omega
       have c2:=qh b5;clear S J B s t H b5
       go_upto_region 30 with(fail)
       clear I Q R;generalize World.alloc _ _=wa at n m b8 b9|-;generalize wr.heap.size=bf at n|-;have X:=(m.out.cell (p:=⟨b1,0,none⟩) (I5 F.out)).trans (x6 F.out 0);have c1:=(m.out.cell (p:=⟨b1,1,none⟩) (I5 F.out)).trans (x6 F.out 1);have q0:=x6 n.out 0;have q1:=x6 n.out 1;have q2:=x6 n.out 2;have d7:=qh (HC.out wa m.out);clear HC b6 b7
       go_wp2_with fail
       refine d7.out.mono ?_;rintro e w3 ⟨C,v,hs,rfl,s,B⟩;have P:=qh (m.out.trans (C.mono m.out.size));have f6:=qh (qp b8.out C);have f7:Hid (∀b∈D,JX w3 b.2 b.1):=qh (λb f8=>(b9.out b f8).K7 C);obtain⟨gv,cv,rfl,d8,d9⟩:=B;have f9:Hid (JX w3 (.slice (some ⟨gv,0,none⟩) hs.length cv) hs):=qh ⟨gv,cv,rfl,d8,d9⟩;have b2:=qh s;have c3:=(x8 w3.heap.size w3).alloc (x7 _) (.cells #[.slice (some ⟨gv,0,none⟩) hs.length cv] 29);have c4:=qh (qp f6.out c3);have g7:G.heap.size<=w3.heap.size:=P.out.size;have c5:=qh c3;clear C d8 d9 s X c1 q0 q1 q2 d7 b8 b9 m c3
       go_upto_region 34 with(at_builtin;go_must(refine N0 zms rfl _ _ rfl G.heap.size (.slice Ah D.length ch) D.length (D.map Prod.snd) rfl c4.out w3.heap.size 1 #[.slice (some ⟨gv,0,none⟩) hs.length cv] rfl (A5 w3 _) rfl (by simp[Value.oneCell']) (by omega) (by simp;omega) ?_);intro g9 e3 w9 a2 E e4 e5)
       have g1:Hid (∀b∈D++[(hs,Value.slice (some ⟨gv,0,none⟩) hs.length cv)],JX w9 b.2 b.1):=qh (by
        have e6: ∀{u:Value}{l:List Int},JX w3 u l->JX w9 u l:=fun{u l} h=>by
         obtain⟨g0,X,e0,h1,h2⟩:=h.K7 c5.out;exact⟨g0,X,e0,h1,(E.block g0 (I5 h2) (λe=>S5 c4.out h2 (by decide) e.symm)).trans h2⟩
        intro b C
        rcases List.mem_append.1 C with C|C
        ·exact e6 (f7.out b C)
        ·obtain rfl:=List.mem_singleton.1 C
         exact e6 f9.out)
       have g2:Hid (Below G.heap.size G w9):=qh (Q7 (P.out.trans (c5.out.mono P.out.size)) c4.out (x7 _) (by have:=c5.out.size;omega) E);have g3:Hid (w9.ownsRow G.heap.size 29 1 (.slice (some ⟨g9,0,none⟩) (D++[(hs,Value.slice (some ⟨gv,0,none⟩) hs.length cv)]).length e3) (D++[(hs,Value.slice (some ⟨gv,0,none⟩) hs.length cv)]).length ((D++[(hs,Value.slice (some ⟨gv,0,none⟩) hs.length cv)]).map Prod.snd)):=qh (by
        rw[A9,List.map_append];exact a2)
       have g4:Hid (∀(i:Nat)(c:Cf),i<j+1->L[i]?=some c-> ∃b,(D++[(hs,Value.slice (some ⟨gv,0,none⟩) hs.length cv)])[i]?=some b/\zhd c.S0 b.1):=qh (λi c hi hc=>by
        by_cases e:i<j
        ·obtain⟨b,C,hk⟩:=d6.out i c e hc
         exact⟨b,by have:=c2.out;rw[List.getElem?_append_left (by omega)];exact C,hk⟩
        ·obtain rfl:i=j:=by omega
         rw[f5.out]at hc;injection hc with hc;subst hc
         exact⟨_,by have:=c2.out;rw[List.getElem?_append_right (by omega),this,Nat.sub_self];rfl,b2.out⟩)
       clear a2 E e4 e5
       go_wp2_with fail
       go_roundw
       case rel=>exact⟨j+1,_,_,_,by omega,by go_num,by rw[A9];rfl,by rw[A9,c2.out];rfl,g2,g3,g1,g4⟩
       case measure=>simp[intOf];omega
      ·obtain rfl:j=L.length:=by omega
       go_wp2_with fail
       go_ret2;exact⟨by rw[e7.out];exact HB.out.trans (a.out.mono (G9 (I5 F.out))),_,D.map Prod.fst,rfl,zfd.ZK b6.out b7.out,by rw[C6];exact b5,λi c hc=>by
        obtain⟨b,C,hk⟩:=d6.out i c (List.getElem?_eq_some_iff.1 hc).1 hc;exact⟨b.1,by rw[G2,C];rfl,hk⟩⟩
def zjP(s):1<=smN s:=by
 cases s;rw[smN];omega
def zdh: ∀l:List Sm,l.length<=qL l
 |[]=>D0 _
 |s::l=>by
  have:=zjP s;have:=zdh l;rw[qL,A8];omega
def zkV(us)(left:Nat)(W:CmS us left):CmB us left:=by
 intro l B d F w mb A0 c0 V f b c y H m' r X ht Y Z hA E h;obtain⟨e0,a0⟩:=zgz ht;have e4:l.length<=281474976710656:=by have:=zdh l;omega
 have HF:=qh h;have HA:=qh hA;have a1:=qh X;have IS:=qh W;have I:=qh Y;have c7:=qh Z;have c8:=qh a0;have c9:=qh E;obtain⟨⟨-,c1,-,-,-⟩,-⟩:=jq h.st;clear h hA X W Y ht a0 Z E
 go_enter func144,ntmps144
 go_wp2_with fail
 clear c1
 go_loopw[14] (λi wr=> ∃(j:Nat)(U:Mv)(q:P1)(r1:Bool),j<=l.length/\i=.int .i64 j/\Hid (X6 us y (l.take j) H b false=.ok (q,(S2 us c.length f b (l.take j)).2.2,r1))/\Hid (OkM q (S2 us c.length f b (l.take j)).2.1 (S2 us c.length f b (l.take j)).2.2)/\Hid (zu w wr mb (.slice A0 us.length c0) U (S2 us c.length f b (l.take j)).2.1 (S2 us c.length f b (l.take j)).2.2 (c++(S2 us c.length f b (l.take j)).1.map Prod.fst) us F)) (λi _=>l.length-(intOf i).toNat)
 case atStart=>exact⟨0,V,H,false,D0 _,rfl,qh rfl,I,qh (HF.out.eqO (by simp[S2]))⟩
 case round=>
  obtain⟨j,U,q,r1,hj,rfl,HR,HO,k⟩:=hrel
  by_cases d0:j<l.length
  ·obtain⟨s,J⟩: ∃s,l[j]?=some s:=⟨_,x9 d0⟩
   obtain⟨g,m,Aa,ca,Ab,A,Ae,ce,rfl,a2,hg,a3,a4,a5,z⟩:=HA.out.at j s J;have o:g<mb:=HF.out.fb g a2;have b0:=(k.out.M1.cell (p:=⟨g,m+j*10,none⟩) o).trans (z 0 _ rfl);have b1:=(k.out.M1.cell (p:=⟨g,m+j*10+1,none⟩) o).trans (z 1 _ rfl);have b2:=(k.out.M1.cell (p:=⟨g,m+j*10+2,none⟩) o).trans (z 2 _ rfl);have b3:=(k.out.M1.cell (p:=⟨g,m+j*10+3,none⟩) o).trans (z 3 _ rfl);have b4:=(k.out.M1.cell (p:=⟨g,m+j*10+4,none⟩) o).trans (z 4 _ rfl);have b5:=(k.out.M1.cell (p:=⟨g,m+j*10+5,none⟩) o).trans (z 5 _ rfl);have b6:=(k.out.M1.cell (p:=⟨g,m+j*10+6,none⟩) o).trans (z 6 _ rfl);have b7:=(k.out.M1.cell (p:=⟨g,m+j*10+7,none⟩) o).trans (z 7 _ rfl);have b8:=(k.out.M1.cell (p:=⟨g,m+j*10+8,none⟩) o).trans (z 8 _ rfl);have b9:=(k.out.M1.cell (p:=⟨g,m+j*10+9,none⟩) o).trans (z 9 _ rfl);have K:=B7 J;obtain⟨L,d1,r1',v,m2,r2,a6,C⟩:=zf7 c8.out J;obtain⟨rfl,rfl,rfl⟩:q=L/\(S2 us c.length f b (l.take j)).2.2=d1/\r1=r1':=by
    have:=HR.out.symm.trans a6;injection this with this
    injection this with e1 e2
    injection e2 with e2 e3
    exact⟨e1,e2,e3⟩
   have M:=zcJ J HR.out C;have N:=zbC _ M;have t:=Yi (us:=us) (out:=y) s left (c.length+(S2 us c.length f b (l.take j)).1.length) (S2 us c.length f b (l.take j)).2.1 q (S2 us c.length f b (l.take j)).2.2 v m2 r2 (Xn _ _ a1.out s K) C;have D:S2 us c.length f b (l.take (j+1))=((S2 us c.length f b (l.take j)).1++(Z9 us (c.length+(S2 us c.length f b (l.take j)).1.length) (S2 us c.length f b (l.take j)).2.1 (S2 us c.length f b (l.take j)).2.2 s).1,(Z9 us (c.length+(S2 us c.length f b (l.take j)).1.length) (S2 us c.length f b (l.take j)).2.1 (S2 us c.length f b (l.take j)).2.2 s).2):=by rw[P0 J,zaI]
   have HN:Hid (OkM v (S2 us c.length f b (l.take (j+1))).2.1 (S2 us c.length f b (l.take (j+1))).2.2):=qh (by
    rw[D];simp only;rw[t.1];exact⟨N.2.1 I.out.m64,N.2.2 I.out.el,t.2 HO.out.ok⟩)
   have d2:Hid (X6 us y (l.take (j+1)) H b false=.ok (v,(S2 us c.length f b (l.take (j+1))).2.2,r1||r2)):=qh (by
    rw[M,D];simp only;rw[t.1])
   have hb:=(x8 wr.heap.size wr).alloc (x7 _) (.cells #[.int .i64 s.I9,.string s.J2,.int .i64 s.a.I9,.int .i64 s.a.n,.string s.a.K0,.slice Aa s.a.args.length ca,.int .i64 s.a.pos,.slice Ab s.J0.length A,.slice Ae s.M9.length ce,.int .i64 s.pos] 188);have x:=qh (k.out.below hb);have O:=qh (A5 wr (.cells #[.int .i64 s.I9,.string s.J2,.int .i64 s.a.I9,.int .i64 s.a.n,.string s.a.K0,.slice Aa s.a.args.length ca,.int .i64 s.a.pos,.slice Ab s.J0.length A,.slice Ae s.M9.length ce,.int .i64 s.pos] 188));have d3:=zg2 us (l.take j) c.length f b;have d4:=zeJ J;have P:(c++(S2 us c.length f b (l.take j)).1.map Prod.fst).length=c.length+(S2 us c.length f b (l.take j)).1.length:=by simp
   have HS:=qh (IS.out s Aa Ab Ae ca A ce F _ mb A0 c0 U _ _ _ y q v m2 r2 (Xn _ _ a1.out s K) C HO.out c7.out (HF.out.args x.out.M1 a3) (HF.out.zb2 x.out.M1 a4) (HF.out.zb2 x.out.M1 a5) (by rw[P];have:=c9.out;omega) x.out.Z8);have Q:Hid (∀w2,(∃R,zu (wr.alloc (.cells #[.int .i64 s.I9,.string s.J2,.int .i64 s.a.I9,.int .i64 s.a.n,.string s.a.K0,.slice Aa s.a.args.length ca,.int .i64 s.a.pos,.slice Ab s.J0.length A,.slice Ae s.M9.length ce,.int .i64 s.pos] 188)) w2 mb (.slice A0 us.length c0) R (Z9 us (c++(S2 us c.length f b (l.take j)).1.map Prod.fst).length (S2 us c.length f b (l.take j)).2.1 (S2 us c.length f b (l.take j)).2.2 s).2.1 (Z9 us (c++(S2 us c.length f b (l.take j)).1.map Prod.fst).length (S2 us c.length f b (l.take j)).2.1 (S2 us c.length f b (l.take j)).2.2 s).2.2 ((c++(S2 us c.length f b (l.take j)).1.map Prod.fst)++(Z9 us (c++(S2 us c.length f b (l.take j)).1.map Prod.fst).length (S2 us c.length f b (l.take j)).2.1 (S2 us c.length f b (l.take j)).2.2 s).1.map Prod.fst) us F)-> ∃R,zu w w2 mb (.slice A0 us.length c0) R (S2 us c.length f b (l.take (j+1))).2.1 (S2 us c.length f b (l.take (j+1))).2.2 (c++(S2 us c.length f b (l.take (j+1))).1.map Prod.fst) us F):=qh (by
    rintro w2 ⟨R,h2⟩;rw[P]at h2;refine⟨R,?_⟩;rw[D];simp only;rw[List.map_append,<-B9];exact h2.Zg x.out.M1 x.out.kp)
   have k0:(0:Int)<=(j:Int):=by omega
   have k1:(j:Int)<(l.length:Int):=by omega
   clear J a3 a4 a5 z K N a6 C M hb a2 t D d3 d4 P
   go_upto_region 4 with(fail)
   clear b0 b1 b2 b3 b4 b5 b6 b7 b8 b9;obtain⟨⟨z0,z1,z2,z3,z4,z5,z6,z7,z8,z9⟩,-⟩:=J5 O.out;generalize wr.alloc _=wa at x O HS Q z0 z1 z2 z3 z4 z5 z6 z7 z8 z9|-;generalize wr.heap.size=bx at O z0 z1 z2 z3 z4 z5 z6 z7 z8 z9|-
   go_wp2_with fail
   refine HS.out.mono ?_;rintro e w2 ⟨rfl,a7⟩;obtain⟨R,a8⟩:=Q.out w2 a7;have d5:=qh a8;clear z0 z1 z2 z3 z4 z5 z6 z7 z8 z9 HS Q a7 a8
   go_wp2_with fail
   go_roundw
   case rel=>exact⟨j+1,R,v,r1||r2,by omega,by go_num,d2,HN,d5⟩
   case measure=>simp[intOf];omega
  ·obtain rfl:j=l.length:=by omega
   have HE:Hid (∃a9,(S2 us c.length f b l).2.1=f++a9):=qh (zc5 us l c.length f b);have u:=k.out;rw[F5]at u;obtain⟨a9,G⟩:=HE.out;rw[G]at u;obtain⟨S,c3⟩:=XV u.st.rn;obtain⟨T,c4⟩:=XV u.st.ra;have e5:(0:Int)<=(f.length:Int):=by omega
   have d6:(f.length:Int)<=(U.cn:Int):=by simp at S;omega
   have d7:(f.length:Int)<=(U.ca:Int):=by simp at T;omega
   obtain⟨⟨-,c1,c2,-,-⟩,f1,f2,-⟩:=jq u.st;have c5:=qh (u.below (M2 wr)).cut;have c6:=qh (u.below (M2 wr)).zpM;have d8:=qh u;have d9:Hid (X9 us c.length f b l=((S2 us c.length f b l).1,(S2 us c.length f b l).2.2)):=qh (zbA us l c.length f b);obtain⟨An,cn,Aa,ca,Ao,co⟩:=U;simp only at c3 c4 S T d6 d7 c1 c2 c5 c6 d8;clear k HR HO HA u G S T
   rcases c3 with rfl|⟨gn,rfl⟩<;>rcases c4 with rfl|⟨ga,rfl⟩
   all_goals
    go_upto_region 6 with(fail)
    go_region_law(fail)
    all_goals
     go_end0;rw[d9.out]
     first
      |exact⟨rfl,_,c5.out⟩
      |exact⟨rfl,_,c6.out⟩
end Go.Proofs.YtmngofgminlloaaGreatDoor
namespace Go.Proofs.YtmngofgminlloaaGreatDoor
section
open Go
section
variable {P:Program}{ops:Array Oper}{Q:Exit->Act->World->Prop}{md:Region.Mode}
def Yf(ops:Array Oper)(a:Array Bool):Nat:=((List.range ops.size).filter λi=>!a.getD i true).length
theorem jC{a}{i:Nat}(h:i∈Region.ready md ops a):i<ops.size/\a.getD i true=false:=by
 unfold Region.ready at h;rw[List.mem_filter]at h;simp at h;exact⟨h.1,by rw[Array.getD_eq_getD_getElem?];exact h.2.1⟩
theorem YF{listed}{i:Nat}(hi:i<ops.size)(h:listed.getD i true=false):Yf ops (listed.setIfInBounds i true)<Yf ops listed:=by
 have f:i<listed.size:=by
  rcases Nat.lt_or_ge i listed.size with g|g
  ·exact g
  ·rw[Array.getD_eq_getD_getElem?,Array.getElem?_eq_none g]at h;cases h
 unfold Yf;have b: ∀l:List Nat,(l.filter λj=>!(listed.setIfInBounds i true).getD j true).length<=(l.filter λj=>!listed.getD j true).length/\(i∈l->(l.filter λj=>!(listed.setIfInBounds i true).getD j true).length<(l.filter λj=>!listed.getD j true).length):=by
  have k:(listed.setIfInBounds i true).getD i true=true:=by
   rw[Array.getD_eq_getD_getElem?];simp[f]
  have m: ∀j,j≠i->(listed.setIfInBounds i true).getD j true=listed.getD j true:=by
   intro j c;rw[Array.getD_eq_getD_getElem?,Array.getD_eq_getD_getElem?,Array.getElem?_setIfInBounds_ne (λe=>c e.symm)]
  intro l
  induction l with
  |nil=>exact⟨Nat.le_refl _,λh=>by cases h⟩
  |cons j l a=>
   by_cases c:j=i
   ·subst c
    simp only[List.filter_cons,k,h];simp only[Bool.not_true,Bool.not_false,Bool.false_eq_true,if_false,if_true,List.length_cons];exact⟨by have:=a.1;omega,λ_=>by have:=a.1;omega⟩
   ·simp only[List.filter_cons,m j c]
    refine⟨?_,λn=>?_⟩
    ·split
     ·simp only[List.length_cons];have:=a.1;omega
     ·exact a.1
    ·have d:i∈l:=by rcases List.mem_cons.1 n with e|e;exact absurd e.symm c;exact e
     split
     ·simp only[List.length_cons];have:=a.2 d;omega
     ·exact a.2 d
 exact(b _).2 (List.mem_range.2 hi)
theorem zfP(J:Array Bool->Act->World->Prop)(e: ∀b a w i,J b a w->i∈Region.ready md ops b->wpOp P ops Q i (J (b.setIfInBounds i true)) a w)
 (d: ∀b a w,J b a w->Region.ready md ops b=[]->Q .normal a w): ∀(c:Nat)(b:Array Bool)(a:Act)(w:World),Yf ops b<=c->J b a w->wpAny P md ops Q c b a w:=by
 intro c
 induction c with
 |zero=>
  intro b a w m f;have g:Region.ready md ops b=[]:=by
   apply List.eq_nil_iff_forall_not_mem.2;intro i j;obtain⟨k,l⟩:=jC j;have:=YF k l;omega
  exact⟨g,d _ _ _ f g⟩
 |succ c n=>
  intro b a w m f;refine⟨λg=>d _ _ _ f g,λi j=>?_⟩;obtain⟨k,l⟩:=jC j;have o:=YF (ops:=ops) k l;exact wpOp_mono (λa w h=>n _ a w (by omega) h) (e _ _ _ _ f j)
theorem QJ{e:Nat}{a w}(f:P.follows .mixedOrders=true)(J:Array Bool->Act->World->Prop)(g:J (Array.replicate ops.size false) a {w with drawn:=w.drawn+1})
 (c: ∀b a w i,J b a w->i∈Region.ready .any ops b->wpOp P ops Q i (J (b.setIfInBounds i true)) a w)
 (d: ∀b a w,J b a w->Region.ready .any ops b=[]->Q .normal a w):(Code.region e ops true).wp P Q a w:=
 wp_region_any f (zfP J c d ops.size _ a _ (by
  unfold Yf;have:=List.length_filter_le (λi=>!(Array.replicate ops.size false).getD i true) (List.range ops.size);simpa using this) g)
end
end
end Go.Proofs.YtmngofgminlloaaGreatDoor
namespace Go.Proofs.YtmngofgminlloaaGreatDoor
open Go.RowKit
abbrev XM:Type:=List (Nat×Nat×Value)
structure S9(T:XM)(a0:Act)(L:Array Bool)(a:Act):Prop where
 df:a.defers=a0.defers
 az:a.tmps.size=a0.tmps.size
 tb: ∀e∈T,L.getD e.1 false=true->a.tmps[e.2.1]?=some e.2.2
 un: ∀k,(∀e∈T,e.2.1≠k)->a.tmps[k]?=a0.tmps[k]?
def I6{L:Array Bool}{i j:Nat}(h:j≠i):(L.setIfInBounds i true).getD j false=L.getD j false:=by
 rw[Array.getD_eq_getD_getElem?,Array.getD_eq_getD_getElem?,Array.getElem?_setIfInBounds_ne (λe=>h e.symm)]
def N6{L:Array Bool}{i:Nat}(h:i<L.size):(L.setIfInBounds i true).getD i false=true:=by
 rw[Array.getD_eq_getD_getElem?];simp[h]
def S9.put{T:XM}{m a:Act}{L}(t:(T.map (·.1)).Nodup)(u:(T.map (·.2.1)).Nodup)(v: ∀e∈T,e.2.1<m.tmps.size)(h:S9 T m L a)(e)(n:e∈T):S9 T m (L.setIfInBounds e.1 true) (a.put (some e.2.1) e.2.2):=by
 have g: ∀{β:Type}(f:Nat×Nat×Value->β)(l:XM),(l.map f).Nodup-> ∀x∈l,∀y∈l,f x=f y->x=y:=by
  intro β f l
  induction l with
  |nil=>intro _ x o;cases o
  |cons z l w=>
   intro j x o y q e;simp only[List.map_cons,List.nodup_cons]at j
   rcases List.mem_cons.1 o with i|i
   ·rcases List.mem_cons.1 q with c|c
    ·rw[i,c]
    ·exact absurd (by rw[<-i,e];exact List.mem_map_of_mem c) j.1
   ·rcases List.mem_cons.1 q with c|c
    ·exact absurd (by rw[<-c,<-e];exact List.mem_map_of_mem i) j.1
    ·exact w j.2 x i y c e
 refine⟨h.df,by simp[Act.put,h.az],λd b r=>?_,λk s=>?_⟩
 ·by_cases p:d=e
  ·subst p
   simp[Act.put,h.az,v d b]
  ·have A:d.1≠e.1:=λx=>p (g _ T t d b e n x)
   have B:d.2.1≠e.2.1:=λx=>p (g _ T u d b e n x)
   rw[I6 A]at r;simp only[Act.put];rw[Array.getElem?_setIfInBounds_ne (λx=>B x.symm)];exact h.tb d b r
 ·simp only[Act.put]
  rw[Array.getElem?_setIfInBounds_ne (s e n)];exact h.un k s
def S9.skip{T b a L}(h:S9 T b L a)(i:Nat)(hi: ∀e∈T,e.1≠i):S9 T b (L.setIfInBounds i true) a:=
 ⟨h.df,h.az,λe c d=>h.tb e c (by rwa [I6 (hi e c)]at d),h.un⟩
def yp{a:Act}{k:Nat}{v}(h:a.tmps[k]?=some v):a.eval (.tmp k)=v:=by
 show a.tmps.getD k undef=v;rw[Array.getD_eq_getD_getElem?,h];rfl
def J8{b ops L}{i:Nat}(h:i∈Region.ready b ops L){o}(d:ops[i]?=some o): ∀e∈o.after.toList,Region.binds b e=true->L.getD e.on false=true:=by
 unfold Region.ready at h;rw[List.mem_filter]at h;have a:=h.2;rw[d]at a;simp only[Bool.and_eq_true,Option.map_some,Option.getD_some]at a;have c:=a.2;intro e f g;rw[<-Array.all_toList]at c;have:=List.all_eq_true.1 c e f;rw[g]at this;simpa using this
def K5{P ops}{Q:Exit->Act->World->Prop}{i:Nat}{K:Act->World->Prop}{a w w' o v}(d:Nat)(b:ops[i]?=some o)(c:o.guard=none)(e:o.dst=some d)(f:(execOp a.eval o).run P w=.ok (.value v) w')(g:K (a.put (some d) v) w'):wpOp P ops Q i K a w:=by
 unfold wpOp;rw[b];simp only;rw[if_pos (by simp[Region.wanted,c])];exact .inl (by unfold Oper.wp;rw[f];show K (a.put o.dst v) w';rw[e];exact g)
def qU{P ops}{Q:Exit->Act->World->Prop}{i:Nat}{K:Act->World->Prop}{a w w' o}(b:ops[i]?=some o)(c:o.guard=none)(d:o.dst=none)(e:(execOp a.eval o).run P w=.ok .skip w')(f:K a w'):wpOp P ops Q i K a w:=by
 unfold wpOp;rw[b];simp only;rw[if_pos (by simp[Region.wanted,c])];exact .inl (by unfold Oper.wp;rw[e];show K (a.put o.dst undef) w';rw[d];exact f)
def zfZ{P ops}{Q:Exit->Act->World->Prop}{i:Nat}{K:Act->World->Prop}{a w w' o}(f args)(d:ops[i]?=some o)(e:o.guard=none)(g:(execOp a.eval o).run P w=.ok (.enter f args) w')(h:Calls P f args w' fun
 |.returned v,b=>K (a.put o.dst v) b
 |.panicked c,b=>Q (.panic c) a b
 |.outgrown,_=>LetsOut Q):wpOp P ops Q i K a w:=by
 unfold wpOp;rw[d];simp only;rw[if_pos (by simp[Region.wanted,e])];exact .inl (by unfold Oper.wp;rw[g];exact h)
def N1{b ops L}(h:Region.ready b ops L=[]){i:Nat}{o}(c:ops[i]?=some o)(f:i<L.size)(g: ∀e∈o.after.toList,L.getD e.on false=true):L.getD i false=true:=by
 cases a:L.getD i false with
 |true=>rfl
 |false=>
  exfalso;have d:i∈Region.ready b ops L:=by
   unfold Region.ready;rw[List.mem_filter];refine⟨List.mem_range.2 (Array.getElem?_eq_some_iff.1 c).1,?_⟩;have j:L.getD i true=false:=by
    rw[Array.getD_eq_getD_getElem?]at a|-;rw[Array.getElem?_eq_getElem f]at a|-;exact a
   rw[j,c];simp only[Bool.not_false,Bool.true_and,Option.map_some,Option.getD_some];rw[<-Array.all_toList];exact List.all_eq_true.2 λe k=>by rw[g e k];simp
  rw[h]at d;cases d
def Je{a ops L}{i:Nat}(h:i∈Region.ready a ops L)(b:i<L.size):L.getD i false=false:=by
 have:=(jC h).2;rw[Array.getD_eq_getD_getElem?]at this|-;rw[Array.getElem?_eq_getElem b]at this|-;exact this
def U5{L:Array Bool}{i j:Nat}(h:L.getD j false=true):(L.setIfInBounds i true).getD j false=true:=by
 by_cases e:j=i
 ·subst e
  have b:j<L.size:=by
   rcases Nat.lt_or_ge j L.size with a|a
   ·exact a
   ·rw[Array.getD_eq_getD_getElem?,Array.getElem?_eq_none a]at h;cases h
  exact N6 b
 ·rw[I6 e];exact h
def S8(n j:Nat):(Array.replicate n false).getD j false=false:=by
 rw[Array.getD_eq_getD_getElem?]
 by_cases h:j<n
 ·simp[h]
 ·simp[h]
def S9.start(T a)(n:Nat):S9 T a (Array.replicate n false) a:=⟨rfl,rfl,(λe _ h=>by rw[S8]at h;cases h),λ_ _=>rfl⟩
def Clo(ops:Array Oper)(L:Array Bool):Prop:= ∀(i:Nat)(o:Oper),ops[i]?=some o->L.getD i false=true-> ∀e∈o.after.toList,Region.binds .any e=true->L.getD e.on false=true
def Clo.start(ops)(n:Nat):Clo ops (Array.replicate n false):=λi o _ h=>by rw[S8]at h;cases h
def Clo.next{ops L}(h:Clo ops L){i:Nat}(hi:i∈Region.ready .any ops L):Clo ops (L.setIfInBounds i true):=by
 intro j o b c e d f
 by_cases a:j=i
 ·subst a
  exact U5 (J8 hi b e d f)
 ·rw[I6 a]at c
  exact U5 (h j o b c e d f)
def zcY{P:Program}{ops:Array Oper}{Q:Exit->Act->World->Prop}{v:Nat}{a}{w:World}(x:P.follows .mixedOrders=true)(n:Nat)(r:ops.size=n+1)(J:Array Bool->Act->Prop)(y:J (Array.replicate ops.size false) a)
 (c: ∀L a i,L.size=n+1->J L a->i∈Region.ready .any ops L->i<n->wpOp P ops Q i (λb w'=>J (L.setIfInBounds i true) b/\w'=w.drew) a w.drew)
 (d: ∀L a,L.size=n+1->J L a->n∈Region.ready .any ops L->(∀i,i<n->L.getD i false=true)/\wpOp P ops Q n (λb w'=>Q .normal b w') a w.drew)
 (l: ∀L a,L.size=n+1->J L a->Region.ready .any ops L=[]->L.getD n false=true):(Code.region v ops true).wp P Q a w:=by
 refine QJ x (λL b w'=>L.size=n+1/\((L.getD n false=false/\J L b/\w'=w.drew)\/((∀i,i<n+1->L.getD i false=true)/\Q .normal b w'))) ?_ ?_ ?_
 ·exact⟨by simp[r],.inl ⟨S8 _ _,y,rfl⟩⟩
 ·rintro L b w' i ⟨g,h⟩ q
  have z:=(jC q).1;have m:=Je q (by omega)
  rcases h with⟨k,f,rfl⟩|⟨k,f⟩
  ·by_cases o:i=n
   ·subst o
    obtain⟨p,s⟩:=d L b g f q;refine wpOp_mono ?_ s;intro A B C;refine⟨by simpa using g,.inr ⟨λj u=>?_,C⟩⟩
    by_cases t:j=i
    ·subst t;exact N6 (by omega)
    ·exact U5 (p j (by omega))
   ·refine wpOp_mono ?_ (c L b i g f q (by omega))
    rintro A B ⟨u,s⟩;exact⟨by simpa using g,.inl ⟨by rw[I6 (λe=>o e.symm)];exact k,u,s⟩⟩
  ·exfalso
   rw[k i (by omega)]at m;cases m
 ·rintro L b w' ⟨g,h⟩ D
  rcases h with⟨k,f,rfl⟩|⟨k,f⟩
  ·have:=l L b g f D
   rw[k]at this;cases this
  ·exact f
def zef{P ops}{Q:Exit->Act->World->Prop}{h:Nat}{d:Act}{w:World}(j:P.follows .mixedOrders=true)(n:Nat)(f:ops.size=n+1)(T:XM)
 (b: ∀L a i,L.size=n+1->(S9 T d L a/\Clo ops L)->i∈Region.ready .any ops L->i<n->wpOp P ops Q i (λg w'=>(S9 T d (L.setIfInBounds i true) g/\Clo ops (L.setIfInBounds i true))/\w'=w.drew) a w.drew)
 (c: ∀L a,L.size=n+1->(S9 T d L a/\Clo ops L)->n∈Region.ready .any ops L->(∀i,i<n->L.getD i false=true)/\wpOp P ops Q n (λg w'=>Q .normal g w') a w.drew)
 (e: ∀L a,L.size=n+1->(S9 T d L a/\Clo ops L)->Region.ready .any ops L=[]->L.getD n false=true):(Code.region h ops true).wp P Q d w:=
 zcY j n f (λL a=>S9 T d L a/\Clo ops L) ⟨S9.start _ _ _,Clo.start _ _⟩ b c e
def zbE{b a:Act}{lo hi:Nat}(f:a.defers=b.defers)(g:a.tmps.size=b.tmps.size)(i: ∀k,k<lo\/hi<k->a.tmps[k]?=b.tmps[k]?):a=⟨(List.range' lo (hi+1-lo)).foldl (λt k=>t.setIfInBounds k (a.tmps.getD k undef)) b.tmps,b.defers⟩:=by
 have c: ∀(n lo:Nat)(t:Array Value),t.size=a.tmps.size->(∀k,k<lo\/lo+n<=k->a.tmps[k]?=t[k]?)->a.tmps=(List.range' lo n).foldl (λt k=>t.setIfInBounds k (a.tmps.getD k undef)) t:=by
  intro n
  induction n with
  |zero=>intro lo t _ h;simp only[List.range'_zero,List.foldl_nil];exact Array.ext_getElem? λk=>h k (by omega)
  |succ n j=>
   intro lo t l h;rw[List.range'_succ,List.foldl_cons];refine j (lo+1) _ (by simpa using l) λk m=>?_
   by_cases e:k=lo
   ·subst e
    by_cases d:k<t.size
    ·simp[d,Array.getD_eq_getD_getElem?,show k<a.tmps.size by omega]
    ·rw[Array.getElem?_eq_none (by omega),Array.getElem?_eq_none (by simp;omega)]
   ·rw[Array.getElem?_setIfInBounds_ne (λx=>e x.symm)]
    exact h k (by omega)
 cases a with|mk o p=>
 simp only at f g i|-;subst f
 congr 1
 exact c (hi+1-lo) lo b.tmps g.symm λk m=>i k (by omega)
end Go.Proofs.YtmngofgminlloaaGreatDoor
namespace Go.Proofs.YtmngofgminlloaaGreatDoor
open Go.RowKit Tw
theorem zeD{w:World}{base e size n k:Nat}{v xs}(h:w.ownsRow base e size v n xs)(b:w.heap.size<=k):v.ownBlock≠some k:=λa=>by
 have:=(h.lt k a).2;omega
def nmV(V:Mv)(vs:P4):Option (Nat×Nat)->Value
 |none=>.slice V.An vs.length V.cn
 |some (g,c)=>.slice (some ⟨g,0,none⟩) (vs.length+1) c
def noV(V:Mv)(vs:P4):Option (Nat×Nat)->Value
 |none=>.slice V.Aa vs.length V.ca
 |some (g,c)=>.slice (some ⟨g,0,none⟩) (vs.length+1) c
def lnV(vs:P4):Option (Nat×Nat)->Nat
 |none=>vs.length
 |some _=>vs.length+1
def nmX(vs:P4)(nm:ByteArray):Option (Nat×Nat)->List Value
 |none=>qn vs
 |some _=>qn vs++[.string nm]
def noX(vs:P4)(L0:Nat):Option (Nat×Nat)->List Value
 |none=>qo vs
 |some _=>qo vs++[.int .i64 L0]
structure jp(w0 w:World)(mb:Nat)(U:Value)(V:Mv)(vs:P4)(L0:Nat)(ops:List zv)(nm:ByteArray)(p q:Option Nat)(P Q:Option (Nat×Nat))(s t:Bool):Prop where
 P6:w.heap[mb]?=some (.cells #[U,if s then nmV V vs P else nmV V vs none,if t then noV V vs Q else noV V vs none,.int .i64 L0,.slice V.Ao ops.length V.co] 225 (0,0))
 rn:w.ownsRow mb 9 1 (nmV V vs P) (lnV vs P) (nmX vs nm P)
 ra:w.ownsRow mb 3 1 (noV V vs Q) (lnV vs Q) (noX vs L0 Q)
 ro:w.ownsRow mb 166 2 (.slice V.Ao ops.length V.co) ops.length (qu ops)
 pb: ∀g,p=some g->P=none->w.heap[g]?=some (.cells #[.string nm] 9 (0,0))/\(nmV V vs P).ownBlock≠some g
 qb: ∀g,q=some g->Q=none->w.heap[g]?=some (.cells #[.int .i64 L0] 3 (0,0))/\(noV V vs Q).ownBlock≠some g
 M1:Below mb w0 w
 kp:Kp w0 w
section
variable {w0 w w':World}{mb:Nat}{U:Value}{V:Mv}{vs:P4}{L0:Nat}{ops:List zv}{nm:ByteArray}{p q:Option Nat}{P Q:Option (Nat×Nat)}{s t:Bool}
theorem jp.lt(h:jp w0 w mb U V vs L0 ops nm p q P Q s t):mb<w.heap.size:=I5 h.P6
theorem jp.qw(h:jp w0 w mb U V vs L0 ops nm p q P Q s t)(d):jp w0 (w.alloc d) mb U V vs L0 ops nm p q P Q s t:=by
 have a:=(x8 w.heap.size w).alloc (x7 _) d
 exact⟨(a.block mb h.lt).trans h.P6,qp h.rn a,qp h.ra a,qp h.ro a,λg b c=>⟨(a.block g (I5 (h.pb g b c).1)).trans (h.pb g b c).1,(h.pb g b c).2⟩,
  λg b c=>⟨(a.block g (I5 (h.qb g b c).1)).trans (h.qb g b c).1,(h.qb g b c).2⟩,h.M1.trans (a.mono (G9 h.lt)),h.kp.trans (Kp.of a)⟩
theorem jp.zm3(h:jp w0 w mb U V vs L0 ops nm p q P Q s t):jp w0 (w.alloc (.cells #[.string nm] 9)) mb U V vs L0 ops nm (some w.heap.size) q P Q s t:=
 {h.qw (.cells #[.string nm] 9)with pb:=λg a b=>by injection a with a;subst a;exact⟨A5 w _,zeD h.rn (x7 _)⟩}
theorem jp.zm5(h:jp w0 w mb U V vs L0 ops nm p q P Q s t):jp w0 (w.alloc (.cells #[.int .i64 L0] 3)) mb U V vs L0 ops nm p (some w.heap.size) P Q s t:=
 {h.qw (.cells #[.int .i64 L0] 3)with qb:=λg a b=>by injection a with a;subst a;exact⟨A5 w _,zeD h.ra (x7 _)⟩}
theorem jp.zpG(h:jp w0 w mb U V vs L0 ops nm p q none Q s t)(hs:s=false){g c:Nat}(f:w'.ownsRow mb 9 1 (.slice (some ⟨g,0,none⟩) (vs.length+1) c) (vs.length+1) (qn vs++[.string nm]))(a:w.grownBy w' (nmV V vs none).ownBlock):
 jp w0 w' mb U V vs L0 ops nm p q (some (g,c)) Q s t:=by
 subst hs;have b:=h.rn;refine⟨(a.block mb h.lt (λe=>S5 b h.P6 (by decide) e.symm)).trans h.P6,f,h.ra.kept a (Qa h.ra b (by decide)),h.ro.kept a (Qa h.ro b (by decide)),λ_ _ i=>(by cases i),λd j k=>?_,?_,?_⟩
 ·have:=h.qb d j k
  exact⟨(a.block d (I5 this.1) (λe=>S5 b this.1 (by decide) e.symm)).trans this.1,this.2⟩
 ·exact h.M1.trans (Q7 (x8 mb w) b (x7 _) (G9 h.lt) a)
 ·exact h.kp.trans (Kp.qv b (by simp) a)
theorem jp.zpK(h:jp w0 w mb U V vs L0 ops nm p q P none s t)(f:t=false){g c:Nat}(i:w'.ownsRow mb 3 1 (.slice (some ⟨g,0,none⟩) (vs.length+1) c) (vs.length+1) (qo vs++[.int .i64 L0]))(a:w.grownBy w' (noV V vs none).ownBlock):
 jp w0 w' mb U V vs L0 ops nm p q P (some (g,c)) s t:=by
 subst f;have b:=h.ra;refine⟨(a.block mb h.lt (λe=>S5 b h.P6 (by decide) e.symm)).trans h.P6,h.rn.kept a (Qa h.rn b (by decide)),i,h.ro.kept a (Qa h.ro b (by decide)),λd j k=>?_,λ_ _ l=>(by cases l),?_,?_⟩
 ·have:=h.pb d j k
  exact⟨(a.block d (I5 this.1) (λe=>S5 b this.1 (by decide) e.symm)).trans this.1,this.2⟩
 ·exact h.M1.trans (Q7 (x8 mb w) b (x7 _) (G9 h.lt) a)
 ·exact h.kp.trans (Kp.qv b (by simp) a)
theorem jp.stS(h:jp w0 w mb U V vs L0 ops nm p q P Q s t):jp w0 (w.setCell ⟨mb,1,none⟩ (nmV V vs P)) mb U V vs L0 ops nm p q P Q true t:=by
 have b:=A6 w mb 1 _ _ (nmV V vs P) h.P6;have a:=I8 w mb 1 (nmV V vs P);refine⟨by simpa using b,h.rn.kept a (.inr (S5 h.rn h.P6 (by decide))),h.ra.kept a (.inr (S5 h.ra h.P6 (by decide))),h.ro.kept a (.inr (S5 h.ro h.P6 (by decide))),λg c f=>?_,λg c i=>?_,?_,?_⟩
 ·have:=h.pb g c f
  refine⟨(a.block g (I5 this.1) λe=>?_).trans this.1,this.2⟩;have e:g=mb:=by simpa using e
  subst e;have:=this.1.symm.trans h.P6;injection this with this;injection this with _ d;cases d
 ·have:=h.qb g c i
  refine⟨(a.block g (I5 this.1) λe=>?_).trans this.1,this.2⟩;have e:g=mb:=by simpa using e
  subst e;have:=this.1.symm.trans h.P6;injection this with this;injection this with _ d;cases d
 ·exact L6 h.M1 (x7 _) 1 _
 ·exact h.kp.trans (Kp.set h.P6 (by simp))
theorem jp.stI(h:jp w0 w mb U V vs L0 ops nm p q P Q s t):jp w0 (w.setCell ⟨mb,2,none⟩ (noV V vs Q)) mb U V vs L0 ops nm p q P Q s true:=by
 have b:=A6 w mb 2 _ _ (noV V vs Q) h.P6;have a:=I8 w mb 2 (noV V vs Q);refine⟨by simpa using b,h.rn.kept a (.inr (S5 h.rn h.P6 (by decide))),h.ra.kept a (.inr (S5 h.ra h.P6 (by decide))),h.ro.kept a (.inr (S5 h.ro h.P6 (by decide))),λg c f=>?_,λg c i=>?_,?_,?_⟩
 ·have:=h.pb g c f
  refine⟨(a.block g (I5 this.1) λe=>?_).trans this.1,this.2⟩;have e:g=mb:=by simpa using e
  subst e;have:=this.1.symm.trans h.P6;injection this with this;injection this with _ d;cases d
 ·have:=h.qb g c i
  refine⟨(a.block g (I5 this.1) λe=>?_).trans this.1,this.2⟩;have e:g=mb:=by simpa using e
  subst e;have:=this.1.symm.trans h.P6;injection this with this;injection this with _ d;cases d
 ·exact L6 h.M1 (x7 _) 2 _
 ·exact h.kp.trans (Kp.set h.P6 (by simp))
theorem jp.start{us}{F:Nat->Prop}(h:zu w0 w mb U V vs L0 ops us F):jp w0 w mb U V vs L0 ops nm none none none none false false:=
 ⟨h.st.P6,h.st.rn,h.st.ra,h.st.ro,λ_ h=>(by cases h),λ_ h=>(by cases h),h.M1,h.kp⟩
theorem jp.done{us}{F:Nat->Prop}{a c1 c d:Nat}(f:zu w0 w0 mb U V vs L0 ops us F)(h:jp w0 w mb U V vs L0 ops nm p q (some (a,c1)) (some (c,d)) true true):
 w.heap[mb]?=some (.cells #[U,.slice (some ⟨a,0,none⟩) (vs.length+1) c1,.slice (some ⟨c,0,none⟩) (vs.length+1) d,.int .i64 L0,.slice V.Ao ops.length V.co] 225 (0,0))/\
 zu w0 (w.setCell ⟨mb,3,none⟩ (.int .i64 ((L0:Int)+1))) mb U {V with An:=some ⟨a,0,none⟩,cn:=c1,Aa:=some ⟨c,0,none⟩,ca:=d} (vs++[(nm,(L0:Int))]) (L0+1) ops us F:=by
 have b:=A6 w mb 3 _ _ (.int .i64 ((L0:Int)+1)) h.P6;have e:=I8 w mb 3 (.int .i64 ((L0:Int)+1));have g:=h.rn.kept e (.inr (S5 h.rn h.P6 (by decide)));have i:=h.ra.kept e (.inr (S5 h.ra h.P6 (by decide)));have j:=h.ro.kept e (.inr (S5 h.ro h.P6 (by decide)));refine⟨h.P6,f.Zf ⟨?_,?_,?_,j⟩ (L6 h.M1 (x7 _) 3 _) (h.kp.trans (Kp.set h.P6 (by simp)))⟩
 ·rw[b];simp[nmV,noV]
 ·rw[A9];simpa[nmV,lnV,nmX,qn]using g
 ·rw[A9];simpa[noV,lnV,noX,qo]using i
end
def slV:Option Nat->Value
 |none=>.int .i64 0
 |some g=>.slice (some ⟨g,0,none⟩) 1 1
def U3(mb:Nat)(V:Mv)(vs:P4)(nm:ByteArray)(L0:Nat)(p q:Option Nat)(P Q:Option (Nat×Nat)):XM:=
 [(0,5,.pointer (some ⟨mb,0,none⟩)),(1,6,.pointer (some ⟨mb,0,none⟩)),(2,7,.pointer (some ⟨mb,0,none⟩)),(3,8,.pointer (some ⟨mb,0,none⟩)),(4,9,.pointer (some ⟨mb,1,none⟩)),(5,10,nmV V vs none),(6,11,.string nm),(7,12,slV p),(8,13,nmV V vs P),(9,14,.pointer (some ⟨mb,0,none⟩)),(10,15,.pointer (some ⟨mb,0,none⟩)),(11,16,.pointer (some ⟨mb,2,none⟩)),(12,17,noV V vs none),(13,18,.pointer (some ⟨mb,0,none⟩)),(14,19,.pointer (some ⟨mb,0,none⟩)),(15,20,.pointer (some ⟨mb,3,none⟩)),(16,21,.int .i64 L0),(17,22,slV q),(18,23,noV V vs Q),(19,24,.pointer (some ⟨mb,0,none⟩)),(20,25,.pointer (some ⟨mb,1,none⟩)),(22,26,.pointer (some ⟨mb,0,none⟩)),(23,27,.pointer (some ⟨mb,2,none⟩))]
theorem S9.change{T T' a0 a L}(h:S9 T a0 L a)(g: ∀e∈T',L.getD e.1 false=true->e∈T)(i:T'.map (·.2.1)=T.map (·.2.1)):S9 T' a0 L a:=
 ⟨h.df,h.az,λe b f=>h.tb e (g e b f) f,λk j=>h.un k λe b c=>by
  have:e.2.1∈T'.map (·.2.1):=by rw[i];exact G7 b
  obtain⟨l,d,m⟩:=List.mem_map.1 this;exact j l d (m.trans c)⟩
section
variable {mb:Nat}{V:Mv}{vs:P4}{nm:ByteArray}{L0:Nat}{p q p' q':Option Nat}{P Q P' Q':Option (Nat×Nat)}{a0 a:Act}{L:Array Bool}
theorem N5:(U3 mb V vs nm L0 p q P Q).map (·.2.1)=[5,6,7,8,9,10,11,12,13,14,15,16,17,18,19,20,21,22,23,24,25,26,27]:=rfl
theorem P2:(U3 mb V vs nm L0 p q P Q).map (·.1)=[0,1,2,3,4,5,6,7,8,9,10,11,12,13,14,15,16,17,18,19,20,22,23]:=rfl
theorem R0: ∀e∈U3 mb V vs nm L0 p q P Q,5<=e.2.1/\e.2.1<=27:=λe b=>by
 have h:e.2.1∈(U3 mb V vs nm L0 p q P Q).map (·.2.1):=G7 b;rw[N5]at h;have: ∀k∈[5,6,7,8,9,10,11,12,13,14,15,16,17,18,19,20,21,22,23,24,25,26,27],5<=k/\k<=27:=by decide
 exact this _ h
theorem xQ(h:S9 (U3 mb V vs nm L0 p q P Q) a0 L a)(d:L.getD 7 false=true->p'=p)(f:L.getD 17 false=true->q'=q)(g:L.getD 8 false=true->P'=P)(i:L.getD 18 false=true->Q'=Q):S9 (U3 mb V vs nm L0 p' q' P' Q') a0 L a:=by
 refine h.change (λe c b=>?_) rfl;unfold U3 at c|-;simp only[E7,List.mem_nil_iff,or_false]at c|-
 rcases c with rfl|rfl|rfl|rfl|rfl|rfl|rfl|rfl|rfl|rfl|rfl|rfl|rfl|rfl|rfl|rfl|rfl|rfl|rfl|rfl|rfl|rfl|rfl
 all_goals first
  |simp;done
  |(have:=d b;subst this;simp)
  |(have:=f b;subst this;simp)
  |(have:=g b;subst this;simp)
  |(have:=i b;subst this;simp)
end
end Go.Proofs.YtmngofgminlloaaGreatDoor
