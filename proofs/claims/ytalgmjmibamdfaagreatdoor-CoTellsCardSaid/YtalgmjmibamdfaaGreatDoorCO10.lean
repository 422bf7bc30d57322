/- Merged. -/
import Derived.Test.YtalgmjmibamdfaaGreatDoorCO09c
import Derived.Laws.EntriesVeiled
set_option linter.all false
set_option maxHeartbeats 16000000
set_option maxRecDepth 100000
namespace Go.Proofs.YtalgmjmibamdfaaGreatDoor
open Go.Proofs.Tryz
open Go.RowKit Tw
theorem zcN{w:World}{b j:Nat}{v:Value}{cs:Array Value}{t:Nat}(h:w.heap[b]?=some (.cells cs t (0,0)))(d:cs[j]?=some v)(r:Option Nat):w.grownBy (w.setCell ⟨b,j,none⟩ v) r:=by
 have a:=J2 w b j v;refine⟨a.os,a.tape,a.output,a.size,λk g _=>?_⟩
 by_cases e:k=b
 ·subst e
  have l:=z5 w k j _ _ v h;rw[l,h];obtain⟨m,n⟩:=Array.getElem?_eq_some_iff.1 d;subst n;have o:cs.setIfInBounds j cs[j]=cs:=by
   apply Array.ext_getElem?;intro i
   by_cases c:j=i
   ·subst c;simp[m]
   ·rw[E3 c]
  rw[o]
 ·exact a.block k g (by simpa using e)
theorem qL{ps:List Nat}(h: ∀x∈ps,x<=6)(o:S3):J4 ps o<=7:=by
 unfold J4
 split
 ·omega
 split
 ·rw[List.getD_eq_getElem?_getD]
  cases a:ps[o.2.toNat]? with
  |none=>simp
  |some x=>have:=h x (B7 a);simp;omega
 split
 ·omega
 split<;>omega
section
variable {B:Hv}{P:List Pf}{Af:Option Addr}{cf:Nat}{main:Int}{f:Pf}{Ao:Option Addr}{co:Nat}{C:T5}
def WkR(w:World)(B:Hv)(P:List Pf)(Af:Option Addr)(cf:Nat)(main:Int)(f:Pf)(Ao:Option Addr)(co:Nat)(C:T5)(hs:List Int)(k:Nat)(e:Ending)(w':World):Prop:=
 e=.returned (.tuple #[])/\w.grownBy w' (some B.gh)/\ ∃a,HtS w' B P Af cf main f Ao co a/\OkH C a/\Hxt C hs a/\yg a k
theorem jh{w:World}{g:Nat}{hs:List Int}(h:w.heap[g]?=some (.cells (U5 hs) 3 (0,0))){k:Nat}{v:Int}(a:hs[k]?=some v):w.cell? ⟨g,k,none⟩=some (.int .i64 v):=by
 refine(y5 h k).trans ?_;simp[U5,a]
theorem zhe(hC:f.ops=C.map Prod.fst)(a4:zn (P.map Pf.params) f.vars C 0 C.length)(h4:C.length<=4000)(c7: ∀x∈P.map Pf.params,x<=6): ∀(N:Nat)(hs:List Int)(k n:Nat)(w:World),hs.count (-1)<N->HtS w B P Af cf main f Ao co hs->OkH C hs->Y6 C k n->
 Calls prog 107 #[.int .i64 k,.int .i64 n,.pointer (some ⟨B.bb,0,none⟩),.pointer (some ⟨B.bf,0,none⟩),.pointer (some ⟨B.bh,0,none⟩),.pointer (some ⟨B.bp,0,none⟩),.pointer (some ⟨B.bw,0,none⟩)] w (WkR w B P Af cf main f Ao co C hs k):=by
 intro N
 induction N with
 |zero=>intro hs k n w hN;omega
 |succ N ih=>
 intro hs k n w hN hS hO hA;obtain⟨o,hc⟩:=hA;have c8:k<C.length:=(List.getElem?_eq_some_iff.1 hc).1;have c9:f.ops.length=C.length:=by rw[hC,D9]
 obtain⟨v,hv⟩: ∃v,hs[k]?=some v:=⟨_,y8 (by rw[hO.1];exact c8)⟩;obtain⟨o',n',F,V⟩:=a4 k (E2 _) c8;obtain⟨rfl,rfl⟩:o=o'/\n=n':=by rw[hc]at F;injection F with F;injection F with e1 e2;exact⟨e1,e2⟩
 have e6:n<=512:=by
  have h1:=V.2.1;have h2:=V.2.2.1;have h3:=qL c7 o;omega
 have k0:(0:Int)<=(k:Int):=by omega
 have k1:(k:Int)<(f.ops.length:Int):=by omega
 have e1:((k:Int)==(f.ops.length:Int))=false:=by simp;omega
 have b0:=y5 hS.yH 0;have f2:=y5 hS.fn 2;have h0:=y5 hS.hv 0;have r0:=jh hS.row hv;have gb:=B4 hS.yH 0;have gr:=B4 hS.row k;have IH:=zh ih;have HS:=zh hS;have HO:=zh hO;have HC:=zh hc;have HV:=zh hv;have HN:=zh hN;have d2:=zh V;have d3:=zh hC;have a5:=hO.2 k v hv;clear ih hS hO hc F hN V hC a4 c9 c7
 by_cases hm:v= -1
 case neg=>
  have e7:v=(n:Int):=by
   rcases a5 with h|⟨o2,n2,h1,h2⟩
   ·exact I2 h hm
   ·rw[HC.out]at h1;injection h1 with h1;injection h1 with h1 h3;subst h3;exact h2
  subst e7;clear a5 hv
  go_enter func107,ntmps107
  go_wp2_with fail
  (try simp only[Exit.inBlock,Exit.then]);refine F1 (results_none rfl _ _ _) rfl ?_
  exact⟨rfl,zcN HS.out.yH rfl _,hs,HS.out.zh5,HO.out,.refl,⟨_,HV.out,hm⟩⟩
 case pos=>
  subst hm;clear a5 hv;obtain⟨d,x⟩:=o;obtain⟨d4,d5,d6,G⟩:=d2.out;obtain⟨e8,e9,hx,-⟩:=d4;simp only at e8 e9 hx;have a6:f.ops[k]?=some (d,x):=by rw[d3.out,G3,HC.out];rfl
  obtain⟨go,c',hv,f9,a7,y⟩:=HS.out.ops.at;injection hv with f3 _ f4
  subst f3 f4;obtain⟨o0,o1⟩:=y k _ a6;simp only at o0 o1;have r:=zh (HS.out.set k n);have H:=zh (HO.out.set HC.out);have b:=J2 w B.gh k (.int .i64 n);have a8:go≠B.gh:=by
   obtain⟨g2,c2,cs,fr,ev,-,f5,-⟩:=HS.out.ops;injection ev with ev;injection ev with ev;injection ev with ev
   subst ev;exact qY f5 HS.out.row (by decide)
  have d7:(w.setCell ⟨B.gh,k,none⟩ (.int .i64 n)).cell? ⟨go,k*2,none⟩=some (.int .i64 d):=(E9 (a:=⟨go,k*2,none⟩) (b.block go a7 (by simpa using a8))).trans o0;have d8:(w.setCell ⟨B.gh,k,none⟩ (.int .i64 n)).cell? ⟨go,k*2+1,none⟩=some (.int .i64 x):=(E9 (a:=⟨go,k*2+1,none⟩) (b.block go a7 (by simpa using a8))).trans o1;have a9:=zh b;have g1:=zh a6;clear y a7 a8 b a6 o0 o1
  go_enter func107,ntmps107
  go_upto_region 3 with(fail)
  generalize World.setCell _ _ _=w1 at r a9 d7 d8|-
  clear b0 f2 h0 r0 gb gr;have b0:=y5 r.out.yH 0;have f0:=y5 r.out.fn 0;have f1:=y5 r.out.fn 1;have f2:=y5 r.out.fn 2
  go_upto_region 4 with(fail)
  clear b0 f0 f1 f2 d7 d8;have b2:=(y7 w1.heap.size w1).alloc (y6 _) (.cells #[.int .i64 d,.int .i64 x] 74);have c:=zh (r.out.later b2);have b3:=zh (K8 a9.out (K7 b2 (some B.gh)));have s:=zh (y9 w1 (.cells #[.int .i64 d,.int .i64 x] 74));clear b2 r a9;generalize World.alloc _ _=w2 at c b3 s|-
  generalize w1.heap.size=bo at s|-
  have b0:=y5 c.out.pg 0;have b1:=y5 c.out.pg 1;have f0:=y5 c.out.fn 0;have f1:=y5 c.out.fn 1;have f2:=y5 c.out.fn 2;have d0:=y5 s.out 0;have d1:=y5 s.out 1;have d9:f.ops.length=C.length:=by rw[d3.out,D9]
  have OC:=zh (zjb P Af cf main f.params f.vars f.ops.length (some ⟨go,0,none⟩) co d x w2 (by have:=d2.out.1;rw[D9]at this;rw[d9];exact this) c.out.zfB);clear d9;obtain⟨po,W⟩: ∃z,J4 (P.map Pf.params) (d,x)=z:=⟨_,rfl⟩;obtain⟨pu,b4⟩: ∃z,L3 (d,x)=z:=⟨_,rfl⟩;obtain⟨li,e0⟩: ∃z,Y1 P.length f.vars f.ops.length d=z:=⟨_,rfl⟩;rw[W,b4,e0]at OC;rw[W,b4]at d6 G;rw[W]at d5;have g:=zh G;clear W b4 e0 G
  go_wp2_with fail
  refine OC.out.mono ?_;rintro e w3 ⟨rfl,hb⟩;have p:=zh (c.out.later hb);have X:=zh (K8 b3.out (K7 hb (some B.gh)));have q:=zh ((hb.block bo (I7 s.out)).trans s.out);clear hb OC c b3 s b0 b1 f0 f1 f2 d0 d1;have f6:IntKind.i64.wrap ((n:Int)-(po:Int))=(n:Int)-(po:Int):=IntWalk.i64_in _ (by omega);have f7:IntKind.i64.wrap ((n:Int)-(po:Int)+(pu:Int))=(n:Int)-(po:Int)+(pu:Int):=IntWalk.i64_in _ (by omega);have t1: ¬((n:Int)<(po:Int)):=by omega
  have t2: ¬((256:Int)<(n:Int)-(po:Int)+(pu:Int)):=by omega
  have d0:=y5 q.out 0;have d1:=y5 q.out 1;have g0:=y5 p.out.wk 0;obtain⟨m,e3⟩: ∃m:Nat,n-po+pu=m:=⟨_,rfl⟩;have f8:(n:Int)-(po:Int)+(pu:Int)=(m:Int):=by omega
  have Y:=zh e3;clear e3;have I:Hid ((hs.set k (n:Int)).count (-1)<N):=zh (by have h1:=xS (n:=n) HV.out;have h2:=HN.out;omega);obtain⟨Z,J⟩: ∃l,hs.set k (n:Int)=l:=⟨_,rfl⟩;have a0:=zh J;rw[J]at p H I;clear J
  go_upto_region 8 with(fail)
  clear f6 f7 t1 t2 f8
  by_cases K:d=15
  ·subst K
   obtain⟨j,rfl⟩: ∃j:Nat,x=j:=⟨x.toNat,by have:=hx (by decide);omega⟩;have WC:=zh (IH.out Z j m w3 I.out p.out H.out (by have:=g.out j (by simp[L5]);rw[Y.out]at this;exact this));clear IH g hx
   go_wp2_with fail
   refine WC.out.mono ?_;rintro e w4 ⟨rfl,t,b5,A,D,E,L⟩;have b6:=zh ((t.block bo (I7 q.out) (by simpa using qY q.out p.out.row (by decide))).trans q.out);have b7:=zh A;have e4:=zh D;have b8:=zh E;have b9:=zh L;have c0:=zh (K8 X.out t);clear WC t A D E L d0 d1 g0;have d0:=y5 b6.out 0
   go_wp2_with fail
   go_end0;exact⟨rfl,c0.out,b5,b7.out,e4.out,Hxt.zbE HC.out HV.out (by rw[a0.out];exact b8.out) (λi U=>by
    obtain rfl:i=j:=by simpa[L5]using U
    exact b9.out)⟩
  by_cases a1:d=16
  ·subst a1
   obtain⟨j,rfl⟩: ∃j:Nat,x=j:=⟨x.toNat,by have:=hx (by decide);omega⟩;have WC:=zh (IH.out Z j m w3 I.out p.out H.out (by have:=g.out j (by simp[L5]);rw[Y.out]at this;exact this));clear hx
   go_wp2_with fail
   refine WC.out.mono ?_;rintro e w4 ⟨rfl,t,b5,A,D,E,L⟩;have b6:=zh ((t.block bo (I7 q.out) (by simpa using qY q.out p.out.row (by decide))).trans q.out);have b7:=zh A;have e4:=zh D;have b8:=zh E;have b9:=zh L;have c0:=zh (K8 X.out t);have u:=zh (IH.out b5 (k+1) m w4 (by have:=I.out;have:=E.cnt;omega) A D (by have:=g.out (k+1) (by simp[L5]);rw[Y.out]at this;exact this));clear WC t A D E L d0 d1 g0 IH g;have d0:=y5 b6.out 0;have g0:=y5 b7.out.wk 0;have M:((k+1:Nat):Int)=(k:Int)+1:=by omega
   rw[M]at u;clear M
   go_wp2_with fail
   refine u.out.mono ?_;rintro e w5 ⟨rfl,O,c1,Q,R,S,T⟩;have c3:=zh Q;have c4:=zh R;have a2:=zh S;have c5:=zh T;have c6:=zh (K8 c0.out O);clear u O Q R S T d0 g0
   go_wp2_with fail
   go_end0;exact⟨rfl,c6.out,c1,c3.out,c4.out,Hxt.zbE HC.out HV.out (by rw[a0.out];exact b8.out.trans a2.out) (λi U=>by
    have U:i=k+1\/i=j:=by simpa[L5]using U
    rcases U with rfl|rfl
    ·exact c5.out
    ·exact a2.out.mk' b9.out)⟩
  by_cases a3:d=18
  ·subst a3
   clear IH g hx
   go_wp2_with fail
   go_end0;exact⟨rfl,X.out,Z,p.out,H.out,Hxt.zbE HC.out HV.out (by rw[a0.out];exact .refl) (λi U=>by simp[L5]at U)⟩
  ·have g3:(d==15)=false:=by simpa using K
   have g4:(d==16)=false:=by simpa using a1
   have g5:(d !=15)=true:=by simpa using K
   have g6:(d !=18)=true:=by simpa using a3
   have e5:Hid (L5 k (d,x)=[k+1]):=zh (by simp[L5,K,a1,a3]);have u:=zh (IH.out Z (k+1) m w3 I.out p.out H.out (by have:=g.out (k+1) (by rw[e5.out];simp);rw[Y.out]at this;exact this));have M:((k+1:Nat):Int)=(k:Int)+1:=by omega
   rw[M]at u;clear M IH g hx K a1 a3
   go_wp2_with fail
   refine u.out.mono ?_;rintro e w5 ⟨rfl,O,c1,Q,R,S,T⟩;have c3:=zh Q;have c4:=zh R;have a2:=zh S;have c5:=zh T;have c6:=zh (K8 X.out O);clear u O Q R S T d0 g0
   go_wp2_with fail
   go_end0;exact⟨rfl,c6.out,c1,c3.out,c4.out,Hxt.zbE HC.out HV.out (by rw[a0.out];exact a2.out) (λi U=>by
    rw[e5.out]at U;obtain rfl:=List.mem_singleton.1 U;exact c5.out)⟩
end
def jA(w:World)(v:Value)(hs:List Int):Prop:= ∃g c,v=.slice (some ⟨g,0,none⟩) hs.length c/\hs.length<=c/\w.heap[g]?=some (.cells (U5 hs) 3 (0,0))
theorem jA.J0{w w':World}{v:Value}{hs:List Int}(h:jA w v hs)(b:Below w.heap.size w w'):jA w' v hs:=by
 obtain⟨g,c,d,e,a⟩:=h;exact⟨g,c,d,e,(b.block g (I7 a)).trans a⟩
theorem zdT(n:Nat):S7 n n=U5 (List.replicate n (-1)):=by simp[S7,U5]
theorem zbs{n j:Nat}: ¬yg (List.replicate n (-1)) j:=by
 rintro⟨v,a,b⟩;rw[List.getElem?_replicate]at a
 split at a
 ·injection a with a;exact b a.symm
 ·cases a
theorem zbG(P:List Pf)(Z:Option Addr)(cf:Nat)(main:Int)(f:Pf)(Ao:Option Addr)(co:Nat)(C:T5)(w:World)(hC:f.ops=C.map Prod.fst)(I:zn (P.map Pf.params) f.vars C 0 C.length)(N:Y6 C 0 0)(h4:C.length<=4000)(a0: ∀x∈P.map Pf.params,x<=6)(hF:M3 w (.slice Z P.length cf) P)(hO:qo w (.slice Ao f.ops.length co) f.ops):
 Calls prog 63 #[.agg #[.slice Z P.length cf,.int .i64 main],.agg #[.int .i64 f.params,.int .i64 f.vars,.slice Ao f.ops.length co]] w λe w'=>
  Below w.heap.size w w'/\ ∃v hs,e=.returned (.tuple #[v,.int .i64 0])/\yQ C hs/\jA w' v hs:=by
 have a1:f.ops.length=C.length:=by rw[hC,D9]
 have h1:1<=f.ops.length:=by
  obtain⟨o,ho⟩:=N;have:=(List.getElem?_eq_some_iff.1 ho).1;omega
 have b0:f.ops.length<=4000:=by omega
 have b1:=(y7 w.heap.size w).alloc (y6 _) (.cells #[.slice Z P.length cf,.int .i64 main] 26);have b2:=b1.alloc b1.size (.cells #[.int .i64 f.params,.int .i64 f.vars,.slice Ao f.ops.length co] 40);have b3:=b2.alloc b2.size (.cells #[qu] 3);have i:=zh (heap_alloc2_old w (.cells #[.slice Z P.length cf,.int .i64 main] 26) (.cells #[.int .i64 f.params,.int .i64 f.vars,.slice Ao f.ops.length co] 40));have c:=zh (heap_alloc2_new w (.cells #[.slice Z P.length cf,.int .i64 main] 26) (.cells #[.int .i64 f.params,.int .i64 f.vars,.slice Ao f.ops.length co] 40));have HF:=zh hF;have HO:=zh hO;have HC:=zh hC;have HB:=zh I;have b4:=zh N;have HP:=zh a0;have a2:=zh a1;have n:=zh b2;clear hF hO hC I N a0 a1 b1 b2 b3
 go_enter func63,ntmps63
 go_upto_region 1 with(fail)
 generalize World.alloc _ _=O at i c n|-
 obtain⟨J,Q⟩: ∃b,w.heap.size+1=b:=⟨_,rfl⟩;rw[Q]at c;simp only[Q];clear Q;obtain⟨R,D⟩: ∃b,w.heap.size=b:=⟨_,rfl⟩;have b8:=zh D;rw[D]at i;simp only[D];clear D;have f2:=y5 c.out 2;have K:=(y7 O.heap.size O).alloc (y6 _) (.cells #[qu] 3);have RC:=zh (ziy O.heap.size 1 f.ops.length (O.alloc (.cells #[qu] 3)) h1 b0 (y9 O _));have a:=zh K;clear K;have q:=I7 c.out;have b5:=(a.out.cell (p:=⟨J,2,none⟩) q).trans f2
 go_wp2_with fail
 refine RC.out.mono ?_;rintro e w2 ⟨rfl,m,a3⟩;rw[zdT]at m;have E:=a.out.trans (a3.mono a.out.size);have d:=zh ((E.block R (I7 i.out)).trans i.out);have g:=zh ((E.block J q).trans c.out);have a4:=zh (n.out.trans (E.mono n.out.size));have S:w.heap.size<=(O.alloc (.cells #[qu] 3)).heap.size:=C4 n.out.size a.out.size;generalize(O.alloc (.cells #[qu] 3)).heap.size=L at m S|-
 have F:=zh S;have r:=I7 g.out;have s:=I7 m;have t:=I7 d.out;have a5:=zh m;clear f2 b5 RC a q a3 E S i c n m;have K:=(y7 w2.heap.size w2).alloc (y6 _) (.cells #[.slice (some ⟨L,0,none⟩) f.ops.length f.ops.length] 22);have u:=zh (y9 w2 (.cells #[.slice (some ⟨L,0,none⟩) f.ops.length f.ops.length] 22));have a:=zh K;clear K
 go_upto_region 2 with(fail)
 generalize World.alloc _ _=w3 at u a|-
 generalize w2.heap.size=bh at u a r s t|-
 have i:=zh ((a.out.block R t).trans d.out);have c:=zh ((a.out.block J r).trans g.out);have y:=zh ((a.out.block L s).trans a5.out);have a6:Hid (Below w.heap.size w w3):=zh (a4.out.trans (a.out.mono (by have:=F.out;omega)));clear d g a5 a a4 r s t;have f2:=y5 c.out 2;have e0:((f.ops.length:Int)==0)=false:=beq_eq_false_iff_ne.2 (by omega);have K:=(y7 w3.heap.size w3).alloc (y6 _) (.cells #[.bool false] 4);have z:=zh (y9 w3 (.cells #[.bool false] 4));have a:=zh K;clear K;have T:=I7 i.out;have U:=I7 c.out;have V:=I7 u.out;have W:=I7 y.out
 go_upto_region 3 with(fail)
 clear f2;generalize World.alloc _ _=X at z a|-
 generalize w3.heap.size=bb at z a T U V W|-
 have d:=zh ((a.out.block R T).trans i.out);have g:=zh ((a.out.block J U).trans c.out);have A:=zh ((a.out.block bh V).trans u.out);have B:=zh ((a.out.block L W).trans y.out);have a7:Hid (Below w.heap.size w X):=zh (a6.out.trans (a.out.mono (by have:=F.out;omega)));clear i c u y a a6 T U V W;have G:=zh (y9 X (.cells #[.func (.func 107) #[] #[.pointer (some ⟨bb,0,none⟩),.pointer (some ⟨J,0,none⟩),.pointer (some ⟨bh,0,none⟩),.pointer (some ⟨R,0,none⟩),.pointer (some ⟨X.heap.size,0,none⟩)]] 182));have l:=zh ((y7 X.heap.size X).alloc (y6 _) (.cells #[.func (.func 107) #[] #[.pointer (some ⟨bb,0,none⟩),.pointer (some ⟨J,0,none⟩),.pointer (some ⟨bh,0,none⟩),.pointer (some ⟨R,0,none⟩),.pointer (some ⟨X.heap.size,0,none⟩)]] 182));have s0:=I7 z.out;have T:=I7 d.out;have U:=I7 g.out;have V:=I7 A.out;have W:=I7 B.out
 go_upto_region 5 with(fail)
 generalize World.alloc _ _=w5 at G l|-
 generalize X.heap.size=bw at G l s0 T U V W|-
 have H:Hid (Below w.heap.size w w5):=zh (a7.out.trans (l.out.mono (by have:=F.out;omega)));have HS:Hid (HtS w5 ⟨bb,J,bh,R,bw,L⟩ P Z cf main f Ao co (List.replicate f.ops.length (-1))):=zh ⟨(l.out.block bb s0).trans z.out,(l.out.block J U).trans g.out,(l.out.block bh V).trans A.out,(l.out.block R T).trans d.out,G.out,(l.out.block L W).trans B.out,HF.out.J0 (.of H.out),HO.out.J0 (.of H.out)⟩;have WK:=zh (zhe HC.out HB.out h4 HP.out ((List.replicate f.ops.length (-1)).count (-1)+1) (List.replicate f.ops.length (-1)) 0 0 w5 (Nat.lt_succ_self _) HS.out ⟨by rw[List.length_replicate];exact a2.out,λk v M=>.inl (by
  rw[List.getElem?_replicate]at M
  split at M
  ·injection M with M;exact M.symm
  ·cases M)⟩ b4.out)
 clear s0 T U V W G l z d g A B a7 e0;have c0:=y5 HS.out.yH 0;have c1:=y5 HS.out.wk 0
 go_wp2_with fail
 refine WK.out.mono ?_;rintro e w6 ⟨rfl,hg,hs,hS,hO,hE,hM⟩;have Y:=zh hS;have b6:Hid (Below w.heap.size w w6):=zh (H.out.trans ⟨hg.os,hg.tape,hg.output,hg.size,λk M=>hg.block k (z6 M H.out.size) (by have:=F.out;simp;omega)⟩);have b7:Hid (yQ C hs):=zh ⟨hO,hM,λj o h hc hm=>hE.jt j o h hc zbs hm⟩;have a8:hs.length=f.ops.length:=by rw[hO.1,a2.out]
 have a9:=zh a8;clear hg hS hO hE hM a8 c0 c1 WK;have c0:=y5 Y.out.yH 0;have c1:=y5 Y.out.hv 0
 go_wp2_with fail
 go_ret2;exact⟨b6.out,.slice (some ⟨L,0,none⟩) f.ops.length f.ops.length,hs,rfl,b7.out,L,f.ops.length,by rw[a9.out],by rw[a9.out];exact y6 _,Y.out.row⟩
end Go.Proofs.YtalgmjmibamdfaaGreatDoor
namespace Go.Proofs.YtalgmjmibamdfaaGreatDoor
open Go.RowKit Tw
inductive Ql(C:T5):Nat->Prop
 |start:Ql C 0
 |jN {k j h:Nat} {o:S3}:Ql C k->C[k]?=some (o,h)->j∈L5 k o->Ql C j
structure Fq where
 fn:Nat
 pc:Nat
 vars:List Int
 I8:List Int
structure Mc where
 mode:Int
 value:Int
 P0:List Fq
abbrev R4:Type:=Int->List Int->Int×Int
def frE(f:Fq):List Int:=(f.fn:Int)::(f.pc:Int)::(f.vars++f.I8)
def K4(M:Mc):List Int:=M.mode::M.value::(M.P0.length:Int)::M.P0.flatMap frE
def yf(e:Int):Mc:=⟨2,e,[]⟩
def tr(b:Bool):Int:=if b then 1 else 0
def Zv(d a b:Int):Option Int:=
 if d=7 then some (IntKind.i64.wrap (a+b))else if d=8 then some (IntKind.i64.wrap (a-b))else if d=9 then some (IntKind.i64.wrap (a*b))
 else if d=12 then some (tr (decide (a<b)))else if d=13 then some (tr (decide (b<a)))else if d=14 then some (tr (decide (a=b)))
 else if b=0 then none else if d=10 then some (IntKind.i64.wrap (a.tdiv b))else some (a.tmod b)
def M8(P:List Cf)(host:R4)(v:Int)(fs:List Fq)(f:Fq)(o:S3)(l args:List Int):Mc×Bool:=
 let a:=args.getD 0 0
 let next (st:List Int):Mc:=⟨0,v,fs++[{f with pc:=f.pc+1,I8:=st}]⟩
 if o.1=1 then(next (l++[o.2]),false)
 else if o.1=2 then(next (l++[f.vars.getD o.2.toNat 0]),false)
 else if o.1=3 then(⟨0,v,fs++[{f with pc:=f.pc+1,vars:=f.vars.set o.2.toNat a,I8:=l}]⟩,false)
 else if o.1=4 then(next l,false)
 else if o.1=5 then(next (l++[IntKind.i64.wrap (-a)]),false)
 else if o.1=6 then(next (l++[tr (decide (a=0))]),false)
 else if o.1=15 then(⟨0,v,fs++[{f with pc:=o.2.toNat,I8:=l}]⟩,false)
 else if o.1=16 then(⟨0,v,fs++[{f with pc:=if a=0 then o.2.toNat else f.pc+1,I8:=l}]⟩,false)
 else if o.1=17 then
  (if fs.length+1=32 then(yf 6,false)
   else(⟨0,v,fs++[{f with I8:=l}]++[⟨o.2.toNat,0,args++List.replicate (((P[o.2.toNat]?).map (·.vars)).getD 0-args.length) 0,[]⟩]⟩,false))
 else if o.1=18 then
  (match fs.getLast? with
   |none=>(⟨1,a,[]⟩,false)
   |some u=>(⟨0,v,fs.dropLast++[{u with pc:=u.pc+1,I8:=u.I8++[a]}]⟩,false))
 else if o.1=19 then(⟨0,a,fs++[{f with pc:=f.pc+1,I8:=l}]⟩,true)
 else if o.1=20 then
  (if(host (o.2/8) args).2=0 then(next (l++[(host (o.2/8) args).1]),false)else(yf (host (o.2/8) args).2,false))
 else match Zv o.1 a (args.getD 1 0)with
  |some x=>(next (l++[x]),false)
  |none=>(yf 17,false)
def xw(P:List Cf)(f:Fq):Option (S3×Nat):=(P[f.fn]?).bind (λc=>c.J6[f.pc]?)
def zeV(P:List Cf)(o:S3):Nat:=J4 (P.map (·.params)) o
def R5(P:List Cf)(host:R4)(v:Int)(fs:List Fq)(f:Fq):Mc×Bool:=
 match xw P f with
 |none=>(⟨0,v,fs++[f]⟩,false)
 |some (o,_)=>M8 P host v fs f o (f.I8.take (f.I8.length-zeV P o)) (f.I8.drop (f.I8.length-zeV P o))
def S1(P:List Cf)(host:R4):Nat->Mc->Mc×Int
 |fuel,M=>
  if M.mode≠0 then(M,2)else
  match fuel,M.P0.getLast? with
  |0,_=>(M,3)
  |_,none=>(M,2)
  |fuel+1,some f=>
   let r:=R5 P host M.value M.P0.dropLast f
   if r.2 then(r.1,1)else S1 P host fuel r.1
def jC(P:List Cf)(f:Fq):Prop:= ∃c o,P[f.fn]?=some c/\c.J6[f.pc]?=some (o,f.I8.length)/\Ql c.J6 f.pc/\f.vars.length=c.vars
def zd9(P:List Cf)(f:Fq)(callee:Nat):Prop:= ∃c a,P[f.fn]?=some c/\P[callee]?=some a/\c.J6[f.pc]?=some ((17,(callee:Int)),f.I8.length+a.params)/\Ql c.J6 f.pc/\f.vars.length=c.vars
def zY(P:List Cf):Nat->List Fq->Nat->Prop
 |yA,[],a=>yA=a
 |yA,f::l,a=>f.fn=yA/\ ∃callee,zd9 P f callee/\zY P callee l a
theorem zY.xb{P:List Cf}: ∀{l:List Fq}{w w':Nat}{f:Fq},zY P w (l++[f]) w'↔zY P w l f.fn/\zd9 P f w'
 |[],w,w',f=>by
  simp only[C0,zY];constructor
  ·rintro⟨a,c,b,rfl⟩;exact⟨a.symm,b⟩
  ·rintro⟨a,b⟩;exact⟨a.symm,_,b,rfl⟩
 |g::l,w,w',f=>by
  simp only[B6,zY];constructor
  ·rintro⟨a,c,b,h⟩;obtain⟨d,e⟩:=zY.xb.1 h;exact⟨⟨a,c,b,d⟩,e⟩
  ·rintro⟨⟨a,c,b,d⟩,e⟩;exact⟨a,c,b,zY.xb.2 ⟨d,e⟩⟩
def zcc(P:List Cf)(main:Nat)(fs:List Fq)(f:Fq):Prop:=zY P main fs f.fn/\jC P f/\fs.length+1<=32
def jJ(P:List Cf)(main:Nat)(M:Mc):Prop:=
 (M.mode=0/\ ∃a f,M.P0=a++[f]/\zcc P main a f)\/(M.mode=1/\M.P0=[])\/(M.mode=2/\M.value≠0/\M.P0=[])
structure zk(P:List Cf)(main:Nat):Prop where
 yF: ∀c∈P,zi5 (P.map (·.params)) c
 main: ∃c,P[main]?=some c/\c.params=0
section
variable {P:List Cf}{main:Nat}
theorem jC.jN{f:Fq}(g:zk P main)(h:jC P f): ∃c o,P[f.fn]?=some c/\xw P f=some (o,f.I8.length)/\YD (P.map (·.params)) c.vars c.J6 f.pc o f.I8.length/\Ql c.J6 f.pc/\f.vars.length=c.vars/\c.J6[f.pc]?=some (o,f.I8.length):=by
 obtain⟨c,o,d,a,i,j⟩:=h;have k:=g.yF c (B7 d);have e:f.pc<c.J6.length:=by rcases E5 f.pc c.J6.length with h|h;exact h;rw[D6 h]at a;cases a
 obtain⟨p,q,b,l⟩:=k.K3 f.pc (E2 _) e;rw[a]at b;injection b with b
 injection b with m n
 subst m n;exact⟨c,o,d,by unfold xw;rw[d];exact a,l,i,j,a⟩
theorem jC.next{f g:Fq}{c:Cf}{o:S3}{h:Nat}(b:P[f.fn]?=some c)(d:c.J6[f.pc]?=some (o,h))(e:Ql c.J6 f.pc)(hs:YD (P.map (·.params)) c.vars c.J6 f.pc o h)(i:g.vars.length=c.vars)(j:g.fn=f.fn)(a:g.pc∈L5 f.pc o)(k:g.I8.length=h-J4 (P.map (·.params)) o+L3 o):jC P g:=by
 obtain⟨l,m⟩:=hs.2.2.2 g.pc a;exact⟨c,l,by rw[j];exact b,by rw[k];exact m,.jN e d a,i⟩
theorem JK(e:zk P main){i k h:Nat}{c:Cf}{o:S3}(f:P[i]?=some c)(b:c.J6[k]?=some (o,h)):YD (P.map (·.params)) c.vars c.J6 k o h:=by
 have d:k<c.J6.length:=by rcases E5 k c.J6.length with h|h;exact h;rw[D6 h]at b;cases b
 obtain⟨m,n,a,g⟩:=(e.yF c (B7 f)).K3 k (E2 _) d;rw[b]at a;injection a with a
 injection a with j l
 subst j l;exact g
theorem zbh{i:Nat}{c:Cf}(h:P[i]?=some c):(P.map (·.params)).getD i 0=c.params:=by
 rw[List.getD_eq_getElem?_getD,G3,h];rfl
theorem Qf(A:zk P main)(host:R4)(v:Int){fs:List Fq}{f:Fq}(Y:zcc P main fs f):jJ P main (R5 P host v fs f).1:=by
 obtain⟨z,Z,B⟩:=Y;obtain⟨c,⟨d,x⟩,K,h2,L,M,b,N⟩:=Z.jN A
 have go: ∀(g:Fq)(O:Int),g.fn=f.fn->g.vars.length=c.vars->g.pc∈L5 f.pc (d,x)->g.I8.length=f.I8.length-J4 (P.map (·.params)) (d,x)+L3 (d,x)->jJ P main ⟨0,O,fs++[g]⟩:=λg O Q e2 e3 e4=>
  .inl ⟨rfl,fs,g,rfl,by rw[Q];exact z,.next K N M L e2 Q e3 e4,B⟩
 obtain⟨⟨C,D,R,-⟩,hp,-,-⟩:=L;have q:J4 (P.map (·.params)) (d,x)<=f.I8.length:=hp;unfold R5;rw[h2];simp only;have e:zeV P (d,x)=J4 (P.map (·.params)) (d,x):=rfl;rw[e];generalize r:f.I8.take (f.I8.length-J4 (P.map (·.params)) (d,x))=s;generalize o:f.I8.drop (f.I8.length-J4 (P.map (·.params)) (d,x))=args;have a:s.length=f.I8.length-J4 (P.map (·.params)) (d,x):=by rw[<-r,I5];omega
 have E:args.length=J4 (P.map (·.params)) (d,x):=by rw[<-o,I6];omega
 simp only at C D R;unfold M8;simp only
 by_cases S:d=1
 ·subst S;exact go _ _ rfl b (by simp[L5]) (by simp[a,L3])
 rw[B5 S]
 by_cases T:d=2
 ·subst T;exact go _ _ rfl b (by simp[L5]) (by simp[a,L3])
 rw[B5 T]
 by_cases F:d=3
 ·subst F;exact go _ _ rfl (by simp[b]) (by simp[L5]) (by simp[a,L3])
 rw[B5 F]
 by_cases G:d=4
 ·subst G;exact go _ _ rfl b (by simp[L5]) (by simp[a,L3])
 rw[B5 G]
 by_cases U:d=5
 ·subst U;exact go _ _ rfl b (by simp[L5]) (by simp[a,L3])
 rw[B5 U]
 by_cases V:d=6
 ·subst V;exact go _ _ rfl b (by simp[L5]) (by simp[a,L3])
 rw[B5 V]
 by_cases k:d=15
 ·subst k;exact go _ _ rfl b (by simp[L5]) (by simp[a,L3])
 rw[B5 k]
 by_cases m:d=16
 ·subst m;exact go _ _ rfl b (by show(if args.getD 0 0=0 then x.toNat else f.pc+1)∈L5 f.pc (16,x);split<;>simp[L5]) (by simp[a,L3])
 rw[B5 m]
 by_cases t:d=17
 ·subst t
  rw[E1 rfl]
  by_cases h:fs.length+1=32
  ·rw[E1 h];exact .inr (.inr ⟨rfl,by decide,rfl⟩)
  rw[B5 h];obtain⟨a0,a1⟩:=R (by decide);have a2:x.toNat<P.length:=by simp[Y1]at a1;omega
  obtain⟨cg,i⟩: ∃cg,P[x.toNat]?=some cg:=⟨_,y8 a2⟩;have j:J4 (P.map (·.params)) (17,x)=cg.params:=by
   have:=zbh i;simpa[J4]using this
  have w:=A.yF cg (B7 i);obtain⟨o',H⟩:=w.start;have hx:((x.toNat:Nat):Int)=x:=by omega
  refine .inl ⟨rfl,fs++[{f with I8:=s}],_,rfl,⟨zY.xb.2 ⟨z,c,cg,K,i,?_,M,b⟩,⟨cg,o',i,H,.start,?_⟩,by simp;omega⟩⟩
  ·simp only[hx,a,j]
   rw[j]at q;rw[Nat.sub_add_cancel q];exact N
  ·have:=w.vars.1
   simp only[i,Option.map_some,Option.getD_some,z9,List.length_replicate,E,j];omega
 rw[B5 t]
 by_cases n:d=18
 ·subst n
  rw[E1 rfl];cases hg:fs.getLast? with
  |none=>exact .inr (.inl ⟨rfl,rfl⟩)
  |some u=>
   simp only;have I:fs=fs.dropLast++[u]:=by
    obtain⟨l,rfl⟩:=List.getLast?_eq_some_iff.1 hg;simp
   rw[I]at z;obtain⟨l1,cu,cg,W,u2,X,u4,u5⟩:=zY.xb.1 z;have J:=JK A W X;refine .inl ⟨rfl,_,_,rfl,l1,.next W X u4 J u5 rfl (by simp[L5]) ?_,by simp;omega⟩;have j:J4 (P.map (·.params)) (17,(f.fn:Int))=cg.params:=by
    have:=zbh u2;simpa[J4]using this
   rw[j];simp[L3]
 rw[B5 n]
 by_cases p:d=19
 ·subst p;exact go _ _ rfl b (by simp[L5]) (by simp[a,L3])
 rw[B5 p]
 by_cases y:d=20
 ·subst y
  rw[E1 rfl]
  split
  ·exact go _ _ rfl b (by simp[L5]) (by simp[a,L3])
  ·rename_i he;exact .inr (.inr ⟨rfl,he,rfl⟩)
 rw[B5 y]
 split
 ·exact go _ _ rfl b (by simp[L5,k,m,n]) (by simp[a,L3,F,G,k,m,n,p])
 ·exact .inr (.inr ⟨rfl,by decide,rfl⟩)
theorem zbv(a:zk P main)(host:R4): ∀(fuel:Nat)(M:Mc),jJ P main M->jJ P main (S1 P host fuel M).1
 |0,M,h=>by
  unfold S1
  split
  ·exact h
  ·exact h
 |fuel+1,M,h=>by
  unfold S1
  split
  ·exact h
  ·rename_i d
   rcases h with⟨g,fs,f,e,b⟩|⟨c,_⟩|⟨c,_⟩
   ·rw[e]
    simp only[List.getLast?_append,List.getLast?_singleton,Option.some_or,List.dropLast_concat];have:=Qf a host M.value b
    split
    ·exact this
    ·exact zbv a host fuel _ this
   ·omega
   ·omega
end
end Go.Proofs.YtalgmjmibamdfaaGreatDoor
namespace Go.Proofs.YtalgmjmibamdfaaGreatDoor
open Go.Proofs.Tryz
open Go.RowKit Tw
def yI(w:World)(v:Value)(xE:List (List Int)):Prop:=
 (xE=[]/\ ∃a c,v=.slice a 0 c)\/ ∃g c,v=.slice (some ⟨g,0,none⟩) xE.length c/\g<w.heap.size/\ ∀(i:Nat)(b:List Int),xE[i]?=some b-> ∃u,w.cell? ⟨g,i,none⟩=some u/\jA w u b
theorem zdC:R1 prog 55 22 1:=⟨underlying55,by kernel_rfl,by decide⟩
theorem zi{L:List Cf}{j:Nat}{c:Cf}(h:L[j]?=some c):(L.map Cf.pf)[j]?=some c.pf:=by rw[G3,h];rfl
theorem jE(L:List Cf):(L.map Cf.pf).map Pf.params=L.map (·.params):=by rw[List.map_map];rfl
theorem yI.ql{w:World}{base c:Nat}{A:Option Addr}{l:List (List Int×Value)}(h:w.ownsRow base 22 1 (.slice A l.length c) l.length (l.map Prod.snd))(a: ∀b∈l,jA w b.2 b.1):yI w (.slice A l.length c) (l.map Prod.fst):=by
 rcases Nat.eq_zero_or_pos l.length with d|d
 ·have:l=[]:=List.length_eq_zero_iff.1 d
  subst this;exact .inl ⟨rfl,A,c,rfl⟩
 ·obtain⟨g,rfl⟩:=qA h d
  refine .inr ⟨g,c,by rw[D9],(h.lt g rfl).2,λk f i=>?_⟩;rw[G3]at i;obtain⟨b,e,rfl⟩:=Option.map_eq_some_iff.1 i;have j:k<l.length:=(List.getElem?_eq_some_iff.1 e).1;refine⟨b.2,?_,a b (B7 e)⟩;rw[h.cellAt k (by omega),G3,e];rfl
end Go.Proofs.YtalgmjmibamdfaaGreatDoor
