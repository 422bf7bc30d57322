/- Merged. -/
import Derived.Test.YtalgmjmibamdfaaGreatDoorVS09
import Derived.Laws.EntriesVeiled
set_option linter.all false
set_option maxHeartbeats 16000000
set_option maxRecDepth 100000
namespace Go.Proofs.YtalgmjmibamdfaaGreatDoor
open Go.Proofs.Tryz
open Go.RowKit Tw
theorem zbN{w:World}{b j:Nat}{v:Value}{cs:Array Value}{t:Nat}(h:w.heap[b]?=some (.cells cs t (0,0)))(d:cs[j]?=some v)(r:Option Nat):w.grownBy (w.setCell ⟨b,j,none⟩ v) r:=by
 have a:=I7 w b j v;refine⟨a.os,a.tape,a.output,a.size,λk g _=>?_⟩
 by_cases e:k=b
 ·subst e
  have l:=y4 w k j _ _ v h;rw[l,h];obtain⟨m,n⟩:=Array.getElem?_eq_some_iff.1 d;subst n;have o:cs.setIfInBounds j cs[j]=cs:=by
   apply Array.ext_getElem?;intro i
   by_cases c:j=i
   ·subst c;simp[m]
   ·rw[D0 c]
  rw[o]
 ·exact a.block k g (by simpa using e)
theorem qi{ps:List Nat}(h: ∀x∈ps,x<=6)(o:Q2):I6 ps o<=7:=by
 unfold I6
 split
 ·omega
 split
 ·rw[List.getD_eq_getElem?_getD]
  cases a:ps[o.2.toNat]? with
  |none=>simp
  |some x=>have:=h x (B0 a);simp;omega
 split
 ·omega
 split<;>omega
section
variable {B:Hv}{P:List Pf}{Af:Option Addr}{cf:Nat}{main:Int}{f:Pf}{Ao:Option Addr}{co:Nat}{C:R2}
def WkR(w:World)(B:Hv)(P:List Pf)(Af:Option Addr)(cf:Nat)(main:Int)(f:Pf)(Ao:Option Addr)(co:Nat)(C:R2)(hs:List Int)(k:Nat)(e:Ending)(w':World):Prop:=
 e=.returned (.tuple #[])/\w.grownBy w' (some B.gh)/\ ∃a,HtS w' B P Af cf main f Ao co a/\OkH C a/\Yc C hs a/\xz a k
theorem qD{w:World}{g:Nat}{hs:List Int}(h:w.heap[g]?=some (.cells (S5 hs) 3 (0,0))){k:Nat}{v:Int}(a:hs[k]?=some v):w.cell? ⟨g,k,none⟩=some (.int .i64 v):=by
 refine(x5 h k).trans ?_;simp[S5,a]
theorem zfQ(hC:f.ops=C.map Prod.fst)(a4:Y4 (P.map Pf.params) f.vars C 0 C.length)(h4:C.length<=4000)(c7: ∀x∈P.map Pf.params,x<=6): ∀(N:Nat)(hs:List Int)(k n:Nat)(w:World),hs.count (-1)<N->HtS w B P Af cf main f Ao co hs->OkH C hs->W3 C k n->
 Calls prog 107 #[.int .i64 k,.int .i64 n,.pointer (some ⟨B.bb,0,none⟩),.pointer (some ⟨B.bf,0,none⟩),.pointer (some ⟨B.bh,0,none⟩),.pointer (some ⟨B.bp,0,none⟩),.pointer (some ⟨B.bw,0,none⟩)] w (WkR w B P Af cf main f Ao co C hs k):=by
 intro N
 induction N with
 |zero=>intro hs k n w hN;omega
 |succ N ih=>
 intro hs k n w hN hS hO hA;obtain⟨o,hc⟩:=hA;have c8:k<C.length:=(List.getElem?_eq_some_iff.1 hc).1;have c9:f.ops.length=C.length:=by rw[hC,C0]
 obtain⟨v,hv⟩: ∃v,hs[k]?=some v:=⟨_,x8 (by rw[hO.1];exact c8)⟩;obtain⟨o',n',F,V⟩:=a4 k (C6 _) c8;obtain⟨rfl,rfl⟩:o=o'/\n=n':=by rw[hc]at F;injection F with F;injection F with e1 e2;exact⟨e1,e2⟩
 have e6:n<=512:=by
  have h1:=V.2.1;have h2:=V.2.2.1;have h3:=qi c7 o;omega
 have k0:(0:Int)<=(k:Int):=by omega
 have k1:(k:Int)<(f.ops.length:Int):=by omega
 have e1:((k:Int)==(f.ops.length:Int))=false:=by simp;omega
 have b0:=x5 hS.xS 0;have f2:=x5 hS.fn 2;have h0:=x5 hS.hv 0;have r0:=qD hS.row hv;have gb:=z6 hS.xS 0;have gr:=z6 hS.row k;have IH:=zh ih;have HS:=zh hS;have HO:=zh hO;have HC:=zh hc;have HV:=zh hv;have HN:=zh hN;have d2:=zh V;have d3:=zh hC;have a5:=hO.2 k v hv;clear ih hS hO hc F hN V hC a4 c9 c7
 by_cases hm:v= -1
 case neg=>
  have e7:v=(n:Int):=by
   rcases a5 with h|⟨o2,n2,h1,h2⟩
   ·exact G5 h hm
   ·rw[HC.out]at h1;injection h1 with h1;injection h1 with h1 h3;subst h3;exact h2
  subst e7;clear a5 hv
  go_enter func107,ntmps107
  go_wp2_with fail
  (try simp only[Exit.inBlock,Exit.then]);refine E1 (results_none rfl _ _ _) rfl ?_
  exact⟨rfl,zbN HS.out.xS rfl _,hs,HS.out.zgF,HO.out,.refl,⟨_,HV.out,hm⟩⟩
 case pos=>
  subst hm;clear a5 hv;obtain⟨d,x⟩:=o;obtain⟨d4,d5,d6,G⟩:=d2.out;obtain⟨e8,e9,hx,-⟩:=d4;simp only at e8 e9 hx;have a6:f.ops[k]?=some (d,x):=by rw[d3.out,F6,HC.out];rfl
  obtain⟨go,c',hv,f9,a7,y⟩:=HS.out.ops.at;injection hv with f3 _ f4
  subst f3 f4;obtain⟨o0,o1⟩:=y k _ a6;simp only at o0 o1;have r:=zh (HS.out.set k n);have H:=zh (HO.out.set HC.out);have b:=I7 w B.gh k (.int .i64 n);have a8:go≠B.gh:=by
   obtain⟨g2,c2,cs,fr,ev,-,f5,-⟩:=HS.out.ops;injection ev with ev;injection ev with ev;injection ev with ev
   subst ev;exact qo f5 HS.out.row (by decide)
  have d7:(w.setCell ⟨B.gh,k,none⟩ (.int .i64 n)).cell? ⟨go,k*2,none⟩=some (.int .i64 d):=(E0 (a:=⟨go,k*2,none⟩) (b.block go a7 (by simpa using a8))).trans o0;have d8:(w.setCell ⟨B.gh,k,none⟩ (.int .i64 n)).cell? ⟨go,k*2+1,none⟩=some (.int .i64 x):=(E0 (a:=⟨go,k*2+1,none⟩) (b.block go a7 (by simpa using a8))).trans o1;have a9:=zh b;have g1:=zh a6;clear y a7 a8 b a6 o0 o1
  go_enter func107,ntmps107
  go_upto_region 3 with(fail)
  generalize World.setCell _ _ _=w1 at r a9 d7 d8|-
  clear b0 f2 h0 r0 gb gr;have b0:=x5 r.out.xS 0;have f0:=x5 r.out.fn 0;have f1:=x5 r.out.fn 1;have f2:=x5 r.out.fn 2
  go_upto_region 4 with(fail)
  clear b0 f0 f1 f2 d7 d8;have b2:=(x7 w1.heap.size w1).alloc (x6 _) (.cells #[.int .i64 d,.int .i64 x] 74);have c:=zh (r.out.later b2);have b3:=zh (J6 a9.out (J5 b2 (some B.gh)));have s:=zh (x9 w1 (.cells #[.int .i64 d,.int .i64 x] 74));clear b2 r a9;generalize World.alloc _ _=w2 at c b3 s|-
  generalize w1.heap.size=bo at s|-
  have b0:=x5 c.out.pg 0;have b1:=x5 c.out.pg 1;have f0:=x5 c.out.fn 0;have f1:=x5 c.out.fn 1;have f2:=x5 c.out.fn 2;have d0:=x5 s.out 0;have d1:=x5 s.out 1;have d9:f.ops.length=C.length:=by rw[d3.out,C0]
  have OC:=zh (zgZ P Af cf main f.params f.vars f.ops.length (some ⟨go,0,none⟩) co d x w2 (by have:=d2.out.1;rw[C0]at this;rw[d9];exact this) c.out.zem);clear d9;obtain⟨po,W⟩: ∃z,I6 (P.map Pf.params) (d,x)=z:=⟨_,rfl⟩;obtain⟨pu,b4⟩: ∃z,J9 (d,x)=z:=⟨_,rfl⟩;obtain⟨li,e0⟩: ∃z,U6 P.length f.vars f.ops.length d=z:=⟨_,rfl⟩;rw[W,b4,e0]at OC;rw[W,b4]at d6 G;rw[W]at d5;have g:=zh G;clear W b4 e0 G
  go_wp2_with fail
  refine OC.out.mono ?_;rintro e w3 ⟨rfl,hb⟩;have p:=zh (c.out.later hb);have X:=zh (J6 b3.out (J5 hb (some B.gh)));have q:=zh ((hb.block bo (I0 s.out)).trans s.out);clear hb OC c b3 s b0 b1 f0 f1 f2 d0 d1;have f6:IntKind.i64.wrap ((n:Int)-(po:Int))=(n:Int)-(po:Int):=IntWalk.i64_in _ (by omega);have f7:IntKind.i64.wrap ((n:Int)-(po:Int)+(pu:Int))=(n:Int)-(po:Int)+(pu:Int):=IntWalk.i64_in _ (by omega);have t1: ¬((n:Int)<(po:Int)):=by omega
  have t2: ¬((256:Int)<(n:Int)-(po:Int)+(pu:Int)):=by omega
  have d0:=x5 q.out 0;have d1:=x5 q.out 1;have g0:=x5 p.out.wk 0;obtain⟨m,e3⟩: ∃m:Nat,n-po+pu=m:=⟨_,rfl⟩;have f8:(n:Int)-(po:Int)+(pu:Int)=(m:Int):=by omega
  have Y:=zh e3;clear e3;have I:Hid ((hs.set k (n:Int)).count (-1)<N):=zh (by have h1:=jY (n:=n) HV.out;have h2:=HN.out;omega);obtain⟨Z,J⟩: ∃l,hs.set k (n:Int)=l:=⟨_,rfl⟩;have a0:=zh J;rw[J]at p H I;clear J
  go_upto_region 8 with(fail)
  clear f6 f7 t1 t2 f8
  by_cases K:d=15
  ·subst K
   obtain⟨j,rfl⟩: ∃j:Nat,x=j:=⟨x.toNat,by have:=hx (by decide);omega⟩;have WC:=zh (IH.out Z j m w3 I.out p.out H.out (by have:=g.out j (by simp[K2]);rw[Y.out]at this;exact this));clear IH g hx
   go_wp2_with fail
   refine WC.out.mono ?_;rintro e w4 ⟨rfl,t,b5,A,D,E,L⟩;have b6:=zh ((t.block bo (I0 q.out) (by simpa using qo q.out p.out.row (by decide))).trans q.out);have b7:=zh A;have e4:=zh D;have b8:=zh E;have b9:=zh L;have c0:=zh (J6 X.out t);clear WC t A D E L d0 d1 g0;have d0:=x5 b6.out 0
   go_wp2_with fail
   go_end0;exact⟨rfl,c0.out,b5,b7.out,e4.out,Yc.zaG HC.out HV.out (by rw[a0.out];exact b8.out) (λi U=>by
    obtain rfl:i=j:=by simpa[K2]using U
    exact b9.out)⟩
  by_cases a1:d=16
  ·subst a1
   obtain⟨j,rfl⟩: ∃j:Nat,x=j:=⟨x.toNat,by have:=hx (by decide);omega⟩;have WC:=zh (IH.out Z j m w3 I.out p.out H.out (by have:=g.out j (by simp[K2]);rw[Y.out]at this;exact this));clear hx
   go_wp2_with fail
   refine WC.out.mono ?_;rintro e w4 ⟨rfl,t,b5,A,D,E,L⟩;have b6:=zh ((t.block bo (I0 q.out) (by simpa using qo q.out p.out.row (by decide))).trans q.out);have b7:=zh A;have e4:=zh D;have b8:=zh E;have b9:=zh L;have c0:=zh (J6 X.out t);have u:=zh (IH.out b5 (k+1) m w4 (by have:=I.out;have:=E.cnt;omega) A D (by have:=g.out (k+1) (by simp[K2]);rw[Y.out]at this;exact this));clear WC t A D E L d0 d1 g0 IH g;have d0:=x5 b6.out 0;have g0:=x5 b7.out.wk 0;have M:((k+1:Nat):Int)=(k:Int)+1:=by omega
   rw[M]at u;clear M
   go_wp2_with fail
   refine u.out.mono ?_;rintro e w5 ⟨rfl,O,c1,Q,R,S,T⟩;have c3:=zh Q;have c4:=zh R;have a2:=zh S;have c5:=zh T;have c6:=zh (J6 c0.out O);clear u O Q R S T d0 g0
   go_wp2_with fail
   go_end0;exact⟨rfl,c6.out,c1,c3.out,c4.out,Yc.zaG HC.out HV.out (by rw[a0.out];exact b8.out.trans a2.out) (λi U=>by
    have U:i=k+1\/i=j:=by simpa[K2]using U
    rcases U with rfl|rfl
    ·exact c5.out
    ·exact a2.out.mk' b9.out)⟩
  by_cases a3:d=18
  ·subst a3
   clear IH g hx
   go_wp2_with fail
   go_end0;exact⟨rfl,X.out,Z,p.out,H.out,Yc.zaG HC.out HV.out (by rw[a0.out];exact .refl) (λi U=>by simp[K2]at U)⟩
  ·have g3:(d==15)=false:=by simpa using K
   have g4:(d==16)=false:=by simpa using a1
   have g5:(d !=15)=true:=by simpa using K
   have g6:(d !=18)=true:=by simpa using a3
   have e5:Hid (K2 k (d,x)=[k+1]):=zh (by simp[K2,K,a1,a3]);have u:=zh (IH.out Z (k+1) m w3 I.out p.out H.out (by have:=g.out (k+1) (by rw[e5.out];simp);rw[Y.out]at this;exact this));have M:((k+1:Nat):Int)=(k:Int)+1:=by omega
   rw[M]at u;clear M IH g hx K a1 a3
   go_wp2_with fail
   refine u.out.mono ?_;rintro e w5 ⟨rfl,O,c1,Q,R,S,T⟩;have c3:=zh Q;have c4:=zh R;have a2:=zh S;have c5:=zh T;have c6:=zh (J6 X.out O);clear u O Q R S T d0 g0
   go_wp2_with fail
   go_end0;exact⟨rfl,c6.out,c1,c3.out,c4.out,Yc.zaG HC.out HV.out (by rw[a0.out];exact a2.out) (λi U=>by
    rw[e5.out]at U;obtain rfl:=List.mem_singleton.1 U;exact c5.out)⟩
end
def qQ(w:World)(v:Value)(hs:List Int):Prop:= ∃g c,v=.slice (some ⟨g,0,none⟩) hs.length c/\hs.length<=c/\w.heap[g]?=some (.cells (S5 hs) 3 (0,0))
theorem qQ.I5{w w':World}{v:Value}{hs:List Int}(h:qQ w v hs)(b:Below w.heap.size w w'):qQ w' v hs:=by
 obtain⟨g,c,d,e,a⟩:=h;exact⟨g,c,d,e,(b.block g (I0 a)).trans a⟩
theorem zch(n:Nat):Q5 n n=S5 (List.replicate n (-1)):=by simp[Q5,S5]
theorem zah{n j:Nat}: ¬xz (List.replicate n (-1)) j:=by
 rintro⟨v,a,b⟩;rw[List.getElem?_replicate]at a
 split at a
 ·injection a with a;exact b a.symm
 ·cases a
theorem zbb(P:List Pf)(Z:Option Addr)(cf:Nat)(main:Int)(f:Pf)(Ao:Option Addr)(co:Nat)(C:R2)(w:World)(hC:f.ops=C.map Prod.fst)(I:Y4 (P.map Pf.params) f.vars C 0 C.length)(N:W3 C 0 0)(h4:C.length<=4000)(a0: ∀x∈P.map Pf.params,x<=6)(hF:L4 w (.slice Z P.length cf) P)(hO:zJ w (.slice Ao f.ops.length co) f.ops):
 Calls prog 63 #[.agg #[.slice Z P.length cf,.int .i64 main],.agg #[.int .i64 f.params,.int .i64 f.vars,.slice Ao f.ops.length co]] w λe w'=>
  Below w.heap.size w w'/\ ∃v hs,e=.returned (.tuple #[v,.int .i64 0])/\xZ C hs/\qQ w' v hs:=by
 have a1:f.ops.length=C.length:=by rw[hC,C0]
 have h1:1<=f.ops.length:=by
  obtain⟨o,ho⟩:=N;have:=(List.getElem?_eq_some_iff.1 ho).1;omega
 have b0:f.ops.length<=4000:=by omega
 have b1:=(x7 w.heap.size w).alloc (x6 _) (.cells #[.slice Z P.length cf,.int .i64 main] 26);have b2:=b1.alloc b1.size (.cells #[.int .i64 f.params,.int .i64 f.vars,.slice Ao f.ops.length co] 40);have b3:=b2.alloc b2.size (.cells #[zN] 3);have i:=zh (heap_alloc2_old w (.cells #[.slice Z P.length cf,.int .i64 main] 26) (.cells #[.int .i64 f.params,.int .i64 f.vars,.slice Ao f.ops.length co] 40));have c:=zh (heap_alloc2_new w (.cells #[.slice Z P.length cf,.int .i64 main] 26) (.cells #[.int .i64 f.params,.int .i64 f.vars,.slice Ao f.ops.length co] 40));have HF:=zh hF;have HO:=zh hO;have HC:=zh hC;have HB:=zh I;have b4:=zh N;have HP:=zh a0;have a2:=zh a1;have n:=zh b2;clear hF hO hC I N a0 a1 b1 b2 b3
 go_enter func63,ntmps63
 go_upto_region 1 with(fail)
 generalize World.alloc _ _=O at i c n|-
 obtain⟨J,Q⟩: ∃b,w.heap.size+1=b:=⟨_,rfl⟩;rw[Q]at c;simp only[Q];clear Q;obtain⟨R,D⟩: ∃b,w.heap.size=b:=⟨_,rfl⟩;have b8:=zh D;rw[D]at i;simp only[D];clear D;have f2:=x5 c.out 2;have K:=(x7 O.heap.size O).alloc (x6 _) (.cells #[zN] 3);have RC:=zh (zhL O.heap.size 1 f.ops.length (O.alloc (.cells #[zN] 3)) h1 b0 (x9 O _));have a:=zh K;clear K;have q:=I0 c.out;have b5:=(a.out.cell (p:=⟨J,2,none⟩) q).trans f2
 go_wp2_with fail
 refine RC.out.mono ?_;rintro e w2 ⟨rfl,m,a3⟩;rw[zch]at m;have E:=a.out.trans (a3.mono a.out.size);have d:=zh ((E.block R (I0 i.out)).trans i.out);have g:=zh ((E.block J q).trans c.out);have a4:=zh (n.out.trans (E.mono n.out.size));have S:w.heap.size<=(O.alloc (.cells #[zN] 3)).heap.size:=B5 n.out.size a.out.size;generalize(O.alloc (.cells #[zN] 3)).heap.size=L at m S|-
 have F:=zh S;have r:=I0 g.out;have s:=I0 m;have t:=I0 d.out;have a5:=zh m;clear f2 b5 RC a q a3 E S i c n m;have K:=(x7 w2.heap.size w2).alloc (x6 _) (.cells #[.slice (some ⟨L,0,none⟩) f.ops.length f.ops.length] 22);have u:=zh (x9 w2 (.cells #[.slice (some ⟨L,0,none⟩) f.ops.length f.ops.length] 22));have a:=zh K;clear K
 go_upto_region 2 with(fail)
 generalize World.alloc _ _=w3 at u a|-
 generalize w2.heap.size=bh at u a r s t|-
 have i:=zh ((a.out.block R t).trans d.out);have c:=zh ((a.out.block J r).trans g.out);have y:=zh ((a.out.block L s).trans a5.out);have a6:Hid (Below w.heap.size w w3):=zh (a4.out.trans (a.out.mono (by have:=F.out;omega)));clear d g a5 a a4 r s t;have f2:=x5 c.out 2;have e0:((f.ops.length:Int)==0)=false:=beq_eq_false_iff_ne.2 (by omega);have K:=(x7 w3.heap.size w3).alloc (x6 _) (.cells #[.bool false] 4);have z:=zh (x9 w3 (.cells #[.bool false] 4));have a:=zh K;clear K;have T:=I0 i.out;have U:=I0 c.out;have V:=I0 u.out;have W:=I0 y.out
 go_upto_region 3 with(fail)
 clear f2;generalize World.alloc _ _=X at z a|-
 generalize w3.heap.size=bb at z a T U V W|-
 have d:=zh ((a.out.block R T).trans i.out);have g:=zh ((a.out.block J U).trans c.out);have A:=zh ((a.out.block bh V).trans u.out);have B:=zh ((a.out.block L W).trans y.out);have a7:Hid (Below w.heap.size w X):=zh (a6.out.trans (a.out.mono (by have:=F.out;omega)));clear i c u y a a6 T U V W;have G:=zh (x9 X (.cells #[.func (.func 107) #[] #[.pointer (some ⟨bb,0,none⟩),.pointer (some ⟨J,0,none⟩),.pointer (some ⟨bh,0,none⟩),.pointer (some ⟨R,0,none⟩),.pointer (some ⟨X.heap.size,0,none⟩)]] 182));have l:=zh ((x7 X.heap.size X).alloc (x6 _) (.cells #[.func (.func 107) #[] #[.pointer (some ⟨bb,0,none⟩),.pointer (some ⟨J,0,none⟩),.pointer (some ⟨bh,0,none⟩),.pointer (some ⟨R,0,none⟩),.pointer (some ⟨X.heap.size,0,none⟩)]] 182));have s0:=I0 z.out;have T:=I0 d.out;have U:=I0 g.out;have V:=I0 A.out;have W:=I0 B.out
 go_upto_region 5 with(fail)
 generalize World.alloc _ _=w5 at G l|-
 generalize X.heap.size=bw at G l s0 T U V W|-
 have H:Hid (Below w.heap.size w w5):=zh (a7.out.trans (l.out.mono (by have:=F.out;omega)));have HS:Hid (HtS w5 ⟨bb,J,bh,R,bw,L⟩ P Z cf main f Ao co (List.replicate f.ops.length (-1))):=zh ⟨(l.out.block bb s0).trans z.out,(l.out.block J U).trans g.out,(l.out.block bh V).trans A.out,(l.out.block R T).trans d.out,G.out,(l.out.block L W).trans B.out,HF.out.I5 (.of H.out),HO.out.I5 (.of H.out)⟩;have WK:=zh (zfQ HC.out HB.out h4 HP.out ((List.replicate f.ops.length (-1)).count (-1)+1) (List.replicate f.ops.length (-1)) 0 0 w5 (Nat.lt_succ_self _) HS.out ⟨by rw[List.length_replicate];exact a2.out,λk v M=>.inl (by
  rw[List.getElem?_replicate]at M
  split at M
  ·injection M with M;exact M.symm
  ·cases M)⟩ b4.out)
 clear s0 T U V W G l z d g A B a7 e0;have c0:=x5 HS.out.xS 0;have c1:=x5 HS.out.wk 0
 go_wp2_with fail
 refine WK.out.mono ?_;rintro e w6 ⟨rfl,hg,hs,hS,hO,hE,hM⟩;have Y:=zh hS;have b6:Hid (Below w.heap.size w w6):=zh (H.out.trans ⟨hg.os,hg.tape,hg.output,hg.size,λk M=>hg.block k (y5 M H.out.size) (by have:=F.out;simp;omega)⟩);have b7:Hid (xZ C hs):=zh ⟨hO,hM,λj o h hc hm=>hE.qF j o h hc zah hm⟩;have a8:hs.length=f.ops.length:=by rw[hO.1,a2.out]
 have a9:=zh a8;clear hg hS hO hE hM a8 c0 c1 WK;have c0:=x5 Y.out.xS 0;have c1:=x5 Y.out.hv 0
 go_wp2_with fail
 go_ret2;exact⟨b6.out,.slice (some ⟨L,0,none⟩) f.ops.length f.ops.length,hs,rfl,b7.out,L,f.ops.length,by rw[a9.out],by rw[a9.out];exact x6 _,Y.out.row⟩
end Go.Proofs.YtalgmjmibamdfaaGreatDoor
namespace Go.Proofs.YtalgmjmibamdfaaGreatDoor
open Go.RowKit Tw
inductive Zl(C:R2):Nat->Prop
 |start:Zl C 0
 |ji {k j h:Nat} {o:Q2}:Zl C k->C[k]?=some (o,h)->j∈K2 k o->Zl C j
structure Fq where
 fn:Nat
 pc:Nat
 vars:List Int
 I1:List Int
structure Mc where
 mode:Int
 value:Int
 O2:List Fq
abbrev T0:Type:=Int->List Int->Int×Int
def frE(f:Fq):List Int:=(f.fn:Int)::(f.pc:Int)::(f.vars++f.I1)
def K9(M:Mc):List Int:=M.mode::M.value::(M.O2.length:Int)::M.O2.flatMap frE
def xw(e:Int):Mc:=⟨2,e,[]⟩
def tr(b:Bool):Int:=if b then 1 else 0
def yF(d a b:Int):Option Int:=
 if d=7 then some (IntKind.i64.wrap (a+b))else if d=8 then some (IntKind.i64.wrap (a-b))else if d=9 then some (IntKind.i64.wrap (a*b))
 else if d=12 then some (tr (decide (a<b)))else if d=13 then some (tr (decide (b<a)))else if d=14 then some (tr (decide (a=b)))
 else if b=0 then none else if d=10 then some (IntKind.i64.wrap (a.tdiv b))else some (a.tmod b)
def M1(P:List Cf)(host:T0)(v:Int)(fs:List Fq)(f:Fq)(o:Q2)(l args:List Int):Mc×Bool:=
 let a:=args.getD 0 0
 let next (st:List Int):Mc:=⟨0,v,fs++[{f with pc:=f.pc+1,I1:=st}]⟩
 if o.1=1 then(next (l++[o.2]),false)
 else if o.1=2 then(next (l++[f.vars.getD o.2.toNat 0]),false)
 else if o.1=3 then(⟨0,v,fs++[{f with pc:=f.pc+1,vars:=f.vars.set o.2.toNat a,I1:=l}]⟩,false)
 else if o.1=4 then(next l,false)
 else if o.1=5 then(next (l++[IntKind.i64.wrap (-a)]),false)
 else if o.1=6 then(next (l++[tr (decide (a=0))]),false)
 else if o.1=15 then(⟨0,v,fs++[{f with pc:=o.2.toNat,I1:=l}]⟩,false)
 else if o.1=16 then(⟨0,v,fs++[{f with pc:=if a=0 then o.2.toNat else f.pc+1,I1:=l}]⟩,false)
 else if o.1=17 then
  (if fs.length+1=32 then(xw 6,false)
   else(⟨0,v,fs++[{f with I1:=l}]++[⟨o.2.toNat,0,args++List.replicate (((P[o.2.toNat]?).map (·.vars)).getD 0-args.length) 0,[]⟩]⟩,false))
 else if o.1=18 then
  (match fs.getLast? with
   |none=>(⟨1,a,[]⟩,false)
   |some u=>(⟨0,v,fs.dropLast++[{u with pc:=u.pc+1,I1:=u.I1++[a]}]⟩,false))
 else if o.1=19 then(⟨0,a,fs++[{f with pc:=f.pc+1,I1:=l}]⟩,true)
 else if o.1=20 then
  (if(host (o.2/8) args).2=0 then(next (l++[(host (o.2/8) args).1]),false)else(xw (host (o.2/8) args).2,false))
 else match yF o.1 a (args.getD 1 0)with
  |some x=>(next (l++[x]),false)
  |none=>(xw 17,false)
def jP(P:List Cf)(f:Fq):Option (Q2×Nat):=(P[f.fn]?).bind (λc=>c.I9[f.pc]?)
def zdP(P:List Cf)(o:Q2):Nat:=I6 (P.map (·.params)) o
def Q1(P:List Cf)(host:T0)(v:Int)(fs:List Fq)(f:Fq):Mc×Bool:=
 match jP P f with
 |none=>(⟨0,v,fs++[f]⟩,false)
 |some (o,_)=>M1 P host v fs f o (f.I1.take (f.I1.length-zdP P o)) (f.I1.drop (f.I1.length-zdP P o))
def L5(P:List Cf)(host:T0):Nat->Mc->Mc×Int
 |a,M=>
  if M.mode≠0 then(M,2)else
  match a,M.O2.getLast? with
  |0,_=>(M,3)
  |_,none=>(M,2)
  |a+1,some f=>
   let r:=Q1 P host M.value M.O2.dropLast f
   if r.2 then(r.1,1)else L5 P host a r.1
def qS(P:List Cf)(f:Fq):Prop:= ∃c o,P[f.fn]?=some c/\c.I9[f.pc]?=some (o,f.I1.length)/\Zl c.I9 f.pc/\f.vars.length=c.vars
def zbw(P:List Cf)(f:Fq)(callee:Nat):Prop:= ∃c a,P[f.fn]?=some c/\P[callee]?=some a/\c.I9[f.pc]?=some ((17,(callee:Int)),f.I1.length+a.params)/\Zl c.I9 f.pc/\f.vars.length=c.vars
def zA(P:List Cf):Nat->List Fq->Nat->Prop
 |xN,[],a=>xN=a
 |xN,f::l,a=>f.fn=xN/\ ∃callee,zbw P f callee/\zA P callee l a
theorem zA.jB{P:List Cf}: ∀{l:List Fq}{w w':Nat}{f:Fq},zA P w (l++[f]) w'↔zA P w l f.fn/\zbw P f w'
 |[],w,w',f=>by
  simp only[B4,zA];constructor
  ·rintro⟨a,c,b,rfl⟩;exact⟨a.symm,b⟩
  ·rintro⟨a,b⟩;exact⟨a.symm,_,b,rfl⟩
 |g::l,w,w',f=>by
  simp only[z9,zA];constructor
  ·rintro⟨a,c,b,h⟩;obtain⟨d,e⟩:=zA.jB.1 h;exact⟨⟨a,c,b,d⟩,e⟩
  ·rintro⟨⟨a,c,b,d⟩,e⟩;exact⟨a,c,b,zA.jB.2 ⟨d,e⟩⟩
def zaO(P:List Cf)(main:Nat)(fs:List Fq)(f:Fq):Prop:=zA P main fs f.fn/\qS P f/\fs.length+1<=32
def qp(P:List Cf)(main:Nat)(M:Mc):Prop:=
 (M.mode=0/\ ∃a f,M.O2=a++[f]/\zaO P main a f)\/(M.mode=1/\M.O2=[])\/(M.mode=2/\M.value≠0/\M.O2=[])
structure Z3(P:List Cf)(main:Nat):Prop where
 xQ: ∀c∈P,zhC (P.map (·.params)) c
 main: ∃c,P[main]?=some c/\c.params=0
section
variable {P:List Cf}{main:Nat}
theorem qS.ji{f:Fq}(g:Z3 P main)(h:qS P f): ∃c o,P[f.fn]?=some c/\jP P f=some (o,f.I1.length)/\Xy (P.map (·.params)) c.vars c.I9 f.pc o f.I1.length/\Zl c.I9 f.pc/\f.vars.length=c.vars/\c.I9[f.pc]?=some (o,f.I1.length):=by
 obtain⟨c,o,d,a,i,j⟩:=h;have k:=g.xQ c (B0 d);have e:f.pc<c.I9.length:=by rcases D6 f.pc c.I9.length with h|h;exact h;rw[B9 h]at a;cases a
 obtain⟨p,q,b,l⟩:=k.J7 f.pc (C6 _) e;rw[a]at b;injection b with b
 injection b with m n
 subst m n;exact⟨c,o,d,by unfold jP;rw[d];exact a,l,i,j,a⟩
theorem qS.next{f g:Fq}{c:Cf}{o:Q2}{h:Nat}(b:P[f.fn]?=some c)(d:c.I9[f.pc]?=some (o,h))(e:Zl c.I9 f.pc)(hs:Xy (P.map (·.params)) c.vars c.I9 f.pc o h)(i:g.vars.length=c.vars)(j:g.fn=f.fn)(a:g.pc∈K2 f.pc o)(k:g.I1.length=h-I6 (P.map (·.params)) o+J9 o):qS P g:=by
 obtain⟨l,m⟩:=hs.2.2.2 g.pc a;exact⟨c,l,by rw[j];exact b,by rw[k];exact m,.ji e d a,i⟩
theorem QK(e:Z3 P main){i k h:Nat}{c:Cf}{o:Q2}(f:P[i]?=some c)(b:c.I9[k]?=some (o,h)):Xy (P.map (·.params)) c.vars c.I9 k o h:=by
 have d:k<c.I9.length:=by rcases D6 k c.I9.length with h|h;exact h;rw[B9 h]at b;cases b
 obtain⟨m,n,a,g⟩:=(e.xQ c (B0 f)).J7 k (C6 _) d;rw[b]at a;injection a with a
 injection a with j l
 subst j l;exact g
theorem zaD{i:Nat}{c:Cf}(h:P[i]?=some c):(P.map (·.params)).getD i 0=c.params:=by
 rw[List.getD_eq_getElem?_getD,F6,h];rfl
theorem Qb(A:Z3 P main)(host:T0)(v:Int){fs:List Fq}{f:Fq}(Y:zaO P main fs f):qp P main (Q1 P host v fs f).1:=by
 obtain⟨z,Z,B⟩:=Y;obtain⟨c,⟨d,x⟩,K,h2,L,M,b,N⟩:=Z.ji A
 have go: ∀(g:Fq)(O:Int),g.fn=f.fn->g.vars.length=c.vars->g.pc∈K2 f.pc (d,x)->g.I1.length=f.I1.length-I6 (P.map (·.params)) (d,x)+J9 (d,x)->qp P main ⟨0,O,fs++[g]⟩:=λg O Q e2 e3 e4=>
  .inl ⟨rfl,fs,g,rfl,by rw[Q];exact z,.next K N M L e2 Q e3 e4,B⟩
 obtain⟨⟨C,D,R,-⟩,hp,-,-⟩:=L;have q:I6 (P.map (·.params)) (d,x)<=f.I1.length:=hp;unfold Q1;rw[h2];simp only;have e:zdP P (d,x)=I6 (P.map (·.params)) (d,x):=rfl;rw[e];generalize r:f.I1.take (f.I1.length-I6 (P.map (·.params)) (d,x))=s;generalize o:f.I1.drop (f.I1.length-I6 (P.map (·.params)) (d,x))=args;have a:s.length=f.I1.length-I6 (P.map (·.params)) (d,x):=by rw[<-r,G8];omega
 have E:args.length=I6 (P.map (·.params)) (d,x):=by rw[<-o,G9];omega
 simp only at C D R;unfold M1;simp only
 by_cases S:d=1
 ·subst S;exact go _ _ rfl b (by simp[K2]) (by simp[a,J9])
 rw[z7 S]
 by_cases T:d=2
 ·subst T;exact go _ _ rfl b (by simp[K2]) (by simp[a,J9])
 rw[z7 T]
 by_cases F:d=3
 ·subst F;exact go _ _ rfl (by simp[b]) (by simp[K2]) (by simp[a,J9])
 rw[z7 F]
 by_cases G:d=4
 ·subst G;exact go _ _ rfl b (by simp[K2]) (by simp[a,J9])
 rw[z7 G]
 by_cases U:d=5
 ·subst U;exact go _ _ rfl b (by simp[K2]) (by simp[a,J9])
 rw[z7 U]
 by_cases V:d=6
 ·subst V;exact go _ _ rfl b (by simp[K2]) (by simp[a,J9])
 rw[z7 V]
 by_cases k:d=15
 ·subst k;exact go _ _ rfl b (by simp[K2]) (by simp[a,J9])
 rw[z7 k]
 by_cases m:d=16
 ·subst m;exact go _ _ rfl b (by show(if args.getD 0 0=0 then x.toNat else f.pc+1)∈K2 f.pc (16,x);split<;>simp[K2]) (by simp[a,J9])
 rw[z7 m]
 by_cases t:d=17
 ·subst t
  rw[C5 rfl]
  by_cases h:fs.length+1=32
  ·rw[C5 h];exact .inr (.inr ⟨rfl,by decide,rfl⟩)
  rw[z7 h];obtain⟨a0,a1⟩:=R (by decide);have a2:x.toNat<P.length:=by simp[U6]at a1;omega
  obtain⟨cg,i⟩: ∃cg,P[x.toNat]?=some cg:=⟨_,x8 a2⟩;have j:I6 (P.map (·.params)) (17,x)=cg.params:=by
   have:=zaD i;simpa[I6]using this
  have w:=A.xQ cg (B0 i);obtain⟨o',H⟩:=w.start;have hx:((x.toNat:Nat):Int)=x:=by omega
  refine .inl ⟨rfl,fs++[{f with I1:=s}],_,rfl,⟨zA.jB.2 ⟨z,c,cg,K,i,?_,M,b⟩,⟨cg,o',i,H,.start,?_⟩,by simp;omega⟩⟩
  ·simp only[hx,a,j]
   rw[j]at q;rw[Nat.sub_add_cancel q];exact N
  ·have:=w.vars.1
   simp only[i,Option.map_some,Option.getD_some,y7,List.length_replicate,E,j];omega
 rw[z7 t]
 by_cases n:d=18
 ·subst n
  rw[C5 rfl];cases hg:fs.getLast? with
  |none=>exact .inr (.inl ⟨rfl,rfl⟩)
  |some u=>
   simp only;have I:fs=fs.dropLast++[u]:=by
    obtain⟨l,rfl⟩:=List.getLast?_eq_some_iff.1 hg;simp
   rw[I]at z;obtain⟨l1,cu,cg,W,u2,X,u4,u5⟩:=zA.jB.1 z;have J:=QK A W X;refine .inl ⟨rfl,_,_,rfl,l1,.next W X u4 J u5 rfl (by simp[K2]) ?_,by simp;omega⟩;have j:I6 (P.map (·.params)) (17,(f.fn:Int))=cg.params:=by
    have:=zaD u2;simpa[I6]using this
   rw[j];simp[J9]
 rw[z7 n]
 by_cases p:d=19
 ·subst p;exact go _ _ rfl b (by simp[K2]) (by simp[a,J9])
 rw[z7 p]
 by_cases y:d=20
 ·subst y
  rw[C5 rfl]
  split
  ·exact go _ _ rfl b (by simp[K2]) (by simp[a,J9])
  ·rename_i he;exact .inr (.inr ⟨rfl,he,rfl⟩)
 rw[z7 y]
 split
 ·exact go _ _ rfl b (by simp[K2,k,m,n]) (by simp[a,J9,F,G,k,m,n,p])
 ·exact .inr (.inr ⟨rfl,by decide,rfl⟩)
theorem Jx(b:Z3 P main)(host:T0): ∀(a:Nat)(M:Mc),qp P main M->qp P main (L5 P host a M).1
 |0,M,h=>by
  unfold L5
  split
  ·exact h
  ·exact h
 |a+1,M,h=>by
  unfold L5
  split
  ·exact h
  ·rename_i g
   rcases h with⟨i,fs,f,e,c⟩|⟨d,_⟩|⟨d,_⟩
   ·rw[e]
    simp only[List.getLast?_append,List.getLast?_singleton,Option.some_or,List.dropLast_concat];have:=Qb b host M.value c
    split
    ·exact this
    ·exact Jx b host a _ this
   ·omega
   ·omega
end
end Go.Proofs.YtalgmjmibamdfaaGreatDoor
namespace Go.Proofs.YtalgmjmibamdfaaGreatDoor
open Go.Proofs.Tryz
open Go.RowKit Tw
def yg(w:World)(v:Value)(xm:List (List Int)):Prop:=
 (xm=[]/\ ∃a c,v=.slice a 0 c)\/ ∃g c,v=.slice (some ⟨g,0,none⟩) xm.length c/\g<w.heap.size/\ ∀(i:Nat)(b:List Int),xm[i]?=some b-> ∃u,w.cell? ⟨g,i,none⟩=some u/\qQ w u b
theorem zcv:S1 prog 55 22 1:=⟨underlying55,by kernel_rfl,by decide⟩
theorem X9{L:List Cf}{j:Nat}{c:Cf}(h:L[j]?=some c):(L.map Cf.pf)[j]?=some c.pf:=by rw[F6,h];rfl
theorem qY(L:List Cf):(L.map Cf.pf).map Pf.params=L.map (·.params):=by rw[List.map_map];rfl
theorem yg.jA{w:World}{base c:Nat}{A:Option Addr}{l:List (List Int×Value)}(h:w.ownsRow base 22 1 (.slice A l.length c) l.length (l.map Prod.snd))(a: ∀b∈l,qQ w b.2 b.1):yg w (.slice A l.length c) (l.map Prod.fst):=by
 rcases Nat.eq_zero_or_pos l.length with d|d
 ·have:l=[]:=List.length_eq_zero_iff.1 d
  subst this;exact .inl ⟨rfl,A,c,rfl⟩
 ·obtain⟨g,rfl⟩:=qP h d
  refine .inr ⟨g,c,by rw[C0],(h.lt g rfl).2,λk f i=>?_⟩;rw[F6]at i;obtain⟨b,e,rfl⟩:=Option.map_eq_some_iff.1 i;have j:k<l.length:=(List.getElem?_eq_some_iff.1 e).1;refine⟨b.2,?_,a b (B0 e)⟩;rw[h.cellAt k (by omega),F6,e];rfl
theorem ZY(L:List Cf)(main:Nat)(hP:Z3 L main)(g4:L.length<=16)(h4: ∀c∈L,c.I9.length<=4000)(A:Option Addr)(cp:Nat)(w:World)(hF:L4 w (.slice A L.length cp) (L.map Cf.pf)):
 Calls prog 33 #[.agg #[.slice A L.length cp,.int .i64 main]] w λe w'=>
  Below w.heap.size w w'/\ ∃v xm,e=.returned (.tuple #[v,.int .i64 0])/\yg w' v xm/\xm.length=L.length/\ ∀(i:Nat)(c:Cf),L[i]?=some c-> ∃hs:List Int,xm[i]?=some hs/\xZ c.I9 hs:=by
 have B:=(x7 w.heap.size w).alloc (x6 _) (.cells #[.slice A L.length cp,.int .i64 main] 26);have E:=zh (x9 w (.cells #[.slice A L.length cp,.int .i64 main] 26));have HF:=zh (hF.I5 (.of B));have HB:=zh B;have HP:=zh hP;have H4:=zh h4;clear B hF hP h4
 go_enter func33,ntmps33
 go_upto_region 1 with(fail)
 generalize World.alloc _ _=F at E HF HB|-
 generalize c4:w.heap.size=b1 at E HB|-
 have e5:=zh c4;clear c4;have V:=x5 E.out 0;have t0: ¬((16:Int)<(L.length:Int)):=by omega
 go_wp2_with fail
 clear V
 go_loopw[4,27] (λu i wr=> ∃j:Nat,j<=L.length/\i=.int .i64 j/\u=.bool false/\Hid (Below F.heap.size F wr)) (λ_ i _=>L.length-(intOf i).toNat)
 case atStart=>exact⟨0,C6 _,rfl,by simp,zh (x7 _ _)⟩
 case round=>
  obtain⟨j,hj,rfl,rfl,a⟩:=hrel
  by_cases S:j<L.length
  ·obtain⟨f,I⟩: ∃f,L[j]?=some f:=⟨_,x8 S⟩
   have t:=B0 I;have r:=HP.out.xQ f t;have a2:=H4.out f t;obtain⟨g,c,vo,hv,-,G,H,P,Q,s⟩:=HF.out.at (X9 I);injection hv with q J K
   clear J;subst q K;obtain⟨go,T,rfl,-⟩:=s.at;replace H:=(a.out.cell (p:=⟨g,j*3,none⟩) G).trans H;replace P:=(a.out.cell (p:=⟨g,j*3+1,none⟩) G).trans P;replace Q:=(a.out.cell (p:=⟨g,j*3+2,none⟩) G).trans Q;have k0:(0:Int)<=(j:Int):=by omega
   have k1:(j:Int)<(L.length:Int):=by omega
   have t1: ¬((6:Int)<(f.params:Int)):=by have:=r.params;omega
   have t2: ¬((64:Int)<(f.vars:Int)):=by have:=r.vars.2;omega
   have t3: ¬((4000:Int)<(f.I9.length:Int)):=by omega
   clear I t r a2 s G;simp only[Cf.pf,C0]at H P Q;have R:=(x7 wr.heap.size wr).alloc (x6 _) (.cells #[.int .i64 f.params,.int .i64 f.vars,.slice (some ⟨go,0,none⟩) f.I9.length T] 40);have n:=zh (x9 wr (.cells #[.int .i64 f.params,.int .i64 f.vars,.slice (some ⟨go,0,none⟩) f.I9.length T] 40));have m:=zh (a.out.trans (R.mono a.out.size));clear R
   go_upto_region 5 with(fail)
   clear H P Q;generalize World.alloc _ _=wa at n m|-
   generalize wr.heap.size=bf at n|-
   have q0:=x5 n.out 0;have q1:=x5 n.out 1;have q2:=x5 n.out 2
   go_wp2_with fail
   go_roundw
   case rel=>exact⟨j+1,by omega,by go_num,by simp,m⟩
   case measure=>simp[intOf];omega
  ·obtain rfl:j=L.length:=by omega
   obtain⟨f,I,c5⟩:=HP.out.main;have e6:main<L.length:=(List.getElem?_eq_some_iff.1 I).1;obtain⟨g,c,vo,hv,-,G,H,-⟩:=HF.out.at (X9 I);injection hv with q J K
   clear J;subst q K;have V:=(a.out.cell (p:=⟨b1,0,none⟩) (I0 E.out)).trans (x5 E.out 0);have c1:=(a.out.cell (p:=⟨b1,1,none⟩) (I0 E.out)).trans (x5 E.out 1);have v0:wr.cell? ⟨g,main*3,none⟩=some (.int .i64 0):=by
    have:=(a.out.cell (p:=⟨g,main*3,none⟩) G).trans H;simp only[Cf.pf,c5]at this;exact this
   have k0:(0:Int)<=(main:Int):=by omega
   have k1:(main:Int)<(L.length:Int):=by omega
   have k2: ¬((L.length:Int)<=(main:Int)):=by omega
   clear I c5 G H S hj
   go_upto_region 11 with(fail)
   clear c1 v0 k0 k1 k2 e6
   go_wp2_with fail
   clear V;obtain⟨wx,rfl⟩: ∃wo:World,wo=wr:=⟨_,rfl⟩
   go_loopw[74] (λi wr=> ∃j:Nat,j<=L.length/\i=.int .i64 j/\Hid (Below F.heap.size F wr)) (λi _=>L.length-(intOf i).toNat)
   case atStart=>exact⟨0,C6 _,rfl,a⟩
   case round=>
    clear a;obtain⟨j,hj,rfl,a⟩:=hrel
    by_cases S:j<L.length
    ·obtain⟨f,I⟩: ∃f,L[j]?=some f:=⟨_,x8 S⟩
     have t:=B0 I;have r:=HP.out.xQ f t;obtain⟨g',c,vo,hv,-,G,H,P,Q,s⟩:=HF.out.at (X9 I);injection hv with q J K
     injection q with q;injection q with q
     clear J K;subst q;obtain⟨go,T,rfl,-,a8,c6⟩:=s.at;replace H:=(a.out.cell (p:=⟨g,j*3,none⟩) G).trans H;replace P:=(a.out.cell (p:=⟨g,j*3+1,none⟩) G).trans P;replace Q:=(a.out.cell (p:=⟨g,j*3+2,none⟩) G).trans Q;have k0:(0:Int)<=(j:Int):=by omega
     have k1:(j:Int)<(L.length:Int):=by omega
     have t1: ¬((f.params:Int)<0):=by omega
     have t2: ¬((f.vars:Int)<(f.params:Int)):=by have:=r.vars.1;omega
     have a2:f.I9.length<=4000:=H4.out f t;have a9:=zh r;have e7:Hid (∀(k:Nat)(o:Q2),(f.I9.map Prod.fst)[k]?=some o->F.cell? ⟨go,k*2,none⟩=some (.int .i64 o.1)/\F.cell? ⟨go,k*2+1,none⟩=some (.int .i64 o.2)):=zh c6;simp only[Cf.pf,C0]at H P Q;have R:=(x7 wr.heap.size wr).alloc (x6 _) (.cells #[.int .i64 f.params,.int .i64 f.vars,.slice (some ⟨go,0,none⟩) f.I9.length T] 40);have n:=zh (x9 wr (.cells #[.int .i64 f.params,.int .i64 f.vars,.slice (some ⟨go,0,none⟩) f.I9.length T] 40));have m:=zh (a.out.trans (R.mono a.out.size));clear R I t r s G c6
     go_upto_region 14 with(fail)
     clear H P Q;generalize World.alloc _ _=wa at n m|-
     generalize wr.heap.size=bf at n|-
     have q0:=x5 n.out 0;have q1:=x5 n.out 1;have q2:=x5 n.out 2
     go_wp2_with fail
     clear q0 q1 q2 t1 t2;obtain⟨wy,rfl⟩: ∃wo:World,wo=wr:=⟨_,rfl⟩
     go_loopw[91] (λi wr=> ∃k:Nat,k<=f.I9.length/\i=.int .i64 k/\Hid (Below F.heap.size F wr)/\Hid (wr.heap[bf]?=some (.cells #[.int .i64 f.params,.int .i64 f.vars,.slice (some ⟨go,0,none⟩) f.I9.length T] 40 (0,0)))) (λi _=>f.I9.length-(intOf i).toNat)
     case atStart=>exact⟨0,C6 _,rfl,m,n⟩
     case round=>
      clear a m n;obtain⟨k,hk,rfl,X,c7⟩:=hrel
      by_cases c8:k<f.I9.length
      ·obtain⟨d,x,hh,ho⟩: ∃d x h,f.I9[k]?=some ((d,x),h):=⟨_,_,_,x8 c8⟩
       obtain⟨o',h',Y,e8⟩:=a9.out.J7 k (C6 _) c8;obtain⟨rfl,rfl⟩:(d,x)=o'/\hh=h':=by rw[ho]at Y;injection Y with Y;injection Y with e1 e2;exact⟨e1,e2⟩
       have c9:(f.I9.map Prod.fst)[k]?=some (d,x):=by rw[F6,ho];rfl
       obtain⟨o0,o1⟩:=e7.out k _ c9;replace o0:=(X.out.cell (p:=⟨go,k*2,none⟩) a8).trans o0;replace o1:=(X.out.cell (p:=⟨go,k*2+1,none⟩) a8).trans o1;simp only at o0 o1;obtain⟨d2,-⟩:=e8;obtain⟨e9,f0,U,b0⟩:=d2;have Z:qq (L.map Cf.pf).length f.vars f.I9.length (d,x):=by
        refine⟨e9,f0,?_,b0⟩;have:=U;rw[C0]at this|-
        exact this
       have R:=(x7 wr.heap.size wr).alloc (x6 _) (.cells #[.int .i64 d,.int .i64 x] 74);have M:=zh (x9 wr (.cells #[.int .i64 d,.int .i64 x] 74));have m:=zh (X.out.trans (R.mono X.out.size));have N:=zh ((R.block bf (I0 c7.out)).trans c7.out);have i0:(0:Int)<=(k:Int):=by omega
       have i1:(k:Int)<(f.I9.length:Int):=by omega
       have f1:=zh Z;clear R ho Y c9 Z
       go_upto_region 19 with(fail)
       clear o0 o1;generalize World.alloc _ _=wb at M m N|-
       generalize wr.heap.size=bo at M|-
       have V:=(m.out.cell (p:=⟨b1,0,none⟩) (I0 E.out)).trans (x5 E.out 0);have c1:=(m.out.cell (p:=⟨b1,1,none⟩) (I0 E.out)).trans (x5 E.out 1);have q0:=x5 N.out 0;have q1:=x5 N.out 1;have q2:=x5 N.out 2;have d0:=x5 M.out 0;have d1:=x5 M.out 1;have OC:=zh (zgZ (L.map Cf.pf) (some ⟨g,0,none⟩) cp main f.params f.vars f.I9.length (some ⟨go,0,none⟩) T d x wb f1.out (by rw[C0];exact HF.out.I5 (.of m.out)));rw[C0]at OC
       go_wp2_with fail
       refine OC.out.mono ?_;rintro e w3 ⟨rfl,B⟩;have O:=zh (m.out.trans (B.mono m.out.size));have a7:=zh ((B.block bo (I0 M.out)).trans M.out);have a0:=zh ((B.block bf (I0 N.out)).trans N.out);obtain⟨po,a3⟩: ∃z,I6 ((L.map Cf.pf).map Pf.params) (d,x)=z:=⟨_,rfl⟩;obtain⟨pu,d3⟩: ∃z,J9 (d,x)=z:=⟨_,rfl⟩;have a4:d=20-> ¬((6:Int)<(po:Int)):=λe=>by
        have h6:x%8<=6:=b0 e;simp only[I6,e]at a3;simp at a3;have h0:0<=x:=(U (by show d≠1;rw[e];decide)).1;omega
       have U:d≠1->0<=x/\x<_:=U;rw[C0]at U;obtain⟨li,b2⟩: ∃z,U6 L.length f.vars f.I9.length d=z:=⟨_,rfl⟩;rw[b2]at U;rw[a3,d3,b2];clear B OC V c1 q0 q1 q2 d0 d1 N M m a3 d3 b2 b0;have d0:=x5 a7.out 0;have d1:=x5 a7.out 1
       by_cases a5:d=1
       ·subst a5
        clear U a4
        go_wp2_with fail
        go_roundw
        case rel=>exact⟨k+1,by omega,by go_num,O,a0⟩
        case measure=>simp[intOf];omega
       obtain⟨x0,x1⟩:=U a5;have m1:(d !=1)=true:=by simpa using a5
       have m2: ¬(x<0):=by omega
       have m3: ¬((li:Int)<=x):=by omega
       by_cases a6:d=20
       ·have f2:=a4 a6
        subst a6;clear a4 U
        go_wp2_with fail
        go_roundw
        case rel=>exact⟨k+1,by omega,by go_num,O,a0⟩
        case measure=>simp[intOf];omega
       ·have f2:(d==20)=false:=by simpa using a6
        clear a4 U a6 a5
        go_wp2_with fail
        go_roundw
        case rel=>exact⟨k+1,by omega,by go_num,O,a0⟩
        case measure=>simp[intOf];omega
      ·obtain rfl:k=f.I9.length:=by omega
       go_wp2_with fail
       go_roundw
       case rel=>exact⟨j+1,by omega,by go_num,X⟩
       case measure=>simp[intOf];omega
    ·obtain rfl:j=L.length:=by omega
     have V:=(a.out.cell (p:=⟨b1,0,none⟩) (I0 E.out)).trans (x5 E.out 0)
     go_wp2_with fail
     clear V;obtain⟨wy,rfl⟩: ∃wo:World,wo=wr:=⟨_,rfl⟩
     go_loopw[15,134] (λov i wr=> ∃(j:Nat)(Ah:Option Addr)(ch:Nat)(C:List (List Int×Value)),j<=L.length/\i=.int .i64 j/\ov=.slice Ah C.length ch/\C.length=j/\Hid (Below F.heap.size F wr)/\Hid (wr.ownsRow F.heap.size 22 1 (.slice Ah C.length ch) C.length (C.map Prod.snd))/\Hid (∀b∈C,qQ wr b.2 b.1)/\Hid (∀(i:Nat)(c:Cf),i<j->L[i]?=some c-> ∃b,C[i]?=some b/\xZ c.I9 b.1)) (λ_ i _=>L.length-(intOf i).toNat)
     case atStart=>exact⟨0,none,0,[],C6 _,rfl,rfl,rfl,a,zh ⟨rfl,.inl ⟨rfl,rfl⟩⟩,zh (λ_ h=>by cases h),zh (λi c h=>by omega)⟩
     case round=>
      clear a;obtain⟨j,Ah,ch,C,hj,rfl,rfl,b3,a,b4,b5,d4⟩:=hrel
      by_cases S:j<L.length
      ·obtain⟨f,I⟩: ∃f,L[j]?=some f:=⟨_,x8 S⟩
       have t:=B0 I;have r:=HP.out.xQ f t;obtain⟨g',c,vo,hv,-,G,H,P,Q,s⟩:=HF.out.at (X9 I);injection hv with q J K
       injection q with q;injection q with q
       clear J K;subst q;obtain⟨go,T,rfl,-,a8,-⟩:=s.at;replace H:=(a.out.cell (p:=⟨g,j*3,none⟩) G).trans H;replace P:=(a.out.cell (p:=⟨g,j*3+1,none⟩) G).trans P;replace Q:=(a.out.cell (p:=⟨g,j*3+2,none⟩) G).trans Q;have k0:(0:Int)<=(j:Int):=by omega
       have k1:(j:Int)<(L.length:Int):=by omega
       have a2:f.I9.length<=4000:=H4.out f t;simp only[Cf.pf,C0]at H P Q;have R:=(x7 wr.heap.size wr).alloc (x6 _) (.cells #[.int .i64 f.params,.int .i64 f.vars,.slice (some ⟨go,0,none⟩) f.I9.length T] 40);have n:=zh (x9 wr (.cells #[.int .i64 f.params,.int .i64 f.vars,.slice (some ⟨go,0,none⟩) f.I9.length T] 40));have m:=zh (a.out.trans (R.mono a.out.size));have b6:=zh (K1 b4.out R);have b7:Hid (∀b∈C,qQ (wr.alloc (.cells #[.int .i64 f.params,.int .i64 f.vars,.slice (some ⟨go,0,none⟩) f.I9.length T] 40)) b.2 b.1):=zh (λb B=>(b5.out b B).I5 R);have HC:=zh (λW (hW:Below F.heap.size F W)=>zbb (L.map Cf.pf) (some ⟨g,0,none⟩) cp main f.pf (some ⟨go,0,none⟩) T f.I9 W rfl (by rw[qY];exact r.J7) r.start a2 (by rw[qY];intro x U;obtain⟨y,hy,rfl⟩:=List.mem_map.1 U;exact(HP.out.xQ y hy).params) (by rw[C0];exact HF.out.I5 (.of hW)) (s.I5 (.of hW)));simp only[Cf.pf,C0]at HC;have f3:=zh I;have g3:C.length<=16:=by omega
       have b8:=zh b3;clear R I t r s G b3
       go_upto_region 30 with(fail)
       clear H P Q;generalize World.alloc _ _=wa at n m b6 b7|-
       generalize wr.heap.size=bf at n|-
       have V:=(m.out.cell (p:=⟨b1,0,none⟩) (I0 E.out)).trans (x5 E.out 0);have c1:=(m.out.cell (p:=⟨b1,1,none⟩) (I0 E.out)).trans (x5 E.out 1);have q0:=x5 n.out 0;have q1:=x5 n.out 1;have q2:=x5 n.out 2;have d5:=zh (HC.out wa m.out);clear HC b4 b5
       go_wp2_with fail
       refine d5.out.mono ?_;rintro e w3 ⟨B,v,hs,rfl,r,t⟩;have O:=zh (m.out.trans (B.mono m.out.size));have f4:=zh (K1 b6.out B);have f5:Hid (∀b∈C,qQ w3 b.2 b.1):=zh (λb f6=>(b7.out b f6).I5 B);obtain⟨gv,cv,rfl,d6,d7⟩:=t;have f7:Hid (qQ w3 (.slice (some ⟨gv,0,none⟩) hs.length cv) hs):=zh ⟨gv,cv,rfl,d6,d7⟩;have a9:=zh r;have b9:=(x7 w3.heap.size w3).alloc (x6 _) (.cells #[.slice (some ⟨gv,0,none⟩) hs.length cv] 22);have c2:=zh (K1 f4.out b9);have g5:F.heap.size<=w3.heap.size:=O.out.size;have c3:=zh b9;clear B d6 d7 r V c1 q0 q1 q2 d5 b6 b7 m b9
       go_upto_region 34 with(at_builtin;go_must(refine L6 zcv rfl _ _ rfl F.heap.size (.slice Ah C.length ch) C.length (C.map Prod.snd) rfl c2.out w3.heap.size 1 #[.slice (some ⟨gv,0,none⟩) hs.length cv] rfl (x9 w3 _) rfl (by simp[Value.oneCell']) (by omega) (by simp;omega) ?_);intro g9 d8 w9 a1 D d9 e3)
       have f8:Hid (∀b∈C++[(hs,Value.slice (some ⟨gv,0,none⟩) hs.length cv)],qQ w9 b.2 b.1):=zh (by
        have e4: ∀{u:Value}{l:List Int},qQ w3 u l->qQ w9 u l:=λ{u l} h=>by
         obtain⟨g0,V,e0,h1,h2⟩:=h.I5 c3.out;exact⟨g0,V,e0,h1,(D.block g0 (I0 h2) (λe=>K5 c2.out h2 (by decide) e.symm)).trans h2⟩
        intro b B
        rcases List.mem_append.1 B with B|B
        ·exact e4 (f5.out b B)
        ·obtain rfl:=List.mem_singleton.1 B
         exact e4 f7.out)
       have f9:Hid (Below F.heap.size F w9):=zh (L3 (O.out.trans (c3.out.mono O.out.size)) c2.out (x6 _) (by have:=c3.out.size;omega) D);have g1:Hid (w9.ownsRow F.heap.size 22 1 (.slice (some ⟨g9,0,none⟩) (C++[(hs,Value.slice (some ⟨gv,0,none⟩) hs.length cv)]).length d8) (C++[(hs,Value.slice (some ⟨gv,0,none⟩) hs.length cv)]).length ((C++[(hs,Value.slice (some ⟨gv,0,none⟩) hs.length cv)]).map Prod.snd)):=zh (by
        rw[y7,List.map_append];exact a1)
       have g2:Hid (∀(i:Nat)(c:Cf),i<j+1->L[i]?=some c-> ∃b,(C++[(hs,Value.slice (some ⟨gv,0,none⟩) hs.length cv)])[i]?=some b/\xZ c.I9 b.1):=zh (λi c hi hc=>by
        by_cases e:i<j
        ·obtain⟨b,B,hk⟩:=d4.out i c e hc
         exact⟨b,by have:=b8.out;rw[List.getElem?_append_left (by omega)];exact B,hk⟩
        ·obtain rfl:i=j:=by omega
         rw[f3.out]at hc;injection hc with hc;subst hc
         exact⟨_,by have:=b8.out;rw[List.getElem?_append_right (by omega),this,Nat.sub_self];rfl,a9.out⟩)
       clear a1 D d9 e3
       go_wp2_with fail
       go_roundw
       case rel=>exact⟨j+1,_,_,_,by omega,by go_num,by rw[y7];rfl,by rw[y7,b8.out];rfl,f9,g1,f8,g2⟩
       case measure=>simp[intOf];omega
      ·obtain rfl:j=L.length:=by omega
       go_wp2_with fail
       go_ret2;exact⟨by rw[e5.out];exact HB.out.trans (a.out.mono (G3 (I0 E.out))),_,C.map Prod.fst,rfl,yg.jA b4.out b5.out,by rw[C0];exact b3,λi c hc=>by
        obtain⟨b,B,hk⟩:=d4.out i c (List.getElem?_eq_some_iff.1 hc).1 hc;exact⟨b.1,by rw[F6,B];rfl,hk⟩⟩
end Go.Proofs.YtalgmjmibamdfaaGreatDoor
namespace Go.Proofs.YtalgmjmibamdfaaGreatDoor
open Go.RowKit Tw
def jh(t:Nat):Prop:=t=3\/t=95\/t=98\/t=42\/t=45
structure Vo(B:Nat)(w w':World):Prop where
 N5:Below B w w'
 J7: ∀(k:Nat)(cs:Array Value)(t:Nat)(fr:Nat×Nat),w.heap[k]?=some (.cells cs t fr)-> ¬jh t->w'.heap[k]?=w.heap[k]?
section
variable {B:Nat}{w w' w2:World}
theorem Vo.of(h:Below w.heap.size w w')(a:B<=w.heap.size):Vo B w w':=⟨h.mono a,λ_ _ _ _ b _=>h.block _ (I0 b)⟩
theorem Vo.refl:Vo B w w:=⟨x7 _ _,λ_ _ _ _ _ _=>rfl⟩
theorem Vo.trans(h:Vo B w w')(f:Vo B w' w2):Vo B w w2:=⟨h.N5.trans f.N5,λk a t b d e=>(f.J7 k a t b ((h.J7 k a t b d e).trans d) e).trans (h.J7 k a t b d e)⟩
theorem Vo.grown{b t:Nat}{row:Option Nat}(f:w.grownBy w' row)(m:B<=w.heap.size)(n: ∀g,row=some g->B<=g)(o:jh t)(p:row=none\/ ∃i j,row=some b/\w.heap[b]?=some (.cells i t j)):Vo B w w':=by
 refine⟨(x7 B w).grown f m n,λk i v j a h=>f.block k (I0 a) λe=>?_⟩
 rcases p with d|⟨q,r,d,s⟩
 ·rw[d]at e;cases e
 ·rw[d]at e;injection e with e;subst e;rw[s]at a;injection a with a;injection a with _ u;subst u;exact h o
theorem Vo.set{b t:Nat}{a:Array Value}{d:Nat×Nat}(f:w.heap[b]?=some (.cells a t d))(h:B<=b)(i:jh t)(j:Nat)(u:Value):Vo B w (w.setCell ⟨b,j,none⟩ u):=
 .grown (I7 w b j u) (B5 h (G3 (I0 f))) (λg e=>by injection e with e;subst e;exact h) i (.inr ⟨a,d,rfl,f⟩)
theorem Vo.U7{e size n:Nat}{v:Value}{xs:List Value}(f:w.ownsRow B e size v n xs)(h:jh e)(i:B<=w.heap.size)(j:w.grownBy w' v.ownBlock):Vo B w w':=by
 rcases f.2 with⟨rfl,-⟩|⟨g,m,a,rfl,o,d,-⟩
 ·exact .grown (b:=0) j i (λg e=>by cases e) h (.inl rfl)
 ·exact .grown j i (λk e=>(f.lt k e).1) h (.inr ⟨a,_,rfl,d⟩)
theorem Vo.yq(h:Vo B w w'):X1 w w':=⟨λg a t b d e=>h.J7 g a t b d (by unfold jh;rcases e with rfl|rfl<;>decide)⟩
end
theorem R7{w w':World}{base e size n:Nat}{v:Value}{xs:List Value}(h:w.ownsRow base e size v n xs)(i: ∀(g:Nat)(j:Array Value),v.ownBlock=some g->w.heap[g]?=some (.cells j e (0,0))->w'.heap[g]?=w.heap[g]?):w'.ownsRow base e size v n xs:=by
 refine⟨h.1,?_⟩
 rcases h.2 with h|⟨g,a,b,rfl,d,f,r⟩
 ·exact .inl h
 ·exact .inr ⟨g,a,b,rfl,d,(i g _ rfl f).trans f,r⟩
def iC(l:List Int):List Value:=l.map (Value.int .i64)
abbrev Fm:Type:=Fq×Value×Value
def Fm.cells(x:Fm):List Value:=[.int .i64 x.1.fn,.int .i64 x.1.pc,x.2.1,x.2.2]
structure Rw(w:World)(B:Nat)(lab:Nat->Nat×Bool)(i:Nat)(x:Fm):Prop where
 v:w.ownsRow B 3 1 x.2.1 x.1.vars.length (iC x.1.vars)
 s:w.ownsRow B 3 1 x.2.2 x.1.I1.length (iC x.1.I1)
 lv: ∀g,x.2.1.ownBlock=some g->lab g=(i,false)
 ls: ∀g,x.2.2.ownBlock=some g->lab g=(i,true)
def Rows(w:World)(B:Nat)(l:List Fm):Prop:= ∃lab,∀(i:Nat)(x:Fm),l[i]?=some x->Rw w B lab i x
section
variable {B:Nat}{w w':World}{l:List Fm}{x y:Fm}{lab:Nat->Nat×Bool}
theorem Rows.put(h: ∀(i:Nat)(z:Fm),l[i]?=some z->Rw w B lab i z)(p: ∀(i:Nat)(b:Bool)(g:Nat)(d:Array Value),i<l.length->lab g=(i,b)->w.heap[g]?=some (.cells d 3 (0,0))->w'.heap[g]?=w.heap[g]?)
 (r:w'.ownsRow B 3 1 y.2.1 y.1.vars.length (iC y.1.vars)) (hs:w'.ownsRow B 3 1 y.2.2 y.1.I1.length (iC y.1.I1))
 (t: ∀g,y.2.1.ownBlock=some g->w.heap.size<=g\/ ∃b,lab g=(l.length,b)) (fs: ∀g,y.2.2.ownBlock=some g->w.heap.size<=g\/ ∃b,lab g=(l.length,b)) (u: ∀g,y.2.1.ownBlock=some g->y.2.2.ownBlock≠some g):Rows w' B (l++[y]):=by
 refine⟨λg=>if y.2.1.ownBlock=some g then(l.length,false)else if y.2.2.ownBlock=some g then(l.length,true)else lab g,λi z f=>?_⟩
 rcases D6 i l.length with k|k
 ·rw[List.getElem?_append_left k]at f
  have a:=h i z f
  have j: ∀(g:Nat)(b:Bool),g<w.heap.size->lab g=(i,b)->y.2.1.ownBlock≠some g/\y.2.2.ownBlock≠some g:=λg b m q=>
   ⟨λe=>by rcases t g e with h|⟨C,h⟩;omega;rw[q]at h;injection h with h;omega,λe=>by rcases fs g e with h|⟨C,h⟩;omega;rw[q]at h;injection h with h;omega⟩
  refine⟨R7 a.v λg d e m=>p i _ g d k (a.lv g e) m,R7 a.s λg d e m=>p i _ g d k (a.ls g e) m,λg e=>?_,λg e=>?_⟩
  ·obtain⟨n,o⟩:=j g _ (a.v.lt g e).2 (a.lv g e)
   rw[z7 n,z7 o];exact a.lv g e
  ·obtain⟨n,o⟩:=j g _ (a.s.lt g e).2 (a.ls g e)
   rw[z7 n,z7 o];exact a.ls g e
 ·obtain rfl:i=l.length:=by have:=(List.getElem?_eq_some_iff.1 f).1;simp at this;omega
  rw[List.getElem?_append_right (x6 _),Nat.sub_self]at f;obtain rfl:y=z:=by simpa using f
  exact⟨r,hs,λg e=>C5 e,λg e=>by rw[z7 λD=>u g D e,C5 e]⟩
theorem Rows.zer(h:Rows w B (l++[x])): ∃lab,(∀(i:Nat)(z:Fm),l[i]?=some z->Rw w B lab i z)/\Rw w B lab l.length x:=by
 obtain⟨lab,h⟩:=h;exact⟨lab,λi z a=>h i z (by rw[List.getElem?_append_left (List.getElem?_eq_some_iff.1 a).1];exact a),h _ _ (by simp)⟩
theorem Rows.pop(h:Rows w B (l++[x])):Rows w B l:=by
 obtain⟨lab,h,-⟩:=h.zer;exact⟨lab,h⟩
theorem Rows.zr(h:Rows w B l)(d: ∀(g:Nat)(a:Array Value),w.heap[g]?=some (.cells a 3 (0,0))->w'.heap[g]?=w.heap[g]?):Rows w' B l:=by
 obtain⟨lab,h⟩:=h;exact⟨lab,λi z b=>⟨R7 (h i z b).v λg a _=>d g a,R7 (h i z b).s λg a _=>d g a,(h i z b).lv,(h i z b).ls⟩⟩
theorem Rows.xt(h:Rows w B (l++[x])):w.ownsRow B 3 1 x.2.1 x.1.vars.length (iC x.1.vars)/\w.ownsRow B 3 1 x.2.2 x.1.I1.length (iC x.1.I1)/\ ∀g,x.2.1.ownBlock=some g->x.2.2.ownBlock≠some g:=by
 obtain⟨lab,-,h⟩:=h.zer;exact⟨h.v,h.s,λg e a=>by have:=(h.lv g e).symm.trans (h.ls g a);simp at this⟩
theorem Rows.stk(h:Rows w B (l++[x]))(k:w.grownBy w' x.2.2.ownBlock){f:Fq}(hf:f.vars=x.1.vars){s:Value}(hs:w'.ownsRow B 3 1 s f.I1.length (iC f.I1))(m: ∀g,s.ownBlock=some g->x.2.2.ownBlock=some g\/w.heap.size<=g):Rows w' B (l++[(f,x.2.1,s)]):=by
 obtain⟨n,-,a⟩:=h.xt;obtain⟨lab,h,d⟩:=h.zer;refine .put h (λi b g q r o p=>k.block g (I0 p) λe=>?_) (by
  rw[hf];exact n.kept k (by
   cases e:x.2.1.ownBlock with
   |none=>exact .inl rfl
   |some g=>exact .inr λj=>a g e j.symm)) hs (λg e=>.inr ⟨_,d.lv g e⟩) (λg e=>?_) (λg e j=>?_)
 ·have:=(d.ls g e.symm).symm.trans o
  injection this with this;omega
 ·rcases m g e with h|h
  ·exact .inr ⟨_,d.ls g h⟩
  ·exact .inl h
 ·rcases m g j with h|h
  ·exact a g e h
  ·have:=(n.lt g e).2;omega
theorem Rows.yE(h:Rows w B (l++[x]))(j:w.grownBy w' x.2.1.ownBlock){f:Fq}(hf:f.I1=x.1.I1)(hs:w'.ownsRow B 3 1 x.2.1 f.vars.length (iC f.vars)):Rows w' B (l++[(f,x.2)]):=by
 obtain⟨-,k,a⟩:=h.xt;obtain⟨lab,h,d⟩:=h.zer;refine .put h (λi b g p q m n=>j.block g (I0 n) λe=>?_) hs (by
  rw[hf];exact k.kept j (by
   cases e:x.2.2.ownBlock with
   |none=>exact .inl rfl
   |some g=>exact .inr λo=>a g o.symm e)) (λg e=>.inr ⟨_,d.lv g e⟩) (λg e=>.inr ⟨_,d.ls g e⟩) a
 have:=(d.lv g e.symm).symm.trans m;injection this with this;omega
theorem Rows.zbf(h:Rows w B l)(b: ∀(g:Nat)(a:Array Value),w.heap[g]?=some (.cells a 3 (0,0))->w'.heap[g]?=w.heap[g]?)(d:w'.ownsRow B 3 1 y.2.1 y.1.vars.length (iC y.1.vars))(hs:w'.ownsRow B 3 1 y.2.2 y.1.I1.length (iC y.1.I1))
 (f: ∀g,y.2.1.ownBlock=some g->w.heap.size<=g) (fs: ∀g,y.2.2.ownBlock=some g->w.heap.size<=g) (i: ∀g,y.2.1.ownBlock=some g->y.2.2.ownBlock≠some g):Rows w' B (l++[y]):=by
 obtain⟨lab,h⟩:=h;exact .put h (λ_ _ g a _ _=>b g a) d hs (λg e=>.inl (f g e)) (λg e=>.inl (fs g e)) i
end
structure Q8(w:World)(B tc:Nat)(A:Option Addr)(c:Nat)(l:List Fm):Prop where
 je:w.ownsRow B tc 4 (.slice A l.length c) l.length (l.flatMap Fm.cells)
 T6:Rows w B l
section
variable {B tc c:Nat}{w w':World}{A:Option Addr}{l:List Fm}{x y:Fm}
theorem Q8.zr(h:Q8 w B tc A c l)(d: ∀(g:Nat)(a:Array Value)(t:Nat),w.heap[g]?=some (.cells a t (0,0))->t=3\/t=tc->w'.heap[g]?=w.heap[g]?):Q8 w' B tc A c l:=
 ⟨R7 h.je λg a _ b=>d g a tc b (.inr rfl),h.T6.zr λg a b=>d g a _ b (.inl rfl)⟩
theorem Q8.below(h:Q8 w B tc A c l)(a:Below w.heap.size w w'):Q8 w' B tc A c l:=h.zr λg _ _ b _=>a.block g (I0 b)
theorem Q8.else(h:Q8 w B tc A c l){b t:Nat}{d:Array Value}{f:Nat×Nat}(i:w.heap[b]?=some (.cells d t f))(k:t≠3)(m:t≠tc)(j:Nat)(u:Value):Q8 (w.setCell ⟨b,j,none⟩ u) B tc A c l:=
 h.zr λg n p a o=>(I7 w b j u).block g (I0 a) λe=>by
  injection e with e;subst e;rw[i]at a;injection a with a;injection a with _ e;subst e
  rcases o with h|h
  ·exact k h
  ·exact m h
theorem Q8.at(h:Q8 w B tc A c l){i:Nat}(hi:l[i]?=some x): ∃g k,A=some ⟨g,0,none⟩/\B<=g/\w.heap[g]?=some (.cells k tc (0,0))/\
 (w.cell? ⟨g,i*4,none⟩=some (.int .i64 x.1.fn)/\w.cell? ⟨g,i*4+1,none⟩=some (.int .i64 x.1.pc)/\w.cell? ⟨g,i*4+2,none⟩=some x.2.1/\w.cell? ⟨g,i*4+3,none⟩=some x.2.2)/\ ∀j,w.frozen? ⟨g,j,none⟩=false:=by
 have q:=(List.getElem?_eq_some_iff.1 hi).1;have b:=h.je
 rcases b.2 with⟨-,r⟩|⟨g,m,d,e,n,o,-⟩
 ·omega
 ·injection e with e s p
  subst e p;have a: ∀j u,x.cells[j]?=some u->w.cell? ⟨g,i*4+j,none⟩=some u:=λj u f=>by
   have t:j<4:=(List.getElem?_eq_some_iff.1 f).1;rw[b.cellAt (i*4+j) (by omega)];exact U2 Fm.cells 4 (λ_=>rfl) l i x hi j u f
  exact⟨g,d,rfl,n,o,⟨a 0 _ rfl,a 1 _ rfl,a 2 _ rfl,a 3 _ rfl⟩,b.frozenAt⟩
theorem zaZ(l:List Fm)(x y:Fm)(j:Nat)(u:Value)(f:j<4)(e:x.cells.set j u=y.cells):((l++[x]).flatMap Fm.cells).set (l.length*4+j) u=(l++[y]).flatMap Fm.cells:=by
 have b:(l.flatMap Fm.cells).length=l.length*4:=by
  induction l with
  |nil=>rfl
  |cons a l d=>rw[List.flatMap_cons,y7,d,y6];show 4+_=_;omega
 simp only[List.flatMap_append,List.flatMap_cons,List.flatMap_nil,List.append_nil];rw[<-b,List.set_append_right _ _ (by omega),Nat.add_sub_cancel_left,e]
theorem Q8.set{g j:Nat}(h:w.ownsRow B tc 4 (.slice (some ⟨g,0,none⟩) (l.length+1) c) (l.length+1) ((l++[x]).flatMap Fm.cells))(b:Rows w B (l++[y]))(d:tc≠3)(f:j<4)(u:Value)(e:x.cells.set j u=y.cells):
 Q8 (w.setCell ⟨g,l.length*4+j,none⟩ u) B tc (some ⟨g,0,none⟩) c (l++[y]):=by
 refine⟨?_,b.zr λk i a=>(I7 w g _ u).block k (I0 a) λe=>?_⟩
 ·have:=(h.stored (l.length*4+j) u).1
  rw[zaZ l x y j u f e]at this;rw[y7];exact this
 ·injection e with e;subst e
  exact K5 h a d rfl
theorem Rows.pc(h:Rows w B (l++[x])){f:Fq}(a:f.vars=x.1.vars)(b:f.I1=x.1.I1):Rows w B (l++[(f,x.2)]):=
 h.yE (World.grownBy.refl _ _) b (by rw[a];exact h.xt.1)
theorem Rows.cut(h:Rows w B (l++[x])){f:Fq}(i:f.vars=x.1.vars){k:Nat}{S:Option Addr}{n d:Nat}(hx:x.2.2=.slice S n d)(b:k<=x.1.I1.length)(j:f.I1=x.1.I1.take k):Rows w B (l++[(f,x.2.1,.slice S k d)]):=by
 have a:=h.xt.2.1;have m:n=x.1.I1.length:=by
  rcases a.2 with⟨e,q⟩|⟨g,o,p,e,-⟩
  ·rw[hx]at e;injection e with _ e;omega
  ·rw[hx]at e;injection e with _ e
 subst m;rw[hx]at a;refine h.stk (World.grownBy.refl _ _) i (by
  have:=zG a k b;rw[j,G8,Nat.min_eq_left b];have e:iC (x.1.I1.take k)=(iC x.1.I1).take (k*1):=by unfold iC;rw[List.map_take,Nat.mul_one]
  rw[e];exact this) λg e=>.inl (by rw[hx];cases S<;>exact e)
end
end Go.Proofs.YtalgmjmibamdfaaGreatDoor
namespace Go.Proofs.YtalgmjmibamdfaaGreatDoor
open Go.Proofs.Tryz
open Go.RowKit Tw
theorem zaa{d:Int}(a:1<=d)(b:d<=20):d=1\/d=2\/d=3\/d=4\/d=5\/d=6\/d=7\/d=8\/d=9\/d=10\/d=11\/d=12\/d=13\/d=14\/d=15\/d=16\/d=17\/d=18\/d=19\/d=20:=by omega
theorem Jf(P:List Pf)(l:Option Addr)(m:Nat)(main:Int)(nv no:Nat)(d x:Int)(w:World)(hf:qq P.length nv no (d,x))(t:L4 w (.slice l P.length m) P):
 Calls prog 80 #[.agg #[.slice l P.length m,.int .i64 main],.agg #[.int .i64 d,.int .i64 x]] w λe w'=>e=.returned (.tuple #[.int .i64 (I6 (P.map Pf.params) (d,x)),.int .i64 (J9 (d,x))])/\Below w.heap.size w w':=by
 obtain⟨h,i,o,-⟩:=hf;simp only at h i o;have n:=zh (heap_alloc2_old w (.cells #[.slice l P.length m,.int .i64 main] 26) (.cells #[.int .i64 d,.int .i64 x] 74));have a:=zh (heap_alloc2_new w (.cells #[.slice l P.length m,.int .i64 main] 26) (.cells #[.int .i64 d,.int .i64 x] 74));have q:=zh (((x7 w.heap.size w).alloc (x6 _) (.cells #[.slice l P.length m,.int .i64 main] 26)).alloc (by simp) (.cells #[.int .i64 d,.int .i64 x] 74));have B:=zh t;have u:=zh o;clear t o
 go_enter func80,ntmps80
 go_upto_region 1 with(fail)
 generalize World.alloc _ _=W at n a q|-
 obtain⟨G,k⟩: ∃b,w.heap.size+1=b:=⟨_,rfl⟩;rw[k]at a;simp only[k];clear k;have H:=x5 n.out 0;have I:=x5 a.out 0;have J:=x5 a.out 1;have C:=zaa h i;clear h i
 rcases C with rfl|rfl|rfl|rfl|rfl|rfl|rfl|rfl|rfl|rfl|rfl|rfl|rfl|rfl|rfl|rfl|rfl|rfl|rfl|rfl
 case' inr.inr.inr.inr.inr.inr.inr.inr.inr.inr.inr.inr.inr.inr.inr.inr.inl=>
  obtain⟨r,v⟩:=u.out (by decide);obtain⟨j,rfl⟩: ∃j:Nat,x=j:=⟨x.toNat,by omega⟩;have y:j<P.length:=by simp[U6]at v;omega
  obtain⟨f,hf⟩: ∃f,P[j]?=some f:=⟨_,x8 y⟩;obtain⟨g,c,K,D,-,z,A,-⟩:=B.out.at hf;injection D with E _ F
  subst E F;have L:=(q.out.cell (p:=⟨g,j*3,none⟩) z).trans A;have s:Hid (I6 (P.map Pf.params) (17,(j:Int))=f.params):=zh (by simp[I6,hf]);have M:(0:Int)<=(j:Int):=by omega
  have N:(j:Int)<(P.length:Int):=by omega
  have O: ¬((j:Int)<0):=by omega
  have Q: ¬((P.length:Int)<=(j:Int)):=by omega
  clear hf z A r v y
 all_goals
  go_wp2_with fail
  go_ret2;refine⟨?_,q.out⟩
  first
   |(rw[s.out];simp[J9])
   |(have r:=(u.out (by decide)).1;simp[I6,J9,Int.tmod_eq_emod_of_nonneg r];omega)
   |simp[I6,J9]
theorem zhs(P:List Pf)(j:Option Addr)(k:Nat)(main l:Int)(nv no:Nat)(m:Option Addr)(co:Nat)(d x:Int)(w:World)(hf:qq P.length nv no (d,x)):
 Calls prog 72 #[.agg #[.slice j P.length k,.int .i64 main],.agg #[.int .i64 l,.int .i64 nv,.slice m no co],.agg #[.int .i64 d,.int .i64 x]] w λe w'=>e=.returned (.int .i64 0)/\Below w.heap.size w w':=by
 obtain⟨g,h,o,n⟩:=hf;simp only at g h o n;have b:=zh (heap_alloc2_old w (.cells #[.slice j P.length k,.int .i64 main] 26) (.cells #[.int .i64 l,.int .i64 nv,.slice m no co] 40));have a:=zh (heap_alloc2_new w (.cells #[.slice j P.length k,.int .i64 main] 26) (.cells #[.int .i64 l,.int .i64 nv,.slice m no co] 40));have i:=zh (((x7 w.heap.size w).alloc (x6 _) (.cells #[.slice j P.length k,.int .i64 main] 26)).alloc (by simp) (.cells #[.int .i64 l,.int .i64 nv,.slice m no co] 40));have p:Hid (((w.alloc (.cells #[.slice j P.length k,.int .i64 main] 26)).alloc (.cells #[.int .i64 l,.int .i64 nv,.slice m no co] 40)).heap.size=w.heap.size+2):=zh (by simp);generalize s:(w.alloc (.cells #[.slice j P.length k,.int .i64 main] 26)).alloc (.cells #[.int .i64 l,.int .i64 nv,.slice m no co] 40)=W at b a i p;have c:=zh ((x7 W.heap.size W).alloc (x6 _) (.cells #[.int .i64 d,.int .i64 x] 74));have f:=zh (x9 W (.cells #[.int .i64 d,.int .i64 x] 74));replace b:=zh ((c.out.block _ (I0 b.out)).trans b.out);replace a:=zh ((c.out.block _ (I0 a.out)).trans a.out);replace i:=zh (i.out.trans (c.out.mono i.out.size));rw[p.out]at f;clear c p;subst s;have t:=zh o;clear o
 go_enter func72,ntmps72
 go_upto_region 1 with(fail)
 generalize World.alloc _ _=W at b a f i|-
 have y:=x5 b.out 0;have z:=x5 a.out 1;have A:=x5 a.out 2;have B:=x5 f.out 0;have C:=x5 f.out 1
 by_cases q:d=1
 ·subst q
  go_wp2_with fail
  go_ret;exact⟨rfl,i.out⟩
 obtain⟨u,r⟩:=t.out q;have D: ¬(x<0):=by omega
 have v:=zaa g h;clear g h
 rcases v with rfl|rfl|rfl|rfl|rfl|rfl|rfl|rfl|rfl|rfl|rfl|rfl|rfl|rfl|rfl|rfl|rfl|rfl|rfl|rfl
 ·exact G5 rfl q
 all_goals
  simp only[U6]at r;simp at r;have E:=Int.not_le.2 r
  try(have F: ¬((6:Int)<x.tmod 8):=by have:=n rfl;rw[Int.tmod_eq_emod_of_nonneg u];omega)
  go_wp2_with fail
  go_ret;exact⟨rfl,i.out⟩
theorem R9{w:World}{F:Nat->Prop}{g c:Nat}{l:List Int}(h:w.heap[g]?=some (.cells (S5 l) 3 (0,0)))(a:F g):J8 w F (.slice (some ⟨g,0,none⟩) l.length c) l:=
 .inr ⟨g,0,c,rfl,a,I0 h,λk s b=>by rw[Nat.zero_add];exact qD h b⟩
theorem zf6(k:Nat)(d x:Int)(w:World)(r:k<=4000)(hx:d=15\/d=16->0<=x):
 Calls prog 121 #[.int .i64 k,.agg #[.int .i64 d,.int .i64 x]] w λe w'=>Below w.heap.size w w'/\ ∃A c,e=.returned (.slice A ((K2 k (d,x)).map Int.ofNat).length c)/\J8 w' (λg=>w.heap.size<=g) (.slice A ((K2 k (d,x)).map Int.ofNat).length c) ((K2 k (d,x)).map Int.ofNat):=by
 obtain⟨l,a⟩: ∃l,(K2 k (d,x)).map Int.ofNat=l:=⟨_,rfl⟩;rw[a];have j:=zh (x9 w (.cells #[.int .i64 d,.int .i64 x] 74));have i:=zh ((x7 w.heap.size w).alloc (x6 _) (.cells #[.int .i64 d,.int .i64 x] 74))
 go_enter func121,ntmps121
 go_upto_region 1 with(fail)
 generalize World.alloc _ _=W at j i|-
 have s:=x5 j.out 0;have t:=x5 j.out 1;have m:=λ(l:List Int)=>zh (x9 W (.cells (S5 l) 3));have n:=λ(l:List Int)=>zh (i.out.trans (((x7 W.heap.size W).alloc (x6 _) (.cells (S5 l) 3)).mono i.out.size));have u:IntKind.i64.wrap ((k:Int)+1)=(k:Int)+1:=IntWalk.i64_in _ (by omega)
 by_cases b:d=18
 ·subst b
  obtain rfl:l=[]:=by rw[<-a];simp[K2]
  clear a
  go_wp2_with fail
  go_ret;exact⟨i.out,none,0,rfl,.inl ⟨none,0,rfl,rfl⟩⟩
 by_cases f:d=15
 ·subst f
  obtain rfl:l=[x]:=by rw[<-a];have:=hx (.inl rfl);simp[K2];omega
  clear hx a
  go_wp2_with fail
  go_ret;exact⟨(n [x]).out,_,_,rfl,R9 (m [x]).out i.out.size⟩
 by_cases h:d=16
 ·subst h
  obtain rfl:l=[(k:Int)+1,x]:=by rw[<-a];have:=hx (.inr rfl);simp[K2];omega
  clear hx a
  go_wp2_with fail
  go_ret;exact⟨(n [(k:Int)+1,x]).out,_,_,rfl,R9 (m [(k:Int)+1,x]).out i.out.size⟩
 ·obtain rfl:l=[(k:Int)+1]:=by rw[<-a];simp[K2,f,h,b]
  have o:(d==15)=false:=by simpa using f
  have p:(d==16)=false:=by simpa using h
  have q:(d==18)=false:=by simpa using b
  clear hx a f h b
  go_wp2_with fail
  go_ret;exact⟨(n [(k:Int)+1]).out,_,_,rfl,R9 (m [(k:Int)+1]).out i.out.size⟩
end Go.Proofs.YtalgmjmibamdfaaGreatDoor
