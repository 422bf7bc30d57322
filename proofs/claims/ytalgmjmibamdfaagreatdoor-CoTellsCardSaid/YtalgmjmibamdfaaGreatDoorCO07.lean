/- Merged. -/
import Derived.Test.YtalgmjmibamdfaaGreatDoorCO06
set_option linter.all false
set_option maxHeartbeats 64000000
set_option maxRecDepth 100000
namespace Go.Proofs.YtalgmjmibamdfaaGreatDoor
open Go.RowKit Tw
section
variable {us:List Fn}{ps:List Nat}{nv:Nat}{C:T5}
theorem zhq{k:Nat}{o:S3}(a:C[k]?=some (o,1))(b:Y6 C (k+1) 0)(hf:jb ps.length nv C.length o)(c:J4 ps o=1)(d:L3 o=0)(hs: ∀j∈L5 k o,j=k+1):zn ps nv C k (k+1):=
 .Y0 a ⟨hf,by omega,by omega,λj e=>by rw[hs j e,c,d];exact b⟩
theorem zD.up{a:W9}{vs:O5}{m m':Nat}(h:zD a vs m)(c:m<=m'):zD a vs m':=⟨h.1,λq b=>by have:=h.2 q b;omega⟩
def zfr(us:List Fn)(ps:List Nat)(nv:Nat)(C:T5)(d:Nat)(l:List Sm)(b:W9)(m c:Nat):Prop:= ∀n a,(U3 us n a m l).2=c/\m<=c/\
 (zD b a m->c<=nv->5*d<=256->qP C n (U3 us n a m l).1->Y6 C (n+(U3 us n a m l).1.length) 0->zn ps nv C n (n+(U3 us n a m l).1.length)/\Y6 C n 0)
theorem zcT{B:List Sm->W9->Nat->W9->Nat->Bool->Prop}{d:Nat}(R:ps=us.map (λf=>f.J3.length))(S:(us.map Fn.L6).Nodup)(T: ∀l c m I m1 r,B l c m I m1 r->zfr us ps nv C d l c m m1){s:Sm}{c I:W9}{m m1:Nat}{r:Bool}(h:Sx us B d s c m I m1 r):
 ∀n vs,(S4 us n vs m s).2.2=m1/\m<=m1/\(zD c vs m->zD I (S4 us n vs m s).2.1 m1)/\(∃o l,(S4 us n vs m s).1=(o,0)::l)/\
  (zD c vs m->m1<=nv->5*d<=256->qP C n (S4 us n vs m s).1->Y6 C (n+(S4 us n vs m s).1.length) 0->zn ps nv C n (n+(S4 us n vs m s).1.length)):=by
 intro n vs
 have X: ∀{τ a},Xw us c d τ a->zD c vs m->m<=nv->5*d<=256->qP C n (O3 us vs n 0 a)->Y6 C (n+(O3 us vs n 0 a).length) 1->zn ps nv C n (n+(O3 us vs n 0 a).length):=
  λJ b g e E F=>zhn (λs x=>by have:=b.zjy x;omega) R S J n 0 E F (by omega)
 have i: ∀{τ a}(o:S3),Xw us c d τ a->zD c vs m->m<=nv->5*d<=256->jb ps.length nv C.length o->J4 ps o=1->L3 o=0->(∀k,∀j∈L5 k o,j=k+1)->qP C n (O3 us vs n 0 a++[(o,1)])->Y6 C (n+(O3 us vs n 0 a++[(o,1)]).length) 0->zn ps nv C n (n+(O3 us vs n 0 a++[(o,1)]).length):=by
  intro τ a o J b g e ho hp G U x u;obtain⟨E,F⟩:=x.W8;have z:=F.cons.1;rw[z9,<-Nat.add_assoc]at u|-
  exact(X J b g e E ⟨_,z⟩).jc (zhq z u ho hp G (U _))
 have t: ∀{τ a}{L:T5},Xw us c d τ a-> ∃o l,O3 us vs n 0 a++L=(o,0)::l:=λ{τ a L} J=>by
  obtain⟨o,l,h⟩:=xJ (vs:=vs) J n 0;exact⟨o,_,by rw[h];rfl⟩
 cases h with
 |bind K y h3 v=>
  rw[S4,B5 (by decide),E1 rfl];refine⟨rfl,Nat.le_succ _,λb=>⟨by simp[b.1],λq G=>?_⟩,t v,λb g e=>i _ v b (by omega) e ⟨by simp,by simp,λ_=>⟨by simp,by simp[Y1]<;>omega⟩,by simp⟩ (by simp[J4]) (by simp[L3]) (by simp[L5])⟩
  rcases List.mem_append.1 G with G|G
  ·have:=b.2 q G;omega
  ·obtain rfl:=List.mem_singleton.1 G;simp;omega
 | @set nm a p c m K y v=>
   rw[S4,B5 (by decide),B5 (by decide),E1 rfl];refine⟨rfl,y6 _,λb=>b,t v,λb g e=>?_⟩;have:=b.zjy y;exact i _ v b g e ⟨by simp,by simp,λ_=>⟨this.1,by simp[Y1];omega⟩,by simp⟩ (by simp[J4]) (by simp[L3]) (by simp[L5])
 |Y0 K y v=>
  rcases K with rfl|rfl|rfl
  ·rw[S4,B5 (by decide),B5 (by decide),B5 (by decide),B5 (by decide),E1 rfl]
   exact⟨rfl,y6 _,λb=>b,t v,λb g e=>i _ v b g e ⟨by simp,by simp,λ_=>⟨by simp,by simp[Y1]⟩,by simp⟩ (by simp[J4]) (by simp[L3]) (by simp[L5])⟩
  ·rw[S4,B5 (by decide),B5 (by decide),B5 (by decide),B5 (by decide),B5 (by decide),E1 rfl]
   exact⟨rfl,y6 _,λb=>b,t v,λb g e=>i _ v b g e ⟨by simp,by simp,λ_=>⟨by simp,by simp[Y1]⟩,by simp⟩ (by simp[J4]) (by simp[L3]) (by simp[L5])⟩
  ·rw[S4,B5 (by decide),B5 (by decide),B5 (by decide),B5 (by decide),B5 (by decide),B5 (by decide)]
   exact⟨rfl,y6 _,λb=>b,t v,λb g e=>i _ v b g e ⟨by simp,by simp,λ_=>⟨by simp,by simp[Y1]⟩,by simp⟩ (by simp[J4]) (by simp[L3]) (by simp[L5])⟩
 | @jf nm a J7 p c I m m1 r1 K y h3 v=>
   rw[S4,E1 rfl];obtain⟨V,H,M⟩:=T _ _ _ _ _ _ v (n+(O3 us vs n 0 a).length+1) vs;refine⟨V,H,λb=>b.up H,t y,λb g e x u=>?_⟩;simp only at x u|-
   obtain⟨E,F⟩:=x.W8;obtain⟨z,N⟩:=F.cons;obtain⟨W,Y⟩:=N.W8;have O:=Y.cons.1;rw[show n+(O3 us vs n 0 a++((16,((n+(O3 us vs n 0 a).length+(U3 us (n+(O3 us vs n 0 a).length+1) vs m J7).1.length+2:Nat):Int)),1)::((U3 us (n+(O3 us vs n 0 a).length+1) vs m J7).1++[((15,(n:Int)),0)]):T5).length=n+(O3 us vs n 0 a).length+1+(U3 us (n+(O3 us vs n 0 a).length+1) vs m J7).1.length+1 by simp<;>omega]at u|-
   obtain⟨P,Q⟩:=M b g e W ⟨_,O⟩;have A:=u;rw[show n+(O3 us vs n 0 a).length+1+(U3 us (n+(O3 us vs n 0 a).length+1) vs m J7).1.length+1=n+(O3 us vs n 0 a).length+(U3 us (n+(O3 us vs n 0 a).length+1) vs m J7).1.length+2 by omega]at A;exact(((X y b (by omega) e E ⟨_,z⟩).jc (Xo (ps:=ps) (nv:=nv) z Q A (by omega))).jc P).jc (zaE (ps:=ps) (nv:=nv) (tg:=n) O (Y6.XX E (xJ y n 0)) (by omega))
 | @QZ nm a J7 Q7 p c f1 f2 m m0 m1 r1 r2 K y h3 a0 v h6=>
   rw[S4,B5 (by decide),B5 (by decide),B5 (by decide),E1 rfl];obtain⟨V,H,M⟩:=T _ _ _ _ _ _ v (n+(O3 us vs n 0 a).length+1) vs;generalize a1:(U3 us (n+(O3 us vs n 0 a).length+1) vs m J7).1=w at M|-
   rw[V];have D:=λn=>T _ _ _ _ _ _ h6 n vs
   by_cases Z:Q7.isEmpty=true
   ·rw[E1 Z]
    obtain rfl:Q7=[]:=by simpa using Z
    have e0:m0=m1:=by have:=(D 0).1;rwa [U3]at this
    subst e0;refine⟨rfl,H,λb=>b.up H,t y,λb g e x u=>?_⟩;simp only at x u|-
    obtain⟨E,F⟩:=x.W8;obtain⟨z,N⟩:=F.cons;rw[show n+(O3 us vs n 0 a++((16,((n+(O3 us vs n 0 a).length+w.length+1:Nat):Int)),1)::w:T5).length=n+(O3 us vs n 0 a).length+1+w.length by simp<;>omega]at u|-
    obtain⟨P,Q⟩:=M b g e N u;have A:=u;rw[show n+(O3 us vs n 0 a).length+1+w.length=n+(O3 us vs n 0 a).length+w.length+1 by omega]at A;exact((X y b (by omega) e E ⟨_,z⟩).jc (Xo (ps:=ps) (nv:=nv) z Q A (by omega))).jc P
   ·rw[B5 Z]
    obtain⟨d1,d2,d3⟩:=D (n+(O3 us vs n 0 a).length+w.length+2);generalize a2:(U3 us (n+(O3 us vs n 0 a).length+w.length+2) vs m0 Q7).1=ce at d3|-
    refine⟨d1,by omega,λb=>b.up (by omega),t y,λb g e x u=>?_⟩;simp only at x u|-
    obtain⟨E,F⟩:=x.W8;obtain⟨z,N⟩:=F.cons;obtain⟨W,Y⟩:=N.W8;obtain⟨O,s6⟩:=Y.cons;have en:n+(O3 us vs n 0 a++((16,((n+(O3 us vs n 0 a).length+w.length+2:Nat):Int)),1)::(w++((15,((n+(O3 us vs n 0 a).length+w.length+2+ce.length:Nat):Int)),0)::ce):T5).length=n+(O3 us vs n 0 a).length+w.length+2+ce.length:=by simp<;>omega
    rw[en]at u|-
    have e6:n+(O3 us vs n 0 a).length+1+w.length+1=n+(O3 us vs n 0 a).length+w.length+2:=by omega
    rw[e6]at s6;obtain⟨P,Q⟩:=M b (by omega) e W ⟨_,O⟩;obtain⟨q5,B3⟩:=d3 (b.up H) g e s6 u;have q4:=zaE (ps:=ps) (nv:=nv) O u (by omega);rw[e6]at q4;exact((((X y b (by omega) e E ⟨_,z⟩).jc (Xo (ps:=ps) (nv:=nv) z Q B3 (by omega))).jc P).jc q4).jc q5
theorem Xl(j:ps=us.map (λf=>f.J3.length))(k:(us.map Fn.L6).Nodup): ∀{d:Nat}{l:List Sm}{e:W9}{m:Nat}{g:W9}{m1:Nat}{r:Bool},Bx us d l e m g m1 r->zfr us ps nv C (d-1) l e m m1
 |0,_,_,_,_,_,_,h=>h.elim
 |d+1,l,e,m,g,m1,r,h=>by
  have p:qT (Sx us (Bx us d) d) l e m g m1 r:=h;clear h;show zfr us ps nv C d l e m m1;have z: ∀l e m g m1 r,Bx us d l e m g m1 r->zfr us ps nv C d l e m m1:=λl e m g m1 r h n i=>by
   obtain⟨a,b,c⟩:=Xl j k h n i;exact⟨a,b,λA p O=>c A p (by omega)⟩
  induction p with
  |nil=>exact λn i=>⟨by rw[U3],y6 _,λ_ _ _ _ u=>by rw[U3]at u|-;exact⟨.none,by simpa using u⟩⟩
  | @cons s l e g P m m1 Q R S D _ E=>
    intro n i;obtain⟨F,T,G,⟨o,H,I⟩,J⟩:=zcT j k z D n i;obtain⟨K,U,L⟩:=E (n+(S4 us n i m s).1.length) (S4 us n i m s).2.1;rw[U3,F];refine⟨K,by omega,λv M w x t=>?_⟩;simp only at x t|-
    obtain⟨y,N⟩:=x.W8;rw[z9,<-Nat.add_assoc]at t|-
    obtain⟨q,B⟩:=L (G v) M w N t;exact⟨(J v (by omega) w y B).jc q,Y6.XX y ⟨o,H,I⟩⟩
end
structure zi5(ps:List Nat)(c:Cf):Prop where
 params:c.params<=6
 vars:c.params<=c.vars/\c.vars<=64
 start:Y6 c.J6 0 0
 K3:zn ps c.vars c.J6 0 c.J6.length
theorem zaX: ∀(m:Nat)(l:List ByteArray)(vs:O5),qG m l=vs->vs.map Prod.fst=l/\ ∀q∈vs,(m:Int)<=q.2/\q.2<(m+l.length:Nat):=by
 intro m l
 induction l generalizing m with
 |nil=>intro vs h;subst h;exact⟨rfl,λq a=>by cases a⟩
 |cons n l b=>
  intro vs h;subst h;obtain⟨c,d⟩:=b (m+1) _ rfl;refine⟨by rw[qG,List.map_cons,c],λq a=>?_⟩;rw[qG]at a
  rcases List.mem_cons.1 a with rfl|a
  ·simp
   omega
  ·have:=d q a
   simp at this|-
   omega
theorem zgS{us:List Fn}(g:Uw us){f:Fn}(hf:f∈us):zi5 (us.map (λf=>f.J3.length)) (jM us f):=by
 obtain⟨-,p,m',r⟩:=g.ty f hf;have t:=(g.fw f hf).zcj;obtain⟨u,v⟩:=zaX 0 f.J3 _ rfl;have w:zD f.J3.reverse (qG 0 f.J3) f.J3.length:=⟨by rw[u,List.reverse_reverse],λq y=>by simpa using v q y⟩;have c:m'<=64:=(r.le (by omega) (by simp)).2.1;obtain⟨b,h,k⟩:=Xl (ps:=us.map (λf=>f.J3.length)) (nv:=m') (C:=(jM us f).J6) rfl g.Zd r 0 (qG 0 f.J3);have a:(jM us f).J6=(U3 us 0 (qG 0 f.J3) f.J3.length f.J7).1++[((1,0),0),((18,0),1)]:=rfl;generalize l:(U3 us 0 (qG 0 f.J3) f.J3.length f.J7).1=B at a;have z:qP (jM us f).J6 0 (B++[((1,0),0),((18,0),1)]):=λi x D=>by rw[a,Nat.zero_add];exact D
 obtain⟨E,F⟩:=z.W8;obtain⟨m,G⟩:=F.cons;have n:=G.cons.1;rw[Nat.zero_add]at m n;have H:(jM us f).J6.length=B.length+1+1:=by rw[a];simp
 have o:qP (jM us f).J6 0 (U3 us 0 (qG 0 f.J3) f.J3.length f.J7).1:=by rw[l];exact E
 have A:Y6 (jM us f).J6 (0+(U3 us 0 (qG 0 f.J3) f.J3.length f.J7).1.length) 0:=by rw[l,Nat.zero_add];exact⟨_,m⟩
 obtain⟨s,I⟩:=k w (y6 _) (by omega) o A;rw[l,Nat.zero_add]at s
 have J:zn (us.map (λf=>f.J3.length)) m' (jM us f).J6 B.length (B.length+1):=
  jX m ⟨_,n⟩ ⟨by simp,by simp,λe=>I2 rfl e,by simp⟩ (by simp[J4]) (by simp[J4,L3]) (by omega) (by simp[L5])
 have K:zn (us.map (λf=>f.J3.length)) m' (jM us f).J6 (B.length+1) (B.length+1+1):=
  .Y0 n ⟨⟨by simp,by simp,λ_=>⟨by simp,by simp[Y1]⟩,by simp⟩,by simp[J4],by simp[J4,L3],λj L=>by simp[L5]at L⟩
 have d:(jM us f).vars=m':=b;refine⟨t,by rw[d];exact⟨h,c⟩,I,?_⟩;rw[d,H];exact(s.jc J).jc K
end Go.Proofs.YtalgmjmibamdfaaGreatDoor
namespace Go.Proofs.YtalgmjmibamdfaaGreatDoor
open Go.Proofs.Tryz
open Go.RowKit Tw
theorem zcw(a s:ByteArray):(a.toList==s.toList)=decide (a=s):=by
 rw[E0,E0,F8];simp only[beq_iff_eq,F2];constructor
 ·intro h;exact ByteArray.ext (Array.toList_inj.1 h)
 ·rintro rfl;rfl
def Yw{α:Type}(l:List α)(p:α->Bool)(z:Int):Prop:=(∃(i:Nat)(x:α),z=i/\l[i]?=some x/\p x=true/\ ∀(m:Nat)(y:α),m<i->l[m]?=some y->p y=false)\/(z= -1/\ ∀x∈l,p x=false)
theorem Yw.no{α:Type}{l:List α}{p:α->Bool}{z:Int}(h:Yw l p z)(b: ∀x∈l,p x=false):z= -1:=by
 rcases h with⟨i,x,-,c,a,-⟩|⟨rfl,-⟩
 ·rw[b x (B7 c)]at a;cases a
 ·rfl
theorem Yw.yes{α:Type}{l:List α}{p:α->Bool}{z:Int}(h:Yw l p z){y:α}(b:y∈l)(a:p y=true): ∃(i:Nat)(x:α),z=i/\l[i]?=some x/\p x=true/\ ∀(m:Nat)(y:α),m<i->l[m]?=some y->p y=false:=by
 rcases h with h|⟨-,h⟩
 ·exact h
 ·rw[h y b]at a;cases a
def ziO(N:Nat):Prop:= ∀args w,(callFunc N args).run prog w=.ok (.enter N args) w
abbrev Fn.cs(f:Fn)(An At Ab:Option Addr)(cn ct cb:Nat):Array Value:= #[.string f.L6,.slice An f.J3.length cn,.slice At f.O6.length ct,.int .i64 f.out,.slice Ab f.J7.length cb,.int .i64 f.pos]
def zhL(N:Nat)(p:Addr)(s:ByteArray)(w:World):Prop:=
 ziO N/\ ∀(q:ByteArray)(W:World),Below w.heap.size w W->Calls prog N #[.agg #[.string q,.int .i64 1],.pointer (some p)] W λe a=>e=.returned (.bool (decide (q=s)))/\Below W.heap.size W a
def zfo(N:Nat)(a:Array Value)(s:ByteArray)(w:World):Prop:=
 ziO N/\ ∀(f:Fn)(b c d:Option Addr)(g h i:Nat)(W:World),Below w.heap.size w W->Calls prog N (#[.agg (f.cs b c d g h i)]++a) W λe j=>e=.returned (.bool (decide (f.L6=s)))/\Below W.heap.size W j
theorem zdm{N o p:Nat}{s:ByteArray}{w:World}(i:(N,o)∈[(191,2),(159,1),(128,0)])(d:p<w.heap.size)(h:w.cell? ⟨p,o,none⟩=some (.string s)):zhL N ⟨p,0,none⟩ s w:=by
 have b: ∀(q:ByteArray)(W:World),Below w.heap.size w W->W.cell? ⟨p,o,none⟩=some (.string s)/\(W.alloc (.cells #[.string q,.int .i64 1] 202)).cell? ⟨p,o,none⟩=some (.string s):=λq W a=>
  ⟨(a.cell (p:=⟨p,o,none⟩) d).trans h,(((a.alloc a.size (.cells #[.string q,.int .i64 1] 202))).cell (p:=⟨p,o,none⟩) d).trans h⟩
 simp only[E7,Prod.mk.injEq,List.not_mem_nil,or_false]at i
 rcases i with⟨rfl,rfl⟩|⟨rfl,rfl⟩|⟨rfl,rfl⟩
 all_goals
  refine⟨λargs w=>?_,λq W a=>?_⟩
  ·have e:=func191
   have f:=func159;have g:=func128;unfold callFunc;simp[e,f,g];rfl
  ·obtain⟨-,j⟩:=b q W a
   have k:=zh (y9 W (.cells #[.string q,.int .i64 1] 202));have c:=zh ((y7 W.heap.size W).alloc (y6 _) (.cells #[.string q,.int .i64 1] 202));have D:=N6 k.out;have l:=zh (zcw q s);clear a h d b
   go_in
   go_upto_region 1 with(fail)
   generalize W.alloc _=m at c D j|-
   go_wp2_with fail
   go_ret;rw[<-l.out];exact⟨rfl,c.out⟩
theorem zd6{N o p:Nat}{s:ByteArray}{w:World}(q:(N,o)∈[(193,2),(99,0),(161,2)])(r:p<w.heap.size)(h:w.cell? ⟨p,o,none⟩=some (.string s)):zfo N #[.pointer (some ⟨p,0,none⟩)] s w:=by
 have i: ∀(f:Fn)(a b c:Option Addr)(d e g:Nat)(W:World),Below w.heap.size w W->(W.alloc (.cells (f.cs a b c d e g) 91)).cell? ⟨p,o,none⟩=some (.string s):=λf a b c d e g W j=>
  (((j.alloc j.size (.cells (f.cs a b c d e g) 91))).cell (p:=⟨p,o,none⟩) r).trans h
 simp only[E7,Prod.mk.injEq,List.not_mem_nil,or_false]at q
 rcases q with⟨rfl,rfl⟩|⟨rfl,rfl⟩|⟨rfl,rfl⟩
 all_goals
  refine⟨λargs w=>?_,λf a b c d e g W j=>?_⟩
  ·have l:=func193
   have m:=func99;have n:=func161;unfold callFunc;simp[l,m,n];rfl
  ·have t:=i f a b c d e g W j
   have u:=zh (y9 W (.cells (f.cs a b c d e g) 91));have k:=zh ((y7 W.heap.size W).alloc (y6 _) (.cells (f.cs a b c d e g) 91));have D:=N6 u.out;have v:=zh (zcw f.L6 s);clear j h r i
   go_in
   go_upto_region 1 with(fail)
   generalize W.alloc _=x at k D t|-
   go_wp2_with fail
   go_ret;rw[<-v.out];exact⟨rfl,k.out⟩
def Zl(w:World)(A:Option Addr)(a:W9):Prop:= ∀(i:Nat)(q:ByteArray),a.reverse[i]?=some q-> ∃g,A=some ⟨g,0,none⟩/\g<w.heap.size/\w.cell? ⟨g,i*2,none⟩=some (.string q)/\w.cell? ⟨g,i*2+1,none⟩=some (.int .i64 1)
theorem Zl.J0{w w':World}{A:Option Addr}{env:W9}(h:Zl w A env)(a:Below w.heap.size w w'):Zl w' A env:=λi q c=>by
 obtain⟨g,d,b,e,f⟩:=h i q c;exact⟨g,d,z6 b a.size,(a.cell (p:=⟨g,i*2,none⟩) b).trans e,(a.cell (p:=⟨g,i*2+1,none⟩) b).trans f⟩
theorem YV{α:Type}{l:List α}{p:α->Bool}{j:Nat}{x:α}(b:l[j]?=some x)(c:p x=false)(d: ∀(m:Nat)(y:α),m<j->l[m]?=some y->p y=false): ∀(m:Nat)(y:α),m<j+1->l[m]?=some y->p y=false:=λm y e a=>by
 rcases E5 m j with h|h
 ·exact d m y h a
 ·obtain rfl:m=j:=by omega
  rw[b]at a;rw[<-F7 a];exact c
theorem zdB{N:Nat}{p:Addr}{s:ByteArray}{A:Option Addr}{c:Nat}{a:W9}{w:World}(t:Zl w A a)(n:zhL N p s w)(E:a.length<=1000):
 Calls prog 157 #[.slice A a.length c,.func (.func N) #[] #[.pointer (some p)]] w λe w'=> ∃z:Int,e=.returned (.int .i64 z)/\Yw a.reverse (λq=>decide (q=s)) z/\Below w.heap.size w w':=by
 have y:=zh t;have B:=zh n.2;have F: ∀args w,(callFunc N args).run prog w=.ok (.enter N args) w:=n.1;clear t n
 go_in
 go_wp2_with fail
 go_loopw[8] (λi wr=> ∃j:Nat,j<=a.length/\i=.int .i64 j/\Hid (∀(m:Nat)(q:ByteArray),m<j->a.reverse[m]?=some q->decide (q=s)=false)/\Hid (Below w.heap.size w wr)) (λi _=>a.length-(intOf i).toNat)
 case atStart=>exact⟨0,E2 _,rfl,zh (λm q h=>I2 h (Nat.not_lt_zero m)),zh (y7 _ _)⟩
 case round=>
  obtain⟨j,G,rfl,o,b⟩:=hrel
  by_cases r:j<a.length
  ·obtain⟨q,d⟩: ∃q,a.reverse[j]?=some q:=⟨_,y8 (by simpa using r)⟩
   obtain⟨g,rfl,C,H,I⟩:=(y.out.J0 b.out) j q d;have u:=zh d;clear d C;have J:(0:Int)<=(j:Int):=by omega
   have D:(j:Int)<(a.length:Int):=by omega
   go_wp2_with fail
   refine(B.out q wr b.out).mono ?_;rintro e K ⟨rfl,f⟩;have k:=zh (b.out.trans (f.mono b.out.size));clear f
   rcases Bool.eq_false_or_eq_true (decide (q=s))with l|l
   all_goals have v:=zh l;rw[l];clear l
   ·go_wp2_with fail
    go_ret;exact⟨j,rfl,.inl ⟨j,q,rfl,u.out,v.out,o.out⟩,k.out⟩
   ·go_wp2_with fail
    exact⟨⟨j+1,by omega,by go_num,zh (YV u.out v.out o.out),k⟩,by simp[intOf];omega⟩
  ·have D:(a.length:Int)<=(j:Int):=by omega
   go_wp2_with fail
   go_ret;exact⟨-1,rfl,.inr ⟨rfl,λq d=>by
    obtain⟨m,x⟩:=List.mem_iff_getElem?.1 d;exact o.out m q (by have:=(List.getElem?_eq_some_iff.1 x).1;simp at this;omega) x⟩,b.out⟩
theorem za9{N:Nat}{u:Array Value}{s:ByteArray}{A:Option Addr}{c:Nat}{F:Nat->Prop}{us:List Fn}{w:World}(v:R0 w F (.slice A us.length c) us)(n:zfo N u s w)(V:us.length<=16):
 Calls prog 55 #[.slice A us.length c,.func (.func N) #[] u] w λe w'=> ∃z:Int,e=.returned (.int .i64 z)/\Yw us (λf=>decide (f.L6=s)) z/\Below w.heap.size w w':=by
 have C:=zh v;have D:=zh n.2;have W: ∀args w,(callFunc N args).run prog w=.ok (.enter N args) w:=n.1;clear v n
 go_in
 go_wp2_with fail
 go_loopw[8] (λi wr=> ∃j:Nat,j<=us.length/\i=.int .i64 j/\Hid (∀(m:Nat)(f:Fn),m<j->us[m]?=some f->decide (f.L6=s)=false)/\Hid (Below w.heap.size w wr)) (λi _=>us.length-(intOf i).toNat)
 case atStart=>exact⟨0,E2 _,rfl,zh (λm q h=>I2 h (Nat.not_lt_zero m)),zh (y7 _ _)⟩
 case round=>
  obtain⟨j,X,rfl,o,b⟩:=hrel
  by_cases p:j<us.length
  ·obtain⟨f,r⟩: ∃f,us[j]?=some f:=⟨_,y8 p⟩
   obtain⟨g,t,E,G,H,I,J,K,rfl,L,-,-,-,a⟩:=(C.out.J0 (F':=F) (J1 b.out)).at j f r;have M:wr.cell? ⟨g,t+j*6,none⟩=_:=a 0 _ rfl;have O:=a 1 _ rfl;have P:=a 2 _ rfl;have Q:=a 3 _ rfl;have R:=a 4 _ rfl;have S:=a 5 _ rfl;have x:=zh r;clear r L a;have Z:(0:Int)<=(j:Int):=by omega
   have T:(j:Int)<(us.length:Int):=by omega
   go_wp2_with fail
   refine(D.out f E H J G I K wr b.out).mono ?_;rintro e w8 ⟨rfl,d⟩;have k:=zh (b.out.trans (d.mono b.out.size));clear d M O P Q R S
   rcases Bool.eq_false_or_eq_true (decide (f.L6=s))with l|l
   all_goals have y:=zh l;rw[l];clear l
   ·go_wp2_with fail
    go_ret;exact⟨j,rfl,.inl ⟨j,f,rfl,x.out,y.out,o.out⟩,k.out⟩
   ·go_wp2_with fail
    exact⟨⟨j+1,by omega,by go_num,zh (YV x.out y.out o.out),k⟩,by simp[intOf];omega⟩
  ·have T:(us.length:Int)<=(j:Int):=by omega
   go_wp2_with fail
   go_ret;exact⟨-1,rfl,.inr ⟨rfl,λq U=>by
    obtain⟨m,B⟩:=List.mem_iff_getElem?.1 U;exact o.out m q (by have:=(List.getElem?_eq_some_iff.1 B).1;omega) B⟩,b.out⟩
theorem ziG{N:Nat}{p:Addr}{s:ByteArray}{A:Option Addr}{c:Nat}{a:W9}{w:World}(f:Zl w A a)(g:zhL N p s w)(i:a.length<=1000)(hs:s∉a):
 Calls prog 127 #[.slice A a.length c,.func (.func N) #[] #[.pointer (some p)]] w λe w'=>e=.returned (.bool false)/\Below w.heap.size w w':=by
 have j:=zh (zdB (c:=c) f g i);clear f g
 go_in
 go_wp2_with fail
 refine j.out.mono ?_;rintro e l ⟨z,rfl,h,b⟩;obtain rfl:=h.no λx k=>G2 λe=>hs (e▸List.mem_reverse.1 k);have d:=zh b;clear b h
 go_wp2_with fail
 go_ret;exact⟨rfl,d.out⟩
theorem ziY{N:Nat}{d:Array Value}{s:ByteArray}{A:Option Addr}{c:Nat}{F:Nat->Prop}{us:List Fn}{w:World}(g:R0 w F (.slice A us.length c) us)(h:zfo N d s w)(j:us.length<=16)(hs: ∀f∈us,f.L6≠s):
 Calls prog 98 #[.slice A us.length c,.func (.func N) #[] d] w λe w'=>e=.returned (.bool false)/\Below w.heap.size w w':=by
 have k:=zh (za9 (c:=c) g h j);clear g h
 go_in
 go_wp2_with fail
 refine k.out.mono ?_;rintro e m ⟨z,rfl,i,a⟩;obtain rfl:=i.no λx l=>G2 (hs x l);have b:=zh a;clear a i
 go_wp2_with fail
 go_ret;exact⟨rfl,b.out⟩
structure ChR(w:World)(cb:Nat)(us:List Fn)(F:Nat->Prop)(A:Option Addr)(c:Nat)(env:W9):Prop where
 K3: ∃Au cu nm vn vt vb ps m,w.heap[cb]?=some (.cells #[.slice Au us.length cu,nm,vn,vt,.int .i64 1,vb,ps,.slice A env.length c,m] 167 (0,0))/\R0 w F (.slice Au us.length cu) us
 vars:Zl w A env
abbrev Ex.cs(x:Ex)(B:Option Addr)(d:Nat):Array Value:= #[.int .i64 x.N4,.int .i64 x.n,.string x.O9,.slice B x.args.length d,.int .i64 x.pos]
section
variable {w w':World}{cb:Nat}{us:List Fn}{F:Nat->Prop}{A:Option Addr}{c:Nat}{env:W9}
theorem ChR.below(h:ChR w cb us F A c env)(a:Below w.heap.size w w'):ChR w' cb us F A c env:=by
 obtain⟨d,e,f,g,i,j,k,m,b,l⟩:=h.K3;exact⟨⟨d,e,f,g,i,j,k,m,(a.block cb (I7 b)).trans b,l.J0 (J1 a)⟩,h.vars.J0 a⟩
end
def ExT(us:List Fn)(env:W9)(τ:Int)(x:Ex):Prop:=
 ∀(B:Option Addr)(d:Nat)(F:Nat->Prop)(w:World)(cb:Nat)(A:Option Addr)(c:Nat),ChR w cb us F A c env->O2 w F (.slice B x.args.length d) x.args->
  Calls prog 158 #[.pointer (some ⟨cb,0,none⟩),.agg (x.cs B d)] w λe w'=>e=.returned (.int .i64 τ)/\Below w.heap.size w w'
def WnT(us:List Fn)(env:W9)(τ:Int)(x:Ex):Prop:=
 ∀(B:Option Addr)(d:Nat)(F:Nat->Prop)(w:World)(cb:Nat)(A:Option Addr)(c:Nat),ChR w cb us F A c env->O2 w F (.slice B x.args.length d) x.args->
  Calls prog 160 #[.pointer (some ⟨cb,0,none⟩),.agg (x.cs B d),.int .i64 τ] w λe w'=>e=.returned (.tuple #[])/\Below w.heap.size w w'
theorem ExT.yA{us:List Fn}{env:W9}{τ:Int}{x:Ex}(h:ExT us env τ x):WnT us env τ x:=by
 intro B d F w cb A c i j;have b:=(y7 w.heap.size w).alloc (y6 _) (.cells (x.cs B d) 172);have k:=zh (h B d F _ cb A c (i.below b) (j.J0 (J1 b)));have l:=zh (y9 w (.cells (x.cs B d) 172));have f:=zh b;have D:=N6 l.out;have m:(τ !=τ)=false:=by simp
 clear b i j h
 go_in
 go_upto_region 1 with(fail)
 generalize w.alloc _=n at k f D|-
 go_wp2_with fail
 refine k.out.mono ?_;rintro e o ⟨rfl,a⟩;have g:=zh (f.out.trans (a.mono f.out.size));clear D a
 go_wp2_with fail
 go_end0;exact⟨rfl,g.out⟩
theorem Yu(w:World)(o p:Obj):((w.alloc o).alloc p).drew.heap[w.heap.size]?=some o:=(D4 _ _ (by simp)).trans (y9 w o)
theorem YP(w:World)(o p:Obj):((w.alloc o).alloc p).drew.heap[w.heap.size+1]?=some p:=by
 have h:(w.alloc o).heap.size=w.heap.size+1:=by simp
 rw[<-h];exact y9 (w.alloc o) p
theorem za3(t:ByteArray)(l:List UInt8):(t.toList==l)=decide (t.data.toList=l):=by
 rw[E0,F8];simp
def zgL(t:ByteArray)(σ τ:Int):Prop:=
 (σ=2/\τ=2/\((t.toList==[38,38])=true\/((t.toList==[38,38])=false/\(t.toList==[124,124])=true)))\/
 (σ=1/\τ=2/\(t.toList==[38,38])=false/\(t.toList==[124,124])=false/\((t.toList==[61,61])=true\/((t.toList==[61,61])=false/\(t.toList==[33,61])=true)))\/
 (σ=1/\(t.toList==[38,38])=false/\(t.toList==[124,124])=false/\(t.toList==[61,61])=false/\(t.toList==[33,61])=false/\(0:Int)<(t.size:Int)/\ ∃a:Int,(∀h:0<t.size,(((t[0]'h).toNat:Nat):Int)=a)/\
  ((τ=2/\((a==60)=true\/((a==60)=false/\(a==62)=true)))\/(τ=1/\(a==60)=false/\(a==62)=false)))
theorem Sg.two{us:List Fn}{env:W9}{n:Int}{t:ByteArray}{σ τ:Int}(h:Sg us env 6 n t 2 σ τ):zgL t σ τ:=by
 unfold zgL;rw[za3,za3,za3,za3];have b: ∀{c:UInt8}{r:List UInt8},t.data.toList=c::r->(0:Int)<(t.size:Int)/\ ∀h:0<t.size,(((t[0]'h).toNat:Nat):Int)=(c.toNat:Int):=λ{c r} h=>by
  obtain rfl:t=⟨(c::r).toArray⟩:=by cases t;simp at h;simp[<-h]
  exact⟨by show(0:Int)<(((c::r).toArray.size:Nat):Int);simp,λh=>rfl⟩
 cases h with
 |log h=>exact .inl ⟨rfl,rfl,by rcases h with rfl|rfl<;>decide⟩
 |cmp h=>
  unfold lv at h
  repeat' (first|split at h)
  all_goals first|omega|skip
  rename_i a
  rcases a with a|a|a|a|a|a
  all_goals first
   |exact .inr (.inr ⟨rfl,by rw[a];decide,by rw[a];decide,by rw[a];decide,by rw[a];decide,(b a).1,_,(b a).2,.inl ⟨rfl,by decide⟩⟩)
   |exact .inr (.inl ⟨rfl,rfl,by rw[a];decide⟩)
 |Je h=>
  unfold lv at h
  repeat' (first|split at h)
  all_goals first|omega|skip
  ·rename_i a
   rcases a with a|a<;>exact .inr (.inr ⟨rfl,by rw[a];decide,by rw[a];decide,by rw[a];decide,by rw[a];decide,(b a).1,_,(b a).2,.inr ⟨rfl,by decide⟩⟩)
  ·rename_i a
   rcases a with a|a|a<;>exact .inr (.inr ⟨rfl,by rw[a];decide,by rw[a];decide,by rw[a];decide,by rw[a];decide,(b a).1,_,(b a).2,.inr ⟨rfl,by decide⟩⟩)
theorem zdt{us:List Fn}{env:W9}{σ τ:Int}{n:Int}{t:ByteArray}{a b:Ex}{p:Int}(h:Sg us env 6 n t 2 σ τ)(ha:ExT us env σ a)(H:ExT us env σ b):
 ∀(B:Option Addr)(d:Nat)(F:Nat->Prop)(w:World)(cb:Nat)(A:Option Addr)(c:Nat),ChR w cb us F A c env->O2 w F (.slice B 2 d) [a,b]->
 Calls prog 192 #[.pointer (some ⟨cb,0,none⟩),.agg #[.int .i64 6,.int .i64 n,.string t,.slice B 2 d,.int .i64 p]] w λe w'=>e=.returned (.int .i64 τ)/\Below w.heap.size w w':=by
 intro B d F w cb A c hC hA;have x:=(y7 w.heap.size w).alloc (y6 _) (.cells #[.int .i64 6,.int .i64 n,.string t,.slice B 2 d,.int .i64 p] 172);have v:=zh (y9 w (.cells #[.int .i64 6,.int .i64 n,.string t,.slice B 2 d,.int .i64 p] 172));have Z:=zh x;have I:O2 (w.alloc (.cells #[.int .i64 6,.int .i64 n,.string t,.slice B 2 d,.int .i64 p] 172)) F (.slice B 2 d) [a,b]:=hA.J0 (J1 x);obtain⟨g,J,Ba,da,e0,-,hg,P,a0,a1,a2,a3,a4⟩:=O2.at (l:=[a,b]) I 0 a rfl;obtain⟨g',off',z,C,K,-,a5,Q,b0,b1,b2,b3,b4⟩:=O2.at (l:=[a,b]) I 1 b rfl;subst e0;obtain⟨rfl,rfl⟩:g=g'/\J=off':=by injection K with K;injection K with K e2;exact⟨K,e2⟩
 simp only[Nat.zero_mul,Nat.one_mul,Nat.add_zero]at a0 a1 a2 a3 a4 b0 b1 b2 b3 b4;have L:=zh (hC.below x);have k:=zh P;have r:=zh Q;have IA:=zh ha;have IB:=zh H;have E:=h.two;have D:=N6 v.out;have y:=I7 v.out;clear hC hA I P Q ha H h x a5 K
 go_in
 go_upto_region 1 with(fail)
 generalize w.heap.size=n1 at v D y|-
 generalize w.alloc _=j at v Z L k r D y a0 a1 a2 a3 a4 b0 b1 b2 b3 b4 hg|-
 go_cut[5,6] (λu5 u6 W=> ∃q5 R:Nat,u5=.pointer (some ⟨q5,0,none⟩)/\u6=.pointer (some ⟨R,0,none⟩)/\Hid (Below j.heap.size j W)/\Hid (W.heap[q5]?=some (.cells (a.cs Ba da) 172 (0,0)))/\Hid (W.heap[R]?=some (.cells (b.cs z C) 172 (0,0))))
 case first=>
  go_region
  all_goals
   go_wp2_with fail
   go_meet
   case rel=>
    first
     |exact⟨j.heap.size,j.heap.size+1,rfl,rfl,zh ((((y7 j.heap.size j).alloc (y6 _) _).alloc (by simp) _).trans ((J5 _).mono (by simp;omega))),zh (Yu j _ _),zh (YP j _ _)⟩
     |exact⟨j.heap.size+1,j.heap.size,rfl,rfl,zh ((((y7 j.heap.size j).alloc (y6 _) _).alloc (by simp) _).trans ((J5 _).mono (by simp;omega))),zh (YP j _ _),zh (Yu j _ _)⟩
 case rest=>
  obtain⟨q5,R,rfl,rfl,m,H5,H6⟩:=hcut;obtain⟨M,rfl⟩: ∃wo:World,wo=wc:=⟨_,rfl⟩;clear D a0 a1 a2 a3 a4 b0 b1 b2 b3 b4 hg;have o:=zh (Z.out.trans (m.out.mono Z.out.size));replace v:=zh ((m.out.block _ y).trans v.out);replace L:=zh (L.out.below m.out);replace k:=zh (k.out.J0 (F':=F) (J1 m.out));replace r:=zh (r.out.J0 (F':=F) (J1 m.out));clear m y Z;have D:=N6 v.out;have D5:=N6 H5.out;have N:=N6 H6.out;have l6:=I7 H6.out;have lx:=I7 v.out
  have G: ∀(W O:World),Below W.heap.size W O->Hid (ChR W cb us F A c env/\O2 W F (.slice z b.args.length C) b.args/\W.heap[R]?=some (.cells (b.cs z C) 172 (0,0))/\W.heap[n1]?=some (.cells #[.int .i64 6,.int .i64 n,.string t,.slice (some ⟨g,J,none⟩) 2 d,.int .i64 p] 172 (0,0)))->Hid (ChR O cb us F A c env/\O2 O F (.slice z b.args.length C) b.args/\O.heap[R]?=some (.cells (b.cs z C) 172 (0,0))/\O.heap[n1]?=some (.cells #[.int .i64 6,.int .i64 n,.string t,.slice (some ⟨g,J,none⟩) 2 d,.int .i64 p] 172 (0,0))):=
   λW O H h=>zh ⟨h.out.1.below H,h.out.2.1.J0 (J1 H),(H.block _ (I7 h.out.2.2.1)).trans h.out.2.2.1,(H.block _ (I7 h.out.2.2.2)).trans h.out.2.2.2⟩
  have S:=zh G;have S0:=zh (And.intro L.out (And.intro r.out (And.intro H6.out v.out)));clear G v H5 H6 r;unfold zgL at E
  rcases E with⟨rfl,rfl,E⟩|⟨rfl,rfl,f1,f2,E⟩|⟨rfl,f1,f2,f3,f4,a6,c0,a7,E⟩
  ·rcases E with f1|⟨f1,f2⟩
   all_goals
    go_wp2_with fail
    refine(IA.out.yA Ba da F M cb A c L.out k.out).mono ?_;rintro e T ⟨rfl,i⟩;have s:=S.out _ _ i S0;have f:=zh (o.out.trans (i.mono o.out.size));clear D D5 N i;have N:=N6 s.out.2.2.1
    go_wp2_with fail
    refine(IB.out.yA z C F T cb A c s.out.1 s.out.2.1).mono ?_;rintro e w4 ⟨rfl,q⟩;have u:=zh (f.out.trans (q.mono f.out.size));clear N q
    go_wp2_with fail
    go_ret;exact⟨rfl,u.out⟩
  ·have s:=S.out _ _ (J5 M) S0
   have U:=zh (o.out.trans ((J5 M).mono o.out.size));have CX:=zh (IA.out Ba da F M.drew cb A c s.out.1 (k.out.J0 (F':=F) (J1 (J5 M))))
   rcases E with f3|⟨f3,f4⟩
   all_goals
    go_upto_region 10 with(fail)
    go_region_law(first
     |(go_simp;go_at_call 158;refine CX.out.mono ?_;rintro e T ⟨rfl,V⟩;have X:=S.out _ _ V s;have f:=zh (U.out.trans (V.mono U.out.size));have E6:=N6 X.out.2.2.1)
     |(go_simp;go_at_call 160;refine(IB.out.yA z C F T cb A c X.out.1 X.out.2.1).mono ?_;rintro e w4 ⟨rfl,Y⟩))
    all_goals
     have u:=zh (f.out.trans (Y.mono f.out.size));clear Y
     go_wp2_with fail
     go_ret;exact⟨rfl,u.out⟩
  ·go_wp2_with fail
   refine(IA.out.yA Ba da F M cb A c L.out k.out).mono ?_;rintro e T ⟨rfl,i⟩;have s:=S.out _ _ i S0;have f:=zh (o.out.trans (i.mono o.out.size));clear D D5 N i;have N:=N6 s.out.2.2.1
   go_wp2_with fail
   refine(IB.out.yA z C F T cb A c s.out.1 s.out.2.1).mono ?_;rintro e w4 ⟨rfl,q⟩;have X:=S.out _ _ q s;have u:=zh (f.out.trans (q.mono f.out.size));clear N q;have D:=N6 X.out.2.2.2
   rcases E with⟨rfl,g1|⟨g1,g2⟩⟩|⟨rfl,g1,g2⟩
   all_goals
    go_wp2_with fail
    go_ret;exact⟨rfl,u.out⟩
theorem zeZ{j:Nat}(h:j<2):([1,1]:List Int)[j]?=some 1:=by
 match j,h with
 |0,_=>rfl
 |1,_=>rfl
theorem zjX{us:List Fn}{a3:W9}{d:Nat}{τ:Int}{x:Ex}(hU:us.length<=16)(hn:(us.map Fn.L6).Nodup)(hw: ∀f∈us,Fw f)(hE:a3.length<=1000)(h:Xw us a3 d τ x):ExT us a3 τ x:=by
 induction h with
 | @mk d k n t Z p σ τ hs ht V ih=>
 intro B dd F w cb A c hC hA;simp only[Ex.N4,Ex.n,Ex.O9,Ex.args,Ex.pos,Ex.cs]at hA|-
 have a4:=(y7 w.heap.size w).alloc (y6 _) (.cells #[.int .i64 k,.int .i64 n,.string t,.slice B Z.length dd,.int .i64 p] 172);have P:=zh (y9 w (.cells #[.int .i64 k,.int .i64 n,.string t,.slice B Z.length dd,.int .i64 p] 172));have H:=zh a4;have X:=zh (hA.J0 (F':=F) (J1 a4));have Q:=zh (hC.below a4);have IH:=zh ih;have HN:=zh hn;have HW:=zh hw;have c8: ∀(fn:Go.Fn)(first b3:Array Value)(w:World),(Instr.makeFunc fn first b3).run prog w=.ok (.func fn first b3) w:=λ_ _ _ _=>rfl;clear hA hC ih V hn hw a4 ht;generalize hL:Z.length=L at hs P H X Q|-
 have HL:=zh hL;clear hL;have D:=N6 P.out;have v:=I7 P.out;obtain⟨Au,cu,nm,vn,vt,vb,ps,m,a5,b4⟩:=Q.out.K3;have C:=N6 a5;have I:=zh b4;have M:=zh a5;have O:=I7 a5;clear a5 b4
 have b5: ∀(W:World),Below (w.alloc (.cells #[.int .i64 k,.int .i64 n,.string t,.slice B L dd,.int .i64 p] 172)).heap.size (w.alloc (.cells #[.int .i64 k,.int .i64 n,.string t,.slice B L dd,.int .i64 p] 172)) W-> ∀(j:Nat)(x:Ex),Z[j]?=some x-> ∃g y A' c',B=some ⟨g,y,none⟩/\g<W.heap.size/\(∀q u,(x.cs A' c')[q]?=some u->W.cell? ⟨g,y+j*5+q,none⟩=some u)/\
  ∀W',Below W.heap.size W W'->Calls prog 160 #[.pointer (some ⟨cb,0,none⟩),.agg (x.cs A' c'),.int .i64 σ] W' λe w'=>e=.returned (.tuple #[])/\Below W'.heap.size W' w':=λW hb j x V=>by
  obtain⟨g,y,A',c',e1,-,hg,hk,q0,q1,q2,q3,q4⟩:=(HL.out▸(X.out.J0 (F':=F) (J1 hb))).at j x V;refine⟨g,y,A',c',e1,hg,λq u hu=>?_,λW' b6=>(IH.out x (B7 V)).yA A' c' F W' cb A c ((Q.out.below hb).below b6) (hk.J0 (J1 b6))⟩
  match q,hu with
  |0,hu=>obtain rfl:=F7 hu;exact q0
  |1,hu=>obtain rfl:=F7 hu;exact q1
  |2,hu=>obtain rfl:=F7 hu;exact q2
  |3,hu=>obtain rfl:=F7 hu;exact q3
  |4,hu=>obtain rfl:=F7 hu;exact q4
  |q+5,hu=>simp[Ex.cs]at hu
 have G:=zh b5;clear b5;have HS:=zh hs;cases hs with
 |num _ _=>
  clear G I IH X Q
  go_in
  go_wp2_with fail
  go_ret;exact⟨rfl,H.out⟩
 |no=>
  clear G I IH X Q
  go_in
  go_wp2_with fail
  go_ret;exact⟨rfl,H.out⟩
 |yes=>
  clear G I IH X Q
  go_in
  go_wp2_with fail
  go_ret;exact⟨rfl,H.out⟩
 |Zw _ hm=>
  have IV:=zh (zdB (c:=c) Q.out.vars (zdm (N:=191) (o:=2) (by simp) v (by rw[D.1];rfl)) hE);have HM:=zh hm;clear hm G
  go_in
  go_upto_region 7 with(fail)
  generalize w.alloc _=w1 at P H X Q D C M O v I IV|-
  generalize w.heap.size=n1 at P D v IV|-
  go_wp2_with fail
  refine IV.out.mono ?_;rintro e w2 ⟨z,rfl,hz,r⟩;obtain⟨i,s,rfl,hi,hs,-⟩:=hz.yes (List.mem_reverse.2 HM.out) (decide_eq_true rfl);obtain⟨g,rfl,-,c0,c1⟩:=(Q.out.vars.J0 r) i s hi;have a0:(i:Int)<(a3.length:Int):=by have:=(List.getElem?_eq_some_iff.1 hi).1;simp at this;omega
  have h0: ¬(i:Int)<0:=by omega
  have c5:(0:Int)<=(i:Int):=by omega
  have C2:=N6 ((r.block cb O).trans M.out);have J:=zh (H.out.trans (r.mono H.out.size));clear hz hi hs r C D c0
  go_wp2_with fail
  go_ret;exact⟨rfl,J.out⟩
 |neg=>
  obtain⟨x,V⟩: ∃x,Z[0]?=some x:=⟨_,y8 (by rw[HL.out];decide)⟩;obtain⟨g,y,A',c',rfl,hg,E,K⟩:=G.out _ (y7 _ _) 0 x V;have q0:World.cell? _ ⟨g,y,none⟩=_:=E 0 _ rfl;have q1:World.cell? _ ⟨g,y+1,none⟩=_:=E 1 _ rfl;have q2:World.cell? _ ⟨g,y+2,none⟩=_:=E 2 _ rfl;have q3:World.cell? _ ⟨g,y+3,none⟩=_:=E 3 _ rfl;have q4:World.cell? _ ⟨g,y+4,none⟩=_:=E 4 _ rfl;have S:=zh (K _ (y7 _ _));clear E K V G
  go_in
  go_upto_region 1 with(fail)
  generalize w.alloc _=w1 at P H X Q D C M O v I S q0 q1 q2 q3 q4 hg|-
  generalize w.heap.size=n1 at P D v|-
  go_wp2_with fail
  refine S.out.mono ?_;rintro e w2 ⟨rfl,r⟩;have J:=zh (H.out.trans (r.mono H.out.size));clear r C D q0 q1 q2 q3 q4 hg
  go_wp2_with fail
  go_ret;exact⟨rfl,J.out⟩
 |not=>
  obtain⟨x,V⟩: ∃x,Z[0]?=some x:=⟨_,y8 (by rw[HL.out];decide)⟩;obtain⟨g,y,A',c',rfl,hg,E,K⟩:=G.out _ (y7 _ _) 0 x V;have q0:World.cell? _ ⟨g,y,none⟩=_:=E 0 _ rfl;have q1:World.cell? _ ⟨g,y+1,none⟩=_:=E 1 _ rfl;have q2:World.cell? _ ⟨g,y+2,none⟩=_:=E 2 _ rfl;have q3:World.cell? _ ⟨g,y+3,none⟩=_:=E 3 _ rfl;have q4:World.cell? _ ⟨g,y+4,none⟩=_:=E 4 _ rfl;have S:=zh (K _ (y7 _ _));clear E K V G
  go_in
  go_upto_region 1 with(fail)
  generalize w.alloc _=w1 at P H X Q D C M O v I S q0 q1 q2 q3 q4 hg|-
  generalize w.heap.size=n1 at P D v|-
  go_wp2_with fail
  refine S.out.mono ?_;rintro e w2 ⟨rfl,r⟩;have J:=zh (H.out.trans (r.mono H.out.size));clear r C D q0 q1 q2 q3 q4 hg
  go_wp2_with fail
  go_ret;exact⟨rfl,J.out⟩
 |log h=>
  obtain⟨a,b,rfl⟩: ∃a b,Z=[a,b]:=by
   have:=HL.out
   match Z,this with
   |[a,b],_=>exact⟨a,b,rfl⟩
  have S:=zh (zdt (p:=p) HS.out (IH.out a (by simp)) (IH.out b (by simp)) B dd F _ cb A c Q.out X.out);clear G
  go_in
  go_upto_region 1 with(fail)
  generalize w.alloc _=w1 at P H X Q D C M O v I S|-
  generalize w.heap.size=n1 at P D v|-
  go_wp2_with fail
  refine S.out.mono ?_;rintro e w2 ⟨rfl,r⟩;have J:=zh (H.out.trans (r.mono H.out.size));clear r C D
  go_wp2_with fail
  go_ret;exact⟨rfl,J.out⟩
 |cmp h=>
  obtain⟨a,b,rfl⟩: ∃a b,Z=[a,b]:=by
   have:=HL.out
   match Z,this with
   |[a,b],_=>exact⟨a,b,rfl⟩
  have S:=zh (zdt (p:=p) HS.out (IH.out a (by simp)) (IH.out b (by simp)) B dd F _ cb A c Q.out X.out);clear G
  go_in
  go_upto_region 1 with(fail)
  generalize w.alloc _=w1 at P H X Q D C M O v I S|-
  generalize w.heap.size=n1 at P D v|-
  go_wp2_with fail
  refine S.out.mono ?_;rintro e w2 ⟨rfl,r⟩;have J:=zh (H.out.trans (r.mono H.out.size));clear r C D
  go_wp2_with fail
  go_ret;exact⟨rfl,J.out⟩
 |Je h=>
  obtain⟨a,b,rfl⟩: ∃a b,Z=[a,b]:=by
   have:=HL.out
   match Z,this with
   |[a,b],_=>exact⟨a,b,rfl⟩
  have S:=zh (zdt (p:=p) HS.out (IH.out a (by simp)) (IH.out b (by simp)) B dd F _ cb A c Q.out X.out);clear G
  go_in
  go_upto_region 1 with(fail)
  generalize w.alloc _=w1 at P H X Q D C M O v I S|-
  generalize w.heap.size=n1 at P D v|-
  go_wp2_with fail
  refine S.out.mono ?_;rintro e w2 ⟨rfl,r⟩;have J:=zh (H.out.trans (r.mono H.out.size));clear r C D
  go_wp2_with fail
  go_ret;exact⟨rfl,J.out⟩
 | @call n t f h1 hf h3 h4=>
   have IV:=zh (za9 (c:=cu) I.out (zd6 (N:=193) (o:=2) (by simp) v (by rw[D.1];rfl)) hU);have HM:=zh (And.intro hf (And.intro h3 h4));clear h1 hf h3 h4
   go_in
   go_upto_region 20 with(fail)
   generalize w.alloc _=w1 at P H X Q D C M O v I IV G|-
   generalize w.heap.size=n1 at P D v IV|-
   go_wp2_with fail
   refine IV.out.mono ?_;rintro e w2 ⟨z,rfl,hz,r⟩;obtain⟨i,T,rfl,hi,hs,-⟩:=hz.yes HM.out.1 (decide_eq_true HM.out.2.1);obtain rfl:T=f:=ziS HN.out (B7 hi) HM.out.1 ((of_decide_eq_true hs).trans HM.out.2.1.symm);obtain⟨g,y,An,cn,At,ct,Ab,a6,rfl,hg,-,a8,-,E⟩:=(I.out.J0 (F':=F) (J1 r)).at i T hi;have hF:=HW.out T HM.out.1;have b7:T.O6.length=2:=by rw[hF.O6,D9];exact HM.out.2.2
   rw[b7,HM.out.2.2,hF.out]at E;have b8:T.O6=[1,1]:=by
    have h2:=HM.out.2.2;rw[hF.O6]
    match T.J3,h2 with
    |[_,_],_=>rfl
   rw[b8]at a8;have q0:w2.cell? ⟨g,y+i*6,none⟩=_:=E 0 _ rfl;have q1:=E 1 _ rfl;have q2:=E 2 _ rfl;have q3:=E 3 _ rfl;have q4:=E 4 _ rfl;have q5:=E 5 _ rfl;have a0:(i:Int)<(us.length:Int):=by have:=(List.getElem?_eq_some_iff.1 hi).1;omega
   have h0: ¬(i:Int)<0:=by omega
   have c5:(0:Int)<=(i:Int):=by omega
   have J:=zh r;have a7:=zh a8;have a9:=zh ((r.block n1 v).trans P.out);have D2:=N6 a9.out;have b9:=I7 a9.out;have C2:=N6 ((r.block cb O).trans M.out);have c2:=zh (r.alloc r.size (.cells #[.string T.L6,.slice An 2 cn,.slice At 2 ct,.int .i64 1,.slice Ab T.J7.length a6,.int .i64 T.pos] 91));have HY:=zh (y9 w2 (.cells #[.string T.L6,.slice An 2 cn,.slice At 2 ct,.int .i64 1,.slice Ab T.J7.length a6,.int .i64 T.pos] 91));have c3:=zh ((D4 w2 (.cells #[.string T.L6,.slice An 2 cn,.slice At 2 ct,.int .i64 1,.slice Ab T.J7.length a6,.int .i64 T.pos] 91) b9).trans a9.out);replace a7:=zh (a7.out.J0 (F':=F) (J1 ((y7 w2.heap.size w2).alloc (y6 _) (.cells #[.string T.L6,.slice An 2 cn,.slice At 2 ct,.int .i64 1,.slice Ab T.J7.length a6,.int .i64 T.pos] 91))));clear hF b7 b8 E a8 hz hi hs r C D hg
   go_upto_region 24 with(fail)
   clear q0 q1 q2 q3 q4 q5 C2 D2 b9;generalize w2.alloc _=w3 at c2 HY c3 a7|-
   generalize w2.heap.size=n2 at HY|-
   have D3:=N6 c3.out;have Y3:=N6 HY.out
   go_wp2_with fail
   clear D3 Y3
   go_loopw[98] (λi wr=> ∃j:Nat,j<=2/\i=.int .i64 j/\Hid (Below w1.heap.size w1 wr)/\Hid (Below w3.heap.size w3 wr)) (λi _=>2-(intOf i).toNat)
   case atStart=>exact⟨0,E2 _,rfl,c2,zh (y7 _ _)⟩
   case round=>
    obtain⟨j,hj,rfl,R,a1⟩:=hrel;have Yr:=N6 ((a1.out.block n2 (I7 HY.out)).trans HY.out)
    by_cases a0:j<2
    ·obtain⟨x,V⟩: ∃x,Z[j]?=some x:=⟨_,y8 (by rw[HL.out];exact a0)⟩
     obtain⟨gx,ox,A',c',rfl,hg,E,K⟩:=G.out _ R.out j x V;have q0:wr.cell? ⟨gx,ox+j*5,none⟩=_:=E 0 _ rfl;have q1:=E 1 _ rfl;have q2:=E 2 _ rfl;have q3:=E 3 _ rfl;have q4:=E 4 _ rfl;obtain⟨gt,ot,rfl,b0,kt⟩:=K9.at (l:=[1,1]) (a7.out.J0 (F':=F) (J1 a1.out)) j 1 (zeZ a0);have S:=zh K;have k0:(0:Int)<=(j:Int):=by omega
     have k1:(j:Int)<2:=by omega
     clear E K V;have HQ:=zh (y9 wr (.cells (x.cs A' c') 172));have U:=(y7 wr.heap.size wr).alloc (y6 _) (.cells (x.cs A' c') 172);have Y:=zh U;have Ya:=N6 ((U.block n2 (I7 ((a1.out.block n2 (I7 HY.out)).trans HY.out))).trans ((a1.out.block n2 (I7 HY.out)).trans HY.out));have c6:gt<wr.heap.size:=b0;have c4:(wr.alloc (.cells (x.cs A' c') 172)).cell? ⟨gt,ot+j,none⟩=some (.int .i64 1):=(U.cell (p:=⟨gt,ot+j,none⟩) b0).trans kt;clear U
     go_upto_region 29 with(fail)
     clear q0 q1 q2 q3 q4 kt c6 b0 Yr;generalize wr.alloc _=wa at HQ Y Ya c4|-
     generalize wr.heap.size=na at HQ|-
     have Qa:=N6 HQ.out;have c9:=I7 HQ.out
     go_region_law(first|(go_simp;go_at_call 160;refine(S.out wa.drew (Y.out.drew)).mono ?_;rintro e w5 ⟨rfl,a2⟩))
     all_goals
      have b1:=Y.out.drew.trans (a2.mono Y.out.size);have b2:=zh (R.out.trans (b1.mono R.out.size));have c7:=zh (a1.out.trans (b1.mono a1.out.size));clear a2 b1 Qa Ya c4
      go_wp2_with fail
      exact⟨⟨j+1,by omega,by go_num,b2,c7⟩,by simp[intOf];omega⟩
    ·have k1:(2:Int)<=(j:Int):=by omega
     go_wp2_with fail
     go_ret;exact⟨rfl,(H.out.trans (R.out.mono H.out.size))⟩
 |host h1 h2=>
  clear h1 h2
  go_in
  go_upto_region 32 with(fail)
  generalize w.alloc _=w1 at P H X Q D C M O v I G|-
  generalize w.heap.size=n1 at P D v|-
  go_wp2_with fail
  go_loopw[117] (λi wr=> ∃j:Nat,j<=1/\i=.int .i64 j/\Hid (Below w1.heap.size w1 wr)) (λi _=>1-(intOf i).toNat)
  case atStart=>exact⟨0,E2 _,rfl,zh (y7 _ _)⟩
  case round=>
   obtain⟨j,hj,rfl,R⟩:=hrel;clear C D
   by_cases a0:j<1
   ·obtain⟨x,V⟩: ∃x,Z[j]?=some x:=⟨_,y8 (by rw[HL.out];exact a0)⟩
    obtain⟨gx,ox,A',c',rfl,hg,E,K⟩:=G.out _ R.out j x V;have q0:wr.cell? ⟨gx,ox+j*5,none⟩=_:=E 0 _ rfl;have q1:=E 1 _ rfl;have q2:=E 2 _ rfl;have q3:=E 3 _ rfl;have q4:=E 4 _ rfl;have k0:(0:Int)<=(j:Int):=by omega
    have k1:(j:Int)<1:=by omega
    have U:=(y7 wr.heap.size wr).alloc (y6 _) (.cells (x.cs A' c') 172);have S:=zh (K _ U);have Y:=zh U;clear E K V U
    go_wp2_with fail
    refine S.out.mono ?_;rintro e w5 ⟨rfl,a2⟩;have b2:=zh (R.out.trans ((Y.out.trans (a2.mono Y.out.size)).mono R.out.size));clear a2 q0 q1 q2 q3 q4
    go_wp2_with fail
    exact⟨⟨j+1,by omega,by go_num,b2⟩,by simp[intOf];omega⟩
   ·have k1:(1:Int)<=(j:Int):=by omega
    go_wp2_with fail
    go_ret;exact⟨rfl,(H.out.trans (R.out.mono H.out.size))⟩
def yi(q:ByteArray):List Value:=[.string q,.int .i64 1]
def U7(env:W9):List Value:=env.reverse.flatMap yi
theorem XF(env:W9):(U7 env).length=env.length*2:=by
 have: ∀l:List ByteArray,(l.flatMap yi).length=l.length*2:=by
  intro l
  induction l with
  |nil=>rfl
  |cons a l b=>rw[List.flatMap_cons,z9,b,z7,show(yi a).length=2 from rfl];omega
 unfold U7;rw[this,List.length_reverse]
theorem zZ{w:World}{base e size n:Nat}{A:Option Addr}{c:Nat}{xs:List Value}(h:w.ownsRow base e size (.slice A n c) n xs)(k:Nat)(l:k<=n):w.ownsRow base e size (.slice A k c) k (xs.take (k*size)):=by
 have a:k*size<=n*size:=G6 _ l;refine⟨by rw[I5,h.1];omega,?_⟩
 rcases h.2 with⟨b,j⟩|⟨g,o,d,b,j,p,u,q,r,s⟩
 ·injection b with f t i
  subst f i;obtain rfl:k=0:=by omega
  exact .inl ⟨rfl,rfl⟩
 ·injection b with f t i
  subst f i;refine .inr ⟨g,c,d,rfl,j,p,by omega,q,r,?_⟩;rw[<-s,List.take_take,Nat.min_eq_left a]
structure Kq(w w':World)(cb:Nat)(A A':Option Addr):Prop where
 os:w'.os=w.os
 tape:w'.tape=w.tape
 output:w'.output=w.output
 size:w.heap.size<=w'.heap.size
 K3: ∀k,k<w.heap.size->k≠cb->(∀a,A=some a->a.block≠k)->w'.heap[k]?=w.heap[k]?
 yD: ∀a,A'=some a->(∃b,A=some b/\b.block=a.block)\/w.heap.size<=a.block
theorem Kq.trans{w i w2:World}{cb:Nat}{A j A2:Option Addr}(h:Kq w i cb A j)(d:Kq i w2 cb j A2):Kq w w2 cb A A2:=by
 refine⟨d.os.trans h.os,d.tape.trans h.tape,d.output.trans h.output,C4 h.size d.size,λk l n o=>?_,λa f=>?_⟩
 ·refine(d.K3 k (z6 l h.size) n λa f=>?_).trans (h.K3 k l n o)
  rcases h.yD a f with⟨b,g,e⟩|p
  ·rw[<-e];exact o b g
  ·omega
 ·rcases d.yD a f with⟨b,g,e⟩|p
  ·rw[<-e];exact h.yD b g
  ·exact .inr (C4 h.size p)
theorem Kq.of{w w':World}(cb:Nat)(A:Option Addr)(h:Below w.heap.size w w'):Kq w w' cb A A:=⟨h.os,h.tape,h.output,h.size,λk b _ _=>h.block k b,λa d=>.inl ⟨a,d,rfl⟩⟩
theorem Kq.set(w:World)(cb:Nat)(A:Option Addr)(j:Nat)(v:Value):Kq w (w.setCell ⟨cb,j,none⟩ v) cb A A:=
 have g:=J2 w cb j v
 ⟨g.os,g.tape,g.output,g.size,λk b d _=>g.block k b (by simpa using d),λa e=>.inl ⟨a,e,rfl⟩⟩
theorem Kq.W8{w w':World}(cb:Nat){A:Option Addr}{n c g:Nat}{o:Obj}(b:(w.alloc o).grownBy w' (Value.slice A n c).ownBlock)(d:(Value.slice A n c).ownBlock=some g\/g=(w.alloc o).heap.size):Kq w w' cb A (some ⟨g,0,none⟩):=by
 have l:(w.alloc o).heap.size=w.heap.size+1:=by simp
 have f:=(y7 w.heap.size w).alloc (y6 _) o;refine⟨b.os.trans f.os,b.tape.trans f.tape,b.output.trans f.output,by have:=b.size;omega,λk i _ j=>?_,λa h=>?_⟩
 ·refine(b.block k (by omega) λe=>?_).trans (D4 w o i)
  cases A with
  |none=>simp[Value.ownBlock]at e
  |some a=>simp[Value.ownBlock]at e;exact j a rfl e.symm
 ·injection h with h
  subst h
  rcases d with e|e
  ·left
   cases A with
   |none=>simp[Value.ownBlock]at e
   |some a=>simp[Value.ownBlock]at e;exact⟨a,rfl,e⟩
  ·right;simp only;omega
structure Kc where
 Au:Option Addr
 cu:Nat
 nm:Value
 vn:Value
 vt:Value
 vb:Value
 ps:Value
structure xl(w:World)(base cb:Nat)(K:Kc)(us:List Fn)(F:Nat->Prop)(A:Option Addr)(c:Nat)(env:W9)(m:Nat):Prop where
 K3:w.heap[cb]?=some (.cells #[.slice K.Au us.length K.cu,K.nm,K.vn,K.vt,.int .i64 1,K.vb,K.ps,.slice A env.length c,.int .i64 m] 167 (0,0))
 yF:R0 w F (.slice K.Au us.length K.cu) us
 row:w.ownsRow base 202 2 (.slice A env.length c) env.length (U7 env)
 b0:base<=cb
 JU:(Value.slice A env.length c).ownBlock≠some cb
 fb: ∀g,F g->g<base
section
variable {w w' w2:World}{base cb:Nat}{K:Kc}{us:List Fn}{F:Nat->Prop}{A A':Option Addr}{c c':Nat}{env env':W9}{m m':Nat}
theorem xl.hi(h:xl w base cb K us F A c env m): ∀a,A=some a->base<=a.block:=by
 rintro a rfl
 rcases N8 h.row with⟨b,-⟩|⟨g,d,b,f,i,j⟩
 ·injection b with e;cases e
 ·injection b with e;injection e with e;subst e;exact f
theorem xl.low(h:xl w base cb K us F A c env m)(b:Kq w w' cb A A'): ∀k,k<base->k<w.heap.size->w'.heap[k]?=w.heap[k]?:=λk f d=>
 b.K3 k d (by have:=h.b0;omega) (λa e=>by have:=h.hi a e;omega)
theorem xl.JV(h:xl w base cb K us F A c env m)(a:Kq w w' cb A A'):Zx F F w w':=λg b d=>⟨b,z6 d a.size,h.low a g (h.fb g b) d⟩
theorem xl.below(h:xl w base cb K us F A c env m)(a:Below w.heap.size w w'):xl w' base cb K us F A c env m:=
 ⟨(a.block cb (I7 h.K3)).trans h.K3,h.yF.J0 (J1 a),h.row.kept (K7 a none) (by cases b:(Value.slice A env.length c).ownBlock<;>simp),h.b0,h.JU,h.fb⟩
theorem xl.chr(h:xl w base cb K us F A c env m):ChR w cb us F A c env:=by
 refine⟨⟨_,_,_,_,_,_,_,_,h.K3,h.yF⟩,λi q a=>?_⟩
 rcases N8 h.row with⟨b,e⟩|⟨g,f,b,p,j,d⟩
 ·obtain rfl:env=[]:=I3 e
  simp at a
 ·injection b with k r l
  subst k l;have n:=d _ _ (Q6 yi 2 (λ_=>rfl) env.reverse i q a 0 _ rfl);have o:=d _ _ (Q6 yi 2 (λ_=>rfl) env.reverse i q a 1 _ rfl);exact⟨g,rfl,j,by simpa using n,o⟩
theorem xl.zh9(h:xl w base cb K us F A c env m)(a:Kq w w' cb A A'):R0 w' F (.slice K.Au us.length K.cu) us:=h.yF.J0 (h.JV a)
theorem xl.cap(h:xl w base cb K us F A c env m):env.length<=c/\(A=none\/ ∃g,A=some ⟨g,0,none⟩):=by
 rcases h.row.2 with⟨a,d⟩|⟨g,e,f,a,d,k,l,n,o,p⟩
 ·injection a with b i j
  exact⟨by omega,.inl b⟩
 ·injection a with b i j
  exact⟨by omega,.inr ⟨g,b⟩⟩
theorem xl.cut{pre:W9}(h:xl w base cb K us F A c (pre++env) m):xl (w.setCell ⟨cb,7,none⟩ (.slice A env.length c)) base cb K us F A c env m:=by
 have a:=zZ h.row env.length (by simp);have e:(U7 (pre++env)).take (env.length*2)=U7 env:=by
  have:U7 (pre++env)=U7 env++pre.reverse.flatMap yi:=by simp[U7]
  rw[this,<-XF env,List.take_left'];rfl
 rw[e]at a;have b:(Value.slice A env.length c).ownBlock≠some cb:=by have:=h.JU;cases A<;>simpa[Value.ownBlock]using this
 exact⟨by simpa using z5 w cb 7 _ _ (.slice A env.length c) h.K3,h.zh9 (Kq.set w cb A 7 _),a.kept (J2 w cb 7 _) (.inr b),h.b0,b,h.fb⟩
theorem xl.W8{g cap:Nat}{nm:ByteArray}{o:Obj}(h:xl w base cb K us F A c env m)(a:w'.ownsRow base 202 2 (.slice (some ⟨g,0,none⟩) (env.length+1) cap) (env.length+1) (U7 env++[.string nm,.int .i64 1]))(i:(w.alloc o).grownBy w' (Value.slice A env.length c).ownBlock)(b:(Value.slice A env.length c).ownBlock=some g\/g=(w.alloc o).heap.size):
 w'.heap[cb]?=some (.cells #[.slice K.Au us.length K.cu,K.nm,K.vn,K.vt,.int .i64 1,K.vb,K.ps,.slice A env.length c,.int .i64 m] 167 (0,0))/\xl (w'.setCell ⟨cb,7,none⟩ (.slice (some ⟨g,0,none⟩) (env.length+1) cap)) base cb K us F (some ⟨g,0,none⟩) cap (nm::env) m/\
  Kq w (w'.setCell ⟨cb,7,none⟩ (.slice (some ⟨g,0,none⟩) (env.length+1) cap)) cb A (some ⟨g,0,none⟩):=by
 have f:=I7 h.K3;have j:=(i.block cb (by simp;omega) (λe=>h.JU e.symm)).trans ((D4 w o f).trans h.K3);have d:g≠cb:=by
  rcases b with e|e
  ·intro l;subst l;exact h.JU e
  ·simp at e;omega
 have k:=(Kq.W8 cb i b).trans (Kq.set w' cb (some ⟨g,0,none⟩) 7 (.slice (some ⟨g,0,none⟩) (env.length+1) cap));refine⟨j,⟨by simpa using z5 w' cb 7 _ _ (.slice (some ⟨g,0,none⟩) (env.length+1) cap) j,h.zh9 k,?_,h.b0,by simpa[Value.ownBlock]using d,h.fb⟩,k⟩;have n:=a.kept (J2 w' cb 7 (.slice (some ⟨g,0,none⟩) (env.length+1) cap)) (.inr (by simpa[Value.ownBlock]using d));rw[show U7 (nm::env)=U7 env++[.string nm,.int .i64 1] by simp[U7,yi]];exact n
theorem xl.inc(h:xl w base cb K us F A c env m):xl (w.setCell ⟨cb,8,none⟩ (.int .i64 ((m:Int)+1))) base cb K us F A c env (m+1):=
 ⟨by simpa using z5 w cb 8 _ _ (.int .i64 ((m:Int)+1)) h.K3,h.zh9 (Kq.set w cb A 8 _),h.row.kept (J2 w cb 8 _) (.inr h.JU),h.b0,h.JU,h.fb⟩
theorem zeC:R1 prog 165 202 2:=⟨underlying165,by kernel_rfl,by decide⟩
theorem zfW(p:Int){nm:ByteArray}(h:xl w base cb K us F A c env m)(G:nm∉env)(S:m<64)(u:env.length<=1000):
 Calls prog 100 #[.pointer (some ⟨cb,0,none⟩),.int .i64 p,.string nm,.int .i64 1] w λe w'=>e=.returned (.tuple #[])/\ ∃A' c',xl w' base cb K us F A' c' (nm::env) (m+1)/\Kq w w' cb A A':=by
 have v:=(y7 w.heap.size w).alloc (y6 _) (.cells #[.string nm] 9);have d:=zh (y9 w (.cells #[.string nm] 9));have a:=zh (h.below v);have l:=zh (Kq.of cb A v);have M: ∀(fn:Go.Fn)(first n:Array Value)(w:World),(Instr.makeFunc fn first n).run prog w=.ok (.func fn first n) w:=λ_ _ _ _=>rfl;have f:=I7 d.out;have t:=zh (ziG (c:=c) (s:=nm) a.out.chr.vars (zdm (N:=128) (o:=0) (by simp) f (y5 d.out 0)) u G);have x:base<=w.heap.size:=C4 h.b0 (I0 (I7 h.K3));have y:cb<w.heap.size:=I7 h.K3;clear v h G
 go_in
 go_upto_region 1 with(fail)
 generalize w.alloc _=T at d a t l f|-
 generalize w.heap.size=O at d t f y x|-
 have D:=N6 a.out.K3;have z:=I7 a.out.K3
 go_wp2_with fail
 refine t.out.mono ?_;rintro e w2 ⟨rfl,i⟩;replace a:=zh (a.out.below i);replace d:=zh ((i.block _ f).trans d.out);replace l:=zh (l.out.trans (Kq.of cb A i));clear i D t f z;have D:=N6 a.out.K3;have X:=N6 d.out;have P:(m:Int)<64:=by omega
 go_upto_region 4 with(fail)
 replace l:=zh (l.out.trans (Kq.set w2 cb A 8 (.int .i64 ((m:Int)+1))));replace d:=zh (((J2 w2 cb 8 (.int .i64 ((m:Int)+1))).block O (I7 d.out) (by simp;omega)).trans d.out);replace a:=zh a.out.inc;clear D X;generalize w2.setCell _ _=q at a d l|-
 have D:=N6 a.out.K3
 go_upto_region 6 with(fail)
 clear D;have r:=zh (a.out.below (J5 q));have B:=zh (l.out.trans (Kq.of cb A (J5 q)));have D:=N6 a.out.K3;have X:=N6 d.out;have H:=I7 a.out.K3;have I:=I7 d.out;have Q:base<=q.heap.size:=by omega
 go_region_law(first|(refine jz zeC (by rfl) _ _ (by rfl) base _ env.length (U7 env) (by rfl) (r.out.row.alloc _) q.heap.size 1 #[.string nm,.int .i64 1] (by rfl) (y9 q.drew _) rfl (by simp[Value.oneCell']) (by omega) (by simp;omega) ?_;intro U J V g b k L;have j:=r.out.W8 g b k;have R:=N6 j.1))
 all_goals
  have C:=zh j.2.1;have E:=zh (B.out.trans j.2.2);clear j b k g R D X
  go_wp2_with fail
  go_end0;exact⟨rfl,_,_,C.out,E.out⟩
end
abbrev Sm.cs(s:Sm)(Aa Ab Ae:Option Addr)(ca cbb ce:Nat):Array Value:= #[.int .i64 s.N4,.string s.L6,.int .i64 s.a.N4,.int .i64 s.a.n,.string s.a.O9,.slice Aa s.a.args.length ca,.int .i64 s.a.pos,.slice Ab s.J7.length cbb,.slice Ae s.Q7.length ce,.int .i64 s.pos]
structure zdA(us:List Fn):Prop where
 len:us.length<=16
 Zd:(us.map Fn.L6).Nodup
 fw: ∀f∈us,Fw f
def zeT(us:List Fn)(d:Nat):Prop:= ∀(l:List Sm)(a k:W9)(m g:Nat)(r:Bool),Bx us d l a m k g r->m<=64->a.length<=m->l.length<=281474976710656->
 ∀(B:Option Addr)(h:Nat)(w:World)(b f:Nat)(K:Kc)(F:Nat->Prop)(A:Option Addr)(c:Nat),xl w b f K us F A c a m->N0 w F (.slice B l.length h) l->
  Calls prog 101 #[.pointer (some ⟨f,0,none⟩),.slice B l.length h] w λe i=>e=.returned (.bool r)/\ ∃j n,xl i b f K us F j n a g/\Kq w i f A j
theorem zhD{us:List Fn}{d:Nat}(hU:zdA us)(ih:zeT us d){s:Sm}{n e1:W9}{m m1:Nat}{r:Bool}(hs:Sx us (Bx us d) d s n m e1 m1 r)(hm:m<=64)(he:n.length<=m)
 {Aa Ab Ae:Option Addr} {ca M ce:Nat} {w:World} {base q:Nat} {K:Kc} {F:Nat->Prop} {A:Option Addr} {c:Nat} (h:xl w base q K us F A c n m) (ha:O2 w F (.slice Aa s.a.args.length ca) s.a.args) (hb:N0 w F (.slice Ab s.J7.length M) s.J7) (a3:N0 w F (.slice Ae s.Q7.length ce) s.Q7):
 Calls prog 129 #[.pointer (some ⟨q,0,none⟩),.agg (s.cs Aa Ab Ae ca M ce)] w λe w'=>e=.returned (.bool r)/\ ∃A' c',xl w' base q K us F A' c' e1 m1/\Kq w w' q A A':=by
 have O:=(y7 w.heap.size w).alloc (y6 _) (.cells (s.cs Aa Ab Ae ca M ce) 174);have l:=zh (y9 w (.cells (s.cs Aa Ab Ae ca M ce) 174));have f:=zh (h.below O);have t:=zh (Kq.of q A O);have E:=zh (ha.J0 (F':=F) (J1 O));have u:=zh (hb.J0 (F':=F) (J1 O));have B:=zh (a3.J0 (F':=F) (J1 O));have G:q<w.heap.size:=I7 h.K3;have a4: ∀a,A=some a->a.block<w.heap.size:=by
  rintro a rfl
  rcases N8 h.row with⟨P,-⟩|⟨g,V,P,-,hg,-⟩
  ·injection P with e;cases e
  ·injection P with e;injection e with e;subst e;exact hg
 have H:=zh a4;have IH:=zh ih;have W:=zh (λ(x:Ex) (τ:Int) (hx:Xw us n d τ x)=>zjX hU.len hU.Zd hU.fw (by omega) hx);have b8: ∀(fn:Go.Fn)(first V:Array Value)(w:World),(Instr.makeFunc fn first V).run prog w=.ok (.func fn first V) w:=λ_ _ _ _=>rfl;clear O h ha hb a3 ih a4;have D:=N6 l.out;have j:=I7 l.out;cases hs with
 | @bind nm a p n m P Q h3 S=>
   simp only[Sm.N4,Sm.L6,Sm.a,Sm.J7,Sm.Q7,Sm.pos,Sm.cs]at*;have HE:=zh (W.out _ _ S Aa ca F _ q A c f.out.chr E.out);have HN:=zh Q;clear P Q S
   go_in
   go_upto_region 1 with(fail)
   generalize w.alloc _=X at l f t E u B D j HE|-
   generalize w.heap.size=Y at l D j G H|-
   go_wp2_with fail
   refine HE.out.mono ?_;rintro e I ⟨rfl,b⟩;replace f:=zh (f.out.below b);replace l:=zh ((b.block _ j).trans l.out);replace t:=zh (t.out.trans (Kq.of q _ b));clear D b;have D:=N6 l.out
   go_wp2_with fail
   refine(zfW _ f.out HN.out h3 (by omega)).mono ?_;rintro e Z ⟨rfl,A',c',hF,hK⟩;replace f:=zh hF;replace t:=zh (t.out.trans hK);clear D hF hK
   go_wp2_with fail
   go_ret;exact⟨rfl,_,_,f.out,t.out⟩
 | @set nm a p n m P Q S=>
   simp only[Sm.N4,Sm.L6,Sm.a,Sm.J7,Sm.Q7,Sm.pos,Sm.cs]at*;have HE:=zh S;have IV:=zh (zdB (c:=c) (s:=nm) f.out.chr.vars (zdm (N:=159) (o:=1) (by simp) j (by rw[D.1];rfl)) (by omega));have HM:=zh Q;have C:=N6 f.out.K3;have R:=I7 f.out.K3;clear P Q S
   go_in
   go_upto_region 6 with(fail)
   generalize w.alloc _=X at l f t E u B D C R j IV|-
   generalize w.heap.size=Y at l D j G H IV|-
   go_wp2_with fail
   refine IV.out.mono ?_;rintro e I ⟨z,rfl,hz,b⟩;obtain⟨i,s,rfl,hi,hs,-⟩:=hz.yes (List.mem_reverse.2 HM.out) (decide_eq_true rfl);obtain⟨g,rfl,hg,-,c1⟩:=(f.out.chr.vars.J0 b) i s hi;have b9:(i:Int)<(n.length:Int):=by have:=(List.getElem?_eq_some_iff.1 hi).1;simp at this;omega
   have h0: ¬(i:Int)<0:=by omega
   have c0:(0:Int)<=(i:Int):=by omega
   replace f:=zh (f.out.below b);replace l:=zh ((b.block _ j).trans l.out);replace t:=zh (t.out.trans (Kq.of q _ b));replace E:=zh (E.out.J0 (F':=F) (J1 b));have HC:=zh ((W.out _ _ HE.out).yA Aa ca F I.drew q (some ⟨g,0,none⟩) c (f.out.below (J5 I)).chr (E.out.J0 (F':=F) (J1 (J5 I))));clear hz hi hs b C D R j;have C:=N6 f.out.K3;have D:=N6 l.out;have U:=I7 l.out;have R:=I7 f.out.K3
   go_upto_region 9 with(fail)
   go_region_law(first|(go_simp;go_at_call 160;refine HC.out.mono ?_;rintro e Z ⟨rfl,v⟩))
   all_goals
    have J:=zh ((f.out.below (J5 I)).below v);have L:=zh ((t.out.trans (Kq.of q _ (J5 I))).trans (Kq.of q _ v));clear v C D c1
    go_wp2_with fail
    go_ret;exact⟨rfl,_,_,J.out,L.out⟩
 | @Y0 k nm a p n m P Q S=>
   simp only[Sm.N4,Sm.L6,Sm.a,Sm.J7,Sm.Q7,Sm.pos,Sm.cs]at*;have HE:=zh S;have a5:=zh ((W.out _ _ S).yA Aa ca F _ q A c (f.out.below (J5 _)).chr (E.out.J0 (F':=F) (J1 (J5 _))));have y:=zh ((W.out _ _ S).yA Aa ca F _ q A c f.out.chr E.out);have a6:=zh (W.out _ _ S Aa ca F _ q A c f.out.chr E.out);have C:=N6 f.out.K3;have R:=I7 f.out.K3;clear Q S
   rcases P with rfl|rfl|rfl
   ·go_in
    go_upto_region 18 with(fail)
    generalize w.alloc _=X at l f t E u B D C R j a5|-
    generalize w.heap.size=Y at l D j G H|-
    go_region_law(first|(go_simp;go_at_call 160;refine a5.out.mono ?_;rintro e Z ⟨rfl,v⟩))
    all_goals
     have J:=zh ((f.out.below (J5 X)).below v);have L:=zh ((t.out.trans (Kq.of q _ (J5 X))).trans (Kq.of q _ v));clear v C D
     go_wp2_with fail
     go_ret;exact⟨rfl,_,_,J.out,L.out⟩
   all_goals
    go_in
    go_upto_region 1 with(fail)
    generalize w.alloc _=X at l f t E u B D C R j y a6|-
    generalize w.heap.size=Y at l D j G H|-
    go_wp2_with fail
    first|refine y.out.mono ?_|refine a6.out.mono ?_
    rintro e Z ⟨rfl,v⟩;have J:=zh (f.out.below v);have L:=zh (t.out.trans (Kq.of q _ v));clear v C D
    go_wp2_with fail
    go_ret;exact⟨rfl,_,_,J.out,L.out⟩
 | @jf nm a J7 p n f1 m m0 r1 P Q h3 h5=>
   simp only[Sm.N4,Sm.L6,Sm.a,Sm.J7,Sm.Q7,Sm.pos,Sm.cs]at*;have y:=zh ((W.out _ _ Q).yA Aa ca F _ q A c f.out.chr E.out);have a0:=zh h5;clear P Q h5
   go_in
   go_upto_region 1 with(fail)
   generalize w.alloc _=X at l f t E u B D j y|-
   generalize w.heap.size=Y at l D j G H|-
   go_wp2_with fail
   refine y.out.mono ?_;rintro e I ⟨rfl,b⟩;replace f:=zh (f.out.below b);replace l:=zh ((b.block _ j).trans l.out);replace t:=zh (t.out.trans (Kq.of q _ b));replace u:=zh (u.out.J0 (F':=F) (J1 b));clear D b y j;have D:=N6 l.out
   go_wp2_with fail
   refine(IH.out J7 n f1 m _ r1 a0.out hm he (by omega) Ab M I base q K F A c f.out u.out).mono ?_;rintro e Z ⟨rfl,A',c',hF,hK⟩;replace f:=zh hF;replace t:=zh (t.out.trans hK);clear D hF hK
   go_wp2_with fail
   go_ret;exact⟨rfl,_,_,f.out,t.out⟩
 | @QZ nm a J7 Q7 p n f1 f2 m m0 m2 r1 r2 P Q h3 S h5 h6=>
   simp only[Sm.N4,Sm.L6,Sm.a,Sm.J7,Sm.Q7,Sm.pos,Sm.cs]at*;have y:=zh ((W.out _ _ Q).yA Aa ca F _ q A c f.out.chr E.out);have a0:=zh h5;have b1:=zh h6;have a7:=h5.le hm he;have b2:m0<=64:=a7.2.1;have b3:n.length<=m0:=by omega
   clear P Q h5 h6 a7
   go_in
   go_upto_region 1 with(fail)
   generalize w.alloc _=X at l f t E u B D j y|-
   generalize w.heap.size=Y at l D j G H|-
   go_wp2_with fail
   refine y.out.mono ?_;rintro e I ⟨rfl,b⟩;replace f:=zh (f.out.below b);replace l:=zh ((b.block _ j).trans l.out);replace t:=zh (t.out.trans (Kq.of q _ b));replace u:=zh (u.out.J0 (F':=F) (J1 b));replace B:=zh (B.out.J0 (F':=F) (J1 b));clear D b y j;have D:=N6 l.out;have U:=I7 l.out;replace f:=zh (f.out.below (J5 I));replace t:=zh (t.out.trans (Kq.of q A (J5 I)));have b4:=zh (IH.out J7 n f1 m m0 r1 a0.out hm he (by omega) Ab M I.drew base q K F A c f.out (u.out.J0 (F':=F) (J1 (J5 I))));have b5:=zh (λ(w':World) (A':Option Addr) (h:Kq I.drew w' q A A')=>(⟨(h.K3 Y U (by omega) (λa ha=>by have:=H.out a ha;omega)).trans l.out,(B.out.J0 (F':=F) (J1 (J5 I))).J0 (F':=F) (f.out.JV h)⟩:w'.heap[Y]?=_/\N0 w' F (.slice Ae Q7.length ce) Q7));clear G U
   go_upto_region 12 with(fail)
   have U:=I7 l.out
   go_region_law(first
    |(go_simp;go_at_call 101;refine b6.out.mono ?_;rintro e w4 ⟨rfl,A4,c4,a8,a9⟩)
    |(go_simp;go_at_call 101;refine b4.out.mono ?_;rintro e Z ⟨rfl,A3,c3,b0,a1⟩;have a2:=zh (b5.out Z A3 a1);have D3:=N6 a2.out.1;have c2:=I7 a2.out.1;have b7:=zh (t.out.trans a1);have b6:=zh (IH.out Q7 n f2 m0 m1 r2 b1.out b2 b3 (by omega) Ae ce Z base q K F A3 c3 b0 a2.out.2);clear b0 a1))
   all_goals
    have J:=zh a8;have L:=zh (b7.out.trans a9);clear a8 a9 D D3;cases r1<;>cases r2
    all_goals
     go_wp2_with fail
     go_ret;exact⟨rfl,_,_,J.out,L.out⟩
end Go.Proofs.YtalgmjmibamdfaaGreatDoor
