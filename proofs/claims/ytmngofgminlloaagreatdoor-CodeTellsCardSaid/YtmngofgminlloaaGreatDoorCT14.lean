/- Merged. -/
import Derived.Test.YtmngofgminlloaaGreatDoorCT13
import Derived.Laws.CopyOwn
import Derived.Laws.EntriesVeiled
set_option linter.all false
set_option maxHeartbeats 16000000
set_option maxRecDepth 100000
namespace Go.Proofs.YtmngofgminlloaaGreatDoor
open Go.Proofs.Tryz
open Go.RowKit Tw
def S2(us:List Fn):Nat->P4->Nat->List Sm->qm×P4×Nat
 |_,vs,m,[]=>([],vs,m)
 |n,vs,m,s::l=>((Z9 us n vs m s).1++(S2 us (n+(Z9 us n vs m s).1.length) (Z9 us n vs m s).2.1 (Z9 us n vs m s).2.2 l).1,(S2 us (n+(Z9 us n vs m s).1.length) (Z9 us n vs m s).2.1 (Z9 us n vs m s).2.2 l).2)
def zbA(us): ∀l(n:Nat)vs(m:Nat),X9 us n vs m l=((S2 us n vs m l).1,(S2 us n vs m l).2.2)
 |[],n,vs,m=>by rw[X9,S2]
 |s::l,n,vs,m=>by rw[X9,S2,zbA us l]
def zaI(us s): ∀l(n:Nat)vs(m:Nat),S2 us n vs m (l++[s])=((S2 us n vs m l).1++(Z9 us (n+(S2 us n vs m l).1.length) (S2 us n vs m l).2.1 (S2 us n vs m l).2.2 s).1,(Z9 us (n+(S2 us n vs m l).1.length) (S2 us n vs m l).2.1 (S2 us n vs m l).2.2 s).2)
 |[],n,vs,m=>by simp[S2]
 |a::l,n,vs,m=>by
  rw[B6,S2,zaI us s l,S2];simp only[A9,B9,Nat.add_assoc]
def zji(us s)(n:Nat)(vs)(m:Nat): ∃pre,(Z9 us n vs m s).2.1=vs++pre:=by
 cases s with|mk k b a J0 M9 p=>
 rw[Z9]
 repeat' split
 all_goals first|exact⟨_,rfl⟩|exact⟨[],by simp⟩
def zc5(us): ∀l(n:Nat)vs(m:Nat),∃a,(S2 us n vs m l).2.1=vs++a
 |[],n,vs,m=>⟨[],by simp[S2]⟩
 |s::l,n,vs,m=>by
  obtain⟨b,c⟩:=zji us s n vs m;obtain⟨d,e⟩:=zc5 us l (n+(Z9 us n vs m s).1.length) (Z9 us n vs m s).2.1 (Z9 us n vs m s).2.2;exact⟨b++d,by rw[S2];simp only;rw[e,c,B9]⟩
def zg2(us l)(n:Nat)(vs)(m:Nat):(S2 us n vs m l).1.length<=5*qL l:=by
 have:=xS (us:=us) l n m vs;rw[zbA]at this;exact this
def zeJ: ∀{xs}{j:Nat}{a},xs[j]?=some a->qL (xs.take j)+smN a<=qL xs
 |[],j,a,h=>by simp at h
 |x::xs,0,a,h=>by simp at h;subst h;simp[qL]
 |x::xs,j+1,a,h=>by
  have:=zeJ (xs:=xs) (j:=j) (a:=a) (by simpa using h);simp only[List.take_succ_cons,qL]at*;omega
def XV{w:World}{base e size n c:Nat}{A xs}(h:w.ownsRow base e size (.slice A n c) n xs):n<=c/\(A=none\/ ∃g,A=some ⟨g,0,none⟩):=by
 rcases h.2 with⟨a,f⟩|⟨g,i,j,a,f,m,k,o,p,q⟩
 ·injection a with b l d;exact⟨by omega,.inl b⟩
 ·injection a with b l d;subst d;exact⟨k,.inr ⟨g,b⟩⟩
def zu.cut{w0 w}{a:Nat}{U V vs d}{c:Nat}{ops us}{F:Nat->Prop}(h:zu w0 w a U V (vs++d) c ops us F):
 zu w0 ((w.setCell ⟨a,1,none⟩ (.slice V.An vs.length V.cn)).setCell ⟨a,2,none⟩ (.slice V.Aa vs.length V.ca)) a U V vs c ops us F:=by
 have i:=ZC h.st.rn vs.length (by simp);have j:=ZC h.st.ra vs.length (by simp);have p:=h.st.ro;have q:(qn (vs++d)).take (vs.length*1)=qn vs:=by simp[qn]
 have r:(qo (vs++d)).take (vs.length*1)=qo vs:=by simp[qo]
 rw[q]at i;rw[r]at j;have f:=h.st.P6;have g:=A6 w a 1 _ _ (.slice V.An vs.length V.cn) f;have s:=A6 _ a 2 _ _ (.slice V.Aa vs.length V.ca) g;have b: ∀{e n k:Nat}{v:Value}{xs:List Value},w.ownsRow a e k v n xs->e≠225->((w.setCell ⟨a,1,none⟩ (.slice V.An vs.length V.cn)).setCell ⟨a,2,none⟩ (.slice V.Aa vs.length V.ca)).ownsRow a e k v n xs:=λl m=>by
  have o:=l.kept (I8 w a 1 (.slice V.An vs.length V.cn)) (.inr (S5 l f m));exact o.kept (I8 _ a 2 _) (.inr (S5 o g m))
 refine h.Zf ⟨by simpa using s,b i (by decide),b j (by decide),b p (by decide)⟩ (L6 (L6 (x8 a w) (x7 _) 1 _) (x7 _) 2 _) ((Kp.set f (by simp)).trans (Kp.set g (by simp)))
def zu.zpM{w0 w}{a:Nat}{U V vs d}{c:Nat}{ops us}{F:Nat->Prop}(h:zu w0 w a U V (vs++d) c ops us F):
 zu w0 ((w.setCell ⟨a,2,none⟩ (.slice V.Aa vs.length V.ca)).setCell ⟨a,1,none⟩ (.slice V.An vs.length V.cn)) a U V vs c ops us F:=by
 have i:=ZC h.st.rn vs.length (by simp);have j:=ZC h.st.ra vs.length (by simp);have p:=h.st.ro;have q:(qn (vs++d)).take (vs.length*1)=qn vs:=by simp[qn]
 have r:(qo (vs++d)).take (vs.length*1)=qo vs:=by simp[qo]
 rw[q]at i;rw[r]at j;have f:=h.st.P6;have g:=A6 w a 2 _ _ (.slice V.Aa vs.length V.ca) f;have s:=A6 _ a 1 _ _ (.slice V.An vs.length V.cn) g;have b: ∀{e n k:Nat}{v:Value}{xs:List Value},w.ownsRow a e k v n xs->e≠225->((w.setCell ⟨a,2,none⟩ (.slice V.Aa vs.length V.ca)).setCell ⟨a,1,none⟩ (.slice V.An vs.length V.cn)).ownsRow a e k v n xs:=λl m=>by
  have o:=l.kept (I8 w a 2 (.slice V.Aa vs.length V.ca)) (.inr (S5 l f m));exact o.kept (I8 _ a 1 _) (.inr (S5 o g m))
 refine h.Zf ⟨by simpa using s,b i (by decide),b j (by decide),b p (by decide)⟩ (L6 (L6 (x8 a w) (x7 _) 2 _) (x7 _) 1 _) ((Kp.set f (by simp)).trans (Kp.set g (by simp)))
structure OkM(env:P1)(vs:P4)(m:Nat):Prop where
 m64:m<=64
 el:env.length<=m
 ok:xE env vs m
def CmS(us:List Fn)(left:Nat):Prop:=
 ∀(s:Sm)(j k l:Option Addr)(m o p:Nat)(F:Nat->Prop)(w:World)(h:Nat)(q:Option Addr)(t:Nat)(V:Mv)(d:P4)(b:Nat)(c:List zv)(i:Int)(f g:P1)(u:Nat)(r:Bool),xK s left=0->zC us i s f b=.ok (g,u,r)->OkM f d b->us.length<=1000->J7 w F (.slice j s.a.args.length m) s.a.args->K9 w F (.slice k s.J0.length o) s.J0->K9 w F (.slice l s.M9.length p) s.M9->c.length+5*smN s<=400000000->zu w w h (.slice q us.length t) V d b c us F->
  Calls prog 192 #[.pointer (some ⟨h,0,none⟩),.agg #[.int .i64 s.I9,.string s.J2,.int .i64 s.a.I9,.int .i64 s.a.n,.string s.a.K0,.slice j s.a.args.length m,.int .i64 s.a.pos,.slice k s.J0.length o,.slice l s.M9.length p,.int .i64 s.pos]] w λe v=>e=.returned (.tuple #[])/\ ∃x,zu w v h (.slice q us.length t) x (Z9 us c.length d b s).2.1 (Z9 us c.length d b s).2.2 (c++(Z9 us c.length d b s).1.map Prod.fst) us F
def CmB(us:List Fn)(left:Nat):Prop:=
 ∀(l:List Sm)(B:Option Addr)(d:Nat)(F:Nat->Prop)(w:World)(g:Nat)(i:Option Addr)(j:Nat)(V:Mv)(c:P4)(a:Nat)(b:List zv)(h:Int)(f:P1)(k:Nat)(r:Bool),O0 l left=0->zS us h l f a=.ok (k,r)->OkM f c a->us.length<=1000->K9 w F (.slice B l.length d) l->b.length+5*qL l<=400000000->zu w w g (.slice i us.length j) V c a b us F->
  Calls prog 144 #[.pointer (some ⟨g,0,none⟩),.slice B l.length d] w λe m=>e=.returned (.tuple #[])/\ ∃n,zu w m g (.slice i us.length j) n c (X9 us b.length c a l).2 (b++(X9 us b.length c a l).1.map Prod.fst) us F
def zgz{us}{out:Int}{l env}{m b:Nat}{r:Bool}(h:zS us out l env m=.ok (b,r)): ∃a,X6 us out l env m false=.ok (a,b,r):=by
 rw[yM]at h;cases c:X6 us out l env m false with
 |J9 q e=>rw[c]at h;cases h
 |ok z=>
  obtain⟨d,f,g⟩:=z;rw[c]at h;cases h;exact⟨d,rfl⟩
def zf7{us}{out:Int}{l env b}{m o:Nat}{r:Bool}(h:X6 us out l env m false=.ok (b,o,r)){j:Nat}{s}(hs:l[j]?=some s): ∃a c r1 d f g,X6 us out (l.take j) env m false=.ok (a,c,r1)/\zC us out s a c=.ok (d,f,g):=by
 cases i:X6 us out (l.take j) env m false with
 |J9 q e=>
  have:=YM us out (l.take j) (l.drop j) env m false i;rw[List.take_append_drop,h]at this;cases this
 |ok z=>
  obtain⟨k,c,r1⟩:=z;cases n:zC us out s k c with
  |ok y=>obtain⟨p,f,g⟩:=y;exact⟨k,c,r1,p,f,g,rfl,n⟩
  |J9 q e=>
   have t:X6 us out (l.take (j+1)) env m false=.J9 q e:=by
    rw[P0 hs,yn,i];simp only[n]
   have:=YM us out (l.take (j+1)) (l.drop (j+1)) env m false t;rw[List.take_append_drop,h]at this;cases this
end Go.Proofs.YtmngofgminlloaaGreatDoor
namespace Go.Proofs.YtmngofgminlloaaGreatDoor
open Go.RowKit Tw
structure Pf where
 params:Nat
 vars:Nat
 ops:List zv
def Cf.pf(f:Cf):Pf:=⟨f.params,f.vars,f.S0.map Prod.fst⟩
def jz(w:World)(v:Value)(l:List zv):Prop:=
 ∃g c a b,v=.slice (some ⟨g,0,none⟩) l.length c/\l.length<=c/\w.heap[g]?=some (.cells a 166 b)/\ ∀k o,l[k]?=some o->w.cell? ⟨g,k*2,none⟩=some (.int .i64 o.1)/\w.cell? ⟨g,k*2+1,none⟩=some (.int .i64 o.2)
def zF(w:World)(v:Value)(l:List Pf):Prop:=
 (l=[]/\ ∃a c,v=.slice a 0 c)\/ ∃g c d e,v=.slice (some ⟨g,0,none⟩) l.length c/\l.length<=c/\w.heap[g]?=some (.cells d 66 e)/\
  ∀k f,l[k]?=some f-> ∃b,w.cell? ⟨g,k*3,none⟩=some (.int .i64 f.params)/\w.cell? ⟨g,k*3+1,none⟩=some (.int .i64 f.vars)/\w.cell? ⟨g,k*3+2,none⟩=some b/\jz w b f.ops
section
variable {w w':World}{v:Value}{row:Option Nat}
structure jk(w w':World):Prop where
 P6: ∀(g:Nat)(cs:Array Value)(t:Nat)(fr:Nat×Nat),w.heap[g]?=some (.cells cs t fr)->t=166\/t=66->w'.heap[g]?=w.heap[g]?
theorem jk.of(a:Below w.heap.size w w'):jk w w':=⟨λg _ _ _ h _=>a.block g (I5 h)⟩
theorem jk.trans{w2}(h:jk w w')(e:jk w' w2):jk w w2:=⟨λg a t b c d=>(e.P6 g a t b ((h.P6 g a t b c d).trans c) d).trans (h.P6 g a t b c d)⟩
theorem jk.set{b t:Nat}{h i}(k:w.heap[b]?=some (.cells h t i))(l:t≠166)(m:t≠66)(j:Nat)(u):jk w (w.setCell ⟨b,j,none⟩ u):=
 ⟨λg n p o d a=>(I8 w b j u).block g (I5 d) λe=>by
  have e:g=b:=by simpa using e
  subst e;have c:=k.symm.trans d;injection c with c;injection c with _ f
  rcases a with a|a
  ·exact l (f.trans a)
  ·exact m (f.trans a)⟩
theorem jz.K7{l}(h:jz w v l)(j:jk w w'):jz w' v l:=by
 obtain⟨g,c,m,n,e,p,d,f⟩:=h;have b:=j.P6 g _ _ _ d (.inl rfl);exact⟨g,c,m,n,e,p,b.trans d,λk o i=>⟨(E8 (a:=⟨g,k*2,none⟩) b).trans (f k o i).1,(E8 (a:=⟨g,k*2+1,none⟩) b).trans (f k o i).2⟩⟩
theorem zF.K7{l}(h:zF w v l)(d:jk w w'):zF w' v l:=by
 rcases h with h|⟨g,c,j,m,e,n,i,o⟩
 ·exact .inl h
 ·have b:=d.P6 g _ _ _ i (.inr rfl)
  refine .inr ⟨g,c,j,m,e,n,b.trans i,λk f p=>?_⟩;obtain⟨q,r,s,t,u⟩:=o k f p;exact⟨q,(E8 (a:=⟨g,k*3,none⟩) b).trans r,(E8 (a:=⟨g,k*3+1,none⟩) b).trans s,(E8 (a:=⟨g,k*3+2,none⟩) b).trans t,u.K7 d⟩
theorem jz.at{l}(h:jz w v l): ∃g c,v=.slice (some ⟨g,0,none⟩) l.length c/\l.length<=c/\g<w.heap.size/\ ∀k o,l[k]?=some o->w.cell? ⟨g,k*2,none⟩=some (.int .i64 o.1)/\w.cell? ⟨g,k*2+1,none⟩=some (.int .i64 o.2):=by
 obtain⟨g,c,f,i,e,a,b,d⟩:=h;exact⟨g,c,e,a,I5 b,d⟩
theorem zF.at{l}(h:zF w v l){k:Nat}{f}(b:l[k]?=some f): ∃g c a,v=.slice (some ⟨g,0,none⟩) l.length c/\l.length<=c/\g<w.heap.size/\w.cell? ⟨g,k*3,none⟩=some (.int .i64 f.params)/\w.cell? ⟨g,k*3+1,none⟩=some (.int .i64 f.vars)/\w.cell? ⟨g,k*3+2,none⟩=some a/\jz w a f.ops:=by
 rcases h with⟨rfl,-⟩|⟨g,c,q,r,e,d,i,j⟩
 ·cases b
 ·obtain⟨a,m,n,o,p⟩:=j k f b
  exact⟨g,c,a,e,d,I5 i,m,n,o,p⟩
theorem zF.slice{l}(h:zF w v l): ∃a c,v=.slice a l.length c:=by
 rcases h with⟨rfl,a,c,rfl⟩|h
 ·exact⟨a,c,rfl⟩
 ·obtain⟨g,c,b,d,e,-⟩:=h
  exact⟨_,_,e⟩
theorem ze0{base e size n c g:Nat}{xs}(h:w.ownsRow base e size (.slice (some ⟨g,0,none⟩) n c) n xs): ∃d f,w.heap[g]?=some (.cells d e f):=by
 rcases h.2 with⟨b,_⟩|⟨l,i,j,b,m,k,_⟩
 ·cases b
 ·injection b with a;injection a with a;injection a with a;subst a;exact⟨_,_,k⟩
theorem jz.ZK{base c:Nat}{A l}(h:w.ownsRow base 166 2 (.slice A l.length c) l.length (qu l))(d:0<l.length):jz w (.slice A l.length c) l:=by
 obtain⟨g,rfl⟩:=ZE h d;obtain⟨e,f,i⟩:=ze0 h;refine⟨g,c,e,f,rfl,(XV h).1,i,λk o a=>?_⟩;have j:k<l.length:=(List.getElem?_eq_some_iff.1 a).1;refine⟨?_,?_⟩
 ·have b:=h.cellAt (k*2) (by omega)
  exact b.trans (zY QI 2 (λ_=>rfl) l k o a 0 _ rfl)
 ·have b:=h.cellAt (k*2+1) (by omega)
  exact b.trans (zY QI 2 (λ_=>rfl) l k o a 1 _ rfl)
end
def Zw(b:Pf×Value):List Value:=[.int .i64 b.1.params,.int .i64 b.1.vars,b.2]
theorem zF.ZK{w:World}{base c:Nat}{A}{l:List (Pf×Value)}(h:w.ownsRow base 66 3 (.slice A l.length c) l.length (l.flatMap Zw))(d: ∀b∈l,jz w b.2 b.1.ops):zF w (.slice A l.length c) (l.map Prod.fst):=by
 rcases Nat.eq_zero_or_pos l.length with e|e
 ·have:l=[]:=List.length_eq_zero_iff.1 e
  subst this;exact .inl ⟨rfl,A,c,rfl⟩
 ·obtain⟨g,rfl⟩:=ZE h e
  obtain⟨j,m,n⟩:=ze0 h;refine .inr ⟨g,c,j,m,by rw[C6],by rw[C6];exact(XV h).1,n,λk f i=>?_⟩;rw[G2]at i;obtain⟨b,a,rfl⟩:=Option.map_eq_some_iff.1 i;have o:k<l.length:=(List.getElem?_eq_some_iff.1 a).1;refine⟨b.2,?_,?_,?_,d b (B7 a)⟩
  ·exact(h.cellAt (k*3) (by omega)).trans (zY Zw 3 (λ_=>rfl) l k b a 0 _ rfl)
  ·exact(h.cellAt (k*3+1) (by omega)).trans (zY Zw 3 (λ_=>rfl) l k b a 1 _ rfl)
  ·exact(h.cellAt (k*3+2) (by omega)).trans (zY Zw 3 (λ_=>rfl) l k b a 2 _ rfl)
end Go.Proofs.YtmngofgminlloaaGreatDoor
namespace Go.Proofs.YtmngofgminlloaaGreatDoor
open Go.Proofs.Tryz
open Go.RowKit Tw
section
open Go.Maps
def yS{fn t u v x}(h:fn.results= #[.tmp t,.tmp u,.tmp v,.tmp x])(a:Array Value)(P:Program)(w:World):
 (results fn a).run P w=.ok (.tuple #[a.getD t undef,a.getD u undef,a.getD v undef,a.getD x undef]) w:=by
 simp[results,h]
def zpk{x:Int}(a:0<=x)(b:x<128):bits BinOp.and IntKind.i64 x 7=x%8:=by
 obtain⟨n,rfl⟩: ∃n:Nat,x=n:=⟨x.toNat,by omega⟩;have h: ∀n:Fin 128,bits BinOp.and IntKind.i64 ((n:Nat):Int) 7=((n:Nat):Int)%8:=by decide
 exact h ⟨n,by omega⟩
def znA(P:List Pf)(s:Option Addr)(t:Nat)(h z:Int)(nv u:Nat)(A:Option Addr)(co:Nat)(d x:Int)(w:World)
 (F:Ys P.length nv u (d,x)) (hF:zF w (.slice s P.length t) P):
 Calls prog 146 #[.agg #[.slice s P.length t,.int .i64 h],.agg #[.int .i64 z,.int .i64 nv,.slice A u co],.agg #[.int .i64 d,.int .i64 x]] w λe w'=>
  e=.returned (.tuple #[.int .i64 (M8 (P.map Pf.params) (d,x)),.int .i64 (Q0 (d,x)),.int .i64 (xa P.length nv u d),.bool true])/\Below w.heap.size w w':=by
 obtain⟨l,m,Y,v⟩:=F;simp only at l m Y v;have Z:=(x8 w.heap.size w).alloc (x7 _) (.cells #[.slice s P.length t,.int .i64 h] 55);have b2:=Z.alloc Z.size (.cells #[.int .i64 z,.int .i64 nv,.slice A u co] 66);have b3:=b2.alloc b2.size (.cells #[.int .i64 d,.int .i64 x] 166);have x1:=A5 w (.cells #[.slice s P.length t,.int .i64 h] 55);have x2:=A5 (w.alloc (.cells #[.slice s P.length t,.int .i64 h] 55)) (.cells #[.int .i64 z,.int .i64 nv,.slice A u co] 66);have x3:=A5 ((w.alloc (.cells #[.slice s P.length t,.int .i64 h] 55)).alloc (.cells #[.int .i64 z,.int .i64 nv,.slice A u co] 66)) (.cells #[.int .i64 d,.int .i64 x] 166);obtain⟨w1,w2,w3,w4,w5,w6,w7,w8,w9,a7,a8,n,r1,r2,r3,r4,r5,r6,r7,r8,r9,G,H,I,o,J⟩:=zi5 (((w.alloc (.cells #[.slice s P.length t,.int .i64 h] 55)).alloc (.cells #[.int .i64 z,.int .i64 nv,.slice A u co] 66)).alloc (.cells #[.int .i64 d,.int .i64 x] 166));have K:(w.alloc (.cells #[.slice s P.length t,.int .i64 h] 55)).heap.size=w.heap.size+1:=by simp
 have L:((w.alloc (.cells #[.slice s P.length t,.int .i64 h] 55)).alloc (.cells #[.int .i64 z,.int .i64 nv,.slice A u co] 66)).heap.size=w.heap.size+2:=by simp
 have E:(((w.alloc (.cells #[.slice s P.length t,.int .i64 h] 55)).alloc (.cells #[.int .i64 z,.int .i64 nv,.slice A u co] 66)).alloc (.cells #[.int .i64 d,.int .i64 x] 166)).heap.size=w.heap.size+3:=by simp
 have U:=(J.block w.heap.size (by rw[E];omega)).trans ((C4 _ _ (by rw[L];omega)).trans ((C4 _ _ (by rw[K];omega)).trans x1));have V:=(J.block _ (by rw[E,K];omega)).trans ((C4 _ _ (by rw[L,K];omega)).trans x2);have M:=(J.block _ (by rw[E,L];omega)).trans x3;rw[E]at r1 r2 r3 r4 r5 r6 r7 r8 r9 G H I o;rw[K]at V;rw[L]at M;have hB:=(b3.trans (J.mono (by rw[E];omega)));have N:(Lit.int .i64 d).wf=true:=by
  have e1:IntKind.i64.min= -9223372036854775808:=rfl;have e2:IntKind.i64.max=9223372036854775807:=rfl;simp only[Lit.wf,e1,e2,F3,F1];omega
 obtain⟨ta,tb,tc,tk,i⟩: ∃a b c k,opT d=(a,b,c,k):=⟨_,_,_,_,rfl⟩;have lk:=zny o d ta tb tc tk N (by rw[(zoA l m).1,i]) (by rw[(zoA l m).2,i]);have q2:=A5 n (.cells #[.int .i64 ta,.int .i64 tb,.int .i64 tc] 270);have O:=(x8 n.heap.size n).alloc (x7 _) (.cells #[.int .i64 ta,.int .i64 tb,.int .i64 tc] 270);have d0:n.cell? ⟨w.heap.size+2,0,none⟩=some (.int .i64 d):=x6 M 0;have Q:=qh ((O.block _ (I5 U)).trans U);have B:=qh ((O.block _ (I5 V)).trans V);have C:=qh ((O.block _ (I5 M)).trans M);have q:=qh q2;have r:=qh (hB.trans (O.mono (C1 (by omega) (G9 (I5 U)))));have HX:=qh Y;have HF:=qh hF;have a3:=qh i;have a4:= @run_makeMap prog;clear Y hF i Z b2 b3 x1 x2 x3 U V M K L E o J hB O q2 N
 go_enter func146,ntmps146
 go_upto_region 3 with(fail)
 clear r1 r2 r3 r4 r5 r6 r7 r8 r9 G H I lk d0 a4;generalize World.alloc _ _=W at Q B C q r|-;generalize n.heap.size=nb at q|-;have p0:=x6 Q.out 0;have f1:=x6 B.out 1;have f2:=x6 B.out 2;have o0:=x6 C.out 0;have o1:=x6 C.out 1;have a0:=x6 q.out 0;have a1:=x6 q.out 1;have a2:=x6 q.out 2;have i:=a3.out
 by_cases R:d=17
 ·subst R
  obtain⟨X,S⟩:=HX.out (by decide);obtain⟨j,rfl⟩: ∃j:Nat,x=j:=⟨x.toNat,by omega⟩;have hj:j<P.length:=by simp[xa]at S;omega
  obtain⟨f,F⟩: ∃f,P[j]?=some f:=⟨_,x9 hj⟩;obtain⟨g,c,vo,hv,-,hg,u0,-⟩:=HF.out.at F;injection hv with e1 _ e2
  subst e1 e2;have v0:=(r.out.cell (p:=⟨g,j*3,none⟩) hg).trans u0;have a5:Hid (M8 (P.map Pf.params) (17,(j:Int))=f.params):=qh (by simp[M8,F]);have i0:(0:Int)<=(j:Int):=by omega
  have i1:(j:Int)<(P.length:Int):=by omega
  simp[opT]at i;obtain⟨rfl,rfl,rfl,rfl⟩:=i;clear F hg u0 X S v l m
  go_wp2_with fail
  go_quiet (fail)
  go_wp2_with fail
  (try simp only[Exit.inBlock,Exit.then]);refine E9 (yS rfl _ _ _) rfl ?_
  exact⟨by rw[a5.out];simp[Q0,xa],J6 r.out _⟩
 by_cases y:d=20
 ·subst y
  obtain⟨X,S⟩:=HX.out (by decide);have T:x<128:=by simpa[xa]using S
  simp[opT]at i;obtain⟨rfl,rfl,rfl,rfl⟩:=i;have a6:=qh (zpk X T);clear X S v l m T
  go_wp2_with fail
  go_quiet (fail)
  go_wp2_with fail
  (try simp only[Exit.inBlock,Exit.then]);refine E9 (yS rfl _ _ _) rfl ?_
  exact⟨by simp[M8,Q0,xa];rw[a6.out];omega,J6 r.out _⟩
 have D:d=1\/d=2\/d=3\/d=4\/d=5\/d=6\/d=15\/d=16\/d=18\/d=19\/d=7\/d=8\/d=9\/d=10\/d=11\/d=12\/d=13\/d=14:=by omega
 clear R y l m v
 rcases D with rfl|rfl|rfl|rfl|rfl|rfl|rfl|rfl|rfl|rfl|rfl|rfl|rfl|rfl|rfl|rfl|rfl|rfl
 all_goals
  simp[opT]at i;obtain⟨rfl,rfl,rfl,rfl⟩:=i
  go_wp2_with fail
  go_quiet (fail)
  go_wp2_with fail
  (try simp only[Exit.inBlock,Exit.then]);refine E9 (yS rfl _ _ _) rfl ?_
  exact⟨by simp[M8,Q0,xa],J6 r.out _⟩
end
end Go.Proofs.YtmngofgminlloaaGreatDoor
namespace Go.Proofs.YtmngofgminlloaaGreatDoor
open Go.RowKit Tw
def OkH(C:qm)(hs:List Int):Prop:=hs.length=C.length/\ ∀(k:Nat)(v:Int),hs[k]?=some v->v= -1\/ ∃o h,C[k]?=some (o,h)/\v=(h:Nat)
def Mkd(hs:List Int)(k:Nat):Prop:= ∃v:Int,hs[k]?=some v/\v≠ -1
structure Hxt(C:qm)(hs hs':List Int):Prop where
 old: ∀(j:Nat)(v:Int),hs[j]?=some v->v≠ -1->hs'[j]?=some v
 new: ∀(j:Nat)(o:zv)(h:Nat),C[j]?=some (o,h)-> ¬Mkd hs j->Mkd hs' j-> ∀i∈U1 j o,Mkd hs' i
 cnt:hs'.count (-1)<=hs.count (-1)
section
variable {C:qm}{hs hs1 hs':List Int}
theorem Hxt.refl:Hxt C hs hs:=⟨λ_ _ h _=>h,λ_ _ _ _ h a=>H9 a h,x7 _⟩
theorem Hxt.mk'(h:Hxt C hs hs'){i:Nat}(hi:Mkd hs i):Mkd hs' i:=by
 obtain⟨v,b,a⟩:=hi;exact⟨v,h.old i v b a,a⟩
theorem Hxt.trans(h:Hxt C hs hs1)(a:Hxt C hs1 hs'):Hxt C hs hs':=by
 refine⟨λj v c b=>a.old j v (h.old j v c b) b,λj o x d c b=>?_,C1 a.cnt h.cnt⟩
 by_cases e:Mkd hs1 j
 ·exact λi g=>a.mk' (h.new j o x d c e i g)
 ·exact a.new j o x d e b
theorem OkH.set(h:OkH C hs){k n:Nat}{o}(b:C[k]?=some (o,n)):OkH C (hs.set k (n:Int)):=by
 refine⟨by rw[List.length_set];exact h.1,λj v a=>?_⟩;rw[List.getElem?_set]at a
 split at a
 ·rename_i e;subst e
  split at a
  ·injection a with a;exact .inr ⟨o,n,b,a.symm⟩
  ·cases a
 ·exact h.2 j v a
theorem zaP{k n:Nat}(b:hs[k]?=some (-1)):(hs.set k (n:Int)).count (-1)+1=hs.count (-1):=by
 induction hs generalizing k with
 |nil=>simp at b
 |cons a l c=>
  cases k with
  |zero=>
   simp at b;subst b;have: ¬((n:Int)== -1)=true:=by simp
   rw[List.set_cons_zero,List.count_cons,List.count_cons,B5 this];simp
  |succ k=>
   have:=c (k:=k) (by simpa using b);rw[List.set_cons_succ,List.count_cons,List.count_cons];omega
theorem Hxt.zfw{k n:Nat}{o}(p:C[k]?=some (o,n))(d:hs[k]?=some (-1))(h:Hxt C (hs.set k (n:Int)) hs')(hs1: ∀i∈U1 k o,Mkd hs' i):Hxt C hs hs'/\Mkd hs' k:=by
 have g:k<hs.length:=(List.getElem?_eq_some_iff.1 d).1;have l:Mkd (hs.set k (n:Int)) k:=⟨n,List.getElem?_set_self g,by omega⟩;refine⟨⟨λj v b c=>?_,λj q x a b c=>?_,?_⟩,h.mk' l⟩
 ·refine h.old j v ?_ c
  by_cases e:k=j
  ·subst e;rw[d]at b;injection b with b;exact H9 b.symm c
  ·rw[List.getElem?_set_ne e];exact b
 ·by_cases e:k=j
  ·subst e;rw[p]at a;injection a with a;injection a with r t;subst r;exact hs1
  ·refine h.new j q x a (λl=>b ?_) c
   obtain⟨v,m,s⟩:=l;rw[List.getElem?_set_ne e]at m;exact⟨v,m,s⟩
 ·have:=zaP (n:=n) d
  have:=h.cnt;omega
end
structure zhd(C:qm)(hs:List Int):Prop where
 ok:OkH C hs
 start:Mkd hs 0
 zqI: ∀(j:Nat)(o:zv)(h:Nat),C[j]?=some (o,h)->Mkd hs j-> ∀i∈U1 j o,Mkd hs i
structure Hv where
 bb:Nat
 bf:Nat
 bh:Nat
 bp:Nat
 bw:Nat
 gh:Nat
def zea(hs:List Int):Array Value:=(hs.map (Value.int .i64)).toArray
structure HtS(w:World)(B:Hv)(P:List Pf)(Af:Option Addr)(cf:Nat)(yA:Int)(f:Pf)(Ao:Option Addr)(co:Nat)(hs:List Int):Prop where
 J9:w.heap[B.bb]?=some (.cells #[.bool false] 4 (0,0))
 fn:w.heap[B.bf]?=some (.cells #[.int .i64 f.params,.int .i64 f.vars,.slice Ao f.ops.length co] 66 (0,0))
 hv:w.heap[B.bh]?=some (.cells #[.slice (some ⟨B.gh,0,none⟩) f.ops.length f.ops.length] 29 (0,0))
 pg:w.heap[B.bp]?=some (.cells #[.slice Af P.length cf,.int .i64 yA] 55 (0,0))
 wk:w.heap[B.bw]?=some (.cells #[.func (.func 194) #[] #[.pointer (some ⟨B.bb,0,none⟩),.pointer (some ⟨B.bf,0,none⟩),.pointer (some ⟨B.bh,0,none⟩),.pointer (some ⟨B.bp,0,none⟩),.pointer (some ⟨B.bw,0,none⟩)]] 274 (0,0))
 row:w.heap[B.gh]?=some (.cells (zea hs) 3 (0,0))
 zks:zF w (.slice Af P.length cf) P
 ops:jz w (.slice Ao f.ops.length co) f.ops
section
variable {w w':World}{B:Hv}{P:List Pf}{Af:Option Addr}{cf:Nat}{yA:Int}{f:Pf}{Ao:Option Addr}{co:Nat}{hs:List Int}
theorem HtS.later(h:HtS w B P Af cf yA f Ao co hs)(a:Below w.heap.size w w'):HtS w' B P Af cf yA f Ao co hs:=
 ⟨(a.block _ (I5 h.J9)).trans h.J9,(a.block _ (I5 h.fn)).trans h.fn,(a.block _ (I5 h.hv)).trans h.hv,(a.block _ (I5 h.pg)).trans h.pg,(a.block _ (I5 h.wk)).trans h.wk,(a.block _ (I5 h.row)).trans h.row,h.zks.K7 (.of a),h.ops.K7 (.of a)⟩
theorem xz{w:World}{a b t i:Nat}{j d k g}(l:w.heap[a]?=some (.cells j t k))(c:w.heap[b]?=some (.cells d i g))(h:t≠i):a≠b:=by
 rintro rfl;rw[l]at c;injection c with c;injection c with _ e
 exact h e
theorem HtS.set(h:HtS w B P Af cf yA f Ao co hs)(k:Nat)(v:Int):HtS (w.setCell ⟨B.gh,k,none⟩ (.int .i64 v)) B P Af cf yA f Ao co (hs.set k v):=by
 have hs':=I8 w B.gh k (.int .i64 v)
 have e: ∀{b:Nat}{c:Array Value}{t:Nat}{d:Nat×Nat},w.heap[b]?=some (.cells c t d)->t≠3->(w.setCell ⟨B.gh,k,none⟩ (.int .i64 v)).heap[b]?=some (.cells c t d):=λa g=>
  (hs'.block _ (I5 a) (by simpa using xz a h.row g)).trans a
 have q:jk w (w.setCell ⟨B.gh,k,none⟩ (.int .i64 v)):=.set h.row (by decide) (by decide) k _;refine⟨e h.J9 (by decide),e h.fn (by decide),e h.hv (by decide),e h.pg (by decide),e h.wk (by decide),?_,h.zks.K7 q,h.ops.K7 q⟩;have:=A6 w B.gh k _ _ (.int .i64 v) h.row;rw[this]
 congr 2
 unfold zea;simp[List.map_set]
theorem HtS.znd(h:HtS w B P Af cf yA f Ao co hs):HtS (w.setCell ⟨B.bb,0,none⟩ (.bool false)) B P Af cf yA f Ao co hs:=by
 have hs':=I8 w B.bb 0 (.bool false)
 have e: ∀{b:Nat}{c:Array Value}{t:Nat}{d:Nat×Nat},w.heap[b]?=some (.cells c t d)->t≠4->(w.setCell ⟨B.bb,0,none⟩ (.bool false)).heap[b]?=some (.cells c t d):=λa g=>
  (hs'.block _ (I5 a) (by simpa using xz a h.J9 g)).trans a
 have q:jk w (w.setCell ⟨B.bb,0,none⟩ (.bool false)):=.set h.J9 (by decide) (by decide) 0 _;exact⟨by simpa using A6 w B.bb 0 _ _ (.bool false) h.J9,e h.fn (by decide),e h.hv (by decide),e h.pg (by decide),e h.wk (by decide),e h.row (by decide),h.zks.K7 q,h.ops.K7 q⟩
end
end Go.Proofs.YtmngofgminlloaaGreatDoor
namespace Go.Proofs.YtmngofgminlloaaGreatDoor
open Go.Proofs.Tryz
open Go.RowKit Tw
def ziX{α:Type}(a b:α){n k m:Nat}(h:k+m<=n):(List.replicate k a++List.replicate (n-k) b).take k++List.replicate m a++(List.replicate k a++List.replicate (n-k) b).drop (k+m)=List.replicate (k+m) a++List.replicate (n-(k+m)) b:=by
 rw[List.take_left' (by simp),List.replicate_append_replicate,List.drop_append,List.length_replicate,List.drop_eq_nil_of_le (by simp),C0,List.drop_replicate,show n-k-(k+m-k)=n-(k+m) by omega]
abbrev jF:Value:=.int .i64 (-1)
def Y1(k n:Nat):Array Value:=(List.replicate k jF++List.replicate (n-k) (Value.int .i64 0)).toArray
def zjz:(Tryz.prog.info? 3).map (λi=>(i.zero,i.size,i.bytes))=some (some (Value.int .i64 0),1,8):=by kernel_rfl
def zcQ(k n:Nat)(h:k<=n):(Y1 k n).size=n:=by simp[Y1];omega
def zfn{w:World}{g:Nat}{sp:Addr}{k n m sl dl dc sc:Nat}(b c d:TypeId)(i:Tryz.prog.underlying b=some (.slice 3))(l:w.heap[g]?=some (.cells (Y1 k n) 3 (0,0)))(o:m=Nat.min sl dl)(f:k+m<=n)(hs: ∀j,j<m->w.cell? (sp.add j)=some jF):
 (Builtin.copy_ #[b,c] d #[.slice (some ⟨g,k,none⟩) dl dc,.slice (some sp) sl sc]).run prog w=.ok (.int .i64 m) (w.setRow g (Y1 (k+m) n)):=by
 have h:=run_copy_row (P:=prog) w b c d 3 g k dl dc sp sl sc (Y1 k n) 3 (List.replicate m jF) i (by kernel_rfl) l (by simpa using o) (λj v a=>by
  rw[List.getElem?_replicate]at a
  split at a
  ·rename_i p;rw[<-a];exact hs j p
  ·cases a) (by rw[List.length_replicate,zcQ k n (by omega)];exact f) (λv a=>by rw[List.mem_replicate]at a;rw[a.2];rfl)
 rw[List.length_replicate]at h;have e:((Y1 k n).toList.take k++List.replicate m jF++(Y1 k n).toList.drop (k+m)).toArray=Y1 (k+m) n:=by
  simp only[Y1,List.toList_toArray];rw[ziX jF (Value.int .i64 0) f]
 rw[e]at h;exact h
def zf3{w:World}{g k n:Nat}(a:w.heap[g]?=some (.cells (Y1 k n) 3 (0,0))){j:Nat}(b:j<k):w.cell? ⟨g,j,none⟩=some jF:=by
 refine(x6 a j).trans ?_;simp[Y1,List.getElem?_append,b]
def znz(B J n:Nat)(w:World)(N:1<=n)(hn:n<=4000)(F:w.heap[B]?=some (.cells #[jF] 3 (0,0))):
 Calls prog 193 #[.slice (some ⟨B,0,none⟩) 1 J,.int .i64 n] w λe w'=>e=.returned (.slice (some ⟨w.heap.size,0,none⟩) n n)/\w'.heap[w.heap.size]?=some (.cells (Y1 n n) 3 (0,0))/\Below w.heap.size w w':=by
 have c:=Tryz.bits_Mul 1 n (by decide) (by omega) w;rw[show 1*n/18446744073709551616=0 by omega,show 1*n%18446744073709551616=n by omega]at c;obtain⟨i,K,L,M,s⟩:=info_parts zjz;obtain⟨C,h,l,a⟩:=run_make_full (P:=prog) (w:=w) w.heap.size 29 3 i (.int .i64 0) 1 underlying29 K L M .i64 .i64 n (by rw[s];omega) (by unfold maxLen;omega) (x7 _);have o:C.heap[w.heap.size]?=some (.cells (Y1 0 n) 3 (0,0)):=by
  rcases l.2 with⟨D,_⟩|⟨g,O,t,p,_,Q,_,_,R,S⟩
  ·cases D
  ·injection p with p _ T
   injection p with p;injection p with p
   subst p T;rw[Q];have U:t.toList=(madeCells (Value.int .i64 0).cells (n*1)).toList:=by rw[<-S,List.take_of_length_le (by simp[R])]
   have:t=Y1 0 n:=by
    apply Array.toList_inj.1;rw[U];apply List.ext_getElem?;intro j;simp[madeCells,Y1,Value.cells,List.getElem?_replicate]
    by_cases u:j<n
    ·rw[List.getElem?_range u,C8 u];simp[Nat.mod_one]
    ·simp[u]
   rw[this]
 have G:Hid (Below w.heap.size w C):=qh ⟨a.os,a.tape,a.output,a.size,λk V=>a.block k V (by simp)⟩;have v:C.cell? ⟨B,0,none⟩=some jF:=x6 ((G.out.block _ (I5 F)).trans F) 0;have x:=zfn (n:=n) (k:=0) (m:=1) (sp:=⟨B,0,none⟩) (sl:=1) (dl:=n) (dc:=n) (sc:=J) 29 29 3 underlying29 o (show 1=min 1 n by omega) (by omega) (λj u=>by
  obtain rfl:j=0:=by omega
  exact v)
 have y:=setRow_heap C w.heap.size (Y1 0 n) (Y1 (0+1) n) 3 _ o;have d:=qh (below_setRow G.out (x7 _) (Y1 (0+1) n));have f:=qh y;obtain⟨bn,q⟩: ∃b,w.heap.size=b:=⟨_,rfl⟩;simp only[q]at h x G d f|-;have H:=qh q;clear l a o v y K L M s F q
 go_enter func193,ntmps193
 go_wp2_with fail
 refine c.mono ?_;rintro e w' ⟨rfl,rfl⟩;clear c
 go_wp2_with fail
 clear h x;generalize World.setRow _ _ _=w2 at f d|-
 go_loopw[8] (λI wr=> ∃k:Nat,1<=k/\k<=n/\I=.int .i64 k/\Hid (wr.heap[bn]?=some (.cells (Y1 k n) 3 (0,0)))/\Hid (Below bn w' wr)) (λI _=>n-(intOf I).toNat)
 case atStart=>exact⟨1,x7 _,N,rfl,f,d⟩
 case round=>
  clear f d;obtain⟨k,a0,a1,rfl,E,r⟩:=hrel
  by_cases a2:k<n
  ·have hc:=zfn (w:=wr.drew) (n:=n) (k:=k) (m:=min k (n-k)) (sp:=⟨bn,0,none⟩) (sl:=k) (dl:=n-k) (dc:=n-k) (sc:=n) 29 29 3 underlying29 E.out rfl (by omega) (λj u=>by
    have:=zf3 (w:=wr.drew) E.out (j:=j) (by omega)
    by_cases D:j=0
    ·subst D;simpa[Addr.add]using this
    ·simpa[Addr.add,D]using this)
   have a3: ¬n=k:=by omega
   have i0:(0:Int)<=(k:Int):=by omega
   have i1:(k:Int)<=(n:Int):=by omega
   have i2:(k:Int)<(n:Int):=by omega
   go_upto_region 9 with(fail)
   go_region_law(fail)
   all_goals
    have z:=qh (setRow_heap wr.drew bn (Y1 k n) (Y1 (k+min k (n-k)) n) 3 _ E.out);have A:=qh (below_setRow (r.out.trans ((M2 wr).mono (by have:=H.out;have:=r.out.size;omega))) (x7 _) (Y1 (k+min k (n-k)) n));clear hc;generalize World.setRow _ _ _=wn at z A|-;have hw:IntKind.i64.wrap ((k:Int)+((min k (n-k):Nat):Int))=((k:Int)+((min k (n-k):Nat):Int)):=IntWalk.i64_in _ (by omega);rw[hw];go_simp
    go_roundw
    case rel=>
     exact⟨_,_,_,_,_,_,_,_,_,_,_,_,_,_,⟨k+min k (n-k),by omega,by omega,by simp,z,A⟩,rfl⟩
    case measure=>simp[intOf];omega
  ·obtain rfl:k=n:=by omega
   go_wp2_with fail
   go_ret;exact⟨rfl,E.out,r.out⟩
theorem zig{w:World}{b j:Nat}{v cs}{t:Nat}(h:w.heap[b]?=some (.cells cs t (0,0)))(d:cs[j]?=some v)(r):w.grownBy (w.setCell ⟨b,j,none⟩ v) r:=by
 have a:=I8 w b j v;refine⟨a.os,a.tape,a.output,a.size,λk g _=>?_⟩
 by_cases e:k=b
 ·subst e
  have l:=A6 w k j _ _ v h;rw[l,h];obtain⟨m,n⟩:=Array.getElem?_eq_some_iff.1 d;subst n;have o:cs.setIfInBounds j cs[j]=cs:=by
   apply Array.ext_getElem?;intro i
   by_cases c:j=i
   ·subst c;simp[m]
   ·rw[D8 c]
  rw[o]
 ·exact a.block k g (by simpa using e)
theorem zi3{ps}(h: ∀x∈ps,x<=6)(o):M8 ps o<=7:=by
 unfold M8
 split
 ·omega
 split
 ·rw[List.getD_eq_getElem?_getD]
  cases a:ps[o.2.toNat]? with
  |none=>simp
  |some x=>have:=h x (B7 a);simp;omega
 split
 ·omega
 split<;>omega
section
variable {B:Hv}{P:List Pf}{Af:Option Addr}{cf:Nat}{yA:Int}{f:Pf}{Ao:Option Addr}{co:Nat}{C:qm}
def WkR(w:World)(B:Hv)(P:List Pf)(Af:Option Addr)(cf:Nat)(yA:Int)(f:Pf)(Ao:Option Addr)(co:Nat)(C:qm)(hs:List Int)(k:Nat)(e:Ending)(w':World):Prop:=
 e=.returned (.tuple #[])/\w.grownBy w' (some B.gh)/\ ∃a,HtS w' B P Af cf yA f Ao co a/\OkH C a/\Hxt C hs a/\Mkd a k
theorem ziW{w:World}{g:Nat}{hs}(h:w.heap[g]?=some (.cells (zea hs) 3 (0,0))){k:Nat}{v:Int}(a:hs[k]?=some v):w.cell? ⟨g,k,none⟩=some (.int .i64 v):=by
 refine(x6 h k).trans ?_;simp[zea,a]
theorem zmO(hC:f.ops=C.map Prod.fst)(a3:qq (P.map Pf.params) f.vars C 0 C.length)(h4:C.length<=4000)(c4: ∀x∈P.map Pf.params,x<=6): ∀(N:Nat)(hs:List Int)(k n:Nat)(w:World),hs.count (-1)<N->HtS w B P Af cf yA f Ao co hs->OkH C hs->yy C k n->
 Calls prog 194 #[.int .i64 k,.int .i64 n,.pointer (some ⟨B.bb,0,none⟩),.pointer (some ⟨B.bf,0,none⟩),.pointer (some ⟨B.bh,0,none⟩),.pointer (some ⟨B.bp,0,none⟩),.pointer (some ⟨B.bw,0,none⟩)] w (WkR w B P Af cf yA f Ao co C hs k):=by
 intro N
 induction N with
 |zero=>intro hs k n w hN;omega
 |succ N ih=>
 intro hs k n w hN hS hO hA;obtain⟨o,hc⟩:=hA;have c5:k<C.length:=(List.getElem?_eq_some_iff.1 hc).1;have c6:f.ops.length=C.length:=by rw[hC,C6]
 obtain⟨v,hv⟩: ∃v,hs[k]?=some v:=⟨_,x9 (by rw[hO.1];exact c5)⟩;obtain⟨o',n',F,V⟩:=a3 k (D0 _) c5;obtain⟨rfl,rfl⟩:o=o'/\n=n':=by rw[hc]at F;injection F with F;injection F with e1 e2;exact⟨e1,e2⟩
 have e3:n<=512:=by
  have h1:=V.2.1;have h2:=V.2.2.1;have h3:=zi3 c4 o;omega
 have k0:(0:Int)<=(k:Int):=by omega
 have k1:(k:Int)<(f.ops.length:Int):=by omega
 have e1:((k:Int)==(f.ops.length:Int))=false:=by simp;omega
 have b0:=x6 hS.J9 0;have f2:=x6 hS.fn 2;have h0:=x6 hS.hv 0;have r0:=ziW hS.row hv;have gb:=B4 hS.J9 0;have gr:=B4 hS.row k;have IH:=qh ih;have HS:=qh hS;have HO:=qh hO;have HC:=qh hc;have HV:=qh hv;have HN:=qh hN;have c7:=qh V;have c8:=qh hC;have a4:=hO.2 k v hv;clear ih hS hO hc F hN V hC a3 c6 c4
 by_cases hm:v= -1
 case neg=>
  have e4:v=(n:Int):=by
   rcases a4 with h|⟨o2,n2,h1,h2⟩
   ·exact H9 h hm
   ·rw[HC.out]at h1;injection h1 with h1;injection h1 with h1 h3;subst h3;exact h2
  subst e4;clear a4 hv
  go_enter func194,ntmps194
  go_wp2_with fail
  (try simp only[Exit.inBlock,Exit.then]);refine E9 (results_none rfl _ _ _) rfl ?_
  exact⟨rfl,zig HS.out.J9 rfl _,hs,HS.out.znd,HO.out,.refl,⟨_,HV.out,hm⟩⟩
 case pos=>
  subst hm;clear a4 hv;obtain⟨d,x⟩:=o;obtain⟨c9,d2,d3,G⟩:=c7.out;obtain⟨e5,e6,hx,-⟩:=c9;simp only at e5 e6 hx;have a5:f.ops[k]?=some (d,x):=by rw[c8.out,G2,HC.out];rfl
  obtain⟨go,c',hv,f6,a6,y⟩:=HS.out.ops.at;injection hv with e7 _ e8
  subst e7 e8;obtain⟨o0,o1⟩:=y k _ a5;simp only at o0 o1;have r:=qh (HS.out.set k n);have H:=qh (HO.out.set HC.out);have b:=I8 w B.gh k (.int .i64 n);have a7:go≠B.gh:=by
   obtain⟨g2,c2,cs,fr,ev,-,e9,-⟩:=HS.out.ops;injection ev with ev;injection ev with ev;injection ev with ev
   subst ev;exact xz e9 HS.out.row (by decide)
  have d4:(w.setCell ⟨B.gh,k,none⟩ (.int .i64 n)).cell? ⟨go,k*2,none⟩=some (.int .i64 d):=(E8 (a:=⟨go,k*2,none⟩) (b.block go a6 (by simpa using a7))).trans o0;have d5:(w.setCell ⟨B.gh,k,none⟩ (.int .i64 n)).cell? ⟨go,k*2+1,none⟩=some (.int .i64 x):=(E8 (a:=⟨go,k*2+1,none⟩) (b.block go a6 (by simpa using a7))).trans o1;have a8:=qh b;have f7:=qh a5;clear y a6 a7 b a5 o0 o1
  go_enter func194,ntmps194
  go_upto_region 3 with(fail)
  generalize World.setCell _ _ _=w1 at r a8 d4 d5|-;clear b0 f2 h0 r0 gb gr;have b0:=x6 r.out.J9 0;have f0:=x6 r.out.fn 0;have f1:=x6 r.out.fn 1;have f2:=x6 r.out.fn 2
  go_upto_region 4 with(fail)
  clear b0 f0 f1 f2 d4 d5;have a9:=(x8 w1.heap.size w1).alloc (x7 _) (.cells #[.int .i64 d,.int .i64 x] 166);have c:=qh (r.out.later a9);have b2:=qh (I4 a8.out (I7 a9 (some B.gh)));have s:=qh (A5 w1 (.cells #[.int .i64 d,.int .i64 x] 166));clear a9 r a8;generalize World.alloc _ _=w2 at c b2 s|-;generalize w1.heap.size=bo at s|-;have b0:=x6 c.out.pg 0;have b1:=x6 c.out.pg 1;have f0:=x6 c.out.fn 0;have f1:=x6 c.out.fn 1;have f2:=x6 c.out.fn 2;have d0:=x6 s.out 0;have d1:=x6 s.out 1;have d6:f.ops.length=C.length:=by rw[c8.out,C6]
  have OC:=qh (znA P Af cf yA f.params f.vars f.ops.length (some ⟨go,0,none⟩) co d x w2 (by have:=c7.out.1;rw[C6]at this;rw[d6];exact this) c.out.zks);clear d6;obtain⟨po,W⟩: ∃z,M8 (P.map Pf.params) (d,x)=z:=⟨_,rfl⟩;obtain⟨pu,b3⟩: ∃z,Q0 (d,x)=z:=⟨_,rfl⟩;obtain⟨li,d7⟩: ∃z,xa P.length f.vars f.ops.length d=z:=⟨_,rfl⟩;rw[W,b3,d7]at OC;rw[W,b3]at d3 G;rw[W]at d2;have g:=qh G;clear W b3 d7 G
  go_wp2_with fail
  refine OC.out.mono ?_;rintro e w3 ⟨rfl,hb⟩;have p:=qh (c.out.later hb);have X:=qh (I4 b2.out (I7 hb (some B.gh)));have q:=qh ((hb.block bo (I5 s.out)).trans s.out);clear hb OC c b2 s b0 b1 f0 f1 f2 d0 d1;have f3:IntKind.i64.wrap ((n:Int)-(po:Int))=(n:Int)-(po:Int):=IntWalk.i64_in _ (by omega);have f4:IntKind.i64.wrap ((n:Int)-(po:Int)+(pu:Int))=(n:Int)-(po:Int)+(pu:Int):=IntWalk.i64_in _ (by omega);have t1: ¬((n:Int)<(po:Int)):=by omega
  have t2: ¬((256:Int)<(n:Int)-(po:Int)+(pu:Int)):=by omega
  have d0:=x6 q.out 0;have d1:=x6 q.out 1;have g0:=x6 p.out.wk 0;obtain⟨m,d8⟩: ∃m:Nat,n-po+pu=m:=⟨_,rfl⟩;have f5:(n:Int)-(po:Int)+(pu:Int)=(m:Int):=by omega
  have Y:=qh d8;clear d8;have I:Hid ((hs.set k (n:Int)).count (-1)<N):=qh (by have h1:=zaP (n:=n) HV.out;have h2:=HN.out;omega);obtain⟨hs1,J⟩: ∃l,hs.set k (n:Int)=l:=⟨_,rfl⟩;have Z:=qh J;rw[J]at p H I;clear J
  go_upto_region 8 with(fail)
  clear f3 f4 t1 t2 f5
  by_cases K:d=15
  ·subst K
   obtain⟨j,rfl⟩: ∃j:Nat,x=j:=⟨x.toNat,by have:=hx (by decide);omega⟩;have WC:=qh (IH.out hs1 j m w3 I.out p.out H.out (by have:=g.out j (by simp[U1]);rw[Y.out]at this;exact this));clear IH g hx
   go_wp2_with fail
   refine WC.out.mono ?_;rintro e w4 ⟨rfl,t,Xr,A,D,E,L⟩;have b4:=qh ((t.block bo (I5 q.out) (by simpa using xz q.out p.out.row (by decide))).trans q.out);have b5:=qh A;have d9:=qh D;have b6:=qh E;have b7:=qh L;have b8:=qh (I4 X.out t);clear WC t A D E L d0 d1 g0;have d0:=x6 b4.out 0
   go_wp2_with fail
   go_end0;exact⟨rfl,b8.out,Xr,b5.out,d9.out,Hxt.zfw HC.out HV.out (by rw[Z.out];exact b6.out) (λi U=>by
    obtain rfl:i=j:=by simpa[U1]using U
    exact b7.out)⟩
  by_cases a0:d=16
  ·subst a0
   obtain⟨j,rfl⟩: ∃j:Nat,x=j:=⟨x.toNat,by have:=hx (by decide);omega⟩;have WC:=qh (IH.out hs1 j m w3 I.out p.out H.out (by have:=g.out j (by simp[U1]);rw[Y.out]at this;exact this));clear hx
   go_wp2_with fail
   refine WC.out.mono ?_;rintro e w4 ⟨rfl,t,Xr,A,D,E,L⟩;have b4:=qh ((t.block bo (I5 q.out) (by simpa using xz q.out p.out.row (by decide))).trans q.out);have b5:=qh A;have d9:=qh D;have b6:=qh E;have b7:=qh L;have b8:=qh (I4 X.out t);have u:=qh (IH.out Xr (k+1) m w4 (by have:=I.out;have:=E.cnt;omega) A D (by have:=g.out (k+1) (by simp[U1]);rw[Y.out]at this;exact this));clear WC t A D E L d0 d1 g0 IH g;have d0:=x6 b4.out 0;have g0:=x6 b5.out.wk 0;have M:((k+1:Nat):Int)=(k:Int)+1:=by omega
   rw[M]at u;clear M
   go_wp2_with fail
   refine u.out.mono ?_;rintro e w5 ⟨rfl,O,hs3,Q,R,S,T⟩;have b9:=qh Q;have c0:=qh R;have a1:=qh S;have c1:=qh T;have c3:=qh (I4 b8.out O);clear u O Q R S T d0 g0
   go_wp2_with fail
   go_end0;exact⟨rfl,c3.out,hs3,b9.out,c0.out,Hxt.zfw HC.out HV.out (by rw[Z.out];exact b6.out.trans a1.out) (λi U=>by
    have U:i=k+1\/i=j:=by simpa[U1]using U
    rcases U with rfl|rfl
    ·exact c1.out
    ·exact a1.out.mk' b7.out)⟩
  by_cases a2:d=18
  ·subst a2
   clear IH g hx
   go_wp2_with fail
   go_end0;exact⟨rfl,X.out,hs1,p.out,H.out,Hxt.zfw HC.out HV.out (by rw[Z.out];exact .refl) (λi U=>by simp[U1]at U)⟩
  ·have f8:(d==15)=false:=by simpa using K
   have f9:(d==16)=false:=by simpa using a0
   have g1:(d !=15)=true:=by simpa using K
   have g3:(d !=18)=true:=by simpa using a2
   have e0:Hid (U1 k (d,x)=[k+1]):=qh (by simp[U1,K,a0,a2]);have u:=qh (IH.out hs1 (k+1) m w3 I.out p.out H.out (by have:=g.out (k+1) (by rw[e0.out];simp);rw[Y.out]at this;exact this));have M:((k+1:Nat):Int)=(k:Int)+1:=by omega
   rw[M]at u;clear M IH g hx K a0 a2
   go_wp2_with fail
   refine u.out.mono ?_;rintro e w5 ⟨rfl,O,hs3,Q,R,S,T⟩;have b9:=qh Q;have c0:=qh R;have a1:=qh S;have c1:=qh T;have c3:=qh (I4 X.out O);clear u O Q R S T d0 g0
   go_wp2_with fail
   go_end0;exact⟨rfl,c3.out,hs3,b9.out,c0.out,Hxt.zfw HC.out HV.out (by rw[Z.out];exact a1.out) (λi U=>by
    rw[e0.out]at U;obtain rfl:=List.mem_singleton.1 U;exact c1.out)⟩
end
def JX(w:World)(v:Value)(hs:List Int):Prop:= ∃g c,v=.slice (some ⟨g,0,none⟩) hs.length c/\hs.length<=c/\w.heap[g]?=some (.cells (zea hs) 3 (0,0))
def JX.K7{w w' v hs}(h:JX w v hs)(b:Below w.heap.size w w'):JX w' v hs:=by
 obtain⟨g,c,d,e,a⟩:=h;exact⟨g,c,d,e,(b.block g (I5 a)).trans a⟩
def zh3(n:Nat):Y1 n n=zea (List.replicate n (-1)):=by simp[Y1,zea]
def zjc{n j:Nat}: ¬Mkd (List.replicate n (-1)) j:=by
 rintro⟨v,a,b⟩;rw[List.getElem?_replicate]at a
 split at a
 ·injection a with a;exact b a.symm
 ·cases a
def zf1(P:List Pf)(Af)(cf:Nat)(m:Int)(f:Pf)(Ao)(co:Nat)(C:qm)(w)(hC:f.ops=C.map Prod.fst)(J:qq (P.map Pf.params) f.vars C 0 C.length)(O:yy C 0 0)(h4:C.length<=4000)(a0: ∀x∈P.map Pf.params,x<=6)(hF:zF w (.slice Af P.length cf) P)(hO:jz w (.slice Ao f.ops.length co) f.ops):
 Calls prog 147 #[.agg #[.slice Af P.length cf,.int .i64 m],.agg #[.int .i64 f.params,.int .i64 f.vars,.slice Ao f.ops.length co]] w λe w'=>
  Below w.heap.size w w'/\ ∃v hs,e=.returned (.tuple #[v,.int .i64 0])/\zhd C hs/\JX w' v hs:=by
 have a1:f.ops.length=C.length:=by rw[hC,C6]
 have h1:1<=f.ops.length:=by
  obtain⟨o,ho⟩:=O;have:=(List.getElem?_eq_some_iff.1 ho).1;omega
 have b0:f.ops.length<=4000:=by omega
 have b1:=(x8 w.heap.size w).alloc (x7 _) (.cells #[.slice Af P.length cf,.int .i64 m] 55);have b2:=b1.alloc b1.size (.cells #[.int .i64 f.params,.int .i64 f.vars,.slice Ao f.ops.length co] 66);have b3:=b2.alloc b2.size (.cells #[jF] 3);have i:=qh (heap_alloc2_old w (.cells #[.slice Af P.length cf,.int .i64 m] 55) (.cells #[.int .i64 f.params,.int .i64 f.vars,.slice Ao f.ops.length co] 66));have c:=qh (heap_alloc2_new w (.cells #[.slice Af P.length cf,.int .i64 m] 55) (.cells #[.int .i64 f.params,.int .i64 f.vars,.slice Ao f.ops.length co] 66));have HF:=qh hF;have HO:=qh hO;have HC:=qh hC;have HB:=qh J;have b4:=qh O;have HP:=qh a0;have a2:=qh a1;have q:=qh b2;clear hF hO hC J O a0 a1 b1 b2 b3
 go_enter func147,ntmps147
 go_upto_region 1 with(fail)
 generalize World.alloc _ _=Q at i c q|-;obtain⟨K,R⟩: ∃b,w.heap.size+1=b:=⟨_,rfl⟩;rw[R]at c;simp only[R];clear R;obtain⟨S,E⟩: ∃b,w.heap.size=b:=⟨_,rfl⟩;have b8:=qh E;rw[E]at i;simp only[E];clear E;have f2:=x6 c.out 2;have L:=(x8 Q.heap.size Q).alloc (x7 _) (.cells #[jF] 3);have RC:=qh (znz Q.heap.size 1 f.ops.length (Q.alloc (.cells #[jF] 3)) h1 b0 (A5 Q _));have a:=qh L;clear L;have r:=I5 c.out;have b5:=(a.out.cell (p:=⟨K,2,none⟩) r).trans f2
 go_wp2_with fail
 refine RC.out.mono ?_;rintro e w2 ⟨rfl,n,a3⟩;rw[zh3]at n;have F:=a.out.trans (a3.mono a.out.size);have d:=qh ((F.block S (I5 i.out)).trans i.out);have g:=qh ((F.block K r).trans c.out);have a4:=qh (q.out.trans (F.mono q.out.size));have T:w.heap.size<=(Q.alloc (.cells #[jF] 3)).heap.size:=C1 q.out.size a.out.size;generalize(Q.alloc (.cells #[jF] 3)).heap.size=M at n T|-;have G:=qh T;have s:=I5 g.out;have t:=I5 n;have u:=I5 d.out;have a5:=qh n;clear f2 b5 RC a r a3 F T i c q n;have L:=(x8 w2.heap.size w2).alloc (x7 _) (.cells #[.slice (some ⟨M,0,none⟩) f.ops.length f.ops.length] 29);have y:=qh (A5 w2 (.cells #[.slice (some ⟨M,0,none⟩) f.ops.length f.ops.length] 29));have a:=qh L;clear L
 go_upto_region 2 with(fail)
 generalize World.alloc _ _=w3 at y a|-;generalize w2.heap.size=bh at y a s t u|-;have i:=qh ((a.out.block S u).trans d.out);have c:=qh ((a.out.block K s).trans g.out);have z:=qh ((a.out.block M t).trans a5.out);have a6:Hid (Below w.heap.size w w3):=qh (a4.out.trans (a.out.mono (by have:=G.out;omega)));clear d g a5 a a4 s t u;have f2:=x6 c.out 2;have e0:((f.ops.length:Int)==0)=false:=beq_eq_false_iff_ne.2 (by omega);have L:=(x8 w3.heap.size w3).alloc (x7 _) (.cells #[.bool false] 4);have A:=qh (A5 w3 (.cells #[.bool false] 4));have a:=qh L;clear L;have U:=I5 i.out;have V:=I5 c.out;have W:=I5 y.out;have X:=I5 z.out
 go_upto_region 3 with(fail)
 clear f2;generalize World.alloc _ _=Y at A a|-;generalize w3.heap.size=bb at A a U V W X|-;have d:=qh ((a.out.block S U).trans i.out);have g:=qh ((a.out.block K V).trans c.out);have B:=qh ((a.out.block bh W).trans y.out);have D:=qh ((a.out.block M X).trans z.out);have a7:Hid (Below w.heap.size w Y):=qh (a6.out.trans (a.out.mono (by have:=G.out;omega)));clear i c y z a a6 U V W X;have H:=qh (A5 Y (.cells #[.func (.func 194) #[] #[.pointer (some ⟨bb,0,none⟩),.pointer (some ⟨K,0,none⟩),.pointer (some ⟨bh,0,none⟩),.pointer (some ⟨S,0,none⟩),.pointer (some ⟨Y.heap.size,0,none⟩)]] 274));have l:=qh ((x8 Y.heap.size Y).alloc (x7 _) (.cells #[.func (.func 194) #[] #[.pointer (some ⟨bb,0,none⟩),.pointer (some ⟨K,0,none⟩),.pointer (some ⟨bh,0,none⟩),.pointer (some ⟨S,0,none⟩),.pointer (some ⟨Y.heap.size,0,none⟩)]] 274));have s0:=I5 A.out;have U:=I5 d.out;have V:=I5 g.out;have W:=I5 B.out;have X:=I5 D.out
 go_upto_region 5 with(fail)
 generalize World.alloc _ _=w5 at H l|-;generalize Y.heap.size=bw at H l s0 U V W X|-;have I:Hid (Below w.heap.size w w5):=qh (a7.out.trans (l.out.mono (by have:=G.out;omega)));have HS:Hid (HtS w5 ⟨bb,K,bh,S,bw,M⟩ P Af cf m f Ao co (List.replicate f.ops.length (-1))):=qh ⟨(l.out.block bb s0).trans A.out,(l.out.block K V).trans g.out,(l.out.block bh W).trans B.out,(l.out.block S U).trans d.out,H.out,(l.out.block M X).trans D.out,HF.out.K7 (.of I.out),HO.out.K7 (.of I.out)⟩;have WK:=qh (zmO HC.out HB.out h4 HP.out ((List.replicate f.ops.length (-1)).count (-1)+1) (List.replicate f.ops.length (-1)) 0 0 w5 (Nat.lt_succ_self _) HS.out ⟨by rw[List.length_replicate];exact a2.out,λk v N=>.inl (by
  rw[List.getElem?_replicate]at N
  split at N
  ·injection N with N;exact N.symm
  ·cases N)⟩ b4.out)
 clear s0 U V W X H l A d g B D a7 e0;have c0:=x6 HS.out.J9 0;have c1:=x6 HS.out.wk 0
 go_wp2_with fail
 refine WK.out.mono ?_;rintro e w6 ⟨rfl,hg,hs,hS,hO,hE,hM⟩;have Z:=qh hS;have b6:Hid (Below w.heap.size w w6):=qh (I.out.trans ⟨hg.os,hg.tape,hg.output,hg.size,λk N=>hg.block k (A7 N I.out.size) (by have:=G.out;simp;omega)⟩);have b7:Hid (zhd C hs):=qh ⟨hO,hM,λj o h hc hm=>hE.new j o h hc zjc hm⟩;have a8:hs.length=f.ops.length:=by rw[hO.1,a2.out]
 have a9:=qh a8;clear hg hS hO hE hM a8 c0 c1 WK;have c0:=x6 Z.out.J9 0;have c1:=x6 Z.out.hv 0
 go_wp2_with fail
 go_ret2;exact⟨b6.out,.slice (some ⟨M,0,none⟩) f.ops.length f.ops.length,hs,rfl,b7.out,M,f.ops.length,by rw[a9.out],by rw[a9.out];exact x7 _,Z.out.row⟩
end Go.Proofs.YtmngofgminlloaaGreatDoor
namespace Go.Proofs.YtmngofgminlloaaGreatDoor
open Go.RowKit Tw
inductive zdQ(C:qm):Nat->Prop
 |start:zdQ C 0
 |L9 {k j h:Nat} {o:zv}:zdQ C k->C[k]?=some (o,h)->j∈U1 k o->zdQ C j
structure Fr where
 fn:Nat
 pc:Nat
 vars:List Int
 zbg:List Int
def tr(b:Bool):Int:=if b then 1 else 0
def zn2(P:List Cf)(f:Fr):Option (zv×Nat):=(P[f.fn]?).bind (λc=>c.S0[f.pc]?)
def zeQ(P:List Cf)(f:Fr):Prop:= ∃c o,P[f.fn]?=some c/\c.S0[f.pc]?=some (o,f.zbg.length)/\zdQ c.S0 f.pc/\f.vars.length=c.vars
def zkU(P:List Cf)(f:Fr)(callee:Nat):Prop:= ∃c a,P[f.fn]?=some c/\P[callee]?=some a/\c.S0[f.pc]?=some ((17,(callee:Int)),f.zbg.length+a.params)/\zdQ c.S0 f.pc/\f.vars.length=c.vars
def ZD(P:List Cf):Nat->List Fr->Nat->Prop
 |want,[],a=>want=a
 |want,f::l,a=>f.fn=want/\ ∃callee,zkU P f callee/\ZD P callee l a
theorem ZD.xn{P}: ∀{l}{w w':Nat}{f},ZD P w (l++[f]) w'↔ZD P w l f.fn/\zkU P f w'
 |[],w,w',f=>by
  simp only[C0,ZD];constructor
  ·rintro⟨a,c,b,rfl⟩;exact⟨a.symm,b⟩
  ·rintro⟨a,b⟩;exact⟨a.symm,_,b,rfl⟩
 |g::l,w,w',f=>by
  simp only[B6,ZD];constructor
  ·rintro⟨a,c,b,h⟩;obtain⟨d,e⟩:=ZD.xn.1 h;exact⟨⟨a,c,b,d⟩,e⟩
  ·rintro⟨⟨a,c,b,d⟩,e⟩;exact⟨a,c,b,ZD.xn.2 ⟨d,e⟩⟩
structure zlN(P:List Cf)(yA:Nat):Prop where
 xL: ∀c∈P,znP (P.map (·.params)) c
 yA: ∃c,P[yA]?=some c/\c.params=0
section
variable {P:List Cf}{yA:Nat}
theorem zeQ.L9{f}(g:zlN P yA)(h:zeQ P f): ∃c o,P[f.fn]?=some c/\zn2 P f=some (o,f.zbg.length)/\zeL (P.map (·.params)) c.vars c.S0 f.pc o f.zbg.length/\zdQ c.S0 f.pc/\f.vars.length=c.vars/\c.S0[f.pc]?=some (o,f.zbg.length):=by
 obtain⟨c,o,d,a,i,j⟩:=h;have k:=g.xL c (B7 d);have e:f.pc<c.S0.length:=by rcases E0 f.pc c.S0.length with h|h;exact h;rw[C5 h]at a;cases a
 obtain⟨p,q,b,l⟩:=k.P6 f.pc (D0 _) e;rw[a]at b;injection b with b
 injection b with m n
 subst m n;exact⟨c,o,d,by unfold zn2;rw[d];exact a,l,i,j,a⟩
theorem zeQ.next{f g:Fr}{c o}{h:Nat}(b:P[f.fn]?=some c)(d:c.S0[f.pc]?=some (o,h))(e:zdQ c.S0 f.pc)(hs:zeL (P.map (·.params)) c.vars c.S0 f.pc o h)(i:g.vars.length=c.vars)(j:g.fn=f.fn)(a:g.pc∈U1 f.pc o)(k:g.zbg.length=h-M8 (P.map (·.params)) o+Q0 o):zeQ P g:=by
 obtain⟨l,m⟩:=hs.2.2.2 g.pc a;exact⟨c,l,by rw[j];exact b,by rw[k];exact m,.L9 e d a,i⟩
end
end Go.Proofs.YtmngofgminlloaaGreatDoor
