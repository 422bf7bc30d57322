/- Merged. -/
import Derived.Test.YtmngofgminlloaaGreatDoorCT26
set_option linter.all false
set_option maxHeartbeats 16000000
set_option maxRecDepth 100000
namespace Go.Proofs.YtmngofgminlloaaGreatDoor
open Go.Proofs.Tryz
open Go.RowKit Tw
section
open Go.Maps
def zlb(w:World)(a:Nat)(U:Value)(out:Int)(r:X1 (Nat×Bool))(e:Ending)(w':World):Prop:=
 w.grownBy w' (some a)/\match r with
 |.ok (m,b)=>e=.returned (.bool b)/\ZN w' a U out m none
 |.J9 p q=> ∃b m,e=.returned (.bool b)/\ZN w' a U out m (some (p,q))
theorem Zk.two{w0 w w'}{e b:Nat}{l}{n:Nat}{us}{out:Int}{f a:Nat}{q i env d}{F:Nat->Prop}(h:Zk w0 w e b l n us out f q env F)(hs:ZN w' e (.slice l us.length n) out a i)(r:Z6 w' b d)(c:JJ w w' e b)(t:e<w0.heap.size)(x:w0.heap.size<=b)(y:w0.heap.size<=w.heap.size)(u: ∀g,F g->g<w0.heap.size):Zk w0 w' e b l n us out a i d F:=
 ⟨hs,r,h.xL.K7 (λg o p=>⟨o,A7 p c.size,c.block g p (h.fc g o) (by have:=u g o;omega)⟩),
  ⟨c.os.trans h.gr.os,c.tape.trans h.gr.tape,c.output.trans h.gr.output,C1 h.gr.size c.size,λk v j=>(c.block k (by omega) (by simpa using j) (by omega)).trans (h.gr.block k v j)⟩,
  h.gl.Z3 c.size (λg z=>c.block g (by have:=h.Zh.lt;have:=h.Zh.xM;omega) (by have:=h.Zh.xM;omega) (by have:=h.Zh.xM;have:=h.gr.size;have A:=h.Zh.lt;omega)),h.bc,h.fc⟩
theorem zcC: ∀l(left:Nat),O0 l left=0-> ∀s∈l,xK s left=0:=by
 intro l
 induction l with
 |nil=>intro left _ s a;cases a
 |cons b l d=>
  intro left h s a;rw[O0]at h
  split at h
  ·rename_i c
   rcases List.mem_cons.1 a with rfl|a
   ·exact c
   ·exact d left h s a
  ·rename_i c;exact H9 h c
theorem zaM{s}{left:Nat}(h:xK s left=0):1<=left/\(1<=s.I9/\s.I9<=7)/\zK s.a (left-1)=0/\(s.I9=3\/s.I9=4->O0 s.J0 (left-1)=0)/\(s.I9=3->O0 s.M9 (left-1)=0):=by
 cases s with|mk k i a J0 M9 p=>
 simp only[Sm.I9,Sm.a,Sm.J0,Sm.M9];rw[xK]at h
 by_cases f:left=0
 ·rw[C8 f]at h;cases h
 rw[B5 f]at h
 by_cases g:k<1\/7<k\/(k<=2/\R2 i=false)
 ·rw[C8 g]at h;cases h
 rw[B5 g]at h
 by_cases b:zK a (left-1)=0
 ·rw[B5 (λe=>e b)]at h
  by_cases c:(k=3\/k=4)/\O0 J0 (left-1)≠0
  ·rw[C8 c]at h;exact H9 h c.2
  ·rw[B5 c]at h
   refine⟨by omega,by omega,b,λd=>?_,λd=>?_⟩
   ·by_cases e:O0 J0 (left-1)=0
    ·exact e
    ·exact H9 ⟨d,e⟩ c
   ·rw[C8 d]at h;exact h
 ·rw[C8 b]at h;exact H9 h b
def zfa(left:Nat):Prop:=
 ∀(l:List Sm)(A:Option Addr)(c:Nat)(F:Nat->Prop)(w:World)(d b:Nat)(e:Option Addr)(g:Nat)(us:List Fn)(out:Int)(a:Nat)(env:P1),O0 l left=0->(∀s∈l,SmZ s)->l.length<=281474976710656->(∀f∈us,FnZ f)->us.length<=281474976710656->zdi us->qB us->(out=1\/out=2)->U7 env->env.length<=a->a<=64->
  Zk w w d b e g us out a none env F->K9 w F (.slice A l.length c) l->
  Calls prog 67 #[.pointer (some ⟨d,0,none⟩),.slice A l.length c,.map (some b)] w (zlb w d (.slice e us.length g) out (zS us out l env a))
def zn1:Prop:=
 ∀(l:List Sm)(A:Option Addr)(c:Nat)(F:Nat->Prop)(w:World)(d b:Nat)(U:Value)(out:Int)(a:Nat)(env:P1)(q:Int×Int),l.length<=281474976710656->env.length<=1000->ZN w d U out a (some q)->Z6 w b env->(∀g,F g->g≠d)->K9 w F (.slice A l.length c) l->
  Calls prog 67 #[.pointer (some ⟨d,0,none⟩),.slice A l.length c,.map (some b)] w λe f=>(∃r,e=.returned (.bool r))/\ZN f d U out a (some q)/\w.grownBy f (some d)
theorem Zk.re{w0 w w'}{i b:Nat}{j}{k:Nat}{us}{out:Int}{c a:Nat}{o d env}{F:Nat->Prop}(h:Zk w0 w i b j k us out c o env F)(hs:ZN w' i (.slice j us.length k) out a d)(f:w.grownBy w' (some i)):Zk w0 w' i b j k us out a d env F:=
 ⟨hs,h.yd.kept f (by have:=h.bc;simpa using λe=>this e.symm),h.xL.K7 (λg l n=>⟨l,A7 n f.size,f.block g n (by have:=h.fc g l;simpa using this)⟩),I4 h.gr f,h.gl.of f h.Zh.xM,h.bc,h.fc⟩
theorem Zk.ziD{w0 w c}{d b:Nat}{j}{k:Nat}{us}{out:Int}{a:Nat}{n env}{F:Nat->Prop}{v l}(h:Zk w0 w d b j k us out a n env F)(e:c.grownBy w (some d))(o:K9 c F v l):K9 w F v l:=
 o.K7 (λg f i=>⟨f,A7 i e.size,e.block g i (by have:=h.fc g f;simpa using this)⟩)
theorem ZN.clear{w}{b:Nat}{U}{out:Int}{a:Nat}{F}(h:ZN w b U out a F):ZN ((w.setCell ⟨b,4,none⟩ (.int .i64 0)).setCell ⟨b,3,none⟩ (.int .i64 0)) b U out a none:=by
 refine⟨?_,(λ_ h=>by cases h),h.xM⟩;have c:=A6 w b 4 _ _ (.int .i64 0) h.P6;simpa[Y6.p,Y6.e]using A6 (w.setCell ⟨b,4,none⟩ (.int .i64 0)) b 3 _ _ (.int .i64 0) c
section
variable {us:List Fn}{out:Int}{s:Sm}{env:P1}{m:Nat}
theorem znT(h:s.I9=2/\L5 env s.J2=0):zC us out s env m=.J9 s.pos 16:=by
 cases s with|mk k b a J0 M9 p=>simp only[Sm.I9,Sm.J2]at h;rw[zC,C8 h];rfl
theorem zlk{q e:Int}(h: ¬(s.I9=2/\L5 env s.J2=0))(b:O2 us env s.a=.J9 q e):zC us out s env m=.J9 q e:=by
 cases s with|mk k c a J0 M9 p=>simp only[Sm.I9,Sm.J2,Sm.a]at h b;rw[zC,B5 h,b]
theorem znS{t:Int}(h: ¬(s.I9=2/\L5 env s.J2=0))(j:O2 us env s.a=.ok t)(c:0<ju true true true true true out (L5 env s.J2) s.I9)(b:t≠ju true true true true true out (L5 env s.J2) s.I9):zC us out s env m=.J9 s.a.pos 8:=by
 cases s with|mk k l a J0 M9 p=>
 simp only[Sm.I9,Sm.J2,Sm.a]at*;rw[zC,B5 h,j];simp only[ju,if_true]at c b
 by_cases d:k=3
 ·subst d;simp at b;simp[b]
 rw[B5 d]at c b
 by_cases e:k=4
 ·subst e;simp at b;simp[b]
 rw[B5 e]at c b
 by_cases f:k=5
 ·subst f;simp at b;simp[b]
 rw[B5 f]at c b
 by_cases g:k=6
 ·subst g;simp at b;simp[b]
 rw[B5 g]at c b
 by_cases i:k=2
 ·subst i;simp at b;simp[b]
 rw[B5 i]at c;omega
theorem znN{t:Int}(h: ¬(s.I9=2/\L5 env s.J2=0))(i:O2 us env s.a=.ok t)(b:0<ju true true true true true out (L5 env s.J2) s.I9->t=ju true true true true true out (L5 env s.J2) s.I9)(c:0<out)(f:0<=L5 env s.J2):
 (s.I9=1->zC us out s env m=match Y4 env m s.pos s.J2 t with|.ok (e,n)=>.ok (e,n,false)|.J9 q e=>.J9 q e)/\(s.I9=2->zC us out s env m=.ok (env,m,false))/\
 (s.I9=3->zC us out s env m=match zS us out s.J0 env m with|.J9 q e=>.J9 q e|.ok (d,r1)=>match zS us out s.M9 env d with|.J9 q e=>.J9 q e|.ok (j,l)=>.ok (env,j,r1&&l))/\
 (s.I9=4->zC us out s env m=match zS us out s.J0 env m with|.J9 q e=>.J9 q e|.ok (d,_)=>.ok (env,d,false))/\
 (s.I9=5->zC us out s env m=.ok (env,m,true))/\(s.I9=6->zC us out s env m=.ok (env,m,false))/\(s.I9=7->zC us out s env m=.ok (env,m,false)):=by
 cases s with|mk k g a J0 M9 p=>
 simp only[Sm.I9,Sm.J2,Sm.a,Sm.J0,Sm.M9,Sm.pos]at*;refine⟨?_,?_,?_,?_,?_,?_,?_⟩<;>intro o<;>subst o<;>rw[zC,B5 h,i]<;>simp only[ju,if_true]at b
 ·simp
  cases Y4 env m p g t<;>rfl
 ·have u:L5 env g≠0:=λe=>h ⟨rfl,e⟩
  simp at b;simp[b (by omega)]
 ·simp at b;simp[b]
  cases zS us out J0 env m with
  |J9 q e=>rfl
  |ok z=>obtain⟨r,v⟩:=z;simp only;cases zS us out M9 env r<;>rfl
 ·simp at b;simp[b]
  cases zS us out J0 env m<;>rfl
 ·simp at b;simp[b c]
 ·simp at b;simp[b]
 ·simp
end
theorem zfN{w e f:World}{d b:Nat}(h:w.grownBy e (some d))(a:JJ e f d b)(i:w.heap.size<=b):w.grownBy f (some d):=
 ⟨a.os.trans h.os,a.tape.trans h.tape,a.output.trans h.output,C1 h.size a.size,λk g c=>(a.block k (A7 g h.size) (by simpa using c) (by omega)).trans (h.block k g c)⟩
theorem yP{us:List Fn}{out:Int}{l:List Sm}{j:Nat}{s:Sm}{env a b:P1}{m c d:Nat}{r e:Bool}(hs:l[j]?=some s)(h:X6 us out (l.take j) env m false=.ok (a,c,r))(f:zC us out s a c=.ok (b,d,e)):X6 us out (l.take (j+1)) env m false=.ok (b,d,r||e):=by
 rw[P0 hs,yn,h];simp only[f]
theorem zkN:zn1:=by
 intro l A c F w k b U out B env q C r h o D E;have G:=qh (o.ziG r);have L:=qh h;have M:=qh E;have N:=qh D;have t:=h.lt;clear h o E D
 go_enter func67,ntmps67
 go_wp2_with fail
 refine G.out.mono ?_;rintro e p ⟨rfl,-,d⟩;have H:=qh (I7 d (some k));have f:=qh (L.out.kept (d.block k t));have v:=qh (M.out.K7 (F':=F) (w':=p) (λg I J=>⟨I,A7 J d.size,d.block g J⟩));clear d G
 by_cases O:0<l.length
 ·obtain⟨s,o⟩: ∃s,l[0]?=some s:=⟨_,x9 O⟩
  obtain⟨g,x,P,Q,R,y,S,T,rfl,V,hg,-,-,-,j⟩:=v.out.at 0 s o;have W:p.cell? ⟨g,x+0*10,none⟩=_:=j 0 _ rfl;have X:=j 1 _ rfl;have Y:=j 2 _ rfl;have Z:=j 3 _ rfl;have b4:=j 4 _ rfl;have b5:=j 5 _ rfl;have b6:=j 6 _ rfl;have b7:=j 7 _ rfl;have b8:=j 8 _ rfl;have b9:=j 9 _ rfl;simp only[Nat.zero_mul,Nat.add_zero]at W X Y Z b4 b5 b6 b7 b8 b9;have k1:(0:Int)<(l.length:Int):=by omega
  obtain⟨-,-,-,-,c4⟩:=f.out.cells;have hq:(q.2 !=0)=true:=by simpa using f.out.ne q rfl
  have z:k<p.heap.size:=f.out.lt;simp only[Y6.e]at c4;clear j o
  go_wp2_with fail
  go_loopw[8,19] (λu i wr=>u=.bool false/\i=.int .i64 0/\wr=p) (λ_ i _=>0)
  case atStart=>exact⟨rfl,rfl,rfl⟩
  case round=>
   obtain⟨rfl,rfl,rfl⟩:=hrel
   go_wp2_with fail
   go_ret;have K:=(x8 wr.heap.size wr).alloc (x7 _) (.cells #[.int .i64 s.I9,.string s.J2,.int .i64 s.a.I9,.int .i64 s.a.n,.string s.a.K0,.slice P s.a.args.length Q,.int .i64 s.a.pos,.slice R s.J0.length y,.slice S s.M9.length T,.int .i64 s.pos] 188);exact⟨⟨true,rfl⟩,f.out.kept (K.block k z),I4 H.out (I7 K (some k))⟩
 ·have I:l.length=0:=by omega
  go_wp2_with fail
  go_loopw[8,19] (λu i wr=>u=.bool false/\i=.int .i64 0/\wr=p) (λ_ i _=>0)
  case atStart=>exact⟨rfl,rfl,rfl⟩
  case round=>
   obtain⟨rfl,rfl,rfl⟩:=hrel;have k1:(l.length:Int)<=0:=by omega
   go_wp2_with fail
   go_ret;exact⟨⟨false,rfl⟩,f.out,H.out⟩
theorem zcw(left:Nat)(ih:1<=left->zfa (left-1)):zfa left:=by
 intro l A c F w cb b Au cu us out I env k3 hZ u9 k4 k5 k6 hO d4 hE p9 hm h hA;have HS:=qh (h.yd.ziG (by omega));have f5:=qh h;have HA:=qh (hA.K7 (F':=λg=>F g/\g<w.heap.size) (w':=w) (λg V h2=>⟨⟨V,h2⟩,h2,rfl⟩));have q0:=qh k3;have HZ:=qh hZ;have h6:=qh k4;have h7:=qh k5;have h8:=qh k6;have HO:=qh hO;have HE:=qh hE;have IH:=qh ih;have k7:=h.Zh.lt;have v1:=h.Zh.xM;have q1:=h.fc;clear h hA k3 hZ k4 k5 k6 hO hE ih
 go_enter func67,ntmps67
 go_wp2_with fail
 refine HS.out.mono ?_;rintro e w1 ⟨rfl,k8,d5⟩;have i6:Hid (Zk w w1 cb w.heap.size Au cu us out I none env (λg=>F g/\g<w.heap.size)):=qh ⟨f5.out.Zh.kept (d5.block cb k7),k8,f5.out.xL.K7 (λg V h2=>⟨⟨V,h2⟩,A7 h2 d5.size,d5.block g h2⟩),I7 d5 _,f5.out.gl.to d5,by omega,λg J=>f5.out.fc g J.1⟩;obtain⟨bm,i7⟩: ∃n,w.heap.size=n:=⟨_,rfl⟩;have i8:=qh i7;rw[i7]at i6 HA|-;clear k8 d5 HS f5 i7;have v2:cb<bm:=by have:=i8.out;omega
 go_wp2_with fail
 go_loopw[8,19] (λu i wr=> ∃(j:Nat)(r:Bool),j<=l.length/\i=.int .i64 j/\u=.bool r/\((∃(f:P1)(m:Nat),Hid (X6 us out (l.take j) env I false=.ok (f,m,r))/\Hid (Zk w wr cb bm Au cu us out m none f (λg=>F g/\g<bm)))\/
  (∃(p q:Int)(m:Nat),Hid (zS us out l env I=.J9 p q)/\Hid (ZN wr cb (.slice Au us.length cu) out m (some (p,q)))/\Hid (w.grownBy wr (some cb))))) (λ_ i _=>l.length-(intOf i).toNat)
 case atStart=>exact⟨0,false,D0 _,rfl,rfl,.inl ⟨env,I,qh rfl,i6⟩⟩
 case round=>
  obtain⟨j,r,hj,rfl,rfl,f6⟩:=hrel;clear i6
  by_cases i9:j<l.length
  ·obtain⟨s,hs⟩: ∃s,l[j]?=some s:=⟨_,x9 i9⟩
   obtain⟨g,k9,Aa,ca,Ab,f8,Ae,ce,rfl,q2,J,l0,l1,l2,U⟩:=HA.out.at j s hs;have C:g≠cb:=q1 g q2.1;have k0:(0:Int)<=(j:Int):=by omega
   have k1:(j:Int)<(l.length:Int):=by omega
   rcases f6 with⟨f,m,HR,HF⟩|⟨p,q,m,HB,HC,HG⟩
   ·have X:=HF.out.gr
    have b0:=N9 (o:=k9+j*10) X J C (U 0 _ rfl);have b1:=N9 X J C (U 1 _ rfl);have b2:=N9 X J C (U 2 _ rfl);have b3:=N9 X J C (U 3 _ rfl);have b4:=N9 X J C (U 4 _ rfl);have b5:=N9 X J C (U 5 _ rfl);have b6:=N9 X J C (U 6 _ rfl);have b7:=N9 X J C (U 7 _ rfl);have b8:=N9 X J C (U 8 _ rfl);have b9:=N9 X J C (U 9 _ rfl);have w8:g<w.heap.size:=J;obtain⟨j0,v7,l3,l4,l5⟩:=zaM (zcC _ _ q0.out s (B7 hs));have M:=qh hs;have q3:=qh l0;have l6:=qh l1;have l7:=qh l2;have q4:=qh l3;have l8:=qh l4;have q5:=qh l5;have Y:=qh (HZ.out s (B7 hs));have a5:=qh (zcz HO.out _ HE.out HR.out);have j1:=zbC _ HR.out;have i2:m<=64:=j1.2.1 hm;have i3:f.length<=m:=j1.2.2 p9;clear hs l0 l1 l2 l3 l4 l5 j1 U
    go_upto_region 6 with(fail)
    clear b0 b1 b2 b3 b4 b5 b6 b7 b8 b9;have hb:=(x8 wr.heap.size wr).alloc (x7 _) (.cells #[.int .i64 s.I9,.string s.J2,.int .i64 s.a.I9,.int .i64 s.a.n,.string s.a.K0,.slice Aa s.a.args.length ca,.int .i64 s.a.pos,.slice Ab s.J0.length f8,.slice Ae s.M9.length ce,.int .i64 s.pos] 188);have a9:=qh (HF.out.below hb);have d6:=qh (A5 wr (.cells #[.int .i64 s.I9,.string s.J2,.int .i64 s.a.I9,.int .i64 s.a.n,.string s.a.K0,.slice Aa s.a.args.length ca,.int .i64 s.a.pos,.slice Ab s.J0.length f8,.slice Ae s.M9.length ce,.int .i64 s.pos] 188));have l9:=HF.out.Zh.lt;clear hb X HF;generalize wr.alloc _=wa at a9 d6|-;have j2:=I5 d6.out;have h9:cb≠wr.heap.size:=by omega
    generalize wr.heap.size=bx at d6 j2 h9 l9|-;obtain⟨⟨z0,z1,z2,z3,z4,z5,z6,z7,z8,z9⟩,-⟩:=J5 d6.out;obtain⟨c0,c1,c2,c3,c4⟩:=a9.out.Zh.cells;simp only[Y6.e,Y6.p]at c3 c4
    go_wp2_with fail
    refine(zhi (left-1) s.a Aa ca _ w wa cb bm Au cu us out m none f q4.out Y.out.Z1.2.1 h6.out h7.out h8.out a9.out (a9.out.zdp a9.out.gr q3.out)).mono ?_;rintro e w2 ⟨t,rfl,hT,H,j3⟩;have c5:=qh (a9.out.L9 H j3);have f9:=qh ((j3.block _ j2 (by simpa using λe=>h9 e.symm)).trans d6.out);have HT:=qh (hT rfl);have Xr:=I5 f9.out;clear z0 z1 z2 z3 z4 z5 z6 z7 z8 z9 c0 c1 c2 c3 c4 hT H j3 j2 a9 d6
    go_upto_region 9 with(fail)
    obtain⟨lk,g1⟩: ∃v,L5 f s.J2=v:=⟨_,rfl⟩;have c6:=c5.out.yd.ZP s.J2 Y.out.Z1.1;rw[g1]at c6;have d9:=qh g1;have m0:(Lit.int .i64 lk).wf=true:=by
     have:=a5.out.pos s.J2
     by_cases h0:L5 f s.J2=0
     ·rw[<-g1,h0];decide
     ·rcases a5.out.ZP h0 with h|h<;>rw[<-g1,h]<;>decide
    have m6:(Lit.int .i64 out).wf=true:=by rcases d4 with rfl|rfl<;>decide
    have m7:(Lit.int .i64 s.I9).wf=true:=by
     have U:s.I9=1\/s.I9=2\/s.I9=3\/s.I9=4\/s.I9=5\/s.I9=6\/s.I9=7:=by omega
     rcases U with h|h|h|h|h|h|h<;>rw[h]<;>decide
    have m9:=qh m0;have n0:=qh m6;have n1:=qh m7;have n2:=qh c6;clear g1 m0 m6 m7 c6
    go_cut[12] (λu W=>u=.int .i64 (ju true true true true true out lk s.I9)/\Hid (Below w2.heap.size w2 W))
    case first=>
     have v8:=qh (c5.out.below (M2 w2));generalize e2:zdn cb bm bx w2.heap.size out lk s.I9 (ju true true true true true out lk s.I9) s.J2=T;generalize e3:Act.mk _ _=a0;have e0:a0.tmps[0]?=some (.pointer (some ⟨cb,0,none⟩)):=by rw[<-e3];rfl
     have e7:a0.tmps[7]?=some (.map (some bm)):=by rw[<-e3];rfl
     have q6:a0.tmps[10]?=some (.pointer (some ⟨bx,0,none⟩)):=by rw[<-e3];rfl
     have ez:a0.tmps.size=122:=by rw[<-e3];rfl
     have d: ∀(e:Nat×Nat×Value),e∈zdn cb bm bx w2.heap.size out lk s.I9 (ju true true true true true out lk s.I9) s.J2->e∈T:=λe k=>by rw[<-e2];exact k
     have N:(T.map (·.1)).Nodup:=by rw[<-e2];show([0,3,4,5,6,9,10,11,12,14,15,16,17,18]:List Nat).Nodup;decide
     have O:(T.map (·.2.1)).Nodup:=by rw[<-e2];show([33,34,35,36,37,38,39,40,41,42,43,44,45,12]:List Nat).Nodup;decide
     have a2: ∀e∈T,(12=e.2.1\/33<=e.2.1/\e.2.1<=45)/\(e.1≠1/\e.1≠2/\e.1≠7/\e.1≠8/\e.1≠13):=by
      intro e k;rw[<-e2]at k;simp only[zdn,E7,List.mem_nil_iff,or_false]at k
      rcases k with rfl|rfl|rfl|rfl|rfl|rfl|rfl|rfl|rfl|rfl|rfl|rfl|rfl|rfl<;>simp
     have P: ∀e∈T,e.2.1<a0.tmps.size:=λe k=>by have:=(a2 e k).1;omega
     have q7:=qh e3;have q8:=qh e2;clear e3 e2;refine QJ (by kernel_rfl) (λL a w=>L.size=19/\S9 T a0 L a/\W9 w2.drew out lk L w/\C9 L) ?_ ?_ ?_
     ·exact⟨by simp,S9.start _ _ _,W9.start w2.drew out lk _,C9.start _⟩
     ·rintro L a w i ⟨hz,y,S,H⟩ hi
      have i9:=(jC hi).1;have w6:i<19:=i9;have e4:=Je hi (by omega);have f0:a.tmps[0]?=some (.pointer (some ⟨cb,0,none⟩)):=((y.un 0 λe k=>by have:=(a2 e k).1;omega).trans e0);have f7:a.tmps[7]?=some (.map (some bm)):=((y.un 7 λe k=>by have:=(a2 e k).1;omega).trans e7);have n3:a.tmps[10]?=some (.pointer (some ⟨bx,0,none⟩)):=((y.un 10 λe k=>by have:=(a2 e k).1;omega).trans q6);have w9:=S.M1.size;have kc: ∀(b o:Nat)(v:Value),b<w2.heap.size->w2.cell? ⟨b,o,none⟩=some v->w.cell? ⟨b,o,none⟩=some v:=λb o v V h2=>(S.M1.cell (p:=⟨b,o,none⟩) V).trans h2
      have q9:i=0\/i=1\/i=2\/i=3\/i=4\/i=5\/i=6\/i=7\/i=8\/i=9\/i=10\/i=11\/i=12\/i=13\/i=14\/i=15\/i=16\/i=17\/i=18:=by omega
      have c1:=kc cb 1 _ c5.out.Zh.lt c5.out.Zh.cells.2.1;have x0:=kc bx 0 _ Xr (J5 f9.out).1.1;have x1:=kc bx 1 _ Xr (J5 f9.out).1.2.1
      rcases q9 with rfl|rfl|rfl|rfl|rfl|rfl|rfl|rfl|rfl|rfl|rfl|rfl|rfl|rfl|rfl|rfl|rfl|rfl|rfl
      ·have D:=J8 hi rfl
       obtain⟨hb,Z⟩:=S.zp5 (by omega) e4;refine K5 33 (v:=.map (some w2.heap.size)) rfl rfl rfl (by simp[execOp,go_sem,run_makeMap,hb];rfl) ?_;exact⟨by simpa using hz,y.put N O P _ (d _ (B2 ..)),Z,H.skip 0 (by decide)⟩
      ·have D:=J8 hi rfl
       have g0:L.getD 0 false=true:=D ⟨0,.data⟩ (by simp) (by decide);have v0:=y.tb _ (d _ (B2 ..)) g0;simp only at v0;obtain⟨B,hr,Z⟩:=W9.zpF (by omega) S g0 e4;refine qU (w':=B) rfl rfl rfl (by simp[execOp,go_sem,v0];exact H0 (λr=>Result.andThen r (λ_ B=>Result.ok Next.skip B)) hr) ?_;exact⟨by simpa using hz,y.skip 1 (λe k=>by have:=(a2 e k).2;omega),Z,H.skip 1 (by decide)⟩
      ·have D:=J8 hi rfl
       have g0:L.getD 0 false=true:=D ⟨0,.data⟩ (by simp) (by decide);have v0:=y.tb _ (d _ (B2 ..)) g0;simp only at v0;obtain⟨B,hr,Z⟩:=W9.zp7 (by omega) S g0 e4;refine qU (w':=B) rfl rfl rfl (by simp[execOp,go_sem,v0];exact H0 (λr=>Result.andThen r (λ_ B=>Result.ok Next.skip B)) hr) ?_;exact⟨by simpa using hz,y.skip 2 (λe k=>by have:=(a2 e k).2;omega),Z,H.skip 2 (by decide)⟩
      ·have D:=J8 hi rfl
       refine K5 34 (w':=w) (v:=_) rfl rfl rfl (by simp[execOp,go_sem,f0];rfl) ?_;exact⟨by simpa using hz,y.put N O P _ (d _ (x5 _ (B2 ..))),S.skip 3 (by decide),H.skip 3 (by decide)⟩
      ·have D:=J8 hi rfl
       have g3:L.getD 3 false=true:=D ⟨3,.data⟩ (by simp) (by decide);have v3:=y.tb _ (d _ (x5 _ (B2 ..))) g3;simp only at v3;refine K5 35 (w':=w) (v:=_) rfl rfl rfl (by simp[execOp,go_sem,v3];rfl) ?_;exact⟨by simpa using hz,y.put N O P _ (d _ (x5 _ (x5 _ (B2 ..)))),S.skip 4 (by decide),H.skip 4 (by decide)⟩
      ·have D:=J8 hi rfl
       have g4:L.getD 4 false=true:=D ⟨4,.data⟩ (by simp) (by decide);have v4:=y.tb _ (d _ (x5 _ (x5 _ (B2 ..)))) g4;simp only at v4;refine K5 36 (w':=w) (v:=_) rfl rfl rfl (by simp[execOp,go_sem,v4];rfl) ?_;exact⟨by simpa using hz,y.put N O P _ (d _ (x5 _ (x5 _ (x5 _ (B2 ..))))),S.skip 5 (by decide),H.skip 5 (by decide)⟩
      ·have D:=J8 hi rfl
       have g5:L.getD 5 false=true:=D ⟨5,.data⟩ (by simp) (by decide);have v5:=y.tb _ (d _ (x5 _ (x5 _ (x5 _ (B2 ..))))) g5;simp only at v5;refine K5 37 (w':=w) (v:=_) rfl rfl rfl (by simp[execOp,go_sem,v5,c1];rfl) ?_;exact⟨by simpa using hz,y.put N O P _ (d _ (x5 _ (x5 _ (x5 _ (x5 _ (B2 ..)))))),S.skip 6 (by decide),H.skip 6 (by decide)⟩
      ·have D:=J8 hi rfl
       have g0:L.getD 0 false=true:=D ⟨0,.data⟩ (by simp) (by decide);have v0:=y.tb _ (d _ (B2 ..)) g0;simp only at v0;have g6:L.getD 6 false=true:=D ⟨6,.data⟩ (by simp) (by decide);have v6:=y.tb _ (d _ (x5 _ (x5 _ (x5 _ (x5 _ (B2 ..)))))) g6;simp only at v6;obtain⟨B,hr,Z⟩:=W9.zpX n0.out (by omega) S g0 e4;refine qU (w':=B) rfl rfl rfl (by simp[execOp,go_sem,v0,v6];exact H0 (λr=>Result.andThen r (λ_ B=>Result.ok Next.skip B)) hr) ?_;exact⟨by simpa using hz,y.skip 7 (λe k=>by have:=(a2 e k).2;omega),Z,H.skip 7 (by decide)⟩
      ·have D:=J8 hi rfl
       have g0:L.getD 0 false=true:=D ⟨0,.data⟩ (by simp) (by decide);have v0:=y.tb _ (d _ (B2 ..)) g0;simp only at v0;obtain⟨B,hr,Z⟩:=W9.zpL (by omega) S g0 e4;refine qU (w':=B) rfl rfl rfl (by simp[execOp,go_sem,v0];exact H0 (λr=>Result.andThen r (λ_ B=>Result.ok Next.skip B)) hr) ?_;exact⟨by simpa using hz,y.skip 8 (λe k=>by have:=(a2 e k).2;omega),Z,H.skip 8 (by decide)⟩
      ·have D:=J8 hi rfl
       refine K5 38 (w':=w) (v:=_) rfl rfl rfl (by simp[execOp,go_sem,f7];rfl) ?_;exact⟨by simpa using hz,y.put N O P _ (d _ (x5 _ (x5 _ (x5 _ (x5 _ (x5 _ (B2 ..))))))),S.skip 9 (by decide),H.skip 9 (by decide)⟩
      ·have D:=J8 hi rfl
       refine K5 39 (w':=w) (v:=_) rfl rfl rfl (by simp[execOp,go_sem,n3];rfl) ?_;exact⟨by simpa using hz,y.put N O P _ (d _ (x5 _ (x5 _ (x5 _ (x5 _ (x5 _ (x5 _ (B2 ..)))))))),S.skip 10 (by decide),H.skip 10 (by decide)⟩
      ·have D:=J8 hi rfl
       have s0:L.getD 10 false=true:=D ⟨10,.data⟩ (by simp) (by decide);have n4:=y.tb _ (d _ (x5 _ (x5 _ (x5 _ (x5 _ (x5 _ (x5 _ (B2 ..)))))))) s0;simp only at n4;refine K5 40 (w':=w) (v:=_) rfl rfl rfl (by simp[execOp,go_sem,n4,x1];rfl) ?_;exact⟨by simpa using hz,y.put N O P _ (d _ (x5 _ (x5 _ (x5 _ (x5 _ (x5 _ (x5 _ (x5 _ (B2 ..))))))))),S.skip 11 (by decide),H.skip 11 (by decide)⟩
      ·have D:=J8 hi rfl
       have g9:L.getD 9 false=true:=D ⟨9,.data⟩ (by simp) (by decide);have v9:=y.tb _ (d _ (x5 _ (x5 _ (x5 _ (x5 _ (x5 _ (B2 ..))))))) g9;simp only at v9;have s1:L.getD 11 false=true:=D ⟨11,.data⟩ (by simp) (by decide);have n5:=y.tb _ (d _ (x5 _ (x5 _ (x5 _ (x5 _ (x5 _ (x5 _ (x5 _ (B2 ..))))))))) s1;simp only at n5;have a3:=(c5.out.yd.kept (I7 ((M2 w2).trans S.M1) none) (by simp)).ZP s.J2 Y.out.Z1.1;rw[d9.out]at a3;refine K5 41 (w':=w) (v:=_) rfl rfl rfl (by simp[execOp,go_sem,v9,n5];exact H0 (λr=>Result.andThen r (λa B=>Result.ok (Next.value a) B)) a3) ?_;exact⟨by simpa using hz,y.put N O P _ (d _ (x5 _ (x5 _ (x5 _ (x5 _ (x5 _ (x5 _ (x5 _ (x5 _ (B2 ..)))))))))),S.skip 12 (by decide),H.skip 12 (by decide)⟩
      ·have D:=J8 hi rfl
       have g0:L.getD 0 false=true:=D ⟨0,.data⟩ (by simp) (by decide);have v0:=y.tb _ (d _ (B2 ..)) g0;simp only at v0;have s2:L.getD 12 false=true:=D ⟨12,.data⟩ (by simp) (by decide);have n6:=y.tb _ (d _ (x5 _ (x5 _ (x5 _ (x5 _ (x5 _ (x5 _ (x5 _ (x5 _ (B2 ..)))))))))) s2;simp only at n6;obtain⟨B,hr,Z⟩:=W9.zpC m9.out (by omega) S g0 e4;refine qU (w':=B) rfl rfl rfl (by simp[execOp,go_sem,v0,n6];exact H0 (λr=>Result.andThen r (λ_ B=>Result.ok Next.skip B)) hr) ?_;exact⟨by simpa using hz,y.skip 13 (λe k=>by have:=(a2 e k).2;omega),Z,H.skip 13 (by decide)⟩
      ·have D:=J8 hi rfl
       have g0:L.getD 0 false=true:=D ⟨0,.data⟩ (by simp) (by decide);have v0:=y.tb _ (d _ (B2 ..)) g0;simp only at v0;refine K5 42 (w':=w) (v:=_) rfl rfl rfl (by simp[execOp,go_sem,v0];rfl) ?_;exact⟨by simpa using hz,y.put N O P _ (d _ (x5 _ (x5 _ (x5 _ (x5 _ (x5 _ (x5 _ (x5 _ (x5 _ (x5 _ (B2 ..))))))))))),S.skip 14 (by decide),C9.ziy (D ⟨0,.data⟩ (by simp) (by decide)) (D ⟨1,.data⟩ (by simp) (by decide)) (D ⟨2,.data⟩ (by simp) (by decide)) (D ⟨7,.data⟩ (by simp) (by decide)) (D ⟨8,.data⟩ (by simp) (by decide)) (D ⟨13,.data⟩ (by simp) (by decide))⟩
      ·have D:=J8 hi rfl
       refine K5 43 (w':=w) (v:=_) rfl rfl rfl (by simp[execOp,go_sem,n3];rfl) ?_;exact⟨by simpa using hz,y.put N O P _ (d _ (x5 _ (x5 _ (x5 _ (x5 _ (x5 _ (x5 _ (x5 _ (x5 _ (x5 _ (x5 _ (B2 ..)))))))))))),S.skip 15 (by decide),H.skip 15 (by decide)⟩
      ·have D:=J8 hi rfl
       have s3:L.getD 15 false=true:=D ⟨15,.data⟩ (by simp) (by decide);have n7:=y.tb _ (d _ (x5 _ (x5 _ (x5 _ (x5 _ (x5 _ (x5 _ (x5 _ (x5 _ (x5 _ (x5 _ (B2 ..)))))))))))) s3;simp only at n7;refine K5 44 (w':=w) (v:=_) rfl rfl rfl (by simp[execOp,go_sem,n7,x0];rfl) ?_;exact⟨by simpa using hz,y.put N O P _ (d _ (x5 _ (x5 _ (x5 _ (x5 _ (x5 _ (x5 _ (x5 _ (x5 _ (x5 _ (x5 _ (x5 _ (B2 ..))))))))))))),S.skip 16 (by decide),H.skip 16 (by decide)⟩
      ·have D:=J8 hi rfl
       have n8:L.getD 14 false=true:=D ⟨14,.data⟩ (by simp) (by decide);have n9:=y.tb _ (d _ (x5 _ (x5 _ (x5 _ (x5 _ (x5 _ (x5 _ (x5 _ (x5 _ (x5 _ (B2 ..))))))))))) n8;simp only at n9;have s4:L.getD 16 false=true:=D ⟨16,.data⟩ (by simp) (by decide);have o0:=y.tb _ (d _ (x5 _ (x5 _ (x5 _ (x5 _ (x5 _ (x5 _ (x5 _ (x5 _ (x5 _ (x5 _ (x5 _ (B2 ..))))))))))))) s4;simp only at o0;obtain⟨d0,d1,d2,d7,d8,s5⟩:=H n8;have hy:=S.yes d0;rw[d1,d2,d7,d8,s5]at hy;have a3:=hy.ZP s.I9 n1.out;refine K5 45 (w':=w) (v:=_) rfl rfl rfl (by simp[execOp,go_sem,n9,o0];exact H0 (λr=>Result.andThen r (λa B=>Result.ok (Next.value a) B)) a3) ?_;exact⟨by simpa using hz,y.put N O P _ (d _ (x5 _ (x5 _ (x5 _ (x5 _ (x5 _ (x5 _ (x5 _ (x5 _ (x5 _ (x5 _ (x5 _ (x5 _ (B2 ..)))))))))))))),S.skip 17 (by decide),H.skip 17 (by decide)⟩
      ·have D:=J8 hi rfl
       have s6:L.getD 17 false=true:=D ⟨17,.data⟩ (by simp) (by decide);have o1:=y.tb _ (d _ (x5 _ (x5 _ (x5 _ (x5 _ (x5 _ (x5 _ (x5 _ (x5 _ (x5 _ (x5 _ (x5 _ (x5 _ (B2 ..)))))))))))))) s6;simp only at o1;refine K5 12 (w':=w) (v:=_) rfl rfl rfl (by simp[execOp,go_sem,o1];rfl) ?_;exact⟨by simpa using hz,y.put N O P _ (d _ (x5 _ (x5 _ (x5 _ (x5 _ (x5 _ (x5 _ (x5 _ (x5 _ (x5 _ (x5 _ (x5 _ (x5 _ (x5 _ (B2 ..))))))))))))))),S.skip 18 (by decide),H.skip 18 (by decide)⟩
     ·rintro L a w ⟨hz,y,S,H⟩ x
      have r0:L.getD 0 false=true:=N1 x rfl (by omega) (by simp);have r3:L.getD 3 false=true:=N1 x rfl (by omega) (by simp);have r9:L.getD 9 false=true:=N1 x rfl (by omega) (by simp);have s7:L.getD 10 false=true:=N1 x rfl (by omega) (by simp);have s8:L.getD 15 false=true:=N1 x rfl (by omega) (by simp);have r1:L.getD 1 false=true:=N1 x rfl (by omega) (by intro e k;simp at k;rcases k with rfl<;>assumption);have r2:L.getD 2 false=true:=N1 x rfl (by omega) (by intro e k;simp at k;rcases k with rfl<;>assumption);have r8:L.getD 8 false=true:=N1 x rfl (by omega) (by intro e k;simp at k;rcases k with rfl<;>assumption);have r4:L.getD 4 false=true:=N1 x rfl (by omega) (by intro e k;simp at k;rcases k with rfl<;>assumption);have r5:L.getD 5 false=true:=N1 x rfl (by omega) (by intro e k;simp at k;rcases k with rfl<;>assumption);have r6:L.getD 6 false=true:=N1 x rfl (by omega) (by intro e k;simp at k;rcases k with rfl<;>assumption);have r7:L.getD 7 false=true:=N1 x rfl (by omega) (by intro e k;simp at k;rcases k with rfl|rfl<;>assumption);have s9:L.getD 11 false=true:=N1 x rfl (by omega) (by intro e k;simp at k;rcases k with rfl<;>assumption);have t0:L.getD 12 false=true:=N1 x rfl (by omega) (by intro e k;simp at k;rcases k with rfl|rfl<;>assumption);have t1:L.getD 13 false=true:=N1 x rfl (by omega) (by intro e k;simp at k;rcases k with rfl|rfl<;>assumption);have t2:L.getD 14 false=true:=N1 x rfl (by omega) (by intro e k;simp at k;rcases k with rfl|rfl|rfl|rfl|rfl|rfl|rfl|rfl|rfl|rfl|rfl|rfl|rfl|rfl<;>assumption);have t3:L.getD 16 false=true:=N1 x rfl (by omega) (by intro e k;simp at k;rcases k with rfl<;>assumption);have t4:L.getD 17 false=true:=N1 x rfl (by omega) (by intro e k;simp at k;rcases k with rfl|rfl<;>assumption);have t5:L.getD 18 false=true:=N1 x rfl (by omega) (by intro e k;simp at k;rcases k with rfl|rfl|rfl|rfl|rfl|rfl|rfl|rfl|rfl|rfl|rfl|rfl|rfl|rfl|rfl|rfl|rfl|rfl|rfl<;>assumption);have hT:=q8.out;subst hT;have i4:=y.ziH (by omega) (λe k=>by
       simp only[zdn,E7,List.mem_nil_iff,or_false]at k
       rcases k with rfl|rfl|rfl|rfl|rfl|rfl|rfl|rfl|rfl|rfl|rfl|rfl|rfl|rfl<;>assumption)
      rw[i4,<-q7.out];have t6:=qh ((M2 w2).trans S.M1);clear i4 y S H x r0 r1 r2 r3 r4 r5 r6 r7 r8 r9 s7 s9 t0 t1 t2 s8 t3 t4 t5
      go_wp2_with fail
      go_meet
      case rel=>exact⟨rfl,t6⟩
    case rest=>
     obtain⟨rfl,j4⟩:=hcut;obtain⟨w3,rfl⟩: ∃wo:World,wo=wc:=⟨_,rfl⟩;have a1:=qh (c5.out.below j4.out);have g2:=qh ((j4.out.block _ Xr).trans f9.out);obtain⟨wv,j5⟩: ∃v,ju true true true true true out lk s.I9=v:=⟨_,rfl⟩;rw[j5];have g7:=qh j5;clear j5 f9 c5 n2 n1 n0 m9 j4 Xr;obtain⟨⟨z0,z1,z2,z3,z4,z5,z6,z7,z8,z9⟩,-⟩:=J5 g2.out;obtain⟨c0,c1,c2,c3,c4⟩:=a1.out.Zh.cells;obtain⟨f2,f3,f4⟩:=a1.out.Zh.frz
     by_cases hA:s.I9=2/\lk=0
     ·have t7:wv=0:=by rw[<-g7.out,hA.1,hA.2];rfl
      have m2:(s.I9==2)=true:=by simp[hA.1]
      have t8:Hid (s.I9=2/\L5 f s.J2=0):=qh ⟨hA.1,d9.out.trans hA.2⟩;subst t7;clear hA;have o2:=qh a1.out.Zh.clear;have j6:=qh (I4 (I8 w3 cb 4 (.int .i64 0)) (I8 (w3.setCell ⟨cb,4,none⟩ (.int .i64 0)) cb 3 (.int .i64 0)));have o3:Hid (((w3.setCell ⟨cb,4,none⟩ (.int .i64 0)).setCell ⟨cb,3,none⟩ (.int .i64 0)).heap[bx]?=_):=qh ((j6.out.block bx (I5 g2.out) (by simpa using λe=>h9 e.symm)).trans g2.out)
      go_upto_region 12 with(fail)
      clear z0 z1 z2 z3 z4 z5 z6 z7 z8 z9 c0 c1 c2 c3 c4 f2 f3 f4;generalize(w3.setCell _ _).setCell _ _=w4 at o2 j6 o3|-;obtain⟨⟨z0,z1,z2,z3,z4,z5,z6,z7,z8,z9⟩,-⟩:=J5 o3.out
      go_wp2_with fail
      refine(Zc s.pos 16 (by decide) o2.out).mono ?_;rintro ee w5 ⟨rfl,H,J⟩;have c7:=qh H;have e5:=qh (I4 a1.out.gr (I4 j6.out J));clear H J z0 z1 z2 z3 z4 z5 z6 z7 z8 z9
      go_wp2_with fail
      go_ret;refine⟨e5.out,?_⟩;rw[xd M.out HR.out (znT t8.out)];exact⟨true,m,rfl,c7.out⟩
     have i0:Hid (¬(s.I9=2/\L5 f s.J2=0)):=qh (λe=>hA ⟨e.1,d9.out.symm.trans e.2⟩);have a6:(s.I9==2)=false\/((s.I9==2)=true/\(wv==0)=false):=by
      by_cases h:s.I9=2
      ·refine .inr ⟨by simp[h],?_⟩
       rw[B0,<-g7.out,h];exact λe=>hA ⟨h,e⟩
      ·exact .inl (by simpa using h)
     clear hA;have t9:(∃q er,O2 us f s.a=.J9 q er)\/O2 us f s.a=.ok t:=by
      cases hx:O2 us f s.a with
      |J9 q er=>exact .inl ⟨q,er,rfl⟩
      |ok u=>exact .inr (by rw[HT.out u hx])
     have o4:(0<wv/\t≠wv)\/(0<wv->t=wv):=by
      by_cases h:0<wv/\t≠wv
      ·exact .inl h
      ·refine .inr λV=>?_
       by_cases h2:t=wv
       ·exact h2
       ·exact H9 ⟨V,h2⟩ h
     rcases t9 with⟨q,er,hx⟩|hx
     ·have o5:=qh hx
      have e6:Hid (ZN w3 cb (.slice Au us.length cu) out m (some (q,er))):=qh (by have:=a1.out.Zh;rw[hx]at this;exact this);have x2:(er !=0)=true:=by simpa using e6.out.ne _ rfl
      rw[hx]at c3 c4;simp only[Y6.on,Y6.p,Y6.e]at c3 c4;clear hx
      rcases o4 with⟨o6,e8⟩|hw
      ·have m8:(t !=wv)=true:=by simpa using e8
       clear e8
       rcases a6 with m2|⟨m2,j7⟩
       all_goals
        go_wp2_with fail
        refine(Zc s.a.pos 8 (by decide) e6.out).mono ?_;rintro ee w5 ⟨rfl,H,J⟩;have c7:=qh H;have e5:=qh (I4 a1.out.gr J);clear H J z0 z1 z2 z3 z4 z5 z6 z7 z8 z9 c0 c1 c2 c3 c4 f2 f3 f4;obtain⟨-,-,-,-,c4⟩:=c7.out.cells;simp only[Y6.or,Y6.e]at c4
        go_wp2_with fail
        go_ret;refine⟨e5.out,?_⟩;rw[xd M.out HR.out (zlk i0.out o5.out)];exact⟨true,m,rfl,c7.out⟩
      ·have K:wv<=0\/(0<wv/\(t !=wv)=false):=by
        by_cases h:0<wv
        ·exact .inr ⟨h,by simpa using hw h⟩
        ·exact .inl (by omega)
       clear hw
       rcases a6 with m2|⟨m2,j7⟩
       all_goals
        rcases K with K|⟨K,a7⟩
        all_goals
         go_wp2_with fail
         go_ret;refine⟨a1.out.gr,?_⟩;rw[xd M.out HR.out (zlk i0.out o5.out)];exact⟨true,m,rfl,e6.out⟩
     ·have o7:=qh hx
      have e6:Hid (ZN w3 cb (.slice Au us.length cu) out m none):=qh (by have:=a1.out.Zh;rw[hx]at this;exact this);have E:Hid (Zk w w3 cb bm Au cu us out m none f (λg=>F g/\g<bm)):=qh (by have:=a1.out;rw[hx]at this;exact this);rw[hx]at c3 c4;simp only[Y6.on,Y6.p,Y6.e]at c3 c4;have o8:t=1\/t=2:=zaF HO.out a5.out s.a hx;clear hx
      rcases o4 with⟨o6,e8⟩|hw
      ·have m8:(t !=wv)=true:=by simpa using e8
       have u0:Hid (∀m,zC us out s f m=.J9 s.a.pos 8):=qh (λm=>znS i0.out o7.out (by rw[d9.out,g7.out];exact o6) (by rw[d9.out,g7.out];exact e8));clear e8
       rcases a6 with m2|⟨m2,j7⟩
       all_goals
        go_wp2_with fail
        refine(Zc s.a.pos 8 (by decide) e6.out).mono ?_;rintro ee w5 ⟨rfl,H,J⟩;have c7:=qh H;have e5:=qh (I4 a1.out.gr J);clear H J z0 z1 z2 z3 z4 z5 z6 z7 z8 z9 c0 c1 c2 c3 c4 f2 f3 f4;obtain⟨-,-,-,-,c4⟩:=c7.out.cells;simp only[Y6.or,Y6.e]at c4
        go_wp2_with fail
        go_ret;refine⟨e5.out,?_⟩;rw[xd M.out HR.out (u0.out m)];exact⟨true,m,rfl,c7.out⟩
      ·have o9:=qh (znN (us:=us) (out:=out) (m:=m) i0.out o7.out (by rw[d9.out,g7.out];exact hw) (by omega) (a5.out.pos s.J2))
       have K:wv<=0\/(0<wv/\(t !=wv)=false):=by
        by_cases h:0<wv
        ·exact .inr ⟨h,by simpa using hw h⟩
        ·exact .inl (by omega)
       have g8:=qh K;clear hw K;obtain⟨D1,D2,D3,D4,D5,D6,D7⟩:=o9.out;have i5:w.heap.size<=bm:=by have:=i8.out;omega
       have p0: ∀g,(F g/\g<bm)->g<w.heap.size:=λg J=>by have:=i8.out;have:=J.2;omega
       have p1:=qh p0;have u1:=E.out.gr.size;clear p0 o9 a1;have u2:s.I9=1\/s.I9=3\/s.I9=4\/s.I9=5\/(s.I9=2\/s.I9=6\/s.I9=7):=by omega
       rcases u2 with G|G|G|G|G
       ·have m1:(s.I9==1)=true:=by simp[G]
        have m5:(s.I9==5)=false:=by simp[G]
        have m4:(s.I9==4)=false:=by simp[G]
        have m3:(s.I9==3)=false:=by simp[G]
        have c8:(s.I9==2)=false:=by simp[G]
        clear a6
        rcases g8.out with K|⟨K,a7⟩
        all_goals
         go_wp2_with fail
         refine(zk8 s.pos s.J2 t Y.out.Z1.1 (by rcases o8 with h|h<;>rw[h]<;>decide) e6.out E.out.yd (by omega) (by omega) (by omega) a5.out.pos).mono ?_;rintro ee w4 ⟨rfl,H,y,p2⟩;have p3:=qh H;have h4:=qh y;have p4:=qh p2;have p5:=qh (D1 G);clear H y p2;clear z0 z1 z2 z3 z4 z5 z6 z7 z8 z9 c0 c1 c2 c3 c4 f2 f3 f4
         go_wp2_with fail
         go_roundw
         case rel=>
          refine⟨j+1,r,by omega,by go_num,rfl,?_⟩;cases hl:Y4 f m s.pos s.J2 t with
          |ok z=>
           obtain⟨e1,m1⟩:=z;have V:=p5.out;rw[hl]at V;obtain⟨rfl,-,rfl,-⟩:=xh hl;have h2:=yP M.out HR.out V;rw[Bool.or_false]at h2;have h3:=p3.out;rw[hl]at h3;exact .inl ⟨_,_,qh h2,qh (E.out.two h3 h4.out p4.out k7 i5 u1 p1.out)⟩
          |J9 q er=>
           have V:=p5.out;rw[hl]at V;have h3:=p3.out;rw[hl]at h3;exact .inr ⟨q,er,_,qh (xd M.out HR.out V),qh h3,qh (zfN E.out.gr p4.out i5)⟩
         case measure=>simp[intOf];omega
       ·have m1:(s.I9==1)=false:=by simp[G]
        have m5:(s.I9==5)=false:=by simp[G]
        have m4:(s.I9==4)=false:=by simp[G]
        have m3:(s.I9==3)=true:=by simp[G]
        have c8:(s.I9==2)=false:=by simp[G]
        clear a6
        rcases g8.out with K|⟨K,a7⟩
        all_goals
         go_wp2_with fail
         refine(IH.out j0 s.J0 Ab f8 _ w3 cb bm Au cu us out m f (l8.out (.inl G)) Y.out.Z1.2.2.2.2.1 Y.out.Z1.2.2.1 h6.out h7.out h8.out HO.out d4 a5.out i3 i2 E.out.Z8 (E.out.ziD E.out.gr l6.out)).mono ?_;rintro e w4 ⟨R,a4⟩;have u3:=qh ((R.block bx (I5 g2.out) (by simpa using λe=>h9 e.symm)).trans g2.out);have p6:=qh R;have j8:=qh (D3 G);clear z0 z1 z2 z3 z4 z5 z6 z7 z8 z9 c0 c1 c2 c3 c4 f2 f3 f4;obtain⟨⟨z0,z1,z2,z3,z4,z5,z6,z7,z8,z9⟩,-⟩:=J5 u3.out;cases Q:zS us out s.J0 f m with
         |ok z=>
          obtain⟨m1,ra⟩:=z;rw[Q]at a4;obtain⟨rfl,hs4⟩:=a4;have e9:=qh (E.out.re hs4 R);have p7:=qh Q;have x3:=qM us out _ _ _ _ _ Q;clear Q hs4 R
          go_wp2_with fail
          refine(IH.out j0 s.M9 Ae ce _ w4 cb bm Au cu us out m1 f (q5.out G) Y.out.Z1.2.2.2.2.2 Y.out.Z1.2.2.2.1 h6.out h7.out h8.out HO.out d4 a5.out (by omega) (by omega) e9.out.Z8 (e9.out.ziD e9.out.gr l7.out)).mono ?_;rintro e w5 ⟨a8,i1⟩;have e5:=qh a8;clear z0 z1 z2 z3 z4 z5 z6 z7 z8 z9;cases f1:zS us out s.M9 f m1 with
          |ok z=>
           obtain⟨c8,rb⟩:=z;rw[f1]at i1;obtain⟨rfl,hs5⟩:=i1;have u4:=qh (e9.out.re hs5 a8);have u5:=qh f1;clear f1 hs5 a8;have c9:Hid (X6 us out (l.take (j+1)) env I false=.ok (f,c8,r||(ra&&rb))):=qh (by
            have V:=j8.out;rw[p7.out]at V;simp only[u5.out]at V;exact yP M.out HR.out V)
           obtain⟨rr,j9⟩: ∃q,(r||(ra&&rb))=q:=⟨_,rfl⟩;have x4:=qh j9;cases r<;>cases ra<;>cases rb
           all_goals
            simp only[Bool.or_true,Bool.true_or,Bool.false_or,Bool.or_false,Bool.and_true,Bool.true_and,Bool.and_false,Bool.false_and]at j9;subst j9
            go_wp2_with fail
            go_roundw
            case rel=>exact⟨j+1,_,by omega,by go_num,rfl,.inl ⟨_,_,c9,u4⟩⟩
            case measure=>simp[intOf];omega
          |J9 q er=>
           rw[f1]at i1;obtain⟨rb,c8,rfl,hs5⟩:=i1;have k2:=qh hs5;have h5:Hid (zS us out l env I=.J9 q er):=qh (xd M.out HR.out (by
            rw[j8.out,p7.out];simp only[f1]))
           have d3:=qh (I4 E.out.gr (I4 p6.out a8));clear f1 hs5 a8;cases r<;>cases ra<;>cases rb
           all_goals
            go_wp2_with fail
            go_roundw
            case rel=>exact⟨j+1,_,by omega,by go_num,rfl,.inr ⟨q,er,c8,h5,k2,d3⟩⟩
            case measure=>simp[intOf];omega
         |J9 q er=>
          rw[Q]at a4;obtain⟨ra,m1,rfl,hs4⟩:=a4;have h4:=qh hs4;have h5:Hid (zS us out l env I=.J9 q er):=qh (xd M.out HR.out (by rw[j8.out,Q]));have d3:=qh (I4 E.out.gr R);have u6:=qh (E.out.yd.kept R (by simpa using(show cb≠bm by omega)));clear Q hs4 R
          go_wp2_with fail
          refine(zkN s.M9 Ae ce (λg=>F g/\g<bm) w4 cb bm _ out m1 f (q,er) Y.out.Z1.2.2.2.1 (by omega) h4.out u6.out E.out.fc ((l7.out).K7 (F':=λg=>F g/\g<bm) (w':=w4) (λg V h2=>⟨V,A7 h2 d3.out.size,d3.out.block g h2 (by have:=E.out.fc g V;simpa using this)⟩))).mono ?_;rintro e w5 ⟨⟨rb,rfl⟩,hs5,a8⟩;have k2:=qh hs5;have u7:=qh (I4 d3.out a8);clear hs5 a8 z0 z1 z2 z3 z4 z5 z6 z7 z8 z9;cases r<;>cases ra<;>cases rb
          all_goals
           go_wp2_with fail
           go_roundw
           case rel=>exact⟨j+1,_,by omega,by go_num,rfl,.inr ⟨q,er,m1,h5,k2,u7⟩⟩
           case measure=>simp[intOf];omega
       ·have m1:(s.I9==1)=false:=by simp[G]
        have m5:(s.I9==5)=false:=by simp[G]
        have m4:(s.I9==4)=true:=by simp[G]
        have m3:(s.I9==3)=false:=by simp[G]
        have c8:(s.I9==2)=false:=by simp[G]
        clear a6
        rcases g8.out with K|⟨K,a7⟩
        all_goals
         go_wp2_with fail
         refine(IH.out j0 s.J0 Ab f8 _ w3 cb bm Au cu us out m f (l8.out (.inr G)) Y.out.Z1.2.2.2.2.1 Y.out.Z1.2.2.1 h6.out h7.out h8.out HO.out d4 a5.out i3 i2 E.out.Z8 (E.out.ziD E.out.gr l6.out)).mono ?_;rintro e w4 ⟨R,a4⟩;have p6:=qh R;have p8:=qh (D4 G);clear z0 z1 z2 z3 z4 z5 z6 z7 z8 z9 c0 c1 c2 c3 c4 f2 f3 f4;cases Q:zS us out s.J0 f m with
         |ok z=>
          obtain⟨m1,ra⟩:=z;rw[Q]at a4;obtain⟨rfl,hs4⟩:=a4;have e9:=qh (E.out.re hs4 R);have c9:Hid (X6 us out (l.take (j+1)) env I false=.ok (f,m1,r)):=qh (by
           have V:=p8.out;rw[Q]at V;have h2:=yP M.out HR.out V
           rwa [Bool.or_false]at h2)
          clear Q hs4 R
          go_wp2_with fail
          go_roundw
          case rel=>exact⟨j+1,_,by omega,by go_num,rfl,.inl ⟨_,_,c9,e9⟩⟩
          case measure=>simp[intOf];omega
         |J9 q er=>
          rw[Q]at a4;obtain⟨ra,m1,rfl,hs4⟩:=a4;have h4:=qh hs4;have h5:Hid (zS us out l env I=.J9 q er):=qh (xd M.out HR.out (by rw[p8.out,Q]));have d3:=qh (I4 E.out.gr R);clear Q hs4 R
          go_wp2_with fail
          go_roundw
          case rel=>exact⟨j+1,_,by omega,by go_num,rfl,.inr ⟨q,er,m1,h5,h4,d3⟩⟩
          case measure=>simp[intOf];omega
       ·have m1:(s.I9==1)=false:=by simp[G]
        have m5:(s.I9==5)=true:=by simp[G]
        have m4:(s.I9==4)=false:=by simp[G]
        have m3:(s.I9==3)=false:=by simp[G]
        have c8:(s.I9==2)=false:=by simp[G]
        clear a6
        rcases g8.out with K|⟨K,a7⟩
        all_goals
         have c9:=qh (yP M.out HR.out (D5 G))
         go_wp2_with fail
         go_roundw
         case rel=>exact⟨j+1,true,by omega,by go_num,rfl,.inl ⟨_,_,qh (by have:=c9.out;rwa [Bool.or_true]at this),E⟩⟩
         case measure=>simp[intOf];omega
       ·have c9:Hid (X6 us out (l.take (j+1)) env I false=.ok (f,m,r)):=qh (by
         have h2:X6 us out (l.take (j+1)) env I false=.ok (f,m,r||false):=by
          rcases G with G|G|G
          ·exact yP M.out HR.out (D2 G)
          ·exact yP M.out HR.out (D6 G)
          ·exact yP M.out HR.out (D7 G)
         rwa [Bool.or_false]at h2)
        have m1:(s.I9==1)=false:=by simp;omega
        have m5:(s.I9==5)=false:=by simp;omega
        have m4:(s.I9==4)=false:=by simp;omega
        have m3:(s.I9==3)=false:=by simp;omega
        rcases a6 with m2|⟨m2,j7⟩
        all_goals
         rcases g8.out with K|⟨K,a7⟩
         all_goals
          go_wp2_with fail
          go_roundw
          case rel=>exact⟨j+1,r,by omega,by go_num,rfl,.inl ⟨_,_,c9,E⟩⟩
          case measure=>simp[intOf];omega
   ·have w7:=C
    have X:=HG.out;have b0:=N9 (o:=k9+j*10) X J C (U 0 _ rfl);have b1:=N9 X J C (U 1 _ rfl);have b2:=N9 X J C (U 2 _ rfl);have b3:=N9 X J C (U 3 _ rfl);have b4:=N9 X J C (U 4 _ rfl);have b5:=N9 X J C (U 5 _ rfl);have b6:=N9 X J C (U 6 _ rfl);have b7:=N9 X J C (U 7 _ rfl);have b8:=N9 X J C (U 8 _ rfl);have b9:=N9 X J C (U 9 _ rfl);obtain⟨-,-,-,-,c4⟩:=HC.out.cells;have hq:(q !=0)=true:=by simpa using HC.out.ne _ rfl
    have u8:cb<wr.heap.size:=HC.out.lt;simp only[Y6.e]at c4;clear U hs X
    go_wp2_with fail
    go_ret;have hb:=(x8 wr.heap.size wr).alloc (x7 _) (.cells #[.int .i64 s.I9,.string s.J2,.int .i64 s.a.I9,.int .i64 s.a.n,.string s.a.K0,.slice Aa s.a.args.length ca,.int .i64 s.a.pos,.slice Ab s.J0.length f8,.slice Ae s.M9.length ce,.int .i64 s.pos] 188);refine⟨I4 HG.out (I7 hb (some cb)),?_⟩;rw[HB.out];exact⟨true,m,rfl,HC.out.kept (hb.block cb u8)⟩
  ·obtain rfl:j=l.length:=by omega
   rcases f6 with⟨f,m,HR,HF⟩|⟨p,q,m,HB,HC,HG⟩
   ·go_wp2_with fail
    go_ret;refine⟨HF.out.gr,?_⟩;have:=HR.out;rw[F5]at this;rw[yM,this];exact⟨rfl,HF.out.Zh⟩
   ·go_wp2_with fail
    go_ret;refine⟨HG.out,?_⟩;rw[HB.out];exact⟨r,m,rfl,HC.out⟩
theorem zml: ∀left:Nat,zfa left:=by
 have e:zfa 0:=by
  intro l A c F w f b g i us out a env d;cases l with
  |nil=>exact zcw 0 (λh=>H9 h (by decide)) [] A c F w f b g i us out a env d
  |cons s l=>exact H9 (zaM (zcC _ _ d s (B2 ..))).1 (by omega)
 intro left
 induction left with
 |zero=>exact e
 |succ left j=>exact zcw (left+1) (λ_=>j)
end
section
open Go.Maps
def zjB(w):(zeroValue 4).run prog w=.ok (.bool false) w:=by kernel_rfl
def QN{P:Program}{e:TypeId}(a:P.underlying e=some .bool){v:Value}{z:zhD×List MemPlace}(h:plainElem P e v=some z): ∃x,v=.bool x/\z=(.lit (.bool x),[]):=by
 unfold plainElem at h;rw[a]at h;cases v<;>simp at h;subst h;exact⟨_,rfl,rfl⟩
def zE(w:World)(b:Nat)(l:List ByteArray):Prop:=
 ∃(n:Nat)(D:zhD),w.ownsMap prog 9 (plainElem prog 4) b n D/\n<=l.length/\(∀s:ByteArray,s.size<=maxLen->D.atKey (.string s.data.toList) (.lit (.bool false))=.lit (.bool (l.any (λn=>decide (n=s)))))
def zE.M3(w:World):zE (w.alloc (.map #[] 0)) w.heap.size []:=
 ⟨0,.map [],World.ownsMap_made _ _ _ _,x7 _,λ_ _=>rfl⟩
def zE.kept{w w'}{b:Nat}{l row}(h:zE w b l)(c:w.grownBy w' row)(a:row≠some b):zE w' b l:=by
 obtain⟨n,D,d,f,g⟩:=h;exact⟨n,D,d.kept c (by first|exact a|exact λe=>a e.symm),f,g⟩
def zE.lt{w}{b:Nat}{l}(h:zE w b l):b<w.heap.size:=by
 obtain⟨n,D,a,_⟩:=h;exact a.lt
def zE.ZP{w:World}{b:Nat}{l:List ByteArray}(h:zE w b l)(s:ByteArray)(hs:s.size<=maxLen):(Instr.lookup 133 (.map (some b)) (.string s) false).run prog w=.ok (.bool (l.any (λn=>decide (n=s)))) w:=by
 obtain⟨n,D,e,_,f⟩:=h;obtain⟨v,i,a,d⟩:=e.lookup xY underlying133 (zjB w) (plainElem_bool underlying4 false) (Go.WideMaps.keyOf_string_mk underlying9 hs);rw[f s hs]at d;obtain⟨x,rfl,g⟩:=QN underlying4 d;have c:=(Prod.mk.inj g).1;have:l.any (λn=>decide (n=s))=x:=Lit.bool.inj (DataW.lit.inj c);rw[this];exact a
def zE.put{w}{b:Nat}{l}(h:zE w b l)(s:ByteArray)(hs:s.size<=maxLen)(o:l.length<=1000):
 ∃w',(Instr.mapUpdate 133 (.map (some b)) (.string s) (.bool true)).run prog w=.ok () w'/\zE w' b (s::l)/\w.grownBy w' (some b):=by
 obtain⟨n,D,j,p,k⟩:=h;obtain⟨w',a,c,m⟩:=j.update xY underlying133 (by unfold maxLen;omega) (Go.WideMaps.keyOf_string_mk underlying9 hs) (plainElem_bool underlying4 true);refine⟨w',a,⟨n+1,_,c,by simp;omega,λd f=>?_⟩,m⟩
 by_cases e:s=d
 ·subst e
  rw[atKey_put_same j.isMap (qd hs)];simp
 ·have g:(Lit.string d.data.toList)≠.string s.data.toList:=by
   intro i;injection i with i
   exact e (ByteArray.ext (Array.toList_inj.1 i)).symm
  rw[atKey_put_other g,k d f];simp[e]
end
end Go.Proofs.YtmngofgminlloaaGreatDoor
