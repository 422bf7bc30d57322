/- Merged. -/
import Derived.Test.YtmngofgminlloaaGreatDoorCT24
import Derived.Test.YtmngofgminlloaaGreatDoorCT11
import Derived.Maps.Ext
set_option linter.all false
set_option maxHeartbeats 2000000
set_option maxRecDepth 100000
namespace Go.Proofs.YtmngofgminlloaaGreatDoor
open Go.RowKit Tw
theorem zeI{a b:Nat}(d:a<10)(e:b<10)(h:UInt8.ofNat (48+a)=UInt8.ofNat (48+b)):a=b:=by
 have:=H0 UInt8.toNat h;simp at this;omega
theorem zao: ∀a b:Nat,Lib.decDigits a=Lib.decDigits b->a=b:=by
 intro a
 induction a using Nat.strongRecOn with
 |_ a i=>
  intro b h;have f:=H0 List.length h;rw[Lib.decDigits_length,Lib.decDigits_length]at f
  by_cases e:a<10
  ·by_cases d:b<10
   ·rw[Lib.decDigits_one e,Lib.decDigits_one d]at h
    injection h with h
    exact zeI e d h
   ·rw[Lib.nDigits_small e,Lib.nDigits_big d]at f
    have:=Lib.nDigits_pos (b/10);omega
  ·by_cases d:b<10
   ·rw[Lib.nDigits_small d,Lib.nDigits_big e]at f
    have:=Lib.nDigits_pos (a/10);omega
   ·rw[Lib.decDigits,Lib.decDigits.eq_1 b,dif_neg e,dif_neg d]at h
    obtain⟨j,g⟩:=List.append_inj' h rfl;injection g with g
    have k:=i (a/10) (by omega) (b/10) j;have l:=zeI (by omega) (by omega) g;omega
theorem YV{a b:Nat}(h:zW a=zW b):a=b:=by
 have e: ∀n:Nat,zW n=Lib.decDigits n:=by intro n;unfold zW Lib.itoa;rw[B5 (by omega)];simp
 rw[e,e]at h;exact zao a b h
theorem zfO{a b:ByteArray}(h:a=b):a.data.toList=b.data.toList:=by rw[h]
theorem zl0{a b:Nat}(h:vT a=vT b):a=b:=by
 have:=zfO h;rw[zcZ,zcZ]at this;injection this with _ this
 exact YV this
theorem zmx{a b:Nat}(h:iT a=iT b):a=b:=by
 have:=zfO h;rw[zd4,zd4]at this;injection this with _ this
 exact YV this
theorem zlc(a b:Nat):vT a≠iT b:=by
 intro h;have:=zfO h;rw[zcZ,zd4]at this;injection this with this _
 revert this;decide
theorem zjU{s:ByteArray}(hs:s∈pq)(a:Nat):s≠vT a/\s≠iT a:=by
 simp only[pq,E7,List.mem_nil_iff,or_false]at hs;refine⟨λh=>?_,λh=>?_⟩
 all_goals
  have:=zfO h
  first|rw[zcZ]at this|rw[zd4]at this
  rcases hs with rfl|rfl<;>(injection this with this _;revert this;decide)
section
variable {us:List Fn}{env:P1}{n p:Int}{a b:Ex}{t:ByteArray}
theorem zjQ(d:O2 us env a=.ok 1):O2 us env (.mk 4 n t [a] p)=.ok 1:=by rw[O2];simp[L4,d]
theorem zgJ(d:O2 us env a=.ok 1):O2 us env (.mk 8 n t [a] p)=.ok 1:=by rw[O2];simp[L4,d]
theorem zjM(d:O2 us env a=.ok 2):O2 us env (.mk 5 n t [a] p)=.ok 2:=by rw[O2];simp[L4,d]
theorem zgZ{f:Fn}(d:S3 us t=some f)(e:f.K4=[1,1])(g:f.out=1)(h:O2 us env a=.ok 1)(i:O2 us env b=.ok 1):O2 us env (.mk 7 n t [a,b] p)=.ok 1:=by rw[O2,d];simp[L4,h,i,e,g]
theorem zeT(h:lv t.data.toList<=2)(d:O2 us env a=.ok 2)(e:O2 us env b=.ok 2):O2 us env (.mk 6 n t [a,b] p)=.ok 2:=by rw[O2];simp[L4,d,e,h]
theorem zjT(d:3<lv t.data.toList)(f:O2 us env a=.ok 1)(g:O2 us env b=.ok 1):O2 us env (.mk 6 n t [a,b] p)=.ok 1:=by
 have h: ¬(t=⟨#[61,61]⟩\/t=⟨#[33,61]⟩):=by rintro(rfl|rfl)<;>revert d<;>decide
 rw[O2,B5 (by decide),B5 (by decide),B5 (by decide),B5 (by decide),B5 (by decide),B5 (by omega),B5 (λe=>h e.2)];simp[L4,f,g];omega
theorem zjO(h:lv t.data.toList=3)(d:O2 us env a=.ok 1)(f:O2 us env b=.ok 1):O2 us env (.mk 6 n t [a,b] p)=.ok 2:=by
 rw[O2,B5 (by decide),B5 (by decide),B5 (by decide),B5 (by decide),B5 (by decide),B5 (by omega)]
 by_cases g:t=⟨#[61,61]⟩\/t=⟨#[33,61]⟩
 ·rw[C8 ⟨rfl,g⟩]
  simp[L4,Qw,d,f]
 ·rw[B5 (λe=>g e.2)]
  simp[L4,d,f,h]
end
def GE.okE(env:P1)(low:Nat):GE->Prop
 |.qE s=>L5 env s=1
 |.lit _=>True
 |.neg x=>x.okE env low
 |.call f x y=>f<low/\x.okE env low/\y.okE env low
 |.X0 _ x=>x.okE env low
 |.xI _ x y=>x.okE env low/\y.okE env low
 |.not x=>x.okE env low
 |.and x y=>x.okE env low/\y.okE env low
 |.or x y=>x.okE env low/\y.okE env low
 |.tf _=>True
 |.jx _ x y=>x.okE env low/\y.okE env low
theorem GE.jt{ρ env ns}{low:Nat}(d: ∀s∈ns,L5 env (ρ s)=1): ∀(x:GE),x.jU ns low->(x.jd ρ).okE env low
 |.qE s,h=>d s h
 |.lit _,_=>trivial
 |.neg x,h=>GE.jt d x h
 |.call _ x y,h=>⟨h.1,GE.jt d x h.2.1,GE.jt d y h.2.2⟩
 |.X0 _ x,h=>GE.jt d x h
 |.xI _ x y,h=>⟨GE.jt d x h.1,GE.jt d y h.2⟩
 |.not x,h=>GE.jt d x h
 |.and x y,h=>⟨GE.jt d x h.1,GE.jt d y h.2⟩
 |.or x y,h=>⟨GE.jt d x h.1,GE.jt d y h.2⟩
 |.tf _,_=>trivial
 |.jx _ x y,h=>⟨GE.jt d x h.1,GE.jt d y h.2⟩
def zaN(us:List Fn)(low:Nat):Prop:= ∀f,f<low-> ∃fn,S3 us ⟨(fL f).toArray⟩=some fn/\fn.K4=[1,1]/\fn.out=1
theorem qA.zb5{us:List Fn}{env:P1}{low:Nat}(r:zaN us low)(x:GE): ∀y,qA x y->x.Zm->x.okE env low->O2 us env y=.ok 1:=by
 induction x with
 |qE s=>intro y h _ d;cases h;rw[O2];have:L5 env s=1:=d;simp[this]
 |lit n=>intro y h _ _;cases h;rw[O2];simp
 |neg x j=>intro y h e d;cases h with|neg h=>exact zjQ (j _ h e d)
 |call f x z g i=>intro y h e d;cases h with|call l q=>
  obtain⟨fn,u,v,w⟩:=r f d.1;exact zgZ u v w (g _ l e.1 d.2.1) (i _ q e.2 d.2.2)
 |X0 k x j=>intro y h e d;cases h with|X0 h=>exact zgJ (j _ h e d)
 |xI o x z g i=>intro y h e d;cases h with|xI l q=>
  exact zjT (by rw[zat];have:=zdE o;omega) (g _ l e.1 d.1) (i _ q e.2 d.2)
 |_=>intro y h e;exact e.elim
theorem qA.jV{us:List Fn}{env:P1}{low:Nat}(l:zaN us low)(x:GE): ∀y,qA x y->x.isF->x.okE env low->O2 us env y=.ok 2:=by
 induction x with
 |tf k=>intro y h _ _;cases h;rw[O2];simp
 |not x q=>intro y h d e;cases h with|not h=>exact zjM (q _ h d e)
 |and x z f g=>intro y h d e;cases h with|and i j=>exact zeT (by decide) (f _ i d.1 e.1) (g _ j d.2 e.2)
 |or x z f g=>intro y h d e;cases h with|or i j=>exact zeT (by decide) (f _ i d.1 e.1) (g _ j d.2 e.2)
 |jx o x z _ _=>intro y h d e;cases h with|jx i j=>exact zjO (by rw[zat];exact zby o) (qA.zb5 l x _ i d.1 e.1) (qA.zb5 l z _ j d.2 e.2)
 |_=>intro y h d;exact d.elim
structure Yv(ρ:ByteArray->ByteArray)(ns:List ByteArray)(m:Nat)(env:P1):Prop where
 vis: ∀s∈ns,L5 env (ρ s)=1
 new: ∀k,m<k->L5 env (ρ (vT k))=0/\L5 env (ρ (iT k))=0
section
variable {ρ:ByteArray->ByteArray}{ns:List ByteArray}{m:Nat}{env:P1}
theorem Yv.mono(h:Yv ρ ns m env){d:Nat}(e:m<=d):Yv ρ ns d env:=⟨h.vis,λk f=>h.new k (by omega)⟩
theorem Yv.bind(f: ∀s t,ρ s=ρ t->s=t)(h:Yv ρ ns m env):Yv ρ (ns++[vT (m+1)]) (m+1) ((ρ (vT (m+1)),1)::env):=by
 refine⟨λs d=>?_,λk j=>?_⟩
 ·rw[L5]
  by_cases e:ρ (vT (m+1))=ρ s
  ·rw[C8 e]
  ·rw[B5 e]
   rcases List.mem_append.1 d with d|d
   ·exact h.vis s d
   ·simp at d;subst d;exact H9 rfl e
 ·obtain⟨g,i⟩:=h.new k (by omega)
  refine⟨?_,?_⟩
  ·rw[L5,B5 (λe=>by have:=zl0 (f _ _ e);omega)];exact g
  ·rw[L5,B5 (λe=>zlc _ _ (f _ _ e))];exact i
theorem Yv.X2(d: ∀s t,ρ s=ρ t->s=t)(h:Yv ρ ns m env):Yv ρ ns (m+1) ((ρ (iT (m+1)),1)::env):=by
 refine⟨λs f=>?_,λk j=>?_⟩
 ·rw[L5]
  by_cases e:ρ (iT (m+1))=ρ s
  ·rw[C8 e]
  ·rw[B5 e];exact h.vis s f
 ·obtain⟨g,i⟩:=h.new k (by omega)
  refine⟨?_,?_⟩
  ·rw[L5,B5 (λe=>zlc _ _ (d _ _ e).symm)];exact g
  ·rw[L5,B5 (λe=>by have:=zmx (d _ _ e);omega)];exact i
end
def ZH(env d:P1):Prop:= ∀s,L5 env s≠0->L5 d s=L5 env s
theorem ZH.zae(env):ZH env env:=λ_ _=>rfl
theorem ZH.trans{a b c:P1}(h:ZH a b)(e:ZH b c):ZH a c:=λs d=>(e s (by rw[h s d];exact d)).trans (h s d)
theorem ZH.cons{env}{nm:ByteArray}{t:Int}(h:L5 env nm=0):ZH env ((nm,t)::env):=λs d=>by
 rw[L5,B5 (λe=>d (by rw[<-e];exact h))]
section
variable {us:List Fn}{env:P1}{c:Nat}{nm:ByteArray}{y:Ex}{J0 M9:List Sm}{p:Int}
theorem zeX(d:O2 us env y=.ok 1)(e:L5 env nm=0)(f:c<64):zC us 1 (.mk 1 nm y J0 M9 p) env c=.ok ((nm,1)::env,c+1,false):=by
 rw[zC,B5 (by rintro⟨h,-⟩;exact H9 h (by decide)),d];simp only;rw[C8 trivial];unfold Y4;rw[B5 (by rw[e];simp),B5 (by omega)]
theorem zeR(d:O2 us env y=.ok 1)(e:L5 env nm=1):zC us 1 (.mk 2 nm y J0 M9 p) env c=.ok (env,c,false):=by rw[zC];simp[d,e]
theorem zfC(d:O2 us env y=.ok 1):zC us 1 (.mk 6 nm y J0 M9 p) env c=.ok (env,c,false):=by rw[zC];simp[d]
theorem zjw(d:O2 us env y=.ok 1):zC us 1 (.mk 5 nm y J0 M9 p) env c=.ok (env,c,true):=by rw[zC];simp[d]
theorem zj2{t:Int}(d:O2 us env y=.ok t):zC us 1 (.mk 7 nm y J0 M9 p) env c=.ok (env,c,false):=by rw[zC];simp[d]
theorem zje{c1 d:Nat}{r1 e:Bool}(f:O2 us env y=.ok 2)(g:zS us 1 J0 env c=.ok (c1,r1))(h:zS us 1 M9 env c1=.ok (d,e)):zC us 1 (.mk 3 nm y J0 M9 p) env c=.ok (env,d,r1&&e):=by rw[zC];simp[f,g,h]
theorem zhw{c1:Nat}{r1:Bool}(d:O2 us env y=.ok 2)(e:zS us 1 J0 env c=.ok (c1,r1)):zC us 1 (.mk 4 nm y J0 M9 p) env c=.ok (env,c1,false):=by rw[zC];simp[d,e]
theorem jQ{s:Sm}{l:List Sm}{d:P1}{e:Nat}{r f:Bool}(h:zC us 1 s env c=.ok (d,e,f)):X6 us 1 (s::l) env c r=X6 us 1 l d e (r||f):=by rw[X6,h]
end
def GL.jr:GL->Prop
 |.nil=>False
 |.set _ _ r=>r.jr
 |.Q8 _ r=>r.jr
 |.xl _ _ _ r=>r.jr
 |.X2 _ _ _ r=>r.jr
 |.run _ r=>r.jr
 |.qi _ _=>True
 |.bind _ _ r=>r.jr
theorem zaT(g x):(zM g x).jr:=by
 unfold zM
 induction g<;>simp_all[GL.qv,GL.jr]
theorem Ql.JN{us:List Fn}{ρ:ByteArray->ByteArray}{low:Nat}(M: ∀s t,ρ s=ρ t->s=t)(E:zaN us low)(g:GL): ∀(l:List Sm),Ql ρ g l->g.ZQ-> ∀(ns:List ByteArray)(m:Nat)(env:P1)(c:Nat)(r:Bool),g.jU low ns m->Yv ρ ns m env->c+g.M3<=64->
 ∃F k,X6 us 1 l env c r=.ok (F,c+g.M3,k)/\ZH env F/\(r=true\/g.jr->k=true):=by
 induction g with
 |nil=>intro l h _ ns m env c r _ e _;cases h;exact⟨env,r,rfl,.zae _,λh=>h.elim id False.elim⟩
 |set s x q o=>
  intro l h f ns m env c r j e u;cases h with|set A v=>
  have B:=qA.zb5 E _ _ A (x.Y2 f.1) (x.jt e.vis j.2.1);rw[jQ (zeR B (e.vis s j.1))];obtain⟨w,k,z,C,D⟩:=o _ v f.2 ns m env c (r||false) j.2.2 e u;exact⟨w,k,z,C,λh=>D (by simpa[GL.jr]using h)⟩
 |Q8 x q o=>
  intro l h f ns m env c r j e u;cases h with|Q8 A v=>
  have B:=qA.zb5 E _ _ A (x.Y2 f.1) (x.jt e.vis j.1);rw[jQ (zfC B)];obtain⟨w,k,z,C,D⟩:=o _ v f.2 ns m env c (r||false) j.2 e u;exact⟨w,k,z,C,λh=>D (by simpa[GL.jr]using h)⟩
 |run x q o=>
  intro l h f ns m env c r j e u;cases h with|run A v=>
  have B:=qA.zb5 E _ _ A (x.Y2 f.1) (x.jt e.vis j.1);rw[jQ (zj2 B)];obtain⟨w,k,z,C,D⟩:=o _ v f.2 ns m env c (r||false) j.2 e u;exact⟨w,k,z,C,λh=>D (by simpa[GL.jr]using h)⟩
 |qi x q o=>
  intro l h f ns m env c r j e u;cases h with|qi A v=>
  have B:=qA.zb5 E _ _ A (x.Y2 f.1) (x.jt e.vis j.1);rw[jQ (zjw B)];obtain⟨w,k,z,C,D⟩:=o _ v f.2 ns m env c (r||true) j.2 e u;exact⟨w,k,z,C,λ_=>D (.inl (by simp))⟩
 |bind i x q o=>
  intro l h f ns m env c r j e u;obtain⟨rfl,G,H⟩:=j;cases h with|bind A v=>
  have B:=qA.zb5 E _ _ A (x.Y2 f.1) (x.jt e.vis G);have L:=(e.new (m+1) (by omega)).1;simp only[GL.M3]at u;rw[jQ (zeX B L (by omega))];obtain⟨w,k,z,C,D⟩:=o _ v f.2 _ _ _ (c+1) (r||false) H (e.bind M) (by omega);exact⟨w,k,by rw[z];simp only[GL.M3];congr 2;congr 1;omega,(ZH.cons L).trans C,λh=>D (by simpa[GL.jr]using h)⟩
 |xl d a b q N I o=>
  intro l h f ns m env c r j e u;cases h with|xl A Y O v=>
  have B:=qA.jV E _ _ A (d.yX f.1) (d.jt e.vis j.1);simp only[GL.M3]at u;obtain⟨ea,Z,a1,a2,a3⟩:=N _ Y f.2.1 ns m env c false j.2.1 e (by omega);obtain⟨P,Q,R,W,b3⟩:=I _ O f.2.2.1 ns (m+a.M3) env (c+a.M3) false j.2.2.1 (e.mono (by omega)) (by omega);rw[jQ (zje B (by rw[yM,a1]) (by rw[yM,R]))];obtain⟨w,k,z,C,D⟩:=o _ v f.2.2.2 ns (m+a.M3+b.M3) env (c+a.M3+b.M3) (r||(Z&&Q)) j.2.2.2 (e.mono (by omega)) (by omega);exact⟨w,k,by rw[z];simp only[GL.M3];congr 2;congr 1;omega,C,λh=>D (by rcases h with h|h;exact .inl (by simp[h]);exact .inr h)⟩
 |X2 i n b q I o=>
  intro l h f ns m env c r j e u;obtain⟨rfl,G,H⟩:=j;cases h with|X2 L S z O v=>
  simp only[GL.M3]at u;have X:=(e.new (m+1) (by omega)).2;have T:=qA.zb5 (env:=env) E _ _ L trivial trivial;have J:L5 ((ρ (iT (m+1)),1)::env) (ρ (iT (m+1)))=1:=by rw[L5,C8 rfl]
  have U:=qA.jV (env:=(ρ (iT (m+1)),1)::env) E _ _ S ⟨trivial,trivial⟩ ⟨J,trivial⟩;obtain⟨P,Q,R,W,b3⟩:=I _ O f.1 ns (m+1) _ (c+1) false G (e.X2 M) (by omega);have K:L5 P (ρ (iT (m+1)))=1:=(W _ (by rw[J];decide)).trans J;have V:=qA.zb5 (env:=P) E _ _ z ⟨trivial,trivial⟩ ⟨K,trivial⟩;rw[jQ (zeX T X (by omega)),jQ (zhw (c1:=c+1+b.M3) (r1:=Q||false) U (by rw[yM,yn,R];simp only[zeR V K]))];obtain⟨w,k,g1,g2,g3⟩:=o _ v f.2 ns (m+1+b.M3) _ (c+1+b.M3) (r||false||false) H ((e.X2 M).mono (by omega)) (by omega);exact⟨w,k,by rw[g1];simp only[GL.M3];congr 2;congr 1;omega,(ZH.cons X).trans g2,λh=>g3 (by simpa[GL.jr]using h)⟩
def GE.qk:GE->Nat->Prop
 |.qE _,d=>1<=d
 |.lit _,d=>1<=d
 |.neg x,d=>1<=d/\x.qk (d-1)
 |.call _ x y,d=>1<=d/\x.qk (d-1)/\y.qk (d-1)
 |.X0 k x,d=>1<=d/\k<=15/\x.qk (d-1)
 |.xI _ x y,d=>1<=d/\x.qk (d-1)/\y.qk (d-1)
 |.not x,d=>1<=d/\x.qk (d-1)
 |.and x y,d=>1<=d/\x.qk (d-1)/\y.qk (d-1)
 |.or x y,d=>1<=d/\x.qk (d-1)/\y.qk (d-1)
 |.tf _,d=>1<=d
 |.jx _ x y,d=>1<=d/\x.qk (d-1)/\y.qk (d-1)
def GE.Z2(x:GE): ∀{d e:Nat},d<=e->x.qk d->x.qk e:=by
 induction x with
 |qE s=>intro d e h a;simp only[GE.qk]at*;omega
 |lit n=>intro d e h a;simp only[GE.qk]at*;omega
 |tf n=>intro d e h a;simp only[GE.qk]at*;omega
 |neg x g=>intro d e h a;have f:=a.1;exact⟨by omega,g (by omega) a.2⟩
 |not x g=>intro d e h a;have f:=a.1;exact⟨by omega,g (by omega) a.2⟩
 |X0 k x g=>intro d e h a;have f:=a.1;exact⟨by omega,a.2.1,g (by omega) a.2.2⟩
 |call _ x y b c=>intro d e h a;have f:=a.1;exact⟨by omega,b (by omega) a.2.1,c (by omega) a.2.2⟩
 |xI _ x y b c=>intro d e h a;have f:=a.1;exact⟨by omega,b (by omega) a.2.1,c (by omega) a.2.2⟩
 |and x y b c=>intro d e h a;have f:=a.1;exact⟨by omega,b (by omega) a.2.1,c (by omega) a.2.2⟩
 |or x y b c=>intro d e h a;have f:=a.1;exact⟨by omega,b (by omega) a.2.1,c (by omega) a.2.2⟩
 |jx _ x y b c=>intro d e h a;have f:=a.1;exact⟨by omega,b (by omega) a.2.1,c (by omega) a.2.2⟩
def GE.Qm{ρ}(x:GE): ∀{d:Nat},x.qk d->(x.jd ρ).qk d:=by
 induction x with
 |qE s=>exact id
 |lit n=>exact id
 |tf n=>exact id
 |neg x e=>intro d a;exact⟨a.1,e a.2⟩
 |not x e=>intro d a;exact⟨a.1,e a.2⟩
 |X0 k x e=>intro d a;exact⟨a.1,a.2.1,e a.2.2⟩
 |call _ x y b c=>intro d a;exact⟨a.1,b a.2.1,c a.2.2⟩
 |xI _ x y b c=>intro d a;exact⟨a.1,b a.2.1,c a.2.2⟩
 |and x y b c=>intro d a;exact⟨a.1,b a.2.1,c a.2.2⟩
 |or x y b c=>intro d a;exact⟨a.1,b a.2.1,c a.2.2⟩
 |jx _ x y b c=>intro d a;exact⟨a.1,b a.2.1,c a.2.2⟩
def zw.qk{N:Nat}{e}{low d i f:Nat}{x}(h:zw N e low d i x f):x.qk (d+1):=by
 induction h with
 |qE _ _ _=>show 1<=_;omega
 |lit _ _=>show 1<=_;omega
 |neg _ _ c=>exact⟨by omega,c⟩
 |call _ _ _ _ a b=>exact⟨by omega,a,b⟩
 |X0 _ g _ c=>exact⟨by omega,by have:=g.1;omega,c⟩
 |xI _ _ _ _ a b=>exact⟨by omega,a,b⟩
def zi.qk{N:Nat}{c}{low d i e:Nat}{x}(h:zi N c low d i x e):x.qk (d+3):=by
 induction h with
 |not _ _ f=>exact⟨by omega,f⟩
 |and _ _ _ a b=>exact⟨by omega,a,b⟩
 |or _ _ _ a b=>exact⟨by omega,a,b⟩
 |tf _ _=>show 1<=_;omega
 |jx _ g _ j=>exact⟨by omega,GE.Z2 _ (by omega) g.qk,GE.Z2 _ (by omega) j.qk⟩
def GL.qk:GL->Nat->Prop
 |.nil,_=>True
 |.set _ x r,d=>1<=d/\x.qk (d-1)/\r.qk d
 |.Q8 x r,d=>1<=d/\x.qk (d-1)/\r.qk d
 |.xl c a b r,d=>1<=d/\c.qk (d-1)/\a.qk (d-1)/\b.qk (d-1)/\r.qk d
 |.X2 _ _ l r,d=>4<=d/\l.qk (d-1)/\r.qk d
 |.run x r,d=>1<=d/\x.qk (d-1)/\r.qk d
 |.qi x r,d=>1<=d/\x.qk (d-1)/\r.qk d
 |.bind _ x r,d=>1<=d/\x.qk (d-1)/\r.qk d
def GL.zfu(a b:GL){d:Nat}(e:a.qk d)(g:b.qk d):(a.qv b).qk d:=by
 induction a with
 |nil=>exact g
 |set s x r f=>exact⟨e.1,e.2.1,f e.2.2⟩
 |Q8 x r f=>exact⟨e.1,e.2.1,f e.2.2⟩
 |xl c a b r _ _ f=>exact⟨e.1,e.2.1,e.2.2.1,e.2.2.2.1,f e.2.2.2.2⟩
 |X2 i n l r _ f=>exact⟨e.1,e.2.1,f e.2.2⟩
 |run x r f=>exact⟨e.1,e.2.1,f e.2.2⟩
 |qi x r f=>exact⟨e.1,e.2.1,f e.2.2⟩
 |bind i x r f=>exact⟨e.1,e.2.1,f e.2.2⟩
def xc.qk{N low D:Nat}(j:6<=D){B:Ms->GL->Ms->Prop}(b: ∀s g c,B s g c->g.qk (D-1)){s g c}(h:xc N low B s g c):g.qk D:=by
 cases h with
 |set _ _ _ a=>exact⟨by omega,GE.Z2 _ (by omega) a.qk,trivial⟩
 |Q8 _ a=>exact⟨by omega,GE.Z2 _ (by omega) a.qk,trivial⟩
 |xl _ d e f=>exact⟨by omega,GE.Z2 _ (by omega) d.qk,b _ _ _ e,b _ _ _ f,trivial⟩
 |X2 _ _ i=>exact⟨by omega,b _ _ _ i,trivial⟩
 |run _ a=>exact⟨by omega,GE.Z2 _ (by omega) a.qk,trivial⟩
 |qi _ _ a=>exact⟨by omega,GE.Z2 _ (by omega) a.qk,trivial⟩
 |bind _ a=>exact⟨by omega,GE.Z2 _ (by omega) a.qk,trivial⟩
def Run.qk{D:Nat}{S:Ms->GL->Ms->Prop}(b: ∀s g a,S s g a->g.qk D){j:Nat}{s g a}(h:Run S j s g a):g.qk D:=by
 induction h with
 |nil=>trivial
 |xn _ c d=>exact GL.zfu _ _ d (b _ _ _ c)
def yh.qk{N low:Nat}: ∀(d:Nat)s g a,yh N low d s g a->g.qk (d+6):=by
 intro d
 induction d with
 |zero=>intro s g a ⟨_,_,_,_,h,_⟩;exact h.qk λ_ _ _ h=>xc.qk (by omega) (λ_ _ _ h=>h.elim) h
 |succ d b=>intro s g a ⟨_,_,_,_,h,_⟩;exact h.qk λ_ _ _ h=>xc.qk (by omega) (λs g a h=>by have:=b s g a h;rwa [show d+1+6-1=d+6 by omega]) h
def xC{k n:Int}{t:ByteArray}{xs}{p:Int}{left:Nat}(a:1<=left)(b:zJ k n t xs.length=true)(c: ¬(6<xs.length\/(k=8/\15<n)))(d:zx xs (left-1)=0):zK (.mk k n t xs p) left=0:=by
 rw[zK,zbm a b c];exact d
def zed{a:Ex}{left:Nat}(h:zK a left=0):zx [a] left=0:=by rw[zx,C8 h,zx]
def YQ{a b:Ex}{left:Nat}(h:zK a left=0)(c:zK b left=0):zx [a,b] left=0:=by rw[zx,C8 h,zx,C8 c,zx]
def qA.ok(x): ∀y(d:Nat),qA x y->x.zl->x.qk d->zK y d=0:=by
 induction x with
 |qE s=>intro y d h b a;cases h;exact xC a (by rw[ok3];simp[R2,show M5 s.data.toList=true from b]) (by simp) (by rw[zx])
 |lit n=>
  intro y d h b a;cases h;have m:n<100:=b;exact xC a (by rw[ok1];simp;omega) (by simp) (by rw[zx])
 |tf k=>intro y d h b a;cases h;exact xC a (by rw[ok2];split<;>simp) (by simp) (by rw[zx])
 |neg x l=>intro y d h b a;cases h with|neg h=>exact xC a.1 (by rw[ok4];simp) (by simp) (zed (l _ _ h b a.2))
 |not x l=>intro y d h b a;cases h with|not h=>exact xC a.1 (by simp[zJ]) (by simp) (zed (l _ _ h b a.2))
 |X0 k x l=>intro y d h b a;cases h with|X0 h=>exact xC a.1 (by rw[ok8];simp) (by have:=a.2.1;simp;omega) (zed (l _ _ h b.2 a.2.2))
 |call f x z e g=>intro y d h b a;cases h with|call i j=>exact xC a.1 (by rw[ok7];unfold R2;rw[zat];exact zN (c:=102) (by decide) f (by have:=b.1;omega)) (by simp) (YQ (e _ _ i b.2.1 a.2.1) (g _ _ j b.2.2 a.2.2))
 |xI o x z e g=>intro y d h b a;cases h with|xI i j=>exact xC a.1 (by rw[ok6,zat];have:=zdE o;simp;omega) (by simp) (YQ (e _ _ i b.1 a.2.1) (g _ _ j b.2 a.2.2))
 |and x z e g=>intro y d h b a;cases h with|and i j=>exact xC a.1 (by rw[ok6];rfl) (by simp) (YQ (e _ _ i b.1 a.2.1) (g _ _ j b.2 a.2.2))
 |or x z e g=>intro y d h b a;cases h with|or i j=>exact xC a.1 (by rw[ok6];rfl) (by simp) (YQ (e _ _ i b.1 a.2.1) (g _ _ j b.2 a.2.2))
 |jx o x z e g=>intro y d h b a;cases h with|jx i j=>exact xC a.1 (by rw[ok6,zat,zby o];simp) (by simp) (YQ (e _ _ i b.1 a.2.1) (g _ _ j b.2 a.2.2))
def yJ{k:Int}{nm:ByteArray}{a J0 M9}{p:Int}{left:Nat}(g:1<=left)(i:1<=k/\k<=7)(c:k<=2->R2 nm=true)(d:zK a (left-1)=0)(e:O0 J0 (left-1)=0)(f:O0 M9 (left-1)=0):xK (.mk k nm a J0 M9 p) left=0:=by
 rw[xK,B5 (by omega),B5 (by rintro(h|h|⟨h,b⟩);omega;omega;rw[c h]at b;cases b),B5 (by simp[d]),B5 (by simp[e])]
 split
 ·exact f
 ·rfl
def zR{s:Sm}{l:List Sm}{left:Nat}(h:xK s left=0)(a:O0 l left=0):O0 (s::l) left=0:=by rw[O0,C8 h];exact a
def zho{a b}{left:Nat}(h:O0 a left=0)(d:O0 b left=0):O0 (a++b) left=0:=by
 induction a with
 |nil=>exact d
 |cons s a e=>
  rw[O0]at h
  split at h
  ·rename_i c;exact zR c (e h)
  ·rename_i c;exact H9 h c
def W0(left:Nat):O0 [] left=0:=by rw[O0]
def Ql.ok{ρ}(g): ∀(l:List Sm)(d:Nat),Ql ρ g l->g.yg ρ->g.qk d->O0 l d=0:=by
 induction g with
 |nil=>intro l d h _ _;cases h;exact W0 _
 |set s x r j=>intro l d h e f;cases h with|set m k=>exact zR (yJ f.1 (by decide) (λ_=>e.1) (qA.ok _ _ _ m e.2.1 (x.Qm f.2.1)) (W0 _) (W0 _)) (j _ _ k e.2.2 f.2.2)
 |Q8 x r j=>intro l d h e f;cases h with|Q8 m k=>exact zR (yJ f.1 (by decide) (λh=>H9 h (by decide)) (qA.ok _ _ _ m e.1 (x.Qm f.2.1)) (W0 _) (W0 _)) (j _ _ k e.2 f.2.2)
 |run x r j=>intro l d h e f;cases h with|run m k=>exact zR (yJ f.1 (by decide) (λh=>H9 h (by decide)) (qA.ok _ _ _ m e.1 (x.Qm f.2.1)) (W0 _) (W0 _)) (j _ _ k e.2 f.2.2)
 |qi x r j=>intro l d h e f;cases h with|qi m k=>exact zR (yJ f.1 (by decide) (λh=>H9 h (by decide)) (qA.ok _ _ _ m e.1 (x.Qm f.2.1)) (W0 _) (W0 _)) (j _ _ k e.2 f.2.2)
 |bind i x r j=>intro l d h e f;cases h with|bind m k=>exact zR (yJ f.1 (by decide) (λ_=>e.1) (qA.ok _ _ _ m e.2.1 (x.Qm f.2.1)) (W0 _) (W0 _)) (j _ _ k e.2.2 f.2.2)
 |xl c a b r p o j=>
  intro l d h e f;cases h with|xl m t q k=>
  exact zR (yJ f.1 (by decide) (λh=>H9 h (by decide)) (qA.ok _ _ _ m e.1 (c.Qm f.2.1)) (p _ _ t e.2.1 f.2.2.1) (o _ _ q e.2.2.1 f.2.2.2.1)) (j _ _ k e.2.2.2 f.2.2.2.2)
 |X2 i n b r o j=>
  intro l d h e f;cases h with|X2 u v w q k=>
  have y:=f.1;have z:=qA.ok _ _ (d-1) u (show 0<100 by decide) (show 1<=d-1 by omega);have A:=qA.ok _ _ (d-1) v ⟨e.1,e.2.1⟩ ⟨by omega,show 1<=_ by omega,show 1<=_ by omega⟩;have B:=qA.ok _ _ (d-1-1) w ⟨e.1,show 1<100 by decide⟩ ⟨by omega,show 1<=_ by omega,show 1<=_ by omega⟩
  exact zR (yJ (by omega) (by decide) (λ_=>e.1) z (W0 _) (W0 _))
   (zR (yJ (by omega) (by decide) (λh=>H9 h (by decide)) A (zho (o _ _ q e.2.2.1 f.2.1) (zR (yJ (by omega) (by decide) (λ_=>e.1) B (W0 _) (W0 _)) (W0 _))) (W0 _)) (j _ _ k e.2.2.2 f.2.2))
def fN(j:Nat):ByteArray:=⟨(fL j).toArray⟩
theorem zmS{a b:Nat}(h:fN a=fN b):a=b:=by
 have:=zfO h;unfold fN at this;rw[zat,zat]at this;injection this with _ this
 exact YV this
theorem zjt(a:Nat):fN a≠Yn:=by
 intro h;have:=zfO h;unfold fN at this;rw[zat]at this;injection this with this _
 revert this;decide
theorem zaX: ∀l yd,(l.map Fn.J2).Nodup->(∀f∈l,f.J2∉yd)->yO yd l=none
 |[],_,_,_=>rfl
 |f::l,yd,a,hs=>by
  simp only[List.map_cons,List.nodup_cons]at a;rw[yO,B5]
  ·refine zaX l _ a.2 λg c=>?_
   intro b
   rcases List.mem_cons.1 b with e|b
   ·exact a.1 (by rw[<-e];exact G7 c)
   ·exact hs g (x5 _ c) b
  ·intro h
   obtain⟨n,i,d⟩:=List.any_eq_true.1 h;simp at d;subst d;exact hs f (B2 ..) i
theorem zcs: ∀{us f},(us.map Fn.J2).Nodup->f∈us->S3 us f.J2=some f
 |[],_,_,h=>by cases h
 |g::l,f,a,h=>by
  simp only[List.map_cons,List.nodup_cons]at a;unfold S3;rw[List.find?_cons]
  rcases List.mem_cons.1 h with rfl|h
  ·simp
  ·have:decide (g.J2=f.J2)=false:=by simp;intro e;exact a.1 (by rw[e];exact G7 h)
   rw[this];exact zcs a.2 h
section
variable {ρ:ByteArray->ByteArray}
theorem Qo.at{j:Nat}{fs l}(h:Qo ρ j fs l): ∀f∈l,∃q p,fs[q]?=some p/\TrF ρ (j+q) p.1 p.2 f:=by
 induction h with
 |nil=>intro f c;cases c
 | @cons j g x r f l d k e=>
   intro i c
   rcases List.mem_cons.1 c with rfl|c
   ·exact⟨0,(g,x),rfl,d⟩
   ·obtain⟨q,p,a,b⟩:=e i c
    exact⟨q+1,p,by simpa using a,by rwa [show j+(q+1)=j+1+q by omega]⟩
theorem Qo.get{j:Nat}{fs l}(h:Qo ρ j fs l): ∀q,q<fs.length-> ∃f∈l,f.J2=fN (j+q)/\f.K4=[1,1]/\f.out=1:=by
 induction h with
 |nil=>intro q e;simp at e
 | @cons j g x r f l i n k=>
   intro q e;cases q with
   |zero=>exact⟨f,B2 ..,i.1,i.2.2.1,i.2.2.2.1⟩
   |succ q=>
    obtain⟨m,a,b,c,d⟩:=k q (by simpa using e);exact⟨m,x5 _ a,by rwa [show j+(q+1)=j+1+q by omega],c,d⟩
theorem Qo.zoN{j:Nat}{fs l}(h:Qo ρ j fs l):(l.map Fn.J2).Nodup:=by
 induction h with
 |nil=>exact List.nodup_nil
 | @cons j g x r f l i k m=>
   simp only[List.map_cons,List.nodup_cons];refine⟨λn=>?_,m⟩;obtain⟨d,c,e⟩:=List.mem_map.1 n;obtain⟨q,p,a,b⟩:=k.at d c;have:fN (j+1+q)=fN j:=(show d.J2=fN (j+1+q) from b.1).symm.trans (e.trans i.1);have:=zmS this;omega
theorem Qo.X5{j:Nat}{fs l}(h:Qo ρ j fs l):l.length=fs.length:=by
 induction h with
 |nil=>rfl
 |cons _ _ a=>simp[a]
def JA(ρ:ByteArray->ByteArray)(j:Nat)(a:List ByteArray)(g:GL)(x:GE):Prop:=
 (g.yg ρ/\(x.jd ρ).zl/\g.ZQ/\x.Zm)/\(zM g x).qk 40/\ ∃m,(zM g x).jU j a m/\(zM g x).M3<=60
theorem GL.zkF(g:GL): ∀(ns:List ByteArray)(s:ByteArray),s∈ns->s∈g.nsA ns:=by
 induction g with
 |nil=>intro ns s h;exact h
 |bind i x r a=>intro ns s h;exact a _ _ (List.mem_append_left _ h)
 |set _ _ r a=>exact λns s h=>a ns s h
 |Q8 _ r a=>exact λns s h=>a ns s h
 |xl _ _ _ r _ _ a=>exact λns s h=>a ns s h
 |X2 _ _ _ r _ a=>exact λns s h=>a ns s h
 |run _ r a=>exact λns s h=>a ns s h
 |qi _ r a=>exact λns s h=>a ns s h
theorem GE.zf{c b}{low:Nat}(h: ∀s∈c,s∈b): ∀(x:GE),x.jU c low->x.jU b low
 |.qE s,a=>h s a
 |.lit _,_=>trivial
 |.neg x,a=>GE.zf h x a
 |.call _ x y,a=>⟨a.1,GE.zf h x a.2.1,GE.zf h y a.2.2⟩
 |.X0 _ x,a=>GE.zf h x a
 |.xI _ x y,a=>⟨GE.zf h x a.1,GE.zf h y a.2⟩
 |.not x,a=>GE.zf h x a
 |.and x y,a=>⟨GE.zf h x a.1,GE.zf h y a.2⟩
 |.or x y,a=>⟨GE.zf h x a.1,GE.zf h y a.2⟩
 |.tf _,_=>trivial
 |.jx _ x y,a=>⟨GE.zf h x a.1,GE.zf h y a.2⟩
def NsR(ρ:ByteArray->ByteArray)(a:List ByteArray):Prop:= ∀s∈a,M5 (ρ s).data.toList=true
theorem zw.yg{N:Nat}{g}{low d i j:Nat}{x}(c:NsR ρ g)(l:low<=2)(h:zw N g low d i x j):(x.jd ρ).zl:=by
 induction h with
 |qE _ _ k=>exact c _ (B7 k)
 |lit _ h=>show _<100;have:=h.1;omega
 |neg _ _ e=>exact e
 |call _ f _ _ a b=>exact⟨by have:=f.1;omega,a,b⟩
 |X0 _ f _ e=>exact⟨by have:=f.1;omega,e⟩
 |xI _ _ _ _ a b=>exact⟨a,b⟩
theorem zi.yg{N:Nat}{e}{low d i g:Nat}{x}(c:NsR ρ e)(f:low<=2)(h:zi N e low d i x g):(x.jd ρ).zl:=by
 induction h with
 |not _ _ j=>exact j
 |and _ _ _ a b=>exact⟨a,b⟩
 |or _ _ _ a b=>exact⟨a,b⟩
 |tf _ _=>trivial
 |jx _ k _ l=>exact⟨k.yg c f,l.yg c f⟩
def zhS(ρ:ByteArray->ByteArray):Prop:= ∀k,k<=9998->M5 (ρ (vT k)).data.toList=true/\M5 (ρ (iT k)).data.toList=true
def OkR(ρ:ByteArray->ByteArray)(s:Ms)(g:GL)(a:Ms):Prop:=s.m<=a.m/\(NsR ρ s.ns->a.m<=9998->g.yg ρ/\NsR ρ a.ns)
theorem xc.yg{N low:Nat}(t:zhS ρ){B:Ms->GL->Ms->Prop}(k:low<=2)(o: ∀s g s',B s g s'->OkR ρ s g s'/\s'.ns=s.ns){s g s'}(h:xc N low B s g s'):OkR ρ s g s':=by
 refine⟨?_,?_⟩
 ·cases h with
  |xl _ _ u q=>have e:=(o _ _ _ u).1.1;have r:=(o _ _ _ q).1.1;exact C1 e r
  |X2 _ _ q=>have e:=(o _ _ _ q).1.1;simp only at e|-;omega
  |bind _ _=>exact Nat.le_succ _
  |_=>exact x7 _
 cases h with
 |set p e v j=>intro d f;exact⟨⟨d _ (B7 v),j.yg d k,trivial⟩,d⟩
 |Q8 p j=>intro d f;exact⟨⟨j.yg d k,trivial⟩,d⟩
 | @xl z m i A c a b K E p F u q=>
   intro d f;obtain⟨e,r⟩:=o _ _ _ u;obtain⟨C,L⟩:=o _ _ _ q;obtain⟨G,H⟩:=C.2 (by rw[r];exact d) f;obtain⟨w,D⟩:=e.2 d (by have:=C.1;omega);exact⟨⟨F.yg d k,w,G,trivial⟩,H⟩
 | @X2 z m i A n l E p I y=>
   intro d f;obtain⟨e,r⟩:=o _ _ _ y;obtain⟨w,D⟩:=e.2 d f;have J:=e.1;simp only at J;exact⟨⟨(t _ (by omega)).2,by have:=I.1;omega,w,trivial⟩,D⟩
 |run p j=>intro d f;exact⟨⟨j.yg d k,trivial⟩,d⟩
 |qi p e j=>intro d f;exact⟨⟨j.yg d k,trivial⟩,d⟩
 | @bind z m i M A x p j=>
   intro d f;refine⟨⟨(t _ f).1,j.yg d k,trivial⟩,?_⟩;intro s v
   rcases List.mem_append.1 v with h|h
   ·exact d s h
   ·simp at h;subst h;exact(t _ f).1
theorem Run.yg{S:Ms->GL->Ms->Prop}(d: ∀s g s',S s g s'->OkR ρ s g s'){j:Nat}{s g s'}(h:Run S j s g s'):OkR ρ s g s':=by
 induction h with
 |nil=>exact⟨x7 _,λa _=>⟨trivial,a⟩⟩
 | @xn j s n o g x p e c=>
   have b:=d _ _ _ e;refine⟨C1 c.1 b.1,λa f=>?_⟩;obtain⟨i,k⟩:=c.2 a (by have:=b.1;omega);obtain⟨l,m⟩:=b.2 k f;exact⟨GL.JF _ _ i l,m⟩
theorem yh.yg{N low:Nat}(c:zhS ρ)(e:low<=2): ∀(d:Nat)s g a,yh N low d s g a->OkR ρ s g a/\a.ns=s.ns:=by
 have b: ∀(S:Ms->GL->Ms->Prop),(∀s g a,S s g a->OkR ρ s g a)-> ∀s g a,jA N S s g a->OkR ρ s g a/\a.ns=s.ns:=by
  rintro S k s g a ⟨j,o,p,q,l,rfl⟩;have f:=l.yg k;exact⟨⟨f.1,λi m=>⟨(f.2 i m).1,i⟩⟩,rfl⟩
 intro d
 induction d with
 |zero=>exact b _ λs g a h=>xc.yg c e (λ_ _ _ h=>h.elim) h
 |succ d n=>exact b _ λs g a h=>xc.yg c e n h
theorem zlm{N low d u v w y C:Nat}{m g x}(D:zhS ρ)(z:low<=2)(I:d<=3)(J:N<=60)(hi:v<=N)(E:w<=9998)(n:NsR ρ m)(k:yh N low d ⟨m,u,v⟩ g ⟨m,w,y⟩)(f:zw N m low 2 y x C):JA ρ low m g x:=by
 have j:=((yh.yg D z d _ _ _ k).1.2 n E).1;obtain⟨A,K,-⟩:=yh.zpQ d _ _ _ k;have F:=(yh.cnt d _ _ _ k hi).1.all;have G:=(yh.cnt d _ _ _ k hi).1.top;simp only at A F G;have B:slk d<=26:=by
  have H:d=0\/d=1\/d=2\/d=3:=by omega
  rcases H with rfl|rfl|rfl|rfl<;>decide
 have o: ∀(g:GL)(d e:Nat),d<=e->g.qk d->g.qk e:=by
  intro g
  induction g with
  |nil=>intro d e _ _;trivial
  |set _ x r i=>intro d e h f;have j:=f.1;exact⟨by omega,GE.Z2 _ (by omega) f.2.1,i _ _ h f.2.2⟩
  |Q8 x r i=>intro d e h f;have j:=f.1;exact⟨by omega,GE.Z2 _ (by omega) f.2.1,i _ _ h f.2.2⟩
  |run x r i=>intro d e h f;have j:=f.1;exact⟨by omega,GE.Z2 _ (by omega) f.2.1,i _ _ h f.2.2⟩
  |qi x r i=>intro d e h f;have j:=f.1;exact⟨by omega,GE.Z2 _ (by omega) f.2.1,i _ _ h f.2.2⟩
  |bind _ x r i=>intro d e h f;have j:=f.1;exact⟨by omega,GE.Z2 _ (by omega) f.2.1,i _ _ h f.2.2⟩
  |xl c a b r p q i=>intro d e h f;have j:=f.1;exact⟨by omega,GE.Z2 _ (by omega) f.2.1,p _ _ (by omega) f.2.2.1,q _ _ (by omega) f.2.2.2.1,i _ _ h f.2.2.2.2⟩
  |X2 _ _ l r t i=>intro d e h f;have j:=f.1;exact⟨by omega,t _ _ (by omega) f.2.1,i _ _ h f.2.2⟩
 refine⟨⟨j,f.yg n z,yh.ZQ d _ _ _ k,f.Zm⟩,?_,u,?_,?_⟩
 ·exact GL.zfu _ _ (o _ _ _ (by omega) (yh.qk d _ _ _ k)) ⟨by omega,GE.Z2 _ (by omega) f.qk,trivial⟩
 ·exact GL.zfs _ _ _ _ _ A ⟨GE.zf (λs B=>g.zkF _ s B) _ f.jU,trivial⟩
 ·unfold zM
  rw[GL.JD];simp only[GL.M3];omega
theorem xr.Qr{N j i m l:Nat}{fs}(n:zhS ρ)(o:NsR ρ pq)(r:N<=60)(s:j<=2)(hi:i<=N)(h:xr N j i fs m l): ∀q p,fs[q]?=some p->JA ρ q pq p.1 p.2:=by
 induction h with
 |nil=>intro q p h;simp at h
 | @xn j i w y z A B fs g x b f k t=>
   intro q p a;rw[List.getElem?_append]at a
   split at a
   ·exact t (by omega) hi q p a
   ·rename_i u
    have c:q=fs.length:=by
     have:=(List.getElem?_eq_some_iff.1 a).1;simp at this;omega
    subst c;simp at a;subst a;have v:=(xr.mono s hi (.xn b f k)).1;have e:=(b.mono (by omega) hi).2.2.1;rw[b.X5];exact zlm (d:=2) n (by omega) (by decide) r e (by omega) o f k
theorem zjg(b: ∀s t,ρ s=ρ t->s=t)(p:Int):zy p [ρ tP,ρ tQ] [1,1] [] 0=.ok ([(ρ tQ,1),(ρ tP,1)],2):=by
 have a:ρ tP≠ρ tQ:=λe=>by have:=b _ _ e;revert this;decide
 simp[zy,Y4,L5,a]
theorem zmg(a: ∀s t,ρ s=ρ t->s=t)(m:Nat):Yv ρ pq m [(ρ tQ,1),(ρ tP,1)]:=by
 refine⟨λs b=>?_,λk _=>?_⟩
 ·simp only[pq,E7,List.mem_nil_iff,or_false]at b
  rw[L5,L5]
  rcases b with rfl|rfl
  ·split
   ·rfl
   ·exact C8 rfl
  ·exact C8 rfl
 ·have c:tP∈pq:=by simp[pq,tP]
  have d:tQ∈pq:=by simp[pq,tQ]
  refine⟨?_,?_⟩
  ·rw[L5,L5,B5 (λe=>(zjU d k).1 (a _ _ e)),B5 (λe=>(zjU c k).1 (a _ _ e))];rfl
  ·rw[L5,L5,B5 (λe=>(zjU d k).2 (a _ _ e)),B5 (λe=>(zjU c k).2 (a _ _ e))];rfl
theorem TrF.JN{us}{j:Nat}{g x f}(a: ∀s t,ρ s=ρ t->s=t)(c:zaN us j)(d:JA ρ j pq g x)(h:TrF ρ j g x f):JM us f=.ok ():=by
 obtain⟨u,e,i,k,l⟩:=h;obtain⟨⟨v,w,n,o⟩,b,m,p,y⟩:=d;obtain⟨z,A,q,B,r⟩:=Ql.JN a c _ _ l (GL.XX _ _ n ⟨o,trivial⟩) pq m _ 2 false p (zmg a m) (by omega);unfold JM;rw[e,i,zjg a,k];simp only[yM,q,r (.inr (zaT g x)),if_true]
theorem TrM.JN{us}{j:Nat}{g x f}(a: ∀s t,ρ s=ρ t->s=t)(c:zaN us j)(d:JA ρ j [] g x)(h:TrM ρ g x f):JM us f=.ok ():=by
 obtain⟨u,e,i,k,l⟩:=h;obtain⟨⟨v,w,n,o⟩,b,m,p,y⟩:=d;obtain⟨z,A,q,B,r⟩:=Ql.JN a c _ _ l (GL.XX _ _ n ⟨o,trivial⟩) [] m [] 0 false p ⟨(λ_ h=>by cases h),λ_ _=>⟨rfl,rfl⟩⟩ (by omega);unfold JM;rw[e,i,k];simp only[zy,yM,q,r (.inr (zaT g x)),if_true]
theorem zcK(us): ∀l:List Fn,(∀f∈l,JM us f=.ok ())->xi us l=.ok ()
 |[],_=>rfl
 |f::l,h=>by rw[xi,h f (B2 ..)];exact zcK us l λg a=>h g (x5 _ a)
theorem zcX: ∀l:List Fn,(∀f∈l,QZ f=0)->ja l=0
 |[],_=>by rw[ja]
 |f::l,h=>by rw[ja,C8 (h f (B2 ..))];exact zcX l λg a=>h g (x5 _ a)
theorem TrF.ok{j:Nat}{d g x f}(e:j<10^10)(a:NsR ρ pq)(i:JA ρ j d g x)(h:TrF ρ j g x f):QZ f=0:=by
 obtain⟨k,l,m,n,o⟩:=h;obtain⟨⟨p,q,v,w⟩,b,-⟩:=i;have r:=Ql.ok _ _ 40 o (GL.JF _ _ p ⟨q,trivial⟩) b;have s:R2 f.J2=true:=by rw[k];unfold R2;rw[zat];exact zN (c:=102) (by decide) j e
 have t:R2 (ρ tP)=true:=a tP (by simp[pq,tP]);have u:R2 (ρ tQ)=true:=a tQ (by simp[pq,tQ]);unfold QZ;rw[l,m,n];simp[s,t,u,jc,r]
theorem TrM.ok{j:Nat}{a g x f}(c:JA ρ j a g x)(h:TrM ρ g x f):QZ f=0:=by
 obtain⟨d,e,i,k,l⟩:=h;obtain⟨⟨m,n,q,r⟩,b,-⟩:=c;have o:=Ql.ok _ _ 40 l (GL.JF _ _ m ⟨n,trivial⟩) b;have p:R2 f.J2=true:=by rw[d];decide
 unfold QZ;rw[e,i,k];simp[p,jc,o]
end
theorem jj.right{N:Nat}{t:ByteArray}(h:jj N t): ∃(k:Nat)(fs:List (GL×GE))(g:GL)(x:GE),k<=2/\fs.length=k/\t.data.toList=zt (jL fs g x)/\R9 (jL fs g x)/\
 ∀ρ:ByteArray->ByteArray,(∀s t,ρ s=ρ t->s=t)->NsR ρ pq->zhS ρ->(∀q p,fs[q]?=some p->JA ρ q pq p.1 p.2)/\JA ρ k [] g x/\ ∀(ws:List Wd)(en:Nat),jT ws 0 (Qc ρ fs g x)-> ∃l f,Qo ρ 0 fs l/\TrM ρ g x f/\Du ws en 0 (.xL (l++[f]))/\U6 (l++[f])=0/\S4 (l++[f])=(0,0):=by
 obtain⟨k,fs,g,x,i0,m1,i1,m2,i2,i3,K,E,L,S,T,F⟩:=h.znf;obtain⟨_,_,_,_,_,_,_,_,_,_,M,_⟩:=h;have v:k<=2:=by have:=K.1;omega
 have O:=K.le;have w:=E.X5;refine⟨k,fs,g,x,v,w,T,F,λρ P A Q=>?_⟩;have B:=E.Qr Q A M v O.2.1;have U:=E.mono v O.2.1;have C:=(yh.X7 (low:=k) v 3 _ _ _ L).1 (by intro s G;simp at G) (by simp only;have:Xo 3=777:=rfl;omega);have W:=C.2.1;simp only at W;have:Xo 3=777:=rfl;have r:JA ρ k [] g x:=zlm (d:=3) Q v (by decide) M U.2.2.1 (by omega) (by intro s G;cases G) L S;refine⟨B,r,λws en H=>?_⟩;obtain⟨l,f,u,c,X⟩:=zil (en:=en) (A tP (by simp[pq,tP])) (A tQ (by simp[pq,tQ])) (by omega) (λp I=>by
  obtain⟨q,D⟩:=List.mem_iff_getElem?.1 I;exact(B q p D).1) r.1.1 r.1.2.1 r.1.2.2.1 r.1.2.2.2 H
 have y:((l++[f]).map Fn.J2).Nodup:=by
  rw[List.map_append,List.nodup_append];refine⟨u.zoN,by simp,λa Y b C=>?_⟩;obtain⟨o,i,rfl⟩:=List.mem_map.1 Y;obtain⟨q,p,_,m⟩:=u.at o i;simp only[List.map_cons,List.map_nil,E7,List.mem_nil_iff,or_false]at C;subst C;intro e;exact zjt (0+q) ((show o.J2=fN (0+q) from m.1).symm.trans (e.trans c.1))
 have R: ∀j,j<=k->zaN (l++[f]) j:=by
  intro j hj q D;obtain⟨o,n,m,Z,J⟩:=u.get q (by omega);refine⟨o,?_,Z,J⟩;have:=zcs y (List.mem_append_left _ n);rw[m,Nat.zero_add]at this;exact this
 have z:U6 (l++[f])=0:=by
  unfold U6;rw[B5 (by simp only[A9,A8,B1];rw[u.X5];omega)];refine zcX _ λo i=>?_
  rcases List.mem_append.1 i with h|h
  ·obtain⟨q,p,n,m⟩:=u.at o h
   have D:=(List.getElem?_eq_some_iff.1 n).1;rw[Nat.zero_add]at m;exact m.ok (by omega) A (B q p n)
  ·simp at h;subst h;exact c.ok r
 refine⟨l,f,u,c,X,z,?_⟩;unfold S4;rw[B5 (by rw[z];decide),zaX _ _ y (λ_ _ h=>by cases h)];simp only;rw[B5]
 ·rw[zcK]
  intro o i
  rcases List.mem_append.1 i with h|h
  ·obtain⟨q,p,n,m⟩:=u.at o h
   have D:=(List.getElem?_eq_some_iff.1 n).1;rw[Nat.zero_add]at m;exact m.JN P (R q (by omega)) (B q p n)
  ·simp at h;subst h;exact c.JN P (R k (x7 _)) r
 ·have e1:zg f=true:=by
   obtain⟨n,m,_,J,_⟩:=c;unfold zg;rw[n,m,J]
   decide
  simp[List.any_append,e1]
section
variable {us:List Fn}
theorem zih{vs}{n h:Nat}{t:ByteArray}{a b}{p:Int}{d f:Nat}(i: ∀n h,(O7 us vs n h a).length<=d)(g: ∀n h,(O7 us vs n h b).length<=f):(O7 us vs n h (.mk 6 0 t [a,b] p)).length<=d+f+(if lv t.data.toList<=2 then 4 else 2):=by
 have k:=i n h;rw[O7]
 by_cases c:lv t.data.toList<=2
 ·rw[C8 ⟨rfl,c⟩,C8 c]
  have j:=g (n+(O7 us vs n h a).length+(if decide (lv t.data.toList=1)then 1 else 0)+1) h;have:=zcS n h (decide (lv t.data.toList=1)) (hdC us vs n h [a,b]) (sdC us vs (n+(hdC us vs n h [a,b]).length+(if decide (lv t.data.toList=1)then 1 else 0)+1) h [a,b]);simp only[hdC,sdC]at this|-;omega
 ·rw[B5 (λe=>c e.2),B5 c]
  have j:=g (n+(O7 us vs n h a).length) (h+1);have:=Ja us vs 6 0 t ([a,b]:List Ex).length;simp only[zh,A9,Zs,B1];omega
theorem zbR{vs}{n h:Nat}{t:ByteArray}{a b}{p:Int}{c d:Nat}(e: ∀n h,(O7 us vs n h a).length<=c)(f: ∀n h,(O7 us vs n h b).length<=d):(O7 us vs n h (.mk 6 0 t [a,b] p)).length<=c+d+4:=by
 have:=zih (n:=n) (h:=h) (t:=t) (p:=p) e f
 split at this<;>omega
theorem qA.X5{x y}(h:qA x y):x.zl-> ∀vs(n c:Nat),(O7 us vs n c y).length<=(zt x.N2).length:=by
 have j: ∀{vs:P4}{n c:Nat}{k nn:Int}{t:ByteArray}{a:Ex}{p:Int},k≠6->(O7 us vs n c (.mk k nn t [a] p)).length<=(O7 us vs n c a).length+2:=by
  intro vs n c k nn t a p r;rw[O7,B5 (λe=>r e.1)];have:=Ja us vs k nn t ([a]:List Ex).length;simp only[zh,A9,Zs,B1];omega
 induction h with
 | @qE s p=>
   intro d vs n c;have l:1<=s.data.toList.length:=by
    have:M5 s.data.toList=true:=d;simp only[M5,F3,F1]at this;omega
   have e:(O7 us vs n c (.mk 3 0 s [] p)).length=1:=by rw[O7,B5 (by simp)];simp[zh,qa,Xe]
   rw[e];simp only[GE.N2,N8,P9,Pc.R4,List.append_nil];exact l
 | @lit m p=>
   intro _ vs n c;have l:1<=(zW m).length:=List.length_pos_iff.2 (XR m);have e:(O7 us vs n c (.mk 1 (m:Int) L1 [] p)).length=1:=by rw[O7,B5 (by simp)];simp[zh,qa,Xe]
   rw[e];simp only[GE.N2,N8,P9,Pc.R4,List.append_nil];exact l
 |neg _ q=>
  intro d vs n c;have l:=q d vs n c;refine C1 (j (by decide)) ?_;simp only[GE.N2,P8,N8,P9,Pc.R4,A9,A8,B1];omega
 | @call f a b x y p _ _ g i=>
   intro d vs n c;have l:=g d.2.1 vs n c;have w:=i d.2.2 vs (n+(O7 us vs n c x).length) (c+1);rw[O7,B5 (by simp)];have:=Ja us vs 7 0 ⟨(fL f).toArray⟩ ([x,y]:List Ex).length;simp only[zh,A9,Zs,B1,GE.N2,P8,N8,P9,Pc.R4,A8]at this|-;omega
 | @X0 k a x p _ q=>
   intro d vs n c;have l:=q d.2 vs n c;refine C1 (j (by decide)) ?_;simp only[GE.N2,P8,N8,P9,Pc.R4,A9,A8,B1];omega
 | @xI o a b x y p _ _ g i=>
   intro d vs n c;refine C1 (zbR (g d.1 vs) (i d.2 vs)) ?_;simp only[GE.N2,P8,N8,P9,Pc.R4,A9,A8,B1];omega
 |not _ q=>
  intro d vs n c;have l:=q d vs n c;refine C1 (j (by decide)) ?_;simp only[GE.N2,P8,N8,P9,Pc.R4,A9,A8,B1];omega
 | @and a b x y p _ _ g i=>
   intro d vs n c;refine C1 (zbR (g d.1 vs) (i d.2 vs)) ?_;simp only[GE.N2,P8,N8,P9,Pc.R4,A9,A8,B1];omega
 | @or a b x y p _ _ g i=>
   intro d vs n c;refine C1 (zbR (g d.1 vs) (i d.2 vs)) ?_;simp only[GE.N2,P8,N8,P9,Pc.R4,A9,A8,B1];omega
 | @tf k p=>
   intro _ vs n c;have e:(O7 us vs n c (.mk 2 (if k=0 then 1 else 0) L1 [] p)).length=1:=by rw[O7,B5 (by simp)];simp[zh,qa,Xe]
   rw[e];have:1<=(tfL k).length:=by unfold tfL;split<;>decide
   simp only[GE.N2,N8,P9,Pc.R4,List.append_nil];exact this
 | @jx o a b x y p _ _ g i=>
   intro d vs n c;have u:lv (⟨(Jx o).toArray⟩:ByteArray).data.toList=3:=by rw[zat];exact zby o
   have v:=zih (n:=n) (h:=c) (t:=⟨(Jx o).toArray⟩) (p:=p) (g d.1 vs) (i d.2 vs);rw[B5 (by rw[u];decide)]at v;have z:1<=(Jx o).length:=by unfold Jx;split<;>decide
   simp only[GE.N2,P8,N8,P9,Pc.R4,A9,A8,B1];omega
def Zj(us:List Fn)(l:List Sm)(k:Nat):Prop:= ∀(n:Nat)(a:P4)(m:Nat),(X9 us n a m l).1.length<=k
theorem Zj.cons{s l}{a b:Nat}(h: ∀(n:Nat)(vs:P4)(m:Nat),(Z9 us n vs m s).1.length<=a)(c:Zj us l b):Zj us (s::l) (a+b):=λn vs m=>by
 have d:=h n vs m;have e:=c (n+(Z9 us n vs m s).1.length) (Z9 us n vs m s).2.1 (Z9 us n vs m s).2.2;rw[X9];simp only[A9];omega
theorem Zj.qv{l r}{a b:Nat}:Zj us l a->Zj us r b->Zj us (l++r) (a+b):=by
 intro i j
 induction l generalizing a with
 |nil=>intro n g m;have:=j n g m;simp only[C0];omega
 |cons s l k=>
  intro n g m;have e:=i n g m;rw[X9]at e;simp only[A9]at e;have o: ∀d c f,(X9 us d c f (l++r)).1.length<=(X9 us d c f l).1.length+b:=by
   intro d c f;clear e i k
   induction l generalizing d c f with
   |nil=>have:=j d c f;simp only[C0];omega
   |cons s l h=>
    have:=h (d+(Z9 us d c f s).1.length) (Z9 us d c f s).2.1 (Z9 us d c f s).2.2;simp only[B6,X9,A9];omega
  have p:=o (n+(Z9 us n g m s).1.length) (Z9 us n g m s).2.1 (Z9 us n g m s).2.2;rw[B6,X9];simp only[A9];omega
theorem xv{k:Int}{nm:ByteArray}{a}{p:Int}(b:k≠3)(c:k≠4)(n:Nat)(vs)(m:Nat):(Z9 us n vs m (.mk k nm a [] [] p)).1.length<=(O7 us vs n 0 a).length+1:=by
 rw[Z9]
 repeat' split
 all_goals first|(exact H9 ‹k=3› b)|(exact H9 ‹k=4› c)|(simp only[A9,A8,B1];omega)
theorem Ql.X5{ρ g l}(h:Ql ρ g l):g.yg ρ->Zj us l (zt (g.P3 ρ)).length:=by
 have o: ∀{s:ByteArray},M5 s.data.toList=true->(GE.qE s).zl:=λh=>h
 induction h with
 |nil=>intro _ n d m;rw[X9];exact D0 _
 |set j _ f=>
  intro e n d m;refine C1 (Zj.cons (a:=_+1) (λn d m=>C1 (xv (by decide) (by decide) n d m) (Nat.add_le_add_right (j.X5 e.2.1 d n 0) 1)) (f e.2.2) n d m) ?_;simp only[GL.P3,P8,N8,P9,Pc.R4,A9,A8,B1];omega
 |Q8 j _ f=>
  intro e n d m;refine C1 (Zj.cons (a:=_+1) (λn d m=>C1 (xv (by decide) (by decide) n d m) (Nat.add_le_add_right (j.X5 e.1 d n 0) 1)) (f e.2) n d m) ?_;simp only[GL.P3,P8,N8,P9,Pc.R4,A9,A8,B1];omega
 | @xl c a b r y w A l p j _ _ _ u k f=>
   intro e n d m;refine C1 (Zj.cons (a:=(zt (c.jd ρ).N2).length+(zt (a.P3 ρ)).length+(zt (b.P3 ρ)).length+2) (λn d m=>?_) (f e.2.2.2) n d m) ?_
   ·have x:=j.X5 (us:=us) e.1 d n 0
    have v:=u e.2.1 (n+(O7 us d n 0 y).length+1) d m;have t:=k e.2.2.1 (n+(O7 us d n 0 y).length+(X9 us (n+(O7 us d n 0 y).length+1) d m w).1.length+2) d (X9 us (n+(O7 us d n 0 y).length+1) d m w).2;rw[Z9,B5 (by decide),B5 (by decide),B5 (by decide),C8 rfl]
    split<;>simp only[A9,A8]<;>omega
   ·simp only[GL.P3,P8,N8,P9,Pc.R4,A9,A8,B1];omega
 | @X2 i q B r K C D A l L E M F G x _ _ k f=>
   intro e n d m;have z:M5 (ρ (iT i)).data.toList=true:=e.1;have H:=λd n=>F.X5 (us:=us) (by show 0<100;decide) d n 0
   have I:=λd n=>G.X5 (us:=us) (⟨z,e.2.1⟩) d n 0
   have J:=λd n=>x.X5 (us:=us) (⟨z,(by show 1<100;decide)⟩) d n 0
   refine C1 (Zj.cons (a:=(zt (GE.lit 0).N2).length+1) (λn d m=>C1 (xv (by decide) (by decide) n d m) (Nat.add_le_add_right (H d n) 1)) (Zj.cons (a:=(zt (GE.jx 0 (.qE (ρ (iT i))) (.lit q)).N2).length+((zt (B.P3 ρ)).length+((zt (GE.xI 0 (.qE (ρ (iT i))) (.lit 1)).N2).length+1+0))+2) (λn d m=>?_) (f e.2.2.2)) n d m) ?_
   ·have v:=I d n
    have t:=Zj.qv (us:=us) (k e.2.2.1) (Zj.cons (us:=us) (s:=.mk 2 (ρ (iT i)) D [] [] E) (l:=[]) (b:=0) (λn d m=>C1 (xv (by decide) (by decide) n d m) (Nat.add_le_add_right (J d n) 1)) (λn d m=>by rw[X9];exact D0 _)) (n+(O7 us d n 0 C).length+1) d m;rw[Z9,C8 rfl];simp only[A9,A8,B1]at t|-;omega
   ·have v:(zt (GE.lit 0).N2).length=1:=by simp[GE.N2,zt,Pc.R4,Jb,Lib.nDigits_small]
    have t:(zW 1).length=1:=by rw[Jb,Lib.nDigits_small (by decide)]
    rw[v];simp only[GL.P3,GE.N2,P8,N8,P9,Pc.R4,A9,A8,B1,t,Jx,XI];omega
 |run j _ f=>
  intro e n d m;refine C1 (Zj.cons (a:=_+1) (λn d m=>C1 (xv (by decide) (by decide) n d m) (Nat.add_le_add_right (j.X5 e.1 d n 0) 1)) (f e.2) n d m) ?_;simp only[GL.P3,P8,N8,P9,Pc.R4,A9,A8,B1];omega
 |qi j _ f=>
  intro e n d m;refine C1 (Zj.cons (a:=_+1) (λn d m=>C1 (xv (by decide) (by decide) n d m) (Nat.add_le_add_right (j.X5 e.1 d n 0) 1)) (f e.2) n d m) ?_;simp only[GL.P3,P8,N8,P9,Pc.R4,A9,A8,B1];omega
 |bind j _ f=>
  intro e n d m;refine C1 (Zj.cons (a:=_+1) (λn d m=>C1 (xv (by decide) (by decide) n d m) (Nat.add_le_add_right (j.X5 e.2.1 d n 0) 1)) (f e.2.2) n d m) ?_;simp only[GL.P3,P8,N8,P9,Pc.R4,A9,A8,B1];omega
theorem zg9{f ρ g x}(a:Ql ρ (zM g x) f.J0)(b:g.yg ρ)(c:(x.jd ρ).zl):(xJ us f).S0.length<=(zt ((zM g x).P3 ρ)).length+2:=by
 have h:=a.X5 (us:=us) (GL.JF _ _ b ⟨c,trivial⟩) 0 (jb 0 f.J1) f.J1.length;simp only[xJ,A9,A8,B1];omega
end
theorem zjm{k:Nat}(a:k<=9998):M5 (vT k).data.toList=true/\M5 (iT k).data.toList=true:=by
 rw[zcZ,zd4];exact⟨zN (c:=118) (by decide) k (by omega),zN (c:=105) (by decide) k (by omega)⟩
theorem zcB{ρ}: ∀{fs}{j q:Nat}{p},fs[q]?=some p->(zt ((zM p.1 p.2).P3 ρ)).length+2<=(zt (xU ρ j fs)).length
 |[],j,q,p,h=>by simp at h
 |(g,x)::r,j,0,p,h=>by
  simp at h;subst h;simp only[xU,zav,P8,N8,P9,Pc.R4,A9,A8,B1];omega
 |(g,x)::r,j,q+1,p,h=>by
  have:=zcB (ρ:=ρ) (fs:=r) (j:=j+1) (q:=q) (p:=p) (by simpa using h);simp only[xU,P8,A9];omega
theorem Qo.atL{ρ}{j:Nat}{fs l}(h:Qo ρ j fs l): ∀f∈l,∃(q:Nat)(p:GL×GE),fs[q]?=some p/\Ql ρ (zM p.1 p.2) f.J0:=by
 induction h with
 |nil=>intro f a;cases a
 | @cons j g x r f l b _ c=>
   intro d a
   rcases List.mem_cons.1 a with rfl|a
   ·exact⟨0,(g,x),rfl,b.2.2.2.2⟩
   ·obtain⟨q,p,e,h⟩:=c d a
    exact⟨q+1,p,by simpa using e,h⟩
theorem jj.M3{N:Nat}{t:ByteArray}(h:jj N t): ∃ws m,xG t 0 [] (none,ws)/\Du ws t.size 0 (.xL m)/\m≠[]/\U6 m=0/\S4 m=(0,0)/\ ∀us,∀f∈m,(xJ us f).S0.length<=4000:=by
 have i:=h.zlq;obtain⟨k,n,g,x,r,s,u,o,c⟩:=h.right;obtain⟨v,w,y⟩:=c id (λ_ _ h=>h) zbr (λ_ r=>zjm r);have z:xG t 0 [] (none,zdc (jL n g x) 0):=by
  have:=R9.znb _ 0 o;rw[<-u]at this;exact this.ziH
 obtain⟨l,f,A,B,C,D,E⟩:=y (zdc (jL n g x) 0) t.size (by rw[YC];exact jT.start _ 0);have b:(zt (Qc id n g x)).length<=4000:=by rw[YC,<-u,Array.length_toList];exact i
 rw[Qc,P8,A9]at b;refine⟨_,l++[f],z,C,by simp,D,E,λus F a=>?_⟩
 rcases List.mem_append.1 a with a|a
 ·obtain⟨q,p,e,G⟩:=A.atL F a
  have d:=(v q p e).1;have H:=zg9 (us:=us) G d.1 d.2.1;have I:=zcB (ρ:=id) (j:=0) e;omega
 ·obtain rfl:=List.mem_singleton.1 a
  have d:=w.1;have H:=zg9 (us:=us) B.2.2.2.2 d.1 d.2.1;have I:(zt ((zM g x).P3 id)).length+2<=(zt (Qx id g x)).length:=by
   simp only[Qx,P8,N8,P9,Pc.R4,A9,A8,B1];omega
  omega
end Go.Proofs.YtmngofgminlloaaGreatDoor
namespace Go.Proofs.YtmngofgminlloaaGreatDoor
open Go.Proofs.Tryz
open Go.RowKit Tw
section
open Go.Maps
def xY:Keyed prog 9:=string_keyed underlying9
def zjA(w):(zeroValue 3).run prog w=.ok (.int .i64 0) w:=by kernel_rfl
abbrev zhD:Type:=DataW Unit
def qd{s:ByteArray}(hs:s.size<=maxLen):WideAt.IsKeyLit (.string s.data.toList):=by
 trivial
def zhr(b n:Nat)(h:zhD)(w:World)(d:w.ownsMap prog 9 (plainElem prog 3) b n h)(K:Maps.size h<=maxLen):
 Calls prog 117 #[.map (some b)] w λe w'=>e=.returned (.map (some w.heap.size))/\w'.ownsMap prog 9 (plainElem prog 3) w.heap.size (Maps.size h) h/\Below w.heap.size w w':=by
 have M:= @run_makeMap prog;have N:=d.lt;have O:(w.alloc (.map #[] 0)).heap.size=w.heap.size+1:=by simp
 go_enter func117,ntmps117
 go_wp2_with(first
  |(at_range;refine wpList_range_own _ rfl _ 137 rfl 9 3 xY underlying137 _ b n _ rfl (d.alloc _) ?_;intro w0 l q D)
  |go_in)
 go_frame
 rw[O]at l D|-
 go_loopw[4] (λ_ wr=> ∃(left:Lit->Bool)(i:Nat)(f:zhD),wr.ranges prog 9 (plainElem prog 3) b (w.heap.size+1) n h left i/\i<=Maps.size h/\
  wr.ownsMap prog 9 (plainElem prog 3) w.heap.size (Maps.size h-i) f/\Agree f h left/\Below w.heap.size w wr)
  (λ_ wr=>wr.rangeLeft b (w.heap.size+1))
 case atStart=>
  exact⟨_,_,.map [],l,x7 _,((World.ownsMap_made _ _ _ _).kept q (by simp)).mono (D0 _),agree_start h,((x8 _ _).alloc (x7 _) _).grown q (by simp) (λj r=>by cases r)⟩
 case round=>
  obtain⟨left,i,f,s,P,a,L,k⟩:=hrel
  go_wp2_with(first
   |(at_next;refine wpList_next_ranges _ rfl _ rfl 9 xY (plainElem prog 3) Value.string (Value.int .i64) (λQ R g=>by obtain⟨x,rfl,_⟩:=Go.WideMaps.string_of_keyOf underlying9 g;exact⟨x,rfl⟩) (λv y E=>by obtain⟨c,rfl,_⟩:=plainElem_int_inv underlying3 E;exact⟨c,rfl⟩) b (w.heap.size+1) n _ _ _ rfl s ?_ ?_)
   |go_in)
  ·intro F G
   go_wp2
   go_ret;subst F;have e:=agree_end L G (a.canon xY) (d.canon xY);subst e;exact⟨rfl,by simpa using a,k⟩
  ·intro x c R y V W t g S E H u I z hs1 T
   obtain⟨X,ex,rfl,A⟩:=Go.WideMaps.string_of_keyOf underlying9 g;cases ex;obtain⟨Y,U,B,J⟩:=plainElem_int_inv underlying3 E;cases U;obtain⟨rfl,rfl⟩:=Prod.mk.inj B;clear B;have o:=a.kept z (by simp)
   go_wp2_with(first
    |(at_mapUpdate;refine wpList_mapUpdate_own _ rfl _ _ _ 137 rfl 9 3 xY underlying137 _ w.heap.size _ _ rfl o (by omega) _ _ _ rfl rfl (Go.WideMaps.keyOf_string_mk underlying9 A) _ [] (plainElem_int underlying3 J) ?_;intro Z p C;go_frame)
    |go_in)
   have m:=u.kept C (λe=>by have:=F6 e;omega) (λe=>by have:=F6 e;omega)
   go_roundw
   case rel=>
    exact⟨_,t,_,m,by omega,p.mono (by omega),agree_step L a.isMap (qd A) H,
     (k.grown z k.size (λj r=>by cases r;exact Nat.le_succ _)).grown C (by have:=k.size;omega) (λj r=>by cases r;exact x7 _)⟩
   case measure=>rw[m.left_eq,s.left_eq];exact I
def Z6(w:World)(b:Nat)(env:P1):Prop:=
 ∃(n:Nat)(D:zhD),w.ownsMap prog 9 (plainElem prog 3) b n D/\n<=env.length/\Maps.size D<=env.length/\(∀s:ByteArray,s.size<=maxLen->D.atKey (.string s.data.toList) (.lit (.int .i64 0))=.lit (.int .i64 (L5 env s)))
def Z6.M3(w:World):Z6 (w.alloc (.map #[] 0)) w.heap.size []:=
 ⟨0,.map [],World.ownsMap_made _ _ _ _,x7 _,x7 _,λ_ _=>rfl⟩
def Z6.kept{w w'}{b:Nat}{env row}(h:Z6 w b env)(c:w.grownBy w' row)(a:row≠some b):Z6 w' b env:=by
 obtain⟨n,D,d,f,g,i⟩:=h;exact⟨n,D,d.kept c (by first|exact a|exact λe=>a e.symm),f,g,i⟩
def Z6.lt{w}{b:Nat}{env}(h:Z6 w b env):b<w.heap.size:=by
 obtain⟨n,D,a,_⟩:=h;exact a.lt
def Z6.ZP{w}{b:Nat}{env}(h:Z6 w b env)(s:ByteArray)(hs:s.size<=maxLen):(Instr.lookup 137 (.map (some b)) (.string s) false).run prog w=.ok (.int .i64 (L5 env s)) w:=by
 obtain⟨n,D,f,_,_,g⟩:=h;obtain⟨c,a,d,_⟩:=f.lookup_int xY underlying137 underlying3 (zjA w) (Go.WideMaps.keyOf_string_mk underlying9 hs);have e:=g s hs;rw[d]at e;have:c=L5 env s:=(Lit.int.inj (DataW.lit.inj e)).2;rw[<-this];exact a
def Z6.put{w}{b:Nat}{env}(h:Z6 w b env)(s:ByteArray)(hs:s.size<=maxLen)(t:Int)(k:(Lit.int .i64 t).wf=true)(o:env.length<=1000):
 ∃w',(Instr.mapUpdate 137 (.map (some b)) (.string s) (.int .i64 t)).run prog w=.ok () w'/\Z6 w' b ((s,t)::env)/\w.grownBy w' (some b):=by
 obtain⟨n,D,c,p,q,l⟩:=h;obtain⟨w',a,d,m⟩:=c.update xY underlying137 (by unfold maxLen;omega) (Go.WideMaps.keyOf_string_mk underlying9 hs) (plainElem_int underlying3 k);refine⟨w',a,⟨n+1,_,d,by simp;omega,?_,λf g=>?_⟩,m⟩
 ·rw[size_put (c.tidy xY)]
  split<;>simp<;>omega
 ·by_cases e:s=f
  ·subst e
   rw[atKey_put_same c.isMap (qd hs)];simp[L5]
  ·have i:(Lit.string f.data.toList)≠.string s.data.toList:=by
    intro j;injection j with j
    exact e (ByteArray.ext (Array.toList_inj.1 j)).symm
   rw[atKey_put_other i,l f g];simp[L5,e]
def Z6.ziG{w}{b:Nat}{env}(h:Z6 w b env)(i:env.length<=1000):Calls prog 117 #[.map (some b)] w λe w'=>e=.returned (.map (some w.heap.size))/\Z6 w' w.heap.size env/\Below w.heap.size w w':=by
 obtain⟨n,D,c,j,a,d⟩:=h;refine(zhr b n D w c (by unfold maxLen;omega)).mono ?_;rintro e w' ⟨rfl,f,g⟩;exact⟨rfl,⟨_,D,f,a,a,d⟩,g⟩
end
section
open Go.Maps
abbrev Y6:Type:=Option (Int×Int)
def Y6.p:Y6->Int
 |some q=>q.1
 |none=>0
def Y6.e:Y6->Int
 |some q=>q.2
 |none=>0
def Y6.or(F:Y6)(p e:Int):Y6:=match F with|some q=>some q|none=>some (p,e)
def Y6.on{α:Type}(F:Y6)(r:X1 α):Y6:=match F,r with|some q,_=>some q|none,.ok _=>none|none,.J9 p e=>some (p,e)
structure ZN(w:World)(cb:Nat)(U:Value)(out:Int)(L0:Nat)(F:Y6):Prop where
 P6:w.heap[cb]?=some (.cells #[U,.int .i64 out,.int .i64 L0,.int .i64 F.p,.int .i64 F.e] 136 (0,0))
 ne: ∀q,F=some q->q.2≠0
 xM:10<cb
section
variable {w w':World}{cb:Nat}{U:Value}{out:Int}{L0:Nat}{F:Y6}
theorem ZN.kept(h:ZN w cb U out L0 F)(a:w'.heap[cb]?=w.heap[cb]?):ZN w' cb U out L0 F:=⟨a.trans h.P6,h.ne,h.xM⟩
theorem ZN.lt(h:ZN w cb U out L0 F):cb<w.heap.size:=I5 h.P6
theorem ZN.cells(h:ZN w cb U out L0 F):w.cell? ⟨cb,0,none⟩=some U/\w.cell? ⟨cb,1,none⟩=some (.int .i64 out)/\w.cell? ⟨cb,2,none⟩=some (.int .i64 L0)/\w.cell? ⟨cb,3,none⟩=some (.int .i64 F.p)/\w.cell? ⟨cb,4,none⟩=some (.int .i64 F.e):=
 ⟨x6 h.P6 0,x6 h.P6 1,x6 h.P6 2,x6 h.P6 3,x6 h.P6 4⟩
theorem ZN.frz(h:ZN w cb U out L0 F):w.frozen? ⟨cb,2,none⟩=false/\w.frozen? ⟨cb,3,none⟩=false/\w.frozen? ⟨cb,4,none⟩=false:=
 ⟨B4 h.P6 2,B4 h.P6 3,B4 h.P6 4⟩
theorem ZN.zdl(h:ZN w cb U out L0 F):ZN (w.setCell ⟨cb,2,none⟩ (.int .i64 ((L0:Int)+1))) cb U out (L0+1) F:=
 ⟨by simpa using A6 w cb 2 _ _ (.int .i64 ((L0:Int)+1)) h.P6,h.ne,h.xM⟩
theorem ZN.zpN(h:ZN w cb U out L0 F)(p e:Int):((w.setCell ⟨cb,3,none⟩ (.int .i64 p)).setCell ⟨cb,4,none⟩ (.int .i64 e)).heap[cb]?=some (.cells #[U,.int .i64 out,.int .i64 L0,.int .i64 p,.int .i64 e] 136 (0,0)):=by
 have a:=A6 w cb 3 _ _ (.int .i64 p) h.P6;simpa using A6 (w.setCell ⟨cb,3,none⟩ (.int .i64 p)) cb 4 _ _ (.int .i64 e) a
end
theorem Zc(p e:Int)(f:e≠0){w}{cb:Nat}{U}{out:Int}{L0:Nat}{F}(h:ZN w cb U out L0 F):
 Calls prog 116 #[.pointer (some ⟨cb,0,none⟩),.int .i64 p,.int .i64 e] w λg w'=>g=.returned (.tuple #[])/\ZN w' cb U out L0 (F.or p e)/\w.grownBy w' (some cb):=by
 have a:=qh h;obtain⟨l,m,n,b,c⟩:=h.cells;obtain⟨i,j,k⟩:=h.frz;cases F with
 |some q=>
  have d:(q.2==0)=false:=beq_eq_false_iff_ne.2 (h.ne q rfl);clear h i j k
  go_enter func116,ntmps116
  simp only[Y6.e,Y6.p]at b c
  go_wp2_with fail
  go_end0;exact⟨rfl,a.out,I7 (x8 _ _) _⟩
 |none=>
  clear h
  go_enter func116,ntmps116
  simp only[Y6.e,Y6.p]at b c
  go_wp2_with fail
  go_end0;refine⟨rfl,⟨a.out.zpN p e,λq d=>?_,a.out.xM⟩,?_⟩
  ·have:q=(p,e):=(F6 d).symm
   rw[this];exact f
  ·exact I4 (I8 w cb 3 _) (I8 _ cb 4 _)
structure JJ(w w':World)(a b:Nat):Prop where
 os:w'.os=w.os
 tape:w'.tape=w.tape
 output:w'.output=w.output
 size:w.heap.size<=w'.heap.size
 block: ∀k,k<w.heap.size->k≠a->k≠b->w'.heap[k]?=w.heap[k]?
theorem JJ.of{w w':World}{a:Nat}(b:Nat)(h:w.grownBy w' (some a)):JJ w w' a b:=⟨h.os,h.tape,h.output,h.size,λk c d _=>h.block k c (by simpa using d)⟩
theorem JJ.of'{w w':World}{b:Nat}(a:Nat)(h:w.grownBy w' (some b)):JJ w w' a b:=⟨h.os,h.tape,h.output,h.size,λk c _ d=>h.block k c (by simpa using d)⟩
theorem JJ.trans{w d e}{a b:Nat}(h:JJ w d a b)(c:JJ d e a b):JJ w e a b:=
 ⟨c.os.trans h.os,c.tape.trans h.tape,c.output.trans h.output,C1 h.size c.size,λk f g i=>(c.block k (A7 f h.size) g i).trans (h.block k f g i)⟩
theorem zk8(p:Int)(nm:ByteArray)(t:Int)(M:nm.size<=maxLen)(R:(Lit.int .i64 t).wf=true){w}{cb b:Nat}{U}{out:Int}{L0:Nat}{F env}(h:ZN w cb U out L0 F)(hs:Z6 w b env)(v:b≠cb)(hm:L0<=1000)(S:env.length<=1000)(N: ∀s,0<=L5 env s):
 Calls prog 66 #[.pointer (some ⟨cb,0,none⟩),.map (some b),.int .i64 p,.string nm,.int .i64 t] w λO w'=>O=.returned (.tuple #[])/\ZN w' cb U out (L0+1) (F.on (Y4 env L0 p nm t))/\Z6 w' b ((nm,t)::env)/\JJ w w' cb b:=by
 have T:=qh h;have V:=qh hs;obtain⟨o,q,k,r,u⟩:=h.cells;obtain⟨D,E,G⟩:=h.frz;have C:=hs.ZP nm M;have Y:(L0:Int)<=1000:=by omega
 by_cases hd:0<L5 env nm
 ·have P:Hid (0<L5 env nm):=qh (by omega)
  by_cases W:64<=L0
  ·have Q:Hid (64<=L0):=qh (by omega)
   have x:(64:Int)<=L0:=by omega
   clear h hs
   go_enter func66,ntmps66
   go_wp2_with fail
   refine(Zc p 5 (by decide) T.out).mono ?_;rintro O H ⟨rfl,y,l⟩;have m:=qh y;have I:=qh (JJ.of b l);have J:=qh (V.out.kept l (by simpa using λe=>v e.symm));clear y l o q k r u D E G C;obtain⟨o,q,k,r,u⟩:=m.out.cells;obtain⟨D,E,G⟩:=m.out.frz
   go_upto_region 3 with(fail)
   have a:=qh (m.out.zdl);have c:=qh ((I.out).trans (JJ.of b (I8 H cb 2 (.int .i64 ((L0:Int)+1)))));have d:=qh ((J.out).kept (I8 H cb 2 (.int .i64 ((L0:Int)+1))) (by simpa using λe=>v e.symm));clear o q k r u D E G;generalize World.setCell H _ _=K at a c d|-;obtain⟨o,q,k,r,u⟩:=a.out.cells;have z:K.cell? ⟨cb,2,none⟩=some (.int .i64 ((L0:Int)+1)):=k;clear k
   go_wp2_with fail
   refine(Zc p 2 (by decide) a.out).mono ?_;rintro O Z ⟨rfl,y,l⟩;have A:=qh y;have L:=qh (c.out.trans (JJ.of b l));obtain⟨X,B,f,g⟩:=(d.out.kept l (by simpa using λe=>v e.symm)).put nm M t R S;have n:=qh f;clear y l f o q z r u;have i:=qh g;clear g
   go_wp2_with fail
   go_end0;refine⟨rfl,?_,n.out,L.out.trans (JJ.of' cb i.out)⟩;have j:=A.out.kept (i.out.block cb A.out.lt (by simpa using λe=>v e.symm));rw[show F.on (Y4 env L0 p nm t)=(F.or p 5).or p 2 by
    unfold Y4;rw[C8 (by have:=P.out;omega)];cases F<;>rfl]
   exact j
  ·have Q:Hid (L0<64):=qh (by omega)
   have x:(L0:Int)<64:=by omega
   clear h hs
   go_enter func66,ntmps66
   go_wp2_with fail
   refine(Zc p 5 (by decide) T.out).mono ?_;rintro O H ⟨rfl,y,l⟩;have m:=qh y;have I:=qh (JJ.of b l);have J:=qh (V.out.kept l (by simpa using λe=>v e.symm));clear y l o q k r u D E G C;obtain⟨o,q,k,r,u⟩:=m.out.cells;obtain⟨D,E,G⟩:=m.out.frz
   go_upto_region 3 with(fail)
   have a:=qh (m.out.zdl);have c:=qh ((I.out).trans (JJ.of b (I8 H cb 2 (.int .i64 ((L0:Int)+1)))));have d:=qh ((J.out).kept (I8 H cb 2 (.int .i64 ((L0:Int)+1))) (by simpa using λe=>v e.symm));clear o q k r u D E G;generalize World.setCell H _ _=K at a c d|-;obtain⟨o,q,k,r,u⟩:=a.out.cells;have z:K.cell? ⟨cb,2,none⟩=some (.int .i64 ((L0:Int)+1)):=k;clear k;obtain⟨X,B,f,g⟩:=d.out.put nm M t R S;have n:=qh f;clear f;have i:=qh g;clear g
   go_wp2_with fail
   go_end0;refine⟨rfl,?_,n.out,c.out.trans (JJ.of' cb i.out)⟩;have j:=a.out.kept (i.out.block cb a.out.lt (by simpa using λe=>v e.symm));rw[show F.on (Y4 env L0 p nm t)=F.or p 5 by
    unfold Y4;rw[C8 (by have:=P.out;omega)];cases F<;>rfl]
   exact j
 ·have P:Hid (L5 env nm=0):=qh (by have:=N nm;omega)
  have a0:L5 env nm<=0:=by omega
  by_cases W:64<=L0
  ·have Q:Hid (64<=L0):=qh (by omega)
   have x:(64:Int)<=L0:=by omega
   clear h hs
   go_enter func66,ntmps66
   go_upto_region 3 with(fail)
   have a:=qh (T.out.zdl);have c:=qh (((JJ.of b (I7 (x8 _ _) (some cb)):JJ w w cb b)).trans (JJ.of b (I8 w cb 2 (.int .i64 ((L0:Int)+1)))));have d:=qh ((V.out).kept (I8 w cb 2 (.int .i64 ((L0:Int)+1))) (by simpa using λe=>v e.symm));clear o q k r u D E G;clear C;generalize World.setCell w _ _=K at a c d|-;obtain⟨o,q,k,r,u⟩:=a.out.cells;have z:K.cell? ⟨cb,2,none⟩=some (.int .i64 ((L0:Int)+1)):=k;clear k
   go_wp2_with fail
   refine(Zc p 2 (by decide) a.out).mono ?_;rintro O Z ⟨rfl,y,l⟩;have A:=qh y;have L:=qh (c.out.trans (JJ.of b l));obtain⟨X,B,f,g⟩:=(d.out.kept l (by simpa using λe=>v e.symm)).put nm M t R S;have n:=qh f;clear y l f o q z r u;have i:=qh g;clear g
   go_wp2_with fail
   go_end0;refine⟨rfl,?_,n.out,L.out.trans (JJ.of' cb i.out)⟩;have j:=A.out.kept (i.out.block cb A.out.lt (by simpa using λe=>v e.symm));rw[show F.on (Y4 env L0 p nm t)=F.or p 2 by
    unfold Y4;rw[B5 (by have:=P.out;omega)];rw[C8 (by have:=Q.out;omega)];cases F<;>rfl]
   exact j
  ·have Q:Hid (L0<64):=qh (by omega)
   have x:(L0:Int)<64:=by omega
   clear h hs
   go_enter func66,ntmps66
   go_upto_region 3 with(fail)
   have a:=qh (T.out.zdl);have c:=qh (((JJ.of b (I7 (x8 _ _) (some cb)):JJ w w cb b)).trans (JJ.of b (I8 w cb 2 (.int .i64 ((L0:Int)+1)))));have d:=qh ((V.out).kept (I8 w cb 2 (.int .i64 ((L0:Int)+1))) (by simpa using λe=>v e.symm));clear o q k r u D E G;clear C;generalize World.setCell w _ _=K at a c d|-;obtain⟨o,q,k,r,u⟩:=a.out.cells;have z:K.cell? ⟨cb,2,none⟩=some (.int .i64 ((L0:Int)+1)):=k;clear k;obtain⟨X,B,f,g⟩:=d.out.put nm M t R S;have n:=qh f;clear f;have i:=qh g;clear g
   go_wp2_with fail
   go_end0;refine⟨rfl,?_,n.out,c.out.trans (JJ.of' cb i.out)⟩;have j:=a.out.kept (i.out.block cb a.out.lt (by simpa using λe=>v e.symm));rw[show F.on (Y4 env L0 p nm t)=F by
    unfold Y4;rw[B5 (by have:=P.out;omega)];rw[B5 (by have:=Q.out;omega)];cases F<;>rfl]
   exact j
end
end Go.Proofs.YtmngofgminlloaaGreatDoor
