/- Merged. -/
import Derived.Test.YtmngofgminlloaaGreatDoorCT17
set_option linter.all false
set_option maxHeartbeats 16000000
set_option maxRecDepth 100000
namespace Go.Proofs.YtmngofgminlloaaGreatDoor
open Go.Proofs.Tryz
open Go.RowKit Tw
theorem qc{P:Program}{fn p a e}(h:fn.results= #[.cell p e,.tmp a])(b:Array Value)(w:World)(g:Nat)(t:TypeId)(f:Array Value)(j:Nat×Nat)(d:TypeDesc)
 (k:b.getD p undef=.pointer (some ⟨g,0,none⟩)) (l:w.heap[g]?=some (.cells f t j))
 (m:P.underlying e=some d) (o:(match d with|.struct _|.array _ _=>true|_=>false)=true) (hi:(P.info? e).map (·.size)=some f.size):
 (results fn b).run P w=.ok (.tuple #[.agg f,b.getD a undef]) w:=by
 have i:b[p]?.getD undef=.pointer (some ⟨g,0,none⟩):=by simpa using k
 simp[results,h,i,asAddr,run_loadVar_row w g t e f j d l m o hi]
theorem YD:(Tryz.prog.info? 55).map (·.size)=some 2:=by kernel_rfl
theorem zmB:qC prog 53 66 3:=⟨underlying53,by kernel_rfl,by decide⟩
theorem zaE{n:ByteArray}: ∀l(m:Nat),jb m (l++[n])=jb m l++[(n,((m+l.length:Nat):Int))]
 |[],m=>by simp[jb]
 |a::l,m=>by rw[B6,jb,zaE l,jb,B6,A8,show m+1+l.length=m+(l.length+1) by omega]
theorem zdg: ∀l(m:Nat),(jb m l).length=l.length
 |[],_=>rfl
 |a::l,m=>by rw[jb,A8,A8,zdg l]
theorem zjq{l:List ByteArray}{k:Nat}{n:ByteArray}(h:l[k]?=some n):jb 0 (l.take (k+1))=jb 0 (l.take k)++[(n,(k:Int))]:=by
 have a:k<l.length:=(List.getElem?_eq_some_iff.1 h).1;rw[P0 h,zaE]
 congr 4
 rw[I2];omega
def OfR(w:World)(us:List Fn)(e:Ending)(w':World):Prop:=
 ∃(A:Option Addr)(n c:Nat)(m a:Int),e=.returned (.tuple #[.agg #[.slice A n c,.int .i64 m],.int .i64 a])/\Below w.heap.size w w'/\
  (((S4 us).2≠0/\a=(S4 us).2/\n=0)\/((S4 us).2=0/\Jk us=none/\a=2/\n=0)\/((S4 us).2=0/\Jk us=some (us.map (xJ us))/\a=0/\n=us.length/\m=(zP us T0:Int)/\zF w' (.slice A n c) (us.map λf=>(xJ us f).pf)))
structure FrA(w W:World)(b1 b2:Nat)(A:Option Addr)(n c:Nat):Prop where
 un:W.heap[b1]?=some (.cells #[.slice A n c] 24 (0,0))
 rs:W.heap[b2]?=some (.cells #[.slice none 0 0,.int .i64 0] 55 (0,0))
 M1:Below w.heap.size w W
 gl:O4 W
 lo:w.heap.size<=b1
 h12:b1<b2
 xM:10<w.heap.size
structure FrO(w W:World)(b1 b2 b6:Nat)(A:Option Addr)(n c:Nat)(z:Int)(bs:List (Pf×Value))(Ap:Option Addr)(cp:Nat):Prop where
 a:FrA w W b1 b2 A n c
 pg:W.heap[b6]?=some (.cells #[.slice Ap bs.length cp,.int .i64 z] 55 (0,0))
 row:W.ownsRow (b6+1) 66 3 (.slice Ap bs.length cp) bs.length (bs.flatMap Zw)
 ins: ∀b∈bs,jz W b.2 b.1.ops
 h26:b2<b6
section
variable {w W W':World}{b1 b2 b6:Nat}{A:Option Addr}{n c:Nat}{z:Int}{bs:List (Pf×Value)}{Ap:Option Addr}{cp:Nat}
theorem FrA.mid(h:FrA w W b1 b2 A n c){B:Nat}(a:Below B W W')(e:b2<B):FrA w W' b1 b2 A n c:=by
 have b:=h.h12;have f:=h.lo;have d:=h.xM;exact⟨(a.block _ (by omega)).trans h.un,(a.block _ e).trans h.rs,h.M1.trans (a.mono (by omega)),h.gl.Z3 a.size λg i=>a.block g (by omega),f,b,d⟩
theorem FrA.later(h:FrA w W b1 b2 A n c)(a:Below W.heap.size W W'):FrA w W' b1 b2 A n c:=h.mid a (I5 h.rs)
theorem FrO.later(h:FrO w W b1 b2 b6 A n c z bs Ap cp)(d:Below W.heap.size W W'):FrO w W' b1 b2 b6 A n c z bs Ap cp:=
 ⟨h.a.later d,(d.block _ (I5 h.pg)).trans h.pg,qp h.row d,λb e=>(h.ins b e).K7 (.of d),h.h26⟩
theorem FrO.qv(h:FrO w W b1 b2 b6 A n c z bs Ap cp){x v}{g cap:Nat}(d:W'.ownsRow (b6+1) 66 3 (.slice (some ⟨g,0,none⟩) (bs.length+1) cap) (bs.length+1) (bs.flatMap Zw++[.int .i64 x.params,.int .i64 x.vars,v]))(s:W.grownBy W' (Value.slice Ap bs.length cp).ownBlock)(B:jz W v x.ops):
 W'.heap[b6]?=some (.cells #[.slice Ap bs.length cp,.int .i64 z] 55 (0,0))/\FrO w (W'.setCell ⟨b6,0,none⟩ (.slice (some ⟨g,0,none⟩) (bs.length+1) cap)) b1 b2 b6 A n c z (bs++[(x,v)]) (some ⟨g,0,none⟩) cap:=by
 have e: ∀{k:Nat}{q:Array Value}{t:Nat}{r:Nat×Nat},W.heap[k]?=some (.cells q t r)->66≠t->W'.heap[k]?=W.heap[k]?:=λf C=>s.block _ (I5 f) λe=>S5 h.row f C e.symm
 have p:=(e h.pg (by decide)).trans h.pg;have j:=I8 W' b6 0 (.slice (some ⟨g,0,none⟩) (bs.length+1) cap);have D:jk W' (W'.setCell ⟨b6,0,none⟩ (.slice (some ⟨g,0,none⟩) (bs.length+1) cap)):=.set p (by decide) (by decide) 0 _;have u: ∀{v:Value}{l:List zv},jz W v l->jz (W'.setCell ⟨b6,0,none⟩ (.slice (some ⟨g,0,none⟩) (bs.length+1) cap)) v l:=fun{v l} E=>by
  obtain⟨k,c,q,r,F,G,f,y⟩:=E;have j:=e f (by decide);exact jz.K7 ⟨k,c,q,r,F,G,j.trans f,λi o d=>⟨(E8 (a:=⟨k,i*2,none⟩) j).trans (y i o d).1,(E8 (a:=⟨k,i*2+1,none⟩) j).trans (y i o d).2⟩⟩ D
 refine⟨p,h.a.mid (L6 (Q7 (x8 b6 W) h.row (by omega) (G9 (I5 h.pg)) s) (x7 _) 0 _) h.h26,?_,?_,λb m=>?_,h.h26⟩
 ·rw[A9];simpa using A6 W' b6 0 _ _ (.slice (some ⟨g,0,none⟩) (bs.length+1) cap) p
 ·have:=d.kept j (.inr (S5 d p (by decide)))
  simpa[Zw]using this
 ·rcases List.mem_append.1 m with m|m
  ·exact u (h.ins b m)
  ·obtain rfl:=List.mem_singleton.1 m
   exact u B
end
theorem Mk.new{w:World}{U}:Mk (w.alloc (.cells #[U,.slice none 0 0,.slice none 0 0,.int .i64 0,.slice none 0 0] 225)) w.heap.size U ⟨none,0,none,0,none,0⟩ [] 0 []:=
 ⟨A5 w _,⟨rfl,.inl ⟨rfl,rfl⟩⟩,⟨rfl,.inl ⟨rfl,rfl⟩⟩,⟨rfl,.inl ⟨rfl,rfl⟩⟩⟩
theorem zd7{us f}(h:f∈us)(a: ¬(xJ us f).S0.length<=4000):Jk us=none:=by
 unfold Jk;rw[B5];intro b;exact a (by simpa using List.all_eq_true.1 b f h)
theorem yR{us}(h: ∀f∈us,(xJ us f).S0.length<=4000):Jk us=some (us.map (xJ us)):=by
 unfold Jk;rw[C8];exact List.all_eq_true.2 λf a=>by simpa using h f a
theorem zgO{us f}(a:QZ f=0)(b:JM us f=.ok ())(d:f.J1.length=f.K4.length):f.J1.length<=6/\O0 f.J0 40=0/\ ∃env g r,zS us f.out f.J0 env f.J1.length=.ok (g,r)/\OkM env (jb 0 f.J1) f.J1.length:=by
 have j:f.J1.length<=6/\O0 f.J0 40=0:=by
  unfold QZ at a
  by_cases h:6<f.J1.length
  ·rw[C8 h]at a;cases a
  ·rw[B5 h]at a
   split at a
   ·cases a
   ·exact⟨by omega,a⟩
 refine⟨j.1,j.2,?_⟩;unfold JM at b;cases i:zy f.pos f.J1 f.K4 [] 0 with
 |J9 q e=>rw[i]at b;cases b
 |ok z=>
  obtain⟨env,m⟩:=z;rw[i]at b;simp only at b;cases k:zS us f.out f.J0 env m with
  |J9 q e=>rw[k]at b;cases b
  |ok z=>
   obtain⟨g,r⟩:=z;obtain⟨b1,b2,s⟩:=Yg d i;simp only[Nat.zero_add]at b2;obtain⟨l,o⟩:=zeH 0 f.J1 _ rfl;subst b2;refine⟨env,g,r,k,by omega,?_,by rw[l,b1];simp,λq p=>by have:=o q p;simpa using this⟩;have:=H0 List.length b1;simp at this;omega
end Go.Proofs.YtmngofgminlloaaGreatDoor
namespace Go.Proofs.YtmngofgminlloaaGreatDoor
open Go.RowKit Tw
def X1.nz{α:Type}:X1 α->Prop
 |.ok _=>True
 |.J9 _ e=>e≠0
theorem X1.Zi{α β:Type}{r:X1 α}{q e:Int}(h:r.nz)(a:r=.J9 q e):(X1.J9 q e:X1 β).nz:=by subst a;exact h
section
variable {us:List Fn}{env:P1}
mutual
theorem zdT: ∀x:Ex,(O2 us env x).nz
 |.mk k n t xs p=>by
  have H:=zaW xs;have a:=zhH xs;rw[O2]
  repeat' split
  all_goals first
   |trivial
   |(show(_:Int)≠0;decide)
   |(rename_i h;exact X1.Zi (H _) h)
   |(rename_i h;exact X1.Zi a h)
theorem zhH: ∀l:List Ex,(Qw us env l).nz
 |[]=>by rw[Qw];trivial
 |a::_=>by rw[Qw];exact zdT a
theorem zaW: ∀(l:List Ex)(ws:List Int),(L4 us env l ws).nz
 |[],_=>by rw[L4];trivial
 |a::l,ws=>by
  have H:=zdT a;have b:=zaW l ws.tail;rw[L4]
  repeat' split
  all_goals first
   |exact b
   |(show(_:Int)≠0;decide)
   |(rename_i h;exact X1.Zi H h)
end
theorem zeF{m:Nat}{p:Int}{nm:ByteArray}{t:Int}:(Y4 env m p nm t).nz:=by
 unfold Y4
 repeat' split
 all_goals first|trivial|(show(_:Int)≠0;decide)
end
mutual
theorem zlS{us:List Fn}{out:Int}: ∀(s:Sm)(env:P1)(m:Nat),(zC us out s env m).nz
 |.mk k nm a J0 M9 p,env,m=>by
  have H:=zdT (us:=us) (env:=env) a;have b:=zbV (us:=us) (out:=out) J0 env m;have c:=zbV (us:=us) (out:=out) M9 env;rw[zC]
  repeat' split
  all_goals first
   |trivial
   |(show(_:Int)≠0;decide)
   |(rename_i h;exact X1.Zi H h)
   |(rename_i h;exact X1.Zi b h)
   |(rename_i h;exact X1.Zi (c _) h)
   |(rename_i h;exact X1.Zi zeF h)
theorem zbV{us:List Fn}{out:Int}: ∀(l:List Sm)(env:P1)(m:Nat),(zS us out l env m).nz
 |[],env,m=>by rw[zS];trivial
 |s::l,env,m=>by
  have H:=zlS (us:=us) (out:=out) s env m;have a:=zbV (us:=us) (out:=out) l;rw[zS]
  repeat' split
  all_goals first
   |trivial
   |(rename_i h;exact X1.Zi H h)
   |(rename_i h;exact X1.Zi (a _ _) h)
end
theorem zfj{p:Int}: ∀(a:List ByteArray)(ts:List Int)(env:P1)(m:Nat),(zy p a ts env m).nz
 |[],_,_,_=>by rw[zy];trivial;simp
 |_::_,[],_,_=>by rw[zy];trivial;simp
 |n::a,t::ts,env,m=>by
  rw[zy]
  split
  ·exact zfj a ts _ _
  ·rename_i h;exact X1.Zi zeF h
theorem zlZ{us:List Fn}(f:Fn):(JM us f).nz:=by
 unfold JM
 repeat' split
 all_goals first
  |trivial
  |(show(_:Int)≠0;decide)
  |(rename_i h;exact X1.Zi (zfj _ _ _ _) h)
  |(rename_i h;exact X1.Zi (zbV _ _ _) h)
theorem YL{us}: ∀l:List Fn,(xi us l=.ok ()/\ ∀f∈l,JM us f=.ok ())\/ ∃p e,xi us l=.J9 p e/\e≠0
 |[]=>.inl ⟨by rw[xi],λf h=>by cases h⟩
 |f::l=>by
  have H:=zlZ (us:=us) f;rw[xi];cases d:JM us f with
  |J9 q e=>rw[d]at H;exact .inr ⟨q,e,rfl,H⟩
  |ok u=>
   rcases YL l with⟨a,b⟩|⟨p,e,a,b⟩
   ·exact .inl ⟨a,λg c=>by rcases List.mem_cons.1 c with rfl|c;exact d;exact b g c⟩
   ·exact .inr ⟨p,e,a,b⟩
theorem xP{us}(h:(S4 us).2=0):U6 us=0/\us.any zg=true/\ ∀f∈us,JM us f=.ok ():=by
 by_cases a:U6 us=0
 ·cases b:yO [] us with
  |some p=>rw[XS a b]at h;cases h
  |none=>
   cases d:us.any zg with
   |false=>rw[zbJ a b d]at h;cases h
   |true=>
    rcases YL us with⟨g,c⟩|⟨p,e,g,c⟩
    ·exact⟨a,rfl,c⟩
    ·rw[yE a b d g]at h;exact H9 h c
 ·rw[zbI a]at h;exact H9 h a
end Go.Proofs.YtmngofgminlloaaGreatDoor
namespace Go.Proofs.YtmngofgminlloaaGreatDoor
open Go.Proofs.Tryz
open Go.RowKit Tw
def apV(n:Nat):Option (Nat×Nat)->Value
 |none=>.slice none 0 0
 |some (g,c)=>.slice (some ⟨g,0,none⟩) (n+1) c
def OfW(w:World)(b1 d a:Nat)(A:Option Addr)(n c:Nat)(z:Int)(b:List (Pf×Value))(e:Option Addr)(f:Nat)(x:Pf×Value)(h i:World):Bool->Bool->Bool->World->Option (Nat×Nat)->Prop
 |false,_,_,W,q=>q=none/\W=h
 |true,false,_,W,q=>q=none/\W=i
 |true,true,false,W,q=> ∃g cap,q=some (g,cap)/\W.heap[a]?=some (.cells #[.slice e b.length f,.int .i64 z] 55 (0,0))/\FrO w (W.setCell ⟨a,0,none⟩ (.slice (some ⟨g,0,none⟩) (b.length+1) cap)) b1 d a A n c z (b++[x]) (some ⟨g,0,none⟩) cap
 |true,true,true,W,q=> ∃g cap,q=some (g,cap)/\FrO w W b1 d a A n c z (b++[x]) (some ⟨g,0,none⟩) cap
def zfU{us}(h:us.any zg=true):S3 us T0≠none:=by
 intro a;obtain⟨f,c,b⟩:=List.any_eq_true.1 h;unfold S3 at a;rw[List.find?_eq_none]at a;have:=a f c;rw[Qi]at b;simp only[F3,F1]at b;exact this (by simpa using(show f.J2=T0 from b.1.1))
def znQ(us A)(c:Nat)(F0:Nat->Prop)(w)(hU:U2 w F0 (.slice A us.length c) us)(hZ: ∀f∈us,FnZ f)(hN: ∀f∈us,qL f.J0<=60000000)(d0:us.length<=281474976710656)(d1:us.length<=c)(hG:O4 w):
 Calls prog 84 #[.agg #[.slice A us.length c]] w (OfR w us):=by
 have a2:=(x8 w.heap.size w).alloc (x7 _) (.cells #[.slice A us.length c] 24);have a3:=a2.alloc a2.size (.cells #[.slice none 0 0,.int .i64 0] 55)
 have P:Hid (FrA w ((w.alloc (.cells #[.slice A us.length c] 24)).alloc (.cells #[.slice none 0 0,.int .i64 0] 55)) w.heap.size (w.heap.size+1) A us.length c):=
  qh ⟨heap_alloc2_old w _ _,heap_alloc2_new w _ _,a3,hG.to a3,x7 _,by omega,hG.xM⟩
 have HU:Hid (∀W,Below w.heap.size w W-> ∀F:Nat->Prop,(∀g,g<w.heap.size->F g)->U2 W F (.slice A us.length c) us):=qh (λW hb F hF=>hU.K7 (λg h1 h2=>⟨hF g h2,A7 h2 hb.size,hb.block g h2⟩));have HZ:=qh hZ;have HN:=qh hN;have HC:=qh d1;clear hU hZ hG a2 a3 hN d1
 go_enter func84,ntmps84
 go_upto_region 1 with(fail)
 generalize World.alloc _ _=w0 at P|-;obtain⟨b2,a3⟩: ∃b,w.heap.size+1=b:=⟨_,rfl⟩;rw[a3]at P;simp only[a3];obtain⟨b1,a2⟩: ∃b,w.heap.size=b:=⟨_,rfl⟩;rw[a2]at P;simp only[a2];clear a2 a3;have c1:=x6 P.out.un 0
 go_wp2_with fail
 refine(zg0 us A c (λ_=>True) w0 (HU.out _ P.out.M1 _ (λ_ _=>trivial)) HZ.out d0 HC.out P.out.gl).mono ?_;rintro e w1 ⟨rfl,hb⟩;have H:=qh (P.out.later hb);clear c1 hb P;obtain⟨er,d5⟩: ∃z,(S4 us).2=z:=⟨_,rfl⟩;have a9:=qh d5;rw[d5];generalize(S4 us).1=ep;clear d5
 by_cases h0:er=0
 case neg=>
  have e1:(er !=0)=true:=by simpa using h0
  have j4:=qh h0;clear h0;have r0:=x6 H.out.rs 0;have r1:=x6 H.out.rs 1;have g0:=B4 H.out.rs 0;have g1:=B4 H.out.rs 1
  go_wp2_with fail
  have s0:=A6 _ _ 0 _ _ (.slice none 0 0) H.out.rs;have s1:=A6 _ _ 1 _ _ (.int .i64 0) s0;refine E9 (qc rfl _ _ b2 _ _ _ _ rfl s1 underlying55 rfl YD) rfl ?_;exact⟨none,0,0,0,er,rfl,L6 (L6 H.out.M1 (by have:=H.out.lo;have:=H.out.h12;omega) 0 _) (by have:=H.out.lo;have:=H.out.h12;omega) 1 _,.inl ⟨by rw[a9.out];exact j4.out,a9.out.symm,rfl⟩⟩
 case pos=>
 subst h0;have HR:=qh (xP a9.out);have m5:us.length<=16:=(zA HR.out.1).1;have c1:=x6 H.out.un 0
 go_wp2_with fail
 refine(zh5 _ rfl A c (λ_=>True) us w1 (HU.out _ H.out.M1 _ (λ_ _=>trivial)) d0).mono ?_;rintro e w2 ⟨z,rfl,hz,hb⟩;have j5:z=(zP us T0:Int):=by
  rcases hz with hz|hz
  ·exact H9 hz (zfU HR.out.2.1)
  ·exact hz
 subst j5;have b0:=qh (H.out.later hb);clear c1 hz hb H;have b3:Hid (FrO w (w2.alloc (.cells #[.slice none 0 0,.int .i64 (zP us T0:Int)] 55)) b1 b2 w2.heap.size A us.length c (zP us T0:Int) [] none 0):=qh ⟨b0.out.later ((x8 w2.heap.size w2).alloc (x7 _) _),A5 w2 _,⟨rfl,.inl ⟨rfl,rfl⟩⟩,λ_ h=>(by cases h),I5 b0.out.rs⟩;have c1:=x6 b0.out.un 0;have d2:=I5 b0.out.un
 go_upto_region 5 with(fail)
 clear c1 b0 d2;generalize World.alloc _ _=w3 at b3|-;generalize w2.heap.size=b6 at b3|-;have c1:=x6 b3.out.a.un 0
 go_wp2_with fail
 clear c1
 go_loopw[28] (λi wr=> ∃(j:Nat)(Q:List (Pf×Value))(Ap:Option Addr)(cp:Nat),j<=us.length/\i=.int .i64 j/\Hid (Q.map Prod.fst=(us.take j).map λf=>(xJ us f).pf)/\Hid (∀f∈us.take j,(xJ us f).S0.length<=4000)/\Hid (FrO w wr b1 b2 b6 A us.length c (zP us T0:Int) Q Ap cp)) (λi _=>us.length-(intOf i).toNat)
 case atStart=>exact⟨0,[],none,0,D0 _,rfl,qh rfl,qh (by simp),b3⟩
 case round=>
  clear b3;obtain⟨j,Q,Ap,cp,hj,rfl,b4,d6,N⟩:=hrel
  by_cases f0:j<us.length
  ·obtain⟨f,hf⟩: ∃f,us[j]?=some f:=⟨_,x9 f0⟩
   obtain⟨g,J,An,cn,At,ct,Ab,K,rfl,hg,f1,j6,f2,hc⟩:=(HU.out wr N.out.a.M1 (λg=>g<wr.heap.size) (λg hg=>by have:=N.out.a.M1.size;omega)).at j f hf;have q0:=(x8 wr.heap.size wr).cell (p:=⟨g,J+j*6,none⟩) hg|>.trans (hc 0 _ rfl)
   have q1:=(x8 wr.heap.size wr).cell (p:=⟨g,J+j*6+1,none⟩) hg|>.trans (hc 1 _ rfl)
   have q2:=(x8 wr.heap.size wr).cell (p:=⟨g,J+j*6+2,none⟩) hg|>.trans (hc 2 _ rfl)
   have q3:=(x8 wr.heap.size wr).cell (p:=⟨g,J+j*6+3,none⟩) hg|>.trans (hc 3 _ rfl)
   have q4:=(x8 wr.heap.size wr).cell (p:=⟨g,J+j*6+4,none⟩) hg|>.trans (hc 4 _ rfl)
   have q5:=(x8 wr.heap.size wr).cell (p:=⟨g,J+j*6+5,none⟩) hg|>.trans (hc 5 _ rfl)
   have b5:=B7 hf;have HS:=qh hf;have j7:=qh f1;have d7:=qh b5;have f3:=(zA HR.out.1).2 f b5;obtain⟨r1,r2,j8,m',r,r3,r4⟩:=zgO (us:=us) (f:=f) (by have:=HR.out.1;unfold U6 at this;rw[B5 (by omega)]at this;exact JQ us this f b5) (HR.out.2.2 f b5) f3.1;have j9:=qh r2;have k2:=qh r3;have k3:=qh r4;have m6:Q.length<=16:=by have:=H0 List.length b4.out;simp only[C6,I2]at this;omega
   have bf:=(x8 wr.heap.size wr).alloc (x7 _) (.cells #[.string f.J2,.slice An f.J1.length cn,.slice At f.K4.length ct,.int .i64 f.out,.slice Ab f.J0.length K,.int .i64 f.pos] 32);have xf:=A5 wr (.cells #[.string f.J2,.slice An f.J1.length cn,.slice At f.K4.length ct,.int .i64 f.out,.slice Ab f.J0.length K,.int .i64 f.pos] 32);have bm:=(x8 (wr.alloc (.cells #[.string f.J2,.slice An f.J1.length cn,.slice At f.K4.length ct,.int .i64 f.out,.slice Ab f.J0.length K,.int .i64 f.pos] 32)).heap.size (wr.alloc (.cells #[.string f.J2,.slice An f.J1.length cn,.slice At f.K4.length ct,.int .i64 f.out,.slice Ab f.J0.length K,.int .i64 f.pos] 32))).alloc (x7 _) (.cells #[.slice (some ⟨g,J,none⟩) us.length c,.slice none 0 0,.slice none 0 0,.int .i64 0,.slice none 0 0] 225);have HX:=qh ((bm.block _ (I5 xf)).trans xf);have a4:=qh (bf.trans (bm.mono (by simp)))
   have HM:Hid (zu ((wr.alloc (.cells #[.string f.J2,.slice An f.J1.length cn,.slice At f.K4.length ct,.int .i64 f.out,.slice Ab f.J0.length K,.int .i64 f.pos] 32)).alloc (.cells #[.slice (some ⟨g,J,none⟩) us.length c,.slice none 0 0,.slice none 0 0,.int .i64 0,.slice none 0 0] 225)) ((wr.alloc (.cells #[.string f.J2,.slice An f.J1.length cn,.slice At f.K4.length ct,.int .i64 f.out,.slice Ab f.J0.length K,.int .i64 f.pos] 32)).alloc (.cells #[.slice (some ⟨g,J,none⟩) us.length c,.slice none 0 0,.slice none 0 0,.int .i64 0,.slice none 0 0] 225)) (wr.alloc (.cells #[.string f.J2,.slice An f.J1.length cn,.slice At f.K4.length ct,.int .i64 f.out,.slice Ab f.J0.length K,.int .i64 f.pos] 32)).heap.size (.slice (some ⟨g,J,none⟩) us.length c) ⟨none,0,none,0,none,0⟩ [] 0 [] us (λk=>k<(wr.alloc (.cells #[.string f.J2,.slice An f.J1.length cn,.slice At f.K4.length ct,.int .i64 f.out,.slice Ab f.J0.length K,.int .i64 f.pos] 32)).heap.size)):=
    qh ⟨Mk.new,HU.out _ (N.out.a.M1.trans (a4.out.mono N.out.a.M1.size)) _ (λk hk=>by have:=N.out.a.M1.size;simp;omega),x8 _ _,Kp.refl _,N.out.a.gl.to a4.out,λk hk=>hk,by have:=N.out.a.gl.xM;simp;omega⟩
   have c0:Hid (K9 ((wr.alloc (.cells #[.string f.J2,.slice An f.J1.length cn,.slice At f.K4.length ct,.int .i64 f.out,.slice Ab f.J0.length K,.int .i64 f.pos] 32)).alloc (.cells #[.slice (some ⟨g,J,none⟩) us.length c,.slice none 0 0,.slice none 0 0,.int .i64 0,.slice none 0 0] 225)) (λk=>k<(wr.alloc (.cells #[.string f.J2,.slice An f.J1.length cn,.slice At f.K4.length ct,.int .i64 f.out,.slice Ab f.J0.length K,.int .i64 f.pos] 32)).heap.size) (.slice Ab f.J0.length K) f.J0):=qh (f2.K7 (λk h1 h2=>⟨by simp;omega,A7 h2 a4.out.size,a4.out.block k h2⟩));have f4:(wr.alloc (.cells #[.string f.J2,.slice An f.J1.length cn,.slice At f.K4.length ct,.int .i64 f.out,.slice Ab f.J0.length K,.int .i64 f.pos] 32)).heap.size=wr.heap.size+1:=by simp
   rw[f4]at HM c0;clear f4;have c1:=x6 N.out.a.un 0;have d2:=I5 N.out.a.un;have k0:(0:Int)<=(j:Int):=by omega
   have k1:(j:Int)<(us.length:Int):=by omega
   clear hf f1 j6 f2 hc b5 f3 r2 r3 r4 bf bm xf
   go_upto_region 9 with(fail)
   clear q0 q1 q2 q3 q4 q5 c1;generalize World.alloc _ _=wm at HX a4 HM c0|-;obtain⟨mb,b7⟩: ∃b,wr.heap.size+1=b:=⟨_,rfl⟩;have k4:wr.heap.size<mb:=by omega
   rw[b7]at HM c0;simp only[b7];clear b7;generalize d3:wr.heap.size=bf at HX k4|-;have f5:=qh d3;clear d3;obtain⟨⟨q0,q1,q2,q3,q4,q5⟩,-⟩:=M6 HX.out
   go_wp2_with fail
   clear q0 q1 q2 q3 q4 q5;have f7:=HM;obtain⟨wx,rfl⟩: ∃wo:World,wo=wr:=⟨_,rfl⟩
   go_loopw[38] (λi wr=> ∃(k:Nat)(V:Mv),k<=f.J1.length/\i=.int .i64 k/\Hid (zu wm wr mb (.slice (some ⟨g,J,none⟩) us.length c) V (jb 0 (f.J1.take k)) k [] us (λk=>k<mb))) (λi _=>f.J1.length-(intOf i).toNat)
   case atStart=>exact⟨0,_,D0 _,rfl,f7⟩
   case round=>
    clear f7;obtain⟨k,V,hk,rfl,X⟩:=hrel
    by_cases k5:k<f.J1.length
    ·obtain⟨n,hn⟩: ∃n,f.J1[k]?=some n:=⟨_,x9 k5⟩
     obtain⟨gn,on,rfl,h4,h5⟩:=j7.out.at k n hn;have kn:=(((a4.out.trans (X.out.M1.mono (by have:=f5.out;omega))).cell (p:=⟨gn,on+k,none⟩) h4)).trans h5;have k6:=qh (zjq hn);have h6:=qh (zkT n _ wr mb _ V _ k [] us (by rw[zdg,I2];omega) (by omega) X.out.Z8);have i0:(0:Int)<=(k:Int):=by omega
     have i1:(k:Int)<(f.J1.length:Int):=by omega
     clear hn h5 h4
     go_wp2_with fail
     refine h6.out.mono ?_;rintro e w8 ⟨rfl,V8,hM⟩;have h7:=qh (X.out.next hM);rw[<-k6.out]at h7;clear hM kn h6
     go_wp2_with fail
     go_roundw
     case rel=>exact⟨k+1,V8,by omega,by go_num,h7⟩
     case measure=>simp[intOf];omega
    ·obtain rfl:k=f.J1.length:=by omega
     rw[F5]at X;have k7:=qh ((X.out.M1.block bf (by omega)).trans HX.out);obtain⟨⟨q0,q1,q2,q3,q4,q5⟩,-⟩:=M6 k7.out;have c2:=qh (zn5 us 40 f.J0 Ab K _ wr mb _ c V _ _ [] f.out j8 m' r j9.out k2.out k3.out (by omega) (X.out.zoP c0.out) (by have:=HN.out f d7.out;simp;omega) X.out.Z8);have c5:=xS (us:=us) f.J0 ([]:List zv).length f.J1.length (jb 0 f.J1);have k8:=HN.out f d7.out;obtain⟨L,hL⟩: ∃L,(X9 us ([]:List zv).length (jb 0 f.J1) f.J1.length f.J0).1.map Prod.fst=L:=⟨_,rfl⟩;obtain⟨T,d8⟩: ∃m,(X9 us ([]:List zv).length (jb 0 f.J1) f.J1.length f.J0).2=m:=⟨_,rfl⟩;have m7:L.length<=300000000:=by rw[<-hL,C6];omega
     have c6:Hid ((xJ us f).pf=⟨f.J1.length,T,L++[(1,0)]++[(18,0)]⟩/\(xJ us f).S0.length=L.length+2):=qh (by
      subst hL d8;exact⟨by simp[Cf.pf,xJ],by simp[xJ]⟩)
     simp only[C0]at c2;rw[hL,d8]at c2;clear c5 k8 hL d8
     go_wp2_with fail
     refine c2.out.mono ?_;rintro e w5 ⟨rfl,V5,hM⟩;have d9:=qh (X.out.next hM);clear hM c2 q0 q1 q2 q3 q4 q5
     go_wp2_with fail
     refine(qy 1 0 _ _ mb _ V5 _ _ _ us (by omega) d9.out.Z8).mono ?_;rintro e w6 ⟨rfl,V6,hM⟩;have e0:=qh (d9.out.next hM);clear hM d9
     go_wp2_with fail
     refine(qy 18 0 _ _ mb _ V6 _ _ _ us (by simp;omega) e0.out.Z8).mono ?_;rintro e U ⟨rfl,D,hM⟩;have a7:=qh (e0.out.next hM);clear hM e0;obtain⟨O,hO⟩: ∃O,L++[(1,0)]++[(18,0)]=O:=⟨_,rfl⟩;have h8:O.length=L.length+2:=by rw[<-hO];simp
     rw[hO]at a7 c6;have e2:=qh h8;have m8:O.length<=300000002:=by omega
     clear hO h8;have M:=qh (N.out.later (a4.out.trans (a7.out.M1.mono (by have:=f5.out;omega))));have h9:=qh ((a7.out.M1.block bf (by omega)).trans HX.out);obtain⟨⟨-,-,-,c3,c4⟩,-⟩:=jq a7.out.st
     by_cases i2:O.length<=4000
     case neg=>
      have e1:(4000:Int)<(O.length:Int):=by omega
      have k9:=qh (zd7 d7.out (by rw[c6.out.2,<-e2.out];exact i2));have r0:=x6 M.out.a.rs 0;have r1:=x6 M.out.a.rs 1;have g0:=B4 M.out.a.rs 0;have g1:=B4 M.out.a.rs 1
      go_wp2_with fail
      have s0:=A6 _ _ 0 _ _ (.slice none 0 0) M.out.a.rs;have s1:=A6 _ _ 1 _ _ (.int .i64 0) s0;refine E9 (qc rfl _ _ b2 _ _ _ _ rfl s1 underlying55 rfl YD) rfl ?_;exact⟨none,0,0,0,2,rfl,L6 (L6 M.out.a.M1 (by have:=M.out.a.lo;have:=M.out.a.h12;omega) 0 _) (by have:=M.out.a.lo;have:=M.out.a.h12;omega) 1 _,.inr (.inl ⟨a9.out,k9.out,rfl,rfl⟩)⟩
     case pos=>
     have e1: ¬(4000:Int)<(O.length:Int):=by omega
     obtain⟨⟨q0,q1,q2,q3,q4,q5⟩,-⟩:=M6 h9.out;have p0:=x6 M.out.pg 0;have i3:=qh (M.out.later (M2 U));have l0:=qh (jz.ZK a7.out.st.ro (by rw[e2.out];omega));have e3:=qh (i3.out.later ((x8 U.drew.heap.size U.drew).alloc (x7 _) (.cells #[.int .i64 f.J1.length,.int .i64 T,.slice D.Ao O.length D.co] 66)));have l1:=qh (l0.out.K7 (jk.of ((M2 U).trans ((x8 U.drew.heap.size U.drew).alloc (x7 _) (.cells #[.int .i64 f.J1.length,.int .i64 T,.slice D.Ao O.length D.co] 66)))));have l2:=I5 M.out.pg;have i4:=I5 h9.out;have i5:=a7.out.lt
     go_upto_region 19 with(fail)
     generalize Y:Act.mk _ _=a0;have e6:a0.tmps[6]?=some (.pointer (some ⟨b6,0,none⟩)):=by rw[<-Y];rfl
     have e8:a0.tmps[8]?=some (.pointer (some ⟨bf,0,none⟩)):=by rw[<-Y];rfl
     have e9:a0.tmps[9]?=some (.pointer (some ⟨mb,0,none⟩)):=by rw[<-Y];rfl
     have ez:a0.tmps.size=80:=by rw[<-Y];rfl
     have P:=qh Y;clear Y;generalize a5:U.heap.size=nb at l2 i4 i5;have m9:=qh a5;have hX:=(A5 U.drew (.cells #[.int .i64 f.J1.length,.int .i64 T,.slice D.Ao O.length D.co] 66));have i6:U.drew.heap.size=nb:=a5;rw[i6]at hX;obtain⟨I,d⟩: ∃I:Option (Nat×Nat)->XM,I=λq=>[(0,61,.pointer (some ⟨b6,0,none⟩)),(1,62,.slice Ap Q.length cp),(2,63,.pointer (some ⟨bf,1,none⟩)),(3,64,.slice An f.J1.length cn),(4,65,.int .i64 f.J1.length),(5,66,.pointer (some ⟨mb,0,none⟩)),(6,67,.pointer (some ⟨mb,0,none⟩)),(7,68,.pointer (some ⟨mb,3,none⟩)),(8,69,.int .i64 T),(9,70,.pointer (some ⟨mb,0,none⟩)),(10,71,.pointer (some ⟨mb,0,none⟩)),(11,72,.pointer (some ⟨mb,4,none⟩)),(12,73,.slice D.Ao O.length D.co),(13,74,.agg #[.int .i64 f.J1.length,.int .i64 T,.slice D.Ao O.length D.co]),(14,75,.slice (some ⟨nb,0,none⟩) 1 1),(15,76,apV Q.length q),(16,77,.pointer (some ⟨b6,0,none⟩))]:=⟨_,rfl⟩
     have o: ∀q,(I q).map (·.1)=[0,1,2,3,4,5,6,7,8,9,10,11,12,13,14,15,16]:=by subst d;intro q;rfl
     have l: ∀q,(I q).map (·.2.1)=[61,62,63,64,65,66,67,68,69,70,71,72,73,74,75,76,77]:=by subst d;intro q;rfl
     have u: ∀q,∀e∈I q,61<=e.2.1/\e.2.1<=77:=λq e s=>by
      have h:e.2.1∈(I q).map (·.2.1):=G7 s;rw[l]at h;have: ∀k∈[61,62,63,64,65,66,67,68,69,70,71,72,73,74,75,76,77],61<=k/\k<=77:=by decide
      exact this _ h
     refine Yp (by kernel_rfl) 18 rfl (λL a W=> ∃q,S9 (I q) a0 L a/\OfW w b1 b2 b6 (some ⟨g,J,none⟩) us.length c (zP us T0:Int) Q Ap cp (⟨f.J1.length,T,O⟩,.slice D.Ao O.length D.co) U.drew (U.drew.alloc (.cells #[.int .i64 f.J1.length,.int .i64 T,.slice D.Ao O.length D.co] 66)) (L.getD 14 false) (L.getD 15 false) (L.getD 17 false) W q) ?_ ?_ (by kernel_rfl) ?_
     ·refine⟨none,S9.start _ _ _,?_⟩
      rw[S8,S8,S8];exact⟨rfl,rfl⟩
     ·rintro L a W i hz hC ⟨q,B,C⟩ R
      have f0:i<18:=(jC R).1;have S:=Je R (by omega);have f6:=(B.un 6 λe s=>by have:=u q e s;omega).trans e6;have f8:=(B.un 8 λe s=>by have:=u q e s;omega).trans e8;have f9:=(B.un 9 λe s=>by have:=u q e s;omega).trans e9;have l3:i=0\/i=1\/i=2\/i=3\/i=4\/i=5\/i=6\/i=7\/i=8\/i=9\/i=10\/i=11\/i=12\/i=13\/i=14\/i=15\/i=16\/i=17:=by omega
      rcases l3 with rfl|rfl|rfl|rfl|rfl|rfl|rfl|rfl|rfl|rfl|rfl|rfl|rfl|rfl|rfl|rfl|rfl|rfl
      ·have E:=J8 R rfl
       refine K5 61 (w':=W) (v:=.pointer (some ⟨b6,0,none⟩)) rfl rfl rfl (by simp[execOp,go_sem,f6];try rfl) ?_;exact⟨q,B.put (by rw[o];decide) (by rw[l];decide) (λe s=>by have:=u _ e s;omega) (0,61,.pointer (some ⟨b6,0,none⟩)) (by subst d;simp),by rw[I6 (by decide),I6 (by decide),I6 (by decide)];exact C⟩
      ·have E:=J8 R rfl
       have g0:L.getD 0 false=true:=E ⟨0,.data⟩ (by simp) (by decide);have v0:=B.tb (0,61,.pointer (some ⟨b6,0,none⟩)) (by subst d;simp) g0;simp only at v0;have c7:L.getD 15 false=false:=by
        cases e4:L.getD 15 false with
        |false=>rfl
        |true=>have h1:=hC 15 _ rfl e4 ⟨1,.data⟩ (by simp) (by decide);rw[S]at h1;cases h1
       rw[c7]at C;have px:W.cell? ⟨b6,0,none⟩=some (.slice Ap Q.length cp):=by
        cases Z:L.getD 14 false with
        |false=>rw[Z]at C;obtain⟨-,rfl⟩:=C;exact x6 i3.out.pg 0
        |true=>rw[Z]at C;obtain⟨-,rfl⟩:=C;exact x6 e3.out.pg 0
       refine K5 62 (w':=W) (v:=.slice Ap Q.length cp) rfl rfl rfl (by simp[execOp,go_sem,v0,px];try rfl) ?_;exact⟨q,B.put (by rw[o];decide) (by rw[l];decide) (λe s=>by have:=u _ e s;omega) (1,62,.slice Ap Q.length cp) (by subst d;simp),by rw[I6 (by decide),I6 (by decide),I6 (by decide),c7];exact C⟩
      ·have E:=J8 R rfl
       refine K5 63 (w':=W) (v:=.pointer (some ⟨bf,1,none⟩)) rfl rfl rfl (by simp[execOp,go_sem,f8];try rfl) ?_;exact⟨q,B.put (by rw[o];decide) (by rw[l];decide) (λe s=>by have:=u _ e s;omega) (2,63,.pointer (some ⟨bf,1,none⟩)) (by subst d;simp),by rw[I6 (by decide),I6 (by decide),I6 (by decide)];exact C⟩
      ·have E:=J8 R rfl
       have g2:L.getD 2 false=true:=E ⟨2,.data⟩ (by simp) (by decide);have v2:=B.tb (2,63,.pointer (some ⟨bf,1,none⟩)) (by subst d;simp) g2;simp only at v2;have a1:L.getD 14 false=false:=by
        cases Z:L.getD 14 false with
        |false=>rfl
        |true=>have h1:=hC 14 _ rfl Z ⟨13,.data⟩ (by simp) (by decide);have h2:=hC 13 _ rfl h1 ⟨4,.data⟩ (by simp) (by decide);have h3:=hC 4 _ rfl h2 ⟨3,.data⟩ (by simp) (by decide);rw[S]at h3;cases h3
       rw[a1]at C;obtain⟨hq,b8⟩:=C;subst b8;refine K5 64 (w':=U.drew) (v:=.slice An f.J1.length cn) rfl rfl rfl (by simp[execOp,go_sem,v2,show U.drew.cell? ⟨bf,1,none⟩=some (.slice An f.J1.length cn) from q1];try rfl) ?_;exact⟨q,B.put (by rw[o];decide) (by rw[l];decide) (λe s=>by have:=u _ e s;omega) (3,64,.slice An f.J1.length cn) (by subst d;simp),by rw[I6 (by decide),I6 (by decide),I6 (by decide),a1];exact⟨hq,rfl⟩⟩
      ·have E:=J8 R rfl
       have g3:L.getD 3 false=true:=E ⟨3,.data⟩ (by simp) (by decide);have v3:=B.tb (3,64,.slice An f.J1.length cn) (by subst d;simp) g3;simp only at v3;refine K5 65 (w':=W) (v:=.int .i64 f.J1.length) rfl rfl rfl (by simp[execOp,go_sem,v3];try rfl) ?_;exact⟨q,B.put (by rw[o];decide) (by rw[l];decide) (λe s=>by have:=u _ e s;omega) (4,65,.int .i64 f.J1.length) (by subst d;simp),by rw[I6 (by decide),I6 (by decide),I6 (by decide)];exact C⟩
      ·have E:=J8 R rfl
       refine K5 66 (w':=W) (v:=.pointer (some ⟨mb,0,none⟩)) rfl rfl rfl (by simp[execOp,go_sem,f9];try rfl) ?_;exact⟨q,B.put (by rw[o];decide) (by rw[l];decide) (λe s=>by have:=u _ e s;omega) (5,66,.pointer (some ⟨mb,0,none⟩)) (by subst d;simp),by rw[I6 (by decide),I6 (by decide),I6 (by decide)];exact C⟩
      ·have E:=J8 R rfl
       have g5:L.getD 5 false=true:=E ⟨5,.data⟩ (by simp) (by decide);have v5:=B.tb (5,66,.pointer (some ⟨mb,0,none⟩)) (by subst d;simp) g5;simp only at v5;refine K5 67 (w':=W) (v:=.pointer (some ⟨mb,0,none⟩)) rfl rfl rfl (by simp[execOp,go_sem,v5];try rfl) ?_;exact⟨q,B.put (by rw[o];decide) (by rw[l];decide) (λe s=>by have:=u _ e s;omega) (6,67,.pointer (some ⟨mb,0,none⟩)) (by subst d;simp),by rw[I6 (by decide),I6 (by decide),I6 (by decide)];exact C⟩
      ·have E:=J8 R rfl
       have g6:L.getD 6 false=true:=E ⟨6,.data⟩ (by simp) (by decide);have v6:=B.tb (6,67,.pointer (some ⟨mb,0,none⟩)) (by subst d;simp) g6;simp only at v6;refine K5 68 (w':=W) (v:=.pointer (some ⟨mb,3,none⟩)) rfl rfl rfl (by simp[execOp,go_sem,v6];try rfl) ?_;exact⟨q,B.put (by rw[o];decide) (by rw[l];decide) (λe s=>by have:=u _ e s;omega) (7,68,.pointer (some ⟨mb,3,none⟩)) (by subst d;simp),by rw[I6 (by decide),I6 (by decide),I6 (by decide)];exact C⟩
      ·have E:=J8 R rfl
       have g7:L.getD 7 false=true:=E ⟨7,.data⟩ (by simp) (by decide);have v7:=B.tb (7,68,.pointer (some ⟨mb,3,none⟩)) (by subst d;simp) g7;simp only at v7;have a1:L.getD 14 false=false:=by
        cases Z:L.getD 14 false with
        |false=>rfl
        |true=>have h1:=hC 14 _ rfl Z ⟨13,.data⟩ (by simp) (by decide);have h2:=hC 13 _ rfl h1 ⟨8,.data⟩ (by simp) (by decide);rw[S]at h2;cases h2
       rw[a1]at C;obtain⟨hq,b8⟩:=C;subst b8;refine K5 69 (w':=U.drew) (v:=.int .i64 T) rfl rfl rfl (by simp[execOp,go_sem,v7,show U.drew.cell? ⟨mb,3,none⟩=some (.int .i64 T) from c3];try rfl) ?_;exact⟨q,B.put (by rw[o];decide) (by rw[l];decide) (λe s=>by have:=u _ e s;omega) (8,69,.int .i64 T) (by subst d;simp),by rw[I6 (by decide),I6 (by decide),I6 (by decide),a1];exact⟨hq,rfl⟩⟩
      ·have E:=J8 R rfl
       refine K5 70 (w':=W) (v:=.pointer (some ⟨mb,0,none⟩)) rfl rfl rfl (by simp[execOp,go_sem,f9];try rfl) ?_;exact⟨q,B.put (by rw[o];decide) (by rw[l];decide) (λe s=>by have:=u _ e s;omega) (9,70,.pointer (some ⟨mb,0,none⟩)) (by subst d;simp),by rw[I6 (by decide),I6 (by decide),I6 (by decide)];exact C⟩
      ·have E:=J8 R rfl
       have g9:L.getD 9 false=true:=E ⟨9,.data⟩ (by simp) (by decide);have v9:=B.tb (9,70,.pointer (some ⟨mb,0,none⟩)) (by subst d;simp) g9;simp only at v9;refine K5 71 (w':=W) (v:=.pointer (some ⟨mb,0,none⟩)) rfl rfl rfl (by simp[execOp,go_sem,v9];try rfl) ?_;exact⟨q,B.put (by rw[o];decide) (by rw[l];decide) (λe s=>by have:=u _ e s;omega) (10,71,.pointer (some ⟨mb,0,none⟩)) (by subst d;simp),by rw[I6 (by decide),I6 (by decide),I6 (by decide)];exact C⟩
      ·have E:=J8 R rfl
       have l4:L.getD 10 false=true:=E ⟨10,.data⟩ (by simp) (by decide);have i7:=B.tb (10,71,.pointer (some ⟨mb,0,none⟩)) (by subst d;simp) l4;simp only at i7;refine K5 72 (w':=W) (v:=.pointer (some ⟨mb,4,none⟩)) rfl rfl rfl (by simp[execOp,go_sem,i7];try rfl) ?_;exact⟨q,B.put (by rw[o];decide) (by rw[l];decide) (λe s=>by have:=u _ e s;omega) (11,72,.pointer (some ⟨mb,4,none⟩)) (by subst d;simp),by rw[I6 (by decide),I6 (by decide),I6 (by decide)];exact C⟩
      ·have E:=J8 R rfl
       have l5:L.getD 11 false=true:=E ⟨11,.data⟩ (by simp) (by decide);have i8:=B.tb (11,72,.pointer (some ⟨mb,4,none⟩)) (by subst d;simp) l5;simp only at i8;have a1:L.getD 14 false=false:=by
        cases Z:L.getD 14 false with
        |false=>rfl
        |true=>have h1:=hC 14 _ rfl Z ⟨13,.data⟩ (by simp) (by decide);have h2:=hC 13 _ rfl h1 ⟨12,.data⟩ (by simp) (by decide);rw[S]at h2;cases h2
       rw[a1]at C;obtain⟨hq,b8⟩:=C;subst b8;refine K5 73 (w':=U.drew) (v:=.slice D.Ao O.length D.co) rfl rfl rfl (by simp[execOp,go_sem,i8,show U.drew.cell? ⟨mb,4,none⟩=some (.slice D.Ao O.length D.co) from c4];try rfl) ?_;exact⟨q,B.put (by rw[o];decide) (by rw[l];decide) (λe s=>by have:=u _ e s;omega) (12,73,.slice D.Ao O.length D.co) (by subst d;simp),by rw[I6 (by decide),I6 (by decide),I6 (by decide),a1];exact⟨hq,rfl⟩⟩
      ·have E:=J8 R rfl
       have g4:L.getD 4 false=true:=E ⟨4,.data⟩ (by simp) (by decide);have v4:=B.tb (4,65,.int .i64 f.J1.length) (by subst d;simp) g4;simp only at v4;have g8:L.getD 8 false=true:=E ⟨8,.data⟩ (by simp) (by decide);have v8:=B.tb (8,69,.int .i64 T) (by subst d;simp) g8;simp only at v8;have l6:L.getD 12 false=true:=E ⟨12,.data⟩ (by simp) (by decide);have i9:=B.tb (12,73,.slice D.Ao O.length D.co) (by subst d;simp) l6;simp only at i9;refine K5 74 (w':=W) (v:=.agg #[.int .i64 f.J1.length,.int .i64 T,.slice D.Ao O.length D.co]) rfl rfl rfl (by simp[execOp,go_sem,v4,v8,i9];try rfl) ?_;exact⟨q,B.put (by rw[o];decide) (by rw[l];decide) (λe s=>by have:=u _ e s;omega) (13,74,.agg #[.int .i64 f.J1.length,.int .i64 T,.slice D.Ao O.length D.co]) (by subst d;simp),by rw[I6 (by decide),I6 (by decide),I6 (by decide)];exact C⟩
      ·have E:=J8 R rfl
       have l7:L.getD 13 false=true:=E ⟨13,.data⟩ (by simp) (by decide);have j0:=B.tb (13,74,.agg #[.int .i64 f.J1.length,.int .i64 T,.slice D.Ao O.length D.co]) (by subst d;simp) l7;simp only at j0;rw[S]at C;obtain⟨rfl,rfl⟩:=C;have c7:L.getD 15 false=false:=by
        cases e4:L.getD 15 false with
        |false=>rfl
        |true=>have h1:=hC 15 _ rfl e4 ⟨14,.data⟩ (by simp) (by decide);rw[S]at h1;cases h1
       refine K5 75 (w':=U.drew.alloc (.cells #[.int .i64 f.J1.length,.int .i64 T,.slice D.Ao O.length D.co] 66)) (v:=.slice (some ⟨nb,0,none⟩) 1 1) rfl rfl rfl (by simp[execOp,go_sem,j0,a5];try rfl) ?_;refine⟨none,B.put (by rw[o];decide) (by rw[l];decide) (λe s=>by have:=u _ e s;omega) (14,75,.slice (some ⟨nb,0,none⟩) 1 1) (by subst d;simp),?_⟩;rw[N6 (by omega),I6 (by decide),I6 (by decide),c7];exact⟨rfl,rfl⟩
      ·have E:=J8 R rfl
       have g1:L.getD 1 false=true:=E ⟨1,.data⟩ (by simp) (by decide);have v1:=B.tb (1,62,.slice Ap Q.length cp) (by subst d;simp) g1;simp only at v1;have a8:L.getD 14 false=true:=E ⟨14,.data⟩ (by simp) (by decide);have j1:=B.tb (14,75,.slice (some ⟨nb,0,none⟩) 1 1) (by subst d;simp) a8;simp only at j1;rw[a8,S]at C;obtain⟨rfl,rfl⟩:=C;have l8:L.getD 17 false=false:=by
        cases l9:L.getD 17 false with
        |false=>rfl
        |true=>have h1:=hC 17 _ rfl l9 ⟨15,.data⟩ (by simp) (by decide);rw[S]at h1;cases h1
       refine zbq rfl (qt zmB rfl (.tmp 62) (.tmp 75) rfl (b6+1) _ Q.length (Q.flatMap Zw) (yp v1) e3.out.row nb 1 #[.int .i64 f.J1.length,.int .i64 T,.slice D.Ao O.length D.co] (yp j1) hX rfl (by simp[Value.oneCell']) (by omega) (by simp[a5];omega) ?_);intro g9 G w9 e5 c8 _ _;have b9:=e3.out.qv (x:=⟨f.J1.length,T,O⟩) e5 c8 l1.out;refine⟨some (g9,G),(B.change (T':=I (some (g9,G))) (λe s hl=>?_) (by rw[l,l])).put (by rw[o];decide) (by rw[l];decide) (λe s=>by have:=u _ e s;omega) (15,76,apV Q.length (some (g9,G))) (by subst d;simp),?_⟩
       ·subst d
        simp only[E7,List.mem_nil_iff,or_false]at s|-
        rcases s with rfl|rfl|rfl|rfl|rfl|rfl|rfl|rfl|rfl|rfl|rfl|rfl|rfl|rfl|rfl|rfl|rfl
        all_goals first|(simp;done)|(exfalso;simp only at hl;rw[S]at hl;cases hl)
       ·rw[I6 (by decide),N6 (by omega),I6 (by decide),a8,l8];exact⟨g9,G,rfl,b9⟩
      ·have E:=J8 R rfl
       refine K5 77 (w':=W) (v:=.pointer (some ⟨b6,0,none⟩)) rfl rfl rfl (by simp[execOp,go_sem,f6];try rfl) ?_;exact⟨q,B.put (by rw[o];decide) (by rw[l];decide) (λe s=>by have:=u _ e s;omega) (16,77,.pointer (some ⟨b6,0,none⟩)) (by subst d;simp),by rw[I6 (by decide),I6 (by decide),I6 (by decide)];exact C⟩
      ·have E:=J8 R rfl
       have m0:L.getD 16 false=true:=E ⟨16,.data⟩ (by simp) (by decide);have j2:=B.tb (16,77,.pointer (some ⟨b6,0,none⟩)) (by subst d;simp) m0;simp only at j2;have c9:L.getD 15 false=true:=E ⟨15,.data⟩ (by simp) (by decide);have e7:=B.tb (15,76,apV Q.length q) (by subst d;simp) c9;simp only at e7;have a8:L.getD 14 false=true:=hC 15 _ rfl c9 ⟨14,.data⟩ (by simp) (by decide);rw[a8,c9,S]at C;obtain⟨g9,G,rfl,b9⟩:=C;have p1:=x6 b9.1 0;have p2:=B4 b9.1 0;simp only[apV]at e7;refine qU (w':=W.setCell ⟨b6,0,none⟩ (.slice (some ⟨g9,0,none⟩) (Q.length+1) G)) rfl rfl rfl (by simp[execOp,go_sem,j2,e7,p1,p2];try rfl) ?_;refine⟨some (g9,G),B.skip 17 (λe s hh=>by have h:e.1∈(I (some (g9,G))).map (·.1):=G7 s;rw[o,hh]at h;revert h;decide),?_⟩;rw[I6 (by decide),I6 (by decide),N6 (by omega),a8,c9];exact⟨g9,G,rfl,b9.2⟩
     ·rintro L a W a6 ⟨q,B,C⟩
      rw[a6 14 (by decide),a6 15 (by decide),a6 17 (by decide)]at C;obtain⟨g9,G,rfl,C⟩:=C;have m1:=qh C;have d4:=zbE (lo:=61) (hi:=77) B.df B.az (λk hk=>B.un k λe s=>by have:=u _ e s;omega);obtain⟨y,hy⟩: ∃y:Nat->Value,a=⟨(List.range' 61 17).foldl (λt k=>t.setIfInBounds k (y k)) a0.tmps,a0.defers⟩:=⟨_,d4⟩;clear d4 B a6 C e6 e8 e9 ez u l o d hX i6 p0 q0 q1 q2 q3 q4 q5 c3 c4;subst hy;have Y:=P.out;clear P;subst Y;simp only[List.range',List.foldl];go_simp;have m2:Hid ((Q++[((⟨f.J1.length,T,O⟩:Pf),Value.slice D.Ao O.length D.co)]).map Prod.fst=(us.take (j+1)).map λf=>(xJ us f).pf):=qh (by
       rw[List.map_append,b4.out,P0 HS.out,List.map_append];simp[c6.out.1])
      have m3:Hid (∀x∈us.take (j+1),(xJ us x).S0.length<=4000):=qh (λx hx=>by
       rw[P0 HS.out]at hx
       rcases List.mem_append.1 hx with hx|hx
       ·exact d6.out x hx
       ·obtain rfl:=List.mem_singleton.1 hx
        rw[c6.out.2,<-e2.out];exact i2)
      go_wp2_with fail
      go_roundw
      case rel=>exact⟨j+1,_,_,_,by omega,by go_num,m2,m3,m1⟩
      case measure=>simp[intOf];omega
  ·obtain rfl:j=us.length:=by omega
   rw[F5]at b4 d6;have c5:Q.length=us.length:=by have:=H0 List.length b4.out;simpa using this
   have r0:=x6 N.out.a.rs 0;have r1:=x6 N.out.a.rs 1;have g0:=B4 N.out.a.rs 0;have g1:=B4 N.out.a.rs 1;have p0:=x6 N.out.pg 0;have p1:=x6 N.out.pg 1;have m4:=qh c5;clear c5
   go_wp2_with fail
   have s0:=A6 _ _ 0 _ _ (.slice Ap Q.length cp) N.out.a.rs;have s1:=A6 _ _ 1 _ _ (.int .i64 (zP us T0:Int)) s0;refine E9 (qc rfl _ _ b2 _ _ _ _ rfl s1 underlying55 rfl YD) rfl ?_;have j3:=((zF.ZK N.out.row N.out.ins).K7 (jk.set N.out.a.rs (by decide) (by decide) 0 (.slice Ap Q.length cp))).K7 (jk.set s0 (by decide) (by decide) 1 (.int .i64 (zP us T0:Int)));rw[b4.out]at j3;exact⟨Ap,Q.length,cp,(zP us T0:Int),0,rfl,L6 (L6 N.out.a.M1 (by have:=N.out.a.lo;have:=N.out.a.h12;omega) 0 _) (by have:=N.out.a.lo;have:=N.out.a.h12;omega) 1 _,.inr (.inr ⟨a9.out,yR d6.out,rfl,m4.out,rfl,j3⟩)⟩
section
variable {ws:List Wd}{i:Nat}
theorem zgB(h:K8 ws i=1):J3 ws i zU=true:=by
 unfold K8 at*;repeat' (first|assumption|(exfalso;omega)|(split at h))
theorem jG(h:K8 ws i≠1):J3 ws i zU=false:=by
 cases a:J3 ws i zU with
 |false=>rfl
 |true=>exact H9 (by unfold K8;simp[a]) h
theorem zjv(n0:K8 ws i≠1)(h:K8 ws i=2):J3 ws i jR=true:=by
 unfold K8 at*;repeat' (first|assumption|(exfalso;omega)|(split at h))
theorem yj(n0:K8 ws i≠1)(h:K8 ws i≠2):J3 ws i jR=false:=by
 have a:=jG n0;cases b:J3 ws i jR with
 |false=>rfl
 |true=>exact H9 (by unfold K8;simp[b,a]) h
theorem zkh(n0:K8 ws i≠1)(a:K8 ws i≠2)(h:K8 ws i=3):J3 ws i O6=true:=by
 unfold K8 at*;repeat' (first|assumption|(exfalso;omega)|(split at h))
theorem Jz(n0:K8 ws i≠1)(a:K8 ws i≠2)(h:K8 ws i≠3):J3 ws i O6=false:=by
 have b:=jG n0;have c:=yj n0 a;cases d:J3 ws i O6 with
 |false=>rfl
 |true=>exact H9 (by unfold K8;simp[d,b,c]) h
theorem zj0(n0:K8 ws i≠1)(a:K8 ws i≠2)(b:K8 ws i≠3)(h:K8 ws i=4):J3 ws i xq=true:=by
 unfold K8 at*;repeat' (first|assumption|(exfalso;omega)|(split at h))
theorem Yo(n0:K8 ws i≠1)(a:K8 ws i≠2)(b:K8 ws i≠3)(h:K8 ws i≠4):J3 ws i xq=false:=by
 have c:=jG n0;have d:=yj n0 a;have e:=Jz n0 a b;cases f:J3 ws i xq with
 |false=>rfl
 |true=>exact H9 (by unfold K8;simp[f,c,d,e]) h
theorem zhc(n0:K8 ws i≠1)(a:K8 ws i≠2)(b:K8 ws i≠3)(c:K8 ws i≠4)(h:K8 ws i=5):J3 ws i jm=true:=by
 unfold K8 at*;repeat' (first|assumption|(exfalso;omega)|(split at h))
theorem zaU(n0:K8 ws i≠1)(a:K8 ws i≠2)(b:K8 ws i≠3)(c:K8 ws i≠4)(h:K8 ws i≠5):J3 ws i jm=false:=by
 have d:=jG n0;have e:=yj n0 a;have f:=Jz n0 a b;have g:=Yo n0 a b c;cases j:J3 ws i jm with
 |false=>rfl
 |true=>exact H9 (by unfold K8;simp[j,d,e,f,g]) h
theorem zi6(n0:K8 ws i≠1)(a:K8 ws i≠2)(b:K8 ws i≠3)(c:K8 ws i≠4)(d:K8 ws i≠5)(h:K8 ws i=6):J3 ws i yv=true:=by
 unfold K8 at*;repeat' (first|assumption|(exfalso;omega)|(split at h))
theorem zgE(n0:K8 ws i≠1)(a:K8 ws i≠2)(b:K8 ws i≠3)(c:K8 ws i≠4)(d:K8 ws i≠5)(h:K8 ws i≠6):J3 ws i yv=false:=by
 have e:=jG n0;have f:=yj n0 a;have g:=Jz n0 a b;have j:=Yo n0 a b c;have k:=zaU n0 a b c d;cases l:J3 ws i yv with
 |false=>rfl
 |true=>exact H9 (by unfold K8;simp[l,e,f,g,j,k]) h
theorem zbK(n0:K8 ws i≠1)(a:K8 ws i≠2)(b:K8 ws i≠3)(c:K8 ws i≠4)(d:K8 ws i≠5)(e:K8 ws i≠6):K8 ws i=if L3 ws i=1 then 7 else if L3 ws i=2 then 8 else 0:=by
 have f:=jG n0;have g:=yj n0 a;have h:=Jz n0 a b;have j:=Yo n0 a b c;have k:=zaU n0 a b c d;have l:=zgE n0 a b c d e;unfold K8;simp[f,g,h,j,k,l]
end
theorem zob{w W}{d a:Nat}{v:Value}{ws:List Wd}{e en:Nat}{x A}{c:Nat}{F:Nat->Prop}(j:J7 W F (.slice A x.args.length c) x.args)(f: ∀g,F g->w.heap.size<=g/\g≠a)
 (k:Rq W d v ws e en) (l:w.grownBy W (some d)) (m:w.heap.size<=a) (o:d<a):
 ExR w d v ws en (.ex x e) (.returned (.agg #[.int .i64 x.I9,.int .i64 x.n,.string x.K0,.slice A x.args.length c,.int .i64 x.pos]))
  (((((W.setCell ⟨a,0,none⟩ (.int .i64 x.I9)).setCell ⟨a,1,none⟩ (.int .i64 x.n)).setCell ⟨a,2,none⟩ (.string x.K0)).setCell ⟨a,3,none⟩ (.slice A x.args.length c)).setCell ⟨a,4,none⟩ (.int .i64 x.pos)):=by
 have b:=xB W a (.int .i64 x.I9) (.int .i64 x.n) (.string x.K0) (.slice A x.args.length c) (.int .i64 x.pos);exact⟨A,c,rfl,j.grown b (λg h=>(f g h).2) (λg h=>(f g h).1),k.grown b o,P5 l b m⟩
theorem zpm(I:Nat)(v ws)(en i:Nat)(R:10<I)(h1:UnC I v ws en (i+1))(h2:ze3 I v ws en i):UnC I v ws en i:=by
 intro r hd w h hG;have H1:=qh h1;have H2:=qh h2;have HR:=qh h;have S:=qh hG;have E:=qh hd;have J:=h.lt;clear h1 h2 h hG hd
 go_enter func239,ntmps239
 go_wp2_with fail
 refine(zam (HR.out.K7 ((x8 _ _).alloc (x7 _) _))).mono ?_;rintro e w1 ⟨rfl,hb⟩;have K:Hid (w1.heap[w.heap.size]?=some (.cells #[.int .i64 0,.int .i64 0,.string ⟨#[]⟩,.slice none 0 0,.int .i64 0] 186 (0,0))):=qh ((hb.block _ (by simp)).trans (A5 w _));have L:Below w.heap.size w w1:=((x8 _ _).alloc (x7 _) _).trans (hb.mono (by simp));have U:=qh (HR.out.K7 L);have V:=qh (I7 L (some I));clear hb L;obtain⟨t1,X⟩: ∃t,J3 ws i zU=t:=⟨_,rfl⟩;have Y:=qh X;clear X
 go_wp2_with fail
 refine(Z5 zU (R1 (by decide)) t1 U.out Y.out).mono ?_;rintro e B ⟨rfl,p,f⟩;have k:=qh p;have b:=qh (I4 V.out f);have a:=qh ((f.block w.heap.size (I5 K.out) (by simp;omega)).trans K.out);clear p f U V K;cases t1 with
 |true=>
  have Z:=zkR Y.out;have HQ:=qh Z;clear Z;simp only[if_true]at k;cases r with
  |ex x j=>
   have C: ∃y,x=.mk 4 0 L1 [y] (J4 ws i en)/\Dc ws en (.zk (i+1)) (.ex y j):=by
    have h:=E.out;cases h with
    |neg _ h=>exact⟨_,rfl,h⟩
    |_=>exfalso;have:=HQ.out;omega
   obtain⟨y,rfl,hy⟩:=C;have M:=qh hy;clear hy
   go_wp2_with fail
   refine(H1.out _ M.out B k.out (S.out.of b.out R)).mono ?_;rintro e d ⟨A,c,rfl,G,H,f⟩;have q:=qh G;have s:=qh H;have u:=I5 a.out;have hs4:=f.size;replace a:=qh ((f.block w.heap.size u (by simp;omega)).trans a.out);replace b:=qh (I4 b.out f);clear G H f;have N:=I5 a.out;have D:=xB d w.heap.size (.int .i64 4) (.int .i64 0) (.string ⟨#[]⟩) (.slice (some ⟨d.heap.size,0,none⟩) 1 1) (.int .i64 (J4 ws i en));have m:(((((d.setCell ⟨w.heap.size,0,none⟩ (.int .i64 4)).setCell ⟨w.heap.size,1,none⟩ (.int .i64 0)).setCell ⟨w.heap.size,2,none⟩ (.string ⟨#[]⟩)).setCell ⟨w.heap.size,3,none⟩ (.slice (some ⟨d.heap.size,0,none⟩) 1 1)).setCell ⟨w.heap.size,4,none⟩ (.int .i64 (J4 ws i en))).heap.size=d.heap.size:=by simp
   have HX:=qh (Jc (W:=(((((d.setCell ⟨w.heap.size,0,none⟩ (.int .i64 4)).setCell ⟨w.heap.size,1,none⟩ (.int .i64 0)).setCell ⟨w.heap.size,2,none⟩ (.string ⟨#[]⟩)).setCell ⟨w.heap.size,3,none⟩ (.slice (some ⟨d.heap.size,0,none⟩) 1 1)).setCell ⟨w.heap.size,4,none⟩ (.int .i64 (J4 ws i en)))) (b1:=w.heap.size) (cap:=1) (T:=186) (F:=λg=>w.heap.size<=g) q.out D (λg (h:B.heap.size<=g)=>⟨by omega,by omega⟩) m (by omega));have HW:=qh ((C4 (((((d.setCell ⟨w.heap.size,0,none⟩ (.int .i64 4)).setCell ⟨w.heap.size,1,none⟩ (.int .i64 0)).setCell ⟨w.heap.size,2,none⟩ (.string ⟨#[]⟩)).setCell ⟨w.heap.size,3,none⟩ (.slice (some ⟨d.heap.size,0,none⟩) 1 1)).setCell ⟨w.heap.size,4,none⟩ (.int .i64 (J4 ws i en))) (.cells #[.int .i64 y.I9,.int .i64 y.n,.string y.K0,.slice A y.args.length c,.int .i64 y.pos] 186) (by rw[m];exact N)).trans (yT (.int .i64 4) (.int .i64 0) (.string ⟨#[]⟩) (.slice (some ⟨d.heap.size,0,none⟩) 1 1) (.int .i64 (J4 ws i en)) a.out));have o:Below (((((d.setCell ⟨w.heap.size,0,none⟩ (.int .i64 4)).setCell ⟨w.heap.size,1,none⟩ (.int .i64 0)).setCell ⟨w.heap.size,2,none⟩ (.string ⟨#[]⟩)).setCell ⟨w.heap.size,3,none⟩ (.slice (some ⟨d.heap.size,0,none⟩) 1 1)).setCell ⟨w.heap.size,4,none⟩ (.int .i64 (J4 ws i en))).heap.size (((((d.setCell ⟨w.heap.size,0,none⟩ (.int .i64 4)).setCell ⟨w.heap.size,1,none⟩ (.int .i64 0)).setCell ⟨w.heap.size,2,none⟩ (.string ⟨#[]⟩)).setCell ⟨w.heap.size,3,none⟩ (.slice (some ⟨d.heap.size,0,none⟩) 1 1)).setCell ⟨w.heap.size,4,none⟩ (.int .i64 (J4 ws i en))) ((((((d.setCell ⟨w.heap.size,0,none⟩ (.int .i64 4)).setCell ⟨w.heap.size,1,none⟩ (.int .i64 0)).setCell ⟨w.heap.size,2,none⟩ (.string ⟨#[]⟩)).setCell ⟨w.heap.size,3,none⟩ (.slice (some ⟨d.heap.size,0,none⟩) 1 1)).setCell ⟨w.heap.size,4,none⟩ (.int .i64 (J4 ws i en))).alloc (.cells #[.int .i64 y.I9,.int .i64 y.n,.string y.K0,.slice A y.args.length c,.int .i64 y.pos] 186)):=(x8 _ _).alloc (x7 _) _;have O:=qh ((s.out.grown D J).K7 o);have P:=qh (I4 (P5 b.out D (x7 _)) (I7 o (some I)));clear D o m;obtain⟨⟨d0,d1,d2,d3,d4⟩,g0,g1,g2,g3,g4⟩:=K6 a.out
   go_wp2_with fail
   (try simp only[Exit.inBlock,Exit.then])
   refine E9 (F2 rfl _ _ w.heap.size _ _ _ _ rfl HW.out underlying186 rfl zT) rfl ?_;exact⟨some ⟨d.heap.size,0,none⟩,1,rfl,HX.out,O.out,P.out⟩
  |J9 j=>
   have C:Dc ws en (.zk (i+1)) (.J9 j):=by
    have h:=E.out;cases h with
    |zgm _ h=>exact h
    |_=>exfalso;have:=HQ.out;omega
   have M:=qh C;clear C
   go_wp2_with fail
   refine(H1.out _ M.out B k.out (S.out.of b.out R)).mono ?_;rintro e d ⟨rfl,f⟩;have z:=qh (I4 b.out f);clear f;unfold Y3
   go_wp2_with fail
   exact⟨rfl,rfl,z.out⟩
  |xH l j=>have h:=E.out;cases h
 |false=>
  simp only[C2,if_false]at k;obtain⟨t2,a0⟩: ∃t,J3 ws i jR=t:=⟨_,rfl⟩;have T2:=qh a0;clear a0
  go_wp2_with fail
  refine(Z5 jR (R1 (by decide)) t2 k.out T2.out).mono ?_;rintro e w3 ⟨rfl,p,f⟩;replace k:=qh p;replace a:=qh ((f.block w.heap.size (I5 a.out) (by simp;omega)).trans a.out);replace b:=qh (I4 b.out f);clear p f;obtain⟨B,rfl⟩: ∃wo:World,wo=w3:=⟨_,rfl⟩;cases t2 with
  |true=>
   have Z:=zkK Y.out T2.out;have HQ:=qh Z;clear Z;simp only[if_true]at k;cases r with
   |ex x j=>
    have C: ∃y,x=.mk 5 0 L1 [y] (J4 ws i en)/\Dc ws en (.zk (i+1)) (.ex y j):=by
     have h:=E.out;cases h with
     |not _ h=>exact⟨_,rfl,h⟩
     |_=>exfalso;have:=HQ.out;omega
    obtain⟨y,rfl,hy⟩:=C;have M:=qh hy;clear hy
    go_wp2_with fail
    refine(H1.out _ M.out B k.out (S.out.of b.out R)).mono ?_;rintro e d ⟨A,c,rfl,G,H,f⟩;have q:=qh G;have s:=qh H;have u:=I5 a.out;have hs4:=f.size;replace a:=qh ((f.block w.heap.size u (by simp;omega)).trans a.out);replace b:=qh (I4 b.out f);clear G H f;have N:=I5 a.out;have D:=xB d w.heap.size (.int .i64 5) (.int .i64 0) (.string ⟨#[]⟩) (.slice (some ⟨d.heap.size,0,none⟩) 1 1) (.int .i64 (J4 ws i en));have m:(((((d.setCell ⟨w.heap.size,0,none⟩ (.int .i64 5)).setCell ⟨w.heap.size,1,none⟩ (.int .i64 0)).setCell ⟨w.heap.size,2,none⟩ (.string ⟨#[]⟩)).setCell ⟨w.heap.size,3,none⟩ (.slice (some ⟨d.heap.size,0,none⟩) 1 1)).setCell ⟨w.heap.size,4,none⟩ (.int .i64 (J4 ws i en))).heap.size=d.heap.size:=by simp
    have HX:=qh (Jc (W:=(((((d.setCell ⟨w.heap.size,0,none⟩ (.int .i64 5)).setCell ⟨w.heap.size,1,none⟩ (.int .i64 0)).setCell ⟨w.heap.size,2,none⟩ (.string ⟨#[]⟩)).setCell ⟨w.heap.size,3,none⟩ (.slice (some ⟨d.heap.size,0,none⟩) 1 1)).setCell ⟨w.heap.size,4,none⟩ (.int .i64 (J4 ws i en)))) (b1:=w.heap.size) (cap:=1) (T:=186) (F:=λg=>w.heap.size<=g) q.out D (λg (h:B.heap.size<=g)=>⟨by omega,by omega⟩) m (by omega));have HW:=qh ((C4 (((((d.setCell ⟨w.heap.size,0,none⟩ (.int .i64 5)).setCell ⟨w.heap.size,1,none⟩ (.int .i64 0)).setCell ⟨w.heap.size,2,none⟩ (.string ⟨#[]⟩)).setCell ⟨w.heap.size,3,none⟩ (.slice (some ⟨d.heap.size,0,none⟩) 1 1)).setCell ⟨w.heap.size,4,none⟩ (.int .i64 (J4 ws i en))) (.cells #[.int .i64 y.I9,.int .i64 y.n,.string y.K0,.slice A y.args.length c,.int .i64 y.pos] 186) (by rw[m];exact N)).trans (yT (.int .i64 5) (.int .i64 0) (.string ⟨#[]⟩) (.slice (some ⟨d.heap.size,0,none⟩) 1 1) (.int .i64 (J4 ws i en)) a.out));have o:Below (((((d.setCell ⟨w.heap.size,0,none⟩ (.int .i64 5)).setCell ⟨w.heap.size,1,none⟩ (.int .i64 0)).setCell ⟨w.heap.size,2,none⟩ (.string ⟨#[]⟩)).setCell ⟨w.heap.size,3,none⟩ (.slice (some ⟨d.heap.size,0,none⟩) 1 1)).setCell ⟨w.heap.size,4,none⟩ (.int .i64 (J4 ws i en))).heap.size (((((d.setCell ⟨w.heap.size,0,none⟩ (.int .i64 5)).setCell ⟨w.heap.size,1,none⟩ (.int .i64 0)).setCell ⟨w.heap.size,2,none⟩ (.string ⟨#[]⟩)).setCell ⟨w.heap.size,3,none⟩ (.slice (some ⟨d.heap.size,0,none⟩) 1 1)).setCell ⟨w.heap.size,4,none⟩ (.int .i64 (J4 ws i en))) ((((((d.setCell ⟨w.heap.size,0,none⟩ (.int .i64 5)).setCell ⟨w.heap.size,1,none⟩ (.int .i64 0)).setCell ⟨w.heap.size,2,none⟩ (.string ⟨#[]⟩)).setCell ⟨w.heap.size,3,none⟩ (.slice (some ⟨d.heap.size,0,none⟩) 1 1)).setCell ⟨w.heap.size,4,none⟩ (.int .i64 (J4 ws i en))).alloc (.cells #[.int .i64 y.I9,.int .i64 y.n,.string y.K0,.slice A y.args.length c,.int .i64 y.pos] 186)):=(x8 _ _).alloc (x7 _) _;have O:=qh ((s.out.grown D J).K7 o);have P:=qh (I4 (P5 b.out D (x7 _)) (I7 o (some I)));clear D o m;obtain⟨⟨d0,d1,d2,d3,d4⟩,g0,g1,g2,g3,g4⟩:=K6 a.out
    go_wp2_with fail
    (try simp only[Exit.inBlock,Exit.then])
    refine E9 (F2 rfl _ _ w.heap.size _ _ _ _ rfl HW.out underlying186 rfl zT) rfl ?_;exact⟨some ⟨d.heap.size,0,none⟩,1,rfl,HX.out,O.out,P.out⟩
   |J9 j=>
    have C:Dc ws en (.zk (i+1)) (.J9 j):=by
     have h:=E.out;cases h with
     |zgo _ h=>exact h
     |_=>exfalso;have:=HQ.out;omega
    have M:=qh C;clear C
    go_wp2_with fail
    refine(H1.out _ M.out B k.out (S.out.of b.out R)).mono ?_;rintro e d ⟨rfl,f⟩;have z:=qh (I4 b.out f);clear f;unfold Y3
    go_wp2_with fail
    exact⟨rfl,rfl,z.out⟩
   |xH l j=>have h:=E.out;cases h
  |false=>
   simp only[C2,if_false]at k;have Q:K8 ws i≠1:=λe=>by rw[zgB e]at Y;exact H9 Y.out (by decide)
   have a1:K8 ws i≠2:=λe=>by rw[zjv Q e]at T2;exact H9 T2.out (by decide)
   have HA:=qh (H2.out r E.out Q a1 B k.out (S.out.of b.out R));clear Q a1
   go_wp2_with fail
   cases r with
   |ex x j=>
    refine HA.out.mono ?_;rintro e d ⟨A,c,rfl,G,H,f⟩;have q:=qh G;have s:=qh H;have u:=I5 a.out;replace a:=qh ((f.block w.heap.size u (by simp;omega)).trans a.out);replace b:=qh (I4 b.out f);clear G H f;obtain⟨⟨d0,d1,d2,d3,d4⟩,g0,g1,g2,g3,g4⟩:=K6 a.out;have HW:=qh (yT (.int .i64 x.I9) (.int .i64 x.n) (.string x.K0) (.slice A x.args.length c) (.int .i64 x.pos) a.out)
    go_wp2_with fail
    (try simp only[Exit.inBlock,Exit.then])
    refine E9 (F2 rfl _ _ w.heap.size _ _ _ _ rfl HW.out underlying186 rfl zT) rfl ?_;exact zob q.out (λg (h:B.heap.size<=g)=>⟨by omega,by omega⟩) s.out b.out (x7 _) J
   |J9 j=>
    refine HA.out.mono ?_;rintro e d ⟨rfl,f⟩;have z:=qh (I4 b.out f);clear f;unfold Y3
    go_wp2_with fail
    exact⟨rfl,rfl,z.out⟩
   |xH l j=>have h:=E.out;cases h
end Go.Proofs.YtmngofgminlloaaGreatDoor
