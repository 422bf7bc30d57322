/- Merged. -/
import Derived.Test.YtalgmjmibamdfaaGreatDoorCO24b
set_option linter.all false
set_option maxHeartbeats 8000000
set_option maxRecDepth 100000
namespace Go.Proofs.YtalgmjmibamdfaaGreatDoor
open Go.RowKit Tw
def zaN(j:Nat)(g:GL)(x:GE):List Pc:=[.w 3 [102,117,110],.sp 32]++[.w 2 (fL j)]++[.w 4 [40],.w 2 [112],.w 4 [58],.sp 32,.w 3 [105,110,116],.w 4 [44],.sp 32,.w 2 [113],.w 4 [58],.sp 32,.w 3 [105,110,116],.w 4 [41],.w 4 [58],.sp 32,.w 3 [105,110,116],.sp 32,.w 4 [123],.sp 32]++g.X5++[.w 3 [114,101,116,117,114,110],.sp 32]++x.X5++[.w 4 [59],.sp 32,.w 4 [125],.sp 10]
def xr:Nat->List (GL×GE)->List Pc
 |_,[]=>[]
 |j,(g,x)::r=>zaN j g x++xr (j+1) r
def Qx(g:GL)(x:GE):List Pc:=[.w 3 [102,117,110],.sp 32,.w 2 [109,97,105,110],.w 4 [40],.w 4 [41],.w 4 [58],.sp 32,.w 3 [105,110,116],.sp 32,.w 4 [123],.sp 32]++g.X5++[.w 3 [114,101,116,117,114,110],.sp 32]++x.X5++[.w 4 [59],.sp 32,.w 4 [125]]
def qx(fs:List (GL×GE))(g:GL)(x:GE):List Pc:=xr 0 fs++Qx g x
theorem zhF(j:Nat)(g:GL)(x:GE):(zdI j g x).data.toList=zG (zaN j g x):=by
 simp only[zdI,zaN,QD,P6,N5,Q0,Pc.P8,QX,GL.JR,GE.JR,fL];simp
theorem zbx: ∀(fs:List (GL×GE))(j:Nat),(xx j fs).data.toList=zG (xr j fs)
 |[],_=>rfl
 |(g,x)::r,j=>by simp only[xx,xr,QD,P6,zhF,zbx r (j+1)]
theorem zbH(fs:List (GL×GE))(g:GL)(x:GE):(ZR fs g x).data.toList=zG (qx fs g x):=by
 simp only[ZR,qx,Qx,QD,P6,N5,Q0,Pc.P8,GL.JR,GE.JR,zbx];simp
def NsG(ns:List ByteArray):Prop:= ∀s∈ns,T8 s=true
def xu(us:List Fn)(low:Nat):Prop:= ∀f,f<low-> ∃fn∈us,fn.L6=⟨(fL f).toArray⟩/\fn.J3.length=2
def zja(ws:List Wd)(j K:Nat):Prop:=M0 ws j jG=false/\M0 ws j sEq=false/\(K<6->Y7 ws j<K)
def zas(t:Bs)(K:Nat):Bool:=!(t==[40])&&!(t==[61])&&(decide (¬K<6)||decide (lv t<K))
theorem lv5(t:Bs):lv t<=5:=by
 unfold lv
 repeat' split
 all_goals omega
structure jQ(low d K:Nat)(ns:List ByteArray)(τ:Int)(p:List Pc):Prop where
 ok: ∀rest,Q4 rest->Jq (zG rest)->Q4 (p++rest)
 zaV: ∀(ws:List Wd)(en q:Nat)(rest:List Pc),jg ws q (p++rest)->zja ws (q+nW p) K->
  (M0 ws q zF=false/\M0 ws q YJ=false/\R7 ws q=7)/\ ∃y,De ws en (.xg K q) (.ex y (q+nW p))/\(∀us env,xu us low->(∀s∈ns,s∈env)->Xw us env d τ y)/\ ∀us vs n h,(O3 us vs n h y).length<=(zG p).length
section
variable {ws:List Wd}{en q i j c k K d low:Nat}{t:Bs}{ns:List ByteArray}{σ τ:Int}{p p1 p2 rest:List Pc}
theorem zbb(h:ws[j]?=some ⟨c,⟨t.toArray⟩,k⟩)(a:zas t K=true):zja ws j K:=by
 simp only[zas,F4,Bool.not_eq_true',Bool.or_eq_true,F2]at a;exact⟨jm (s:=[40]) h a.1.1,jm (s:=[61]) h a.1.2,λb=>by rw[Yd h];exact a.2.resolve_left (λe=>e b)⟩
theorem zcD(h:ws[q]?=some ⟨c,⟨t.toArray⟩,k⟩)(a:(t==[41])=false)(b:(t==[125])=false)(e:hsT c t (M0 ws (q+1) sEq)=7):M0 ws q zF=false/\M0 ws q YJ=false/\R7 ws q=7:=
 ⟨jm (s:=[41]) h a,jm (s:=[125]) h b,by rw[QT h,e]⟩
theorem Jy(h:ws[q]?=some ⟨c,⟨t.toArray⟩,k⟩)(a: ∀e,((t==[41])||(t==[125])||!decide (hsT c t e=7))=false):M0 ws q zF=false/\M0 ws q YJ=false/\R7 ws q=7:=by
 have:=a (M0 ws (q+1) sEq);simp only[Bool.or_eq_false_iff,Bool.not_eq_false',F2]at this;exact zcD h this.1.1 this.1.2 this.2
theorem zfZ(h:ws[q]?=some ⟨2,⟨t.toArray⟩,k⟩)(a:N3 t=true)(b:M0 ws (q+1) sEq=false):M0 ws q zF=false/\M0 ws q YJ=false/\R7 ws q=7:=
 zcD h (yS a (by decide)) (yS a (by decide)) (by rw[za1 a,b];rfl)
theorem zf0{x:Ex}{c' a:Nat}(b:ws[i]?=some ⟨c,⟨([40]:Bs).toArray⟩,k⟩)(h:De ws en (.xg 1 (i+1)) (.ex x j))(e:ws[j]?=some ⟨c',⟨([41]:Bs).toArray⟩,a⟩):De ws en (.Y0 i) (.ex x (j+1)):=
 .par (by rw[qQ b];rfl) h (P5 e)
theorem zf3{l:Bs}(h:l.length<=20):(⟨l.toArray⟩:ByteArray).size<=maxLen:=C4 (show l.toArray.size<=20 by simpa using h) (by decide)
theorem jQ.k3(h:jQ low d 6 ns τ p):jQ low d 3 ns τ p:=⟨h.ok,λws en q rest f e=>by
 obtain⟨a,y,b,c⟩:=h.zaV ws en q rest f ⟨e.1,e.2.1,λh=>I2 h (by decide)⟩;have:=e.2.2 (by decide);exact⟨a,y,b.ZA (by decide) 3 (by decide) (λm g l=>by omega),c⟩⟩
theorem jQ.mono{e:Nat}(h:jQ low d K ns τ p)(l:d<=e):jQ low e K ns τ p:=⟨h.ok,λws en q rest m n=>by
 obtain⟨a,y,b,c,f⟩:=h.zaV ws en q rest m n;exact⟨a,y,b,λo g r s=>(c o g r s).mono l,f⟩⟩
theorem jQ.Js(h:jQ low d K ns τ p)(r:1<=K/\K<=6)(l:jg ws q (p++rest))(f:ws[q+nW p]?=some ⟨c,⟨t.toArray⟩,k⟩)(o:zas t 3=true)(u:lv t=0):
 (M0 ws q zF=false/\M0 ws q YJ=false/\R7 ws q=7)/\ ∃y,De ws en (.xg 1 q) (.ex y (q+nW p))/\(∀us e,xu us low->(∀s∈ns,s∈e)->Xw us e d τ y)/\ ∀us vs n h,(O3 us vs n h y).length<=(zG p).length:=by
 have g:=zbb (K:=3) f o;have v:=Yd f;obtain⟨a,y,b,c⟩:=h.zaV ws en q rest l ⟨g.1,g.2.1,λ_=>by omega⟩;exact⟨a,y,b.ZA (by omega) 1 (by omega) (λm w x=>by omega),c⟩
theorem ziw(h:jQ low d K ns σ p)(s:(t=[45]/\K=6/\σ=1/\τ=1)\/(t=[33]/\K=3/\σ=2/\τ=2)):jQ low (d+1) 6 ns τ (.w 4 t::.w 4 [40]::(p++[.w 4 [41]])):=by
 refine⟨λrest C H=>?_,λws en q rest x I=>?_⟩
 ·have l:=O1 (c:=40) (by decide) (h.ok _ (O1 (c:=41) (by decide) C) (T7 (by decide) _ _ _))
  simp only[B6,B9,C0]
  rcases s with⟨rfl,-⟩|⟨rfl,-⟩
  ·exact O1 (by decide) l
  ·exact zfj l
 ·simp only[B6,B9,C0]at x
  obtain⟨⟨J,b⟩,D⟩:=x.w;obtain⟨⟨L,u⟩,z⟩:=D.w;obtain⟨⟨M,m⟩,-⟩:=(jg.skip p z).w;have e:q+nW (.w 4 t::.w 4 [40]::(p++[.w 4 [41]]))=q+1+1+nW p+1:=by simp only[Z2,nW];omega
  obtain⟨-,y,E,A,F⟩:=h.Js (en:=en) (by omega) z m (by decide) (by decide);rw[e];have B:=zf0 u E m;have Y0: ∀{f o n r k},k≠6->(O3 f o n r (.mk k 0 T3 [y] (N2 ws q en))).length<=(zG (.w 4 t::.w 4 [40]::(p++[.w 4 [41]]))).length:=by
   intro f o n r k G;have:=F f o n r;have:=zdc (us:=f) (vs:=o) (n:=n) (h:=r) (nn:=0) (t:=T3) (a:=y) (p:=N2 ws q en) G;simp only[P6,N5,Q0,Pc.P8,z9,z7,B1];have:1<=t.length:=by rcases s with⟨rfl,-⟩|⟨rfl,-⟩<;>decide
   omega
  rcases s with⟨rfl,rfl,rfl,rfl⟩|⟨rfl,rfl,rfl,rfl⟩
  ·exact⟨Jy b (by decide),_,.lvl6 (.neg (by rw[qQ b];rfl) B),λf g l v=>.mk .neg (by decide) (by simpa using A f g l v),λ_ _ _ _=>Y0 (by decide)⟩
  ·exact⟨Jy b (by decide),_,.lvl6 (.not (by rw[qQ b];rfl) B),λf g l v=>.mk .not (by decide) (by simpa using A f g l v),λ_ _ _ _=>Y0 (by decide)⟩
theorem zdz(o:jQ low d K ns σ p1)(r:jQ low d K ns σ p2)(A:K=3\/K=6)(P:1<=lv t/\lv t<K)(B:zas t K=true)(C: ∀l,Q4 l->Q4 (.w 4 t::.sp 32::l))(hs: ∀us a,Sg us a 6 0 ⟨t.toArray⟩ 2 σ τ)(D:t.length<=20):
 jQ low (d+1) 6 ns τ (.w 4 [40]::(p1++.sp 32::.w 4 t::.sp 32::(p2++[.w 4 [41]]))):=by
 refine⟨λrest E Q=>?_,λws en q rest s F=>?_⟩
 ·simp only[B6,B9,C0]
  exact O1 (by decide) (o.ok _ (Q5 (C _ (r.ok _ (O1 (by decide) E) (T7 (by decide) _ _ _)))) (X0 _))
 ·simp only[B6,B9,C0]at s
  obtain⟨⟨R,g⟩,u⟩:=s.w;obtain⟨⟨S,b⟩,v⟩:=(jg.skip p1 u).sp.w;obtain⟨⟨T,f⟩,-⟩:=(jg.skip p2 v.sp).w;have e:q+nW (.w 4 [40]::(p1++.sp 32::.w 4 t::.sp 32::(p2++[.w 4 [41]])))=q+1+nW p1+1+nW p2+1:=by simp only[Z2,nW];omega
  obtain⟨-,U,G,H,I⟩:=o.zaV ws en _ _ u (zbb b B);obtain⟨-,V,J,L,M⟩:=r.zaV ws en _ _ v.sp (zbb f (by rcases A with rfl|rfl<;>decide));have N:Y7 ws (q+1+nW p1)=lv t:=Yd b;have W:Y7 ws (q+1+nW p1+1+nW p2)=0:=Yd f;have X:=lv5 t;have O:=De.two (by omega) (G.ZA (by omega) (lv t+1) (by omega) (λm _ _=>by omega)) N (J.ZA (by omega) (lv t+1) (by omega) (λm _ _=>by omega)) (by omega);rw[e];refine⟨Jy g (by decide),_,.lvl6 (zf0 g (O.ZA (by omega) 1 (by omega) (λm _ _=>by omega)) f),λus a x y=>?_,λus z n h=>?_⟩
  ·unfold yX;rw[Y4 b]
   exact .mk (hs us a) (zf3 D) (by simpa using⟨H us a x y,L us a x y⟩)
  ·refine C4 (zfk (I us z) (M us z)) ?_
   simp only[P6,N5,Q0,Pc.P8,z9,z7,B1];omega
theorem zfV(r:jQ low d 6 ns 1 p1)(s:jQ low d 6 ns 1 p2)(N:3<=lv t/\lv t<=4)(y:zas t 6=true)(z: ∀l,Q4 (.sp 32::l)->Q4 (.w 4 t::.sp 32::l))(hs: ∀us a,Sg us a 6 0 ⟨t.toArray⟩ 2 1 τ)(A:1<=t.length/\t.length<=20):jQ low (d+1) (lv t) ns τ (p1++.sp 32::.w 4 t::.sp 32::p2):=by
 refine⟨λrest B C=>?_,λws en q rest o g=>?_⟩
 ·simp only[B6,B9]
  exact r.ok _ (Q5 (z _ (Q5 (s.ok _ B C)))) (X0 _)
 ·simp only[B6,B9]at o
  obtain⟨⟨O,b⟩,D⟩:=(jg.skip p1 o).sp.w;have e:q+nW (p1++.sp 32::.w 4 t::.sp 32::p2)=q+nW p1+1+nW p2:=by simp only[Z2,nW];omega
  rw[e]at g|-
  obtain⟨f,P,E,F,G⟩:=r.zaV ws en _ _ o (zbb b y);obtain⟨-,Q,H,I,J⟩:=s.zaV ws en _ _ D.sp ⟨g.1,g.2.1,λh=>I2 h (by decide)⟩;have L:Y7 ws (q+nW p1)=lv t:=Yd b;have R:=g.2.2 (by omega);refine⟨f,_,.two (by omega) (E.ZA (by decide) _ (by omega) (λm _ _=>by omega)) L (H.ZA (by decide) _ (by omega) (λm _ _=>by omega)) (by omega),λus a u v=>?_,λus x n h=>?_⟩
  ·unfold yX;rw[Y4 b]
   exact .mk (hs us a) (zf3 A.2) (by simpa using⟨F us a u v,I us a u v⟩)
  ·have M:=zds (n:=n) (h:=h) (t:=L7 ws (q+nW p1)) (p:=N2 ws (q+nW p1) en) (G us x) (J us x)
   rw[Y4 b,Yg,B5 (by omega)]at M;unfold yX;rw[Y4 b];simp only[P6,N5,Pc.P8,z9,z7,B1];omega
theorem zf2{o:Nat}(b:jQ low d 6 ns 1 p1)(e:jQ low d 6 ns 1 p2):jQ low (d+1) 3 ns 2 (p1++.sp 32::.w 4 (QN o)::.sp 32::p2):=by
 have a:lv (QN o)=3/\zas (QN o) 6=true/\1<=(QN o).length/\(QN o).length<=20:=by unfold QN;split<;>decide
 exact a.1▸zfV b e (by omega) a.2.1 (λl h=>zfs o h) (λg f=>.cmp (by rw[Yg];exact a.1)) a.2.2
theorem zjd(a:jQ low d 6 ns 1 p1)(b:jQ low d 6 ns 1 p2):jQ low (d+1) 4 ns 1 (p1++.sp 32::.w 4 [43]::.sp 32::p2):=
 zfV (t:=[43]) a b (by decide) (by decide) (λl h=>O1 (by decide) h) (λf e=>.Je (by decide)) (by decide)
theorem zgu{f:Nat}(hf:f<low)(U:low<=2)(A:jQ low d 6 ns 1 p1)(B:jQ low d 6 ns 1 p2):jQ low (d+1) 6 ns 1 (.w 2 (fL f)::.w 4 [40]::(p1++.w 4 [44]::.sp 32::(p2++[.w 4 [41]]))):=by
 have a:=yL (c:=102) (by decide) f (by omega);refine⟨λrest I V=>?_,λws en q rest C W=>?_⟩
 ·simp only[B6,B9,C0]
  exact jk a (T7 (by decide) _ _ _) (O1 (by decide) (A.ok _ (O1 (by decide) (Q5 (B.ok _ (O1 (by decide) I) (T7 (by decide) _ _ _)))) (T7 (by decide) _ _ _)))
 ·simp only[B6,B9,C0]at C
  obtain⟨⟨X,b⟩,J⟩:=C.w;obtain⟨⟨Y,o⟩,D⟩:=J.w;obtain⟨⟨Z,g⟩,E⟩:=(jg.skip p1 D).w;obtain⟨⟨k4,r⟩,-⟩:=(jg.skip p2 E.sp).w;have e:q+nW (.w 2 (fL f)::.w 4 [40]::(p1++.w 4 [44]::.sp 32::(p2++[.w 4 [41]])))=q+1+1+nW p1+1+nW p2+1:=by simp only[Z2,nW];omega
  obtain⟨u,z,L,M,N⟩:=A.Js (en:=en) (by decide) D g (by decide) (by decide);obtain⟨-,F,O,P,Q⟩:=B.Js (en:=en) (by decide) E.sp r (by decide) (by decide);rw[e];have G:=De.call (en:=en) (l:=[z,F]) (by rw[qQ b];exact zbo a) (P5 o) (.first u.1 L (.next (jm (s:=[41]) g (by decide)) (P5 g) O (.jP (P5 r))));rw[Y4 b]at G;refine⟨zfZ b a (jm (s:=[61]) o (by decide)),_,.lvl6 G,λm v u H=>?_,λm y n h=>?_⟩
  ·obtain⟨fn,R,S,T⟩:=u f hf
   have x:T8 ⟨(fL f).toArray⟩=true:=by unfold T8;rw[Yg];exact a
   exact .mk (.call x R S T) (C4 (xH x) (by decide)) (by simpa using⟨M m v u H,P m v u H⟩)
  ·have h3:=N m y n h
   have h4:=Q m y (n+(O3 m y n h z).length) (h+1);rw[O3,B5 (by simp)];have:=Qn m y 7 0 ⟨(fL f).toArray⟩ ([z,F]:List Ex).length;simp only[R2,z9,yM,B1,P6,N5,Q0,Pc.P8,z7,fL]at this|-;omega
theorem YX(n:Nat)(h:n<100):Zu ⟨(Y8 n).toArray⟩=n:=by
 have: ∀n:Nat,n<100->Zu ⟨(Y8 n).toArray⟩=n:=by decide+kernel
 exact this n h
theorem zhc{n:Nat}(J:n<4)(h:jQ low d 6 ns 1 p):jQ low (d+1) 6 ns 1 (.w 4 [64]::.w 1 (Y8 n)::.w 4 [40]::(p++[.w 4 [41]])):=by
 refine⟨λrest A _=>?_,λws en q rest v L=>?_⟩
 ·simp only[B6,B9,C0]
  exact O1 (by decide) (zdq (by omega) (T7 (by decide) _ _ _) (O1 (by decide) (h.ok _ (O1 (by decide) A) (T7 (by decide) _ _ _))))
 ·simp only[B6,B9,C0]at v
  obtain⟨⟨M,b⟩,B⟩:=v.w;obtain⟨⟨N,f⟩,C⟩:=B.w;obtain⟨⟨O,r⟩,x⟩:=C.w;obtain⟨⟨P,g⟩,-⟩:=(jg.skip p x).w;have e:q+nW (.w 4 [64]::.w 1 (Y8 n)::.w 4 [40]::(p++[.w 4 [41]]))=q+1+1+1+nW p+1:=by simp only[Z2,nW];omega
  obtain⟨D,y,E,F,G⟩:=h.Js (en:=en) (by decide) x g (by decide) (by decide);rw[e];have l:=De.host (en:=en) (by rw[qQ b];rfl) (jl f) (P5 r) (.first D.1 E (.jP (P5 g)));rw[Y4 f,YX n (by omega)]at l;refine⟨Jy b (by decide),_,.lvl6 l,λo s H I=>.mk (.host (by omega) (by omega)) (by decide) (by simpa using F o s H I),λo u m z=>?_⟩;have:=G o u m z;have:=zdc (us:=o) (vs:=u) (n:=m) (h:=z) (k:=8) (nn:=n) (t:=T3) (a:=y) (p:=N2 ws q en) (by decide);simp only[P6,N5,Q0,Pc.P8,z9,z7,B1];omega
theorem Qr{us:List Fn}{vs:O5}{n h:Nat}{k nn:Int}{t:ByteArray}{p:Int}(a:k=1\/k=2\/k=3):(O3 us vs n h (.mk k nn t [] p)).length=1:=by
 rcases a with rfl|rfl|rfl<;>(rw[O3,B5 (by simp)];simp[R2,Jj,jZ])
theorem zcS{s:ByteArray}(a:T8 s=true)(l:s∈ns):jQ low (d+1) 6 ns 1 [.w 2 s.data.toList]:=by
 refine⟨λrest m b=>jk a b m,λws en q rest b f=>?_⟩;obtain⟨⟨k,e⟩,-⟩:=b.w;have g:=De.Zw (en:=en) (by rw[qQ e];exact zbo a) f.1;rw[Y4 e,zd5]at g;refine⟨zfZ e a f.2.1,_,.lvl6 g,λo r _ u=>.mk (.Zw a (u s l)) (C4 (xH a) (by decide)) (λ_ h=>nomatch h),λo v n h=>?_⟩;rw[Qr (by simp)];have:N3 s.data.toList=true:=a;simp only[N3,F4,F2]at this;simp only[N5,Q0,Pc.P8,List.append_nil];omega
theorem za7{n:Nat}(f:n<100):jQ low (d+1) 6 ns 1 [.w 1 (Y8 n)]:=by
 refine⟨λrest l b=>zdq f b l,λws en q rest b u=>?_⟩;obtain⟨⟨k,e⟩,-⟩:=b.w;have o:hqT 1 (Y8 n)=7:=by simp(disch:=decide) [hqT,XS]
 have g:=De.num (en:=en) (i:=q) (by rw[qQ e];exact o);rw[Y4 e,YX n f]at g;refine⟨zcD e (XS n (by decide)) (XS n (by decide)) (by simp(disch:=decide) [hsT,XS]),_,.lvl6 g,λr s _ v=>.mk (.num (by omega) (by omega)) (by decide) (λ_ h=>nomatch h),λr x m h=>?_⟩;rw[Qr (by simp)];have:1<=(Y8 n).length:=List.length_pos_iff.2 (ZL n);simp only[N5,Q0,Pc.P8,List.append_nil];omega
theorem zg7{o:Nat}(b:jQ low d 6 ns 1 p1)(e:jQ low d 6 ns 1 p2):jQ low (d+1) 6 ns 1 (.w 4 [40]::(p1++.sp 32::.w 4 (Jm o)::.sp 32::(p2++[.w 4 [41]]))):=by
 obtain⟨c,f,g⟩:=zct o;have a:3<lv (Jm o)/\zas (Jm o) 6=true/\(Jm o).length<=20:=by unfold Jm;split<;>decide
 have:=lv5 (Jm o);exact zdz b e (.inr rfl) (by omega) a.2.1 (λl h=>by rw[f];exact O1 g (Q5 h)) (λn m=>.Je (by rw[Yg];exact a.1)) a.2.2
theorem zJ.ex{N i l:Nat}{x:GE}(e:NsG ns)(m:low<=2)(h:zJ N ns low d i x l):jQ low (d+1) 6 ns 1 x.X5:=by
 induction h with
 |Zw _ _ n=>have g:=B7 n;exact zcS (e _ g) g
 |lit _ h=>exact za7 (by have:=h.1;omega)
 |neg _ _ f=>simp only[GE.X5,B9,B6,C0];exact ziw f (.inl ⟨rfl,rfl,rfl,rfl⟩)
 |call _ o _ _ a b=>simp only[GE.X5,B9,B6,C0];exact zgu o.1 m a b
 |host _ r _ f=>simp only[GE.X5,B9,B6,C0];exact zhc r.1 f
 |Je _ _ _ _ a b=>simp only[GE.X5,B9,B6,C0];exact zg7 a b
theorem zS.ex{N i D:Nat}{x:GE}(r:NsG ns)(s:low<=2)(h:zS N ns low d i x D):jQ low (d+3) 3 ns 2 x.X5:=by
 induction h with
 |not _ _ E=>simp only[GE.X5,B9,B6,C0];exact(ziw E (.inr ⟨rfl,rfl,rfl,rfl⟩)).k3
 |and _ _ _ e f=>simp only[GE.X5,B9,B6,C0];exact(zdz e f (.inl rfl) (by decide) (by decide) (λl h=>zaw (by decide) (Q5 h)) (λb a=>.log (.inr rfl)) (by decide)).k3
 |or _ _ _ e f=>simp only[GE.X5,B9,B6,C0];exact(zdz e f (.inl rfl) (by decide) (by decide) (λl h=>zaw (by decide) (Q5 h)) (λb a=>.log (.inl rfl)) (by decide)).k3
 |cmp _ A _ B=>simp only[GE.X5,B9,B6,C0];exact(zf2 (A.ex r s) (B.ex r s)).mono (by omega)
 | @tf d i M k _ _=>
   refine⟨λrest F v=>qH (zgP k) v F,λws en q rest v G=>?_⟩;obtain⟨⟨H,g⟩,-⟩:=v.w;have I:=G.2.2 (by decide);have J:1<=(zG (GE.tf k).X5).length:=by simp only[GE.X5,N5,Q0,Pc.P8,List.append_nil];unfold tfL;split<;>decide
   have u: ∀{y:Ex},De ws en (.Y0 q) (.ex y (q+1))->De ws en (.xg 3 q) (.ex y (q+1)):=λL=>(De.lvl6 L).ZA (by decide) 3 (by decide) (λm A B=>by have:Y7 ws (q+1)<3:=I;omega);have C: ∀b a n,Sg b a 2 n T3 0 1 2->Xw b a (d+3) 2 (.mk 2 n T3 [] (N2 ws q en)):=λb a n h=>.mk h (by decide) (λ_ h=>nomatch h);have s: ∀b o n h(z:Int),(O3 b o n h (.mk 2 z T3 [] (N2 ws q en))).length<=(zG (GE.tf k).X5).length:=λb o n h z=>by rw[Qr (by simp)];exact J
   cases k with
   |zero=>exact⟨Jy g (by decide),_,u (.tru (by rw[qQ g];rfl)),λb a _ _=>C b a 1 .yes,λb o n h=>s b o n h 1⟩
   |succ k=>
    have g:ws[q]?=some ⟨3,⟨([102,97,108,115,101]:Bs).toArray⟩,H⟩:=g;exact⟨Jy g (by decide),_,u (.fls (by rw[qQ g];rfl)),λb a _ _=>C b a 0 .no,λb o n h=>s b o n h 0⟩
end
structure XR(ns:List ByteArray)(m:Nat)(env:W9):Prop where
 vis: ∀s∈ns,s∈env
 jt: ∀k,m<k->vT k∉env/\iT k∉env
def Qk(low b L:Nat)(rt:Bool)(ns:List ByteArray)(m:Nat)(ns':List ByteArray)(m' z:Nat)(ws:List Wd)(en q q':Nat):Prop:=
 ∃l:List Sm,l.length<=L/\(∀r j,Ds ws en (.Zg q') (.Jf r j)->Ds ws en (.Zg q) (.Jf (l++r) j))/\
  (∀e env c D,b<=D->xu e low->XR ns m env->c+(m'-m)<=64-> ∃a r,qT (Sx e (Bx e D) D) l env c a (c+(m'-m)) r/\(rt=true->r=true)/\XR ns' m' a/\ ∀s∈env,s∈a)/\ ∀e,ZD e l z
section
variable {low b L L' m m1 m' z z' en q q1 q' i j c k d:Nat}{ns ns1 ns':List ByteArray}{ws:List Wd}{t:Bs}{p rest:List Pc}{env:W9}{rt rt':Bool}
theorem XR.mono(h:XR ns m env)(a:m<=m'):XR ns m' env:=⟨h.vis,λk e=>h.jt k (by omega)⟩
theorem Qk.Y0{st:Sm}(f:M0 ws q YJ=false)(g:Ds ws en (.XW q) (.st st q'))
 (l: ∀us env c D,b<=D->xu us low->XR ns m env->c+(m'-m)<=64-> ∃a r,Sx us (Bx us D) D st env c a (c+(m'-m)) r/\(rt=true->r=true)/\XR ns' m' a/\ ∀s∈env,s∈a)
 (o: ∀us n vs m,(S4 us n vs m st).1.length<=z):Qk low b 1 rt ns m ns' m' z ws en q q':=
 ⟨[st],by simp,λr j h=>.Zf f g h,λus env c D u v w x=>by
  obtain⟨e,r,y,A,B⟩:=l us env c D u v w x;exact⟨e,r||false,.cons y .nil,by simpa using A,B⟩,λus n vs m=>by rw[U3,U3];simpa using o us n vs m⟩
theorem Qk.W8(h:Qk low b L rt ns m ns1 m1 z ws en q q1)(u:Qk low b L' rt' ns1 m1 ns' m' z' ws en q1 q')(Q:m<=m1)(R:m1<=m'):Qk low b (L+L') rt' ns m ns' m' (z+z') ws en q q':=by
 obtain⟨l,S,v,w,x⟩:=h;obtain⟨y,T,A,B,C⟩:=u;refine⟨l++y,by rw[z9];omega,λr j E=>by rw[B9];exact v _ _ (A _ _ E),λa env c D g n F U=>?_,λa=>ZD.W8 (x a) (C a)⟩;obtain⟨e,G,H,-,I,J⟩:=w a env c D g n F (by omega);obtain⟨f,K,o,M,N,O⟩:=B a e (c+(m1-m)) D g n I (by omega);rw[show c+(m1-m)+(m'-m1)=c+(m'-m) by omega]at o;exact⟨f,G||K,H.W8 o,λh=>by rw[M h,Bool.or_true],N,λs P=>O s (J s P)⟩
def Zi(low b L:Nat)(rt:Bool)(ns:List ByteArray)(m:Nat)(ns':List ByteArray)(m':Nat)(p:List Pc):Prop:=
 (∀rest,Q4 rest->Q4 (p++rest))/\ ∀ws en q rest,jg ws q (p++rest)->Qk low b L rt ns m ns' m' (zG p).length ws en q (q+nW p)
theorem Zi.W8{p':List Pc}(h:Zi low b L rt ns m ns1 m1 p)(e:Zi low b L' rt' ns1 m1 ns' m' p')(f:m<=m1)(g:m1<=m'):Zi low b (L+L') rt' ns m ns' m' (p++p'):=by
 refine⟨λrest l=>by rw[B9];exact h.1 _ (e.1 _ l),λws en q rest a=>?_⟩;rw[B9]at a;have:=(h.2 ws en q _ a).W8 (e.2 ws en _ _ (jg.skip p a)) f g
 rwa [P6,z9,Z2,<-Nat.add_assoc]
theorem Zi.nil:Zi low b 0 false ns m ns m []:=⟨λ_ h=>h,λws en q rest e=>⟨[],y6 _,λ_ _ h=>h,λa env c D _ _ h _=>⟨env,false,by rw[Nat.sub_self];exact .nil,λh=>h,h,λ_ h=>h⟩,λa n f m=>by rw[U3];exact E2 _⟩⟩
theorem Xf{i q j k:Nat}{y:Ex}{nm:ByteArray}(a:R7 ws i=k)(e:k≠3)(f:k≠4)(g:k=1->O8 ws (i+1)=2/\M0 ws (i+2) sEq=true)(h:jF ws i=q)(l:xe ws i=nm)(n:De ws en (.xg 1 q) (.ex y j))(hs:M0 ws j zcL=true):
 Ds ws en (.XW i) (.st (.mk (k:Int) nm y [] [] (N2 ws i en)) (j+1)):=by
 subst a h l;exact .simp e f g n hs
theorem zfR{s:ByteArray}{K:Nat}(C:1<=K/\K<=6)(g:T8 s=true)(E:s∈ns)(hx:jQ low d K ns 1 p)(M:d<=b):Zi low b 1 false ns m ns m (.w 2 s.data.toList::.sp 32::.w 4 [61]::.sp 32::(p++[.w 4 [59],.sp 32])):=by
 refine⟨λrest F=>?_,λws en q rest x=>?_⟩
 ·simp only[B6,B9,C0]
  exact jk g (X0 _) (Q5 (zd4 (by decide) (Q5 (hx.ok _ (O1 (by decide) (Q5 F)) (T7 (by decide) _ _ _)))))
 ·simp only[B6,B9,C0]at x
  obtain⟨⟨N,a⟩,G⟩:=x.w;obtain⟨⟨O,l⟩,A⟩:=G.sp.w;obtain⟨⟨P,f⟩,Q⟩:=(jg.skip p A.sp).w;obtain⟨-,y,o,H,I⟩:=hx.Js (en:=en) C A.sp f (by decide) (by decide);have r:R7 ws q=2:=by rw[QT a,show M0 ws (q+1) sEq=true from P5 (t:=[61]) l,za1 g];rfl
  have e:q+nW (.w 2 s.data.toList::.sp 32::.w 4 [61]::.sp 32::(p++[.w 4 [59],.sp 32]))=q+1+1+nW p+1:=by simp only[Z2,nW];omega
  rw[e];refine .Y0 (jm (s:=[125]) a (yS g (by decide))) (Xf r (by decide) (by decide) (λh=>by cases h) (show jF ws q=q+1+1 by unfold jF;rw[r];rfl) (show xe ws q=s by unfold xe;rw[r,Y4 a,zd5];rfl) o (P5 f)) (λu env c D R J v _=>?_) (λu n B m=>?_)
  ·rw[Nat.sub_self]
   exact⟨env,false,.set g (v.vis s E) ((H u env J v.vis).mono (by omega)),nofun,v,λ_ h=>h⟩
  ·refine C4 (yO (by decide) (by decide) n B m) ?_
   have:=I u B n 0;simp only[P6,N5,Q0,Pc.P8,z9,z7,B1];omega
theorem zc0{s:ByteArray}(x:T8 s=true)(hx:jQ low d 6 ns 1 p)(O:d<=b)(hs:s=vT (m+1)\/s=iT (m+1)):Zi low b 1 false ns m (s::ns) (m+1) (.w 3 [108,101,116]::.sp 32::.w 2 s.data.toList::.sp 32::.w 4 [61]::.sp 32::(p++[.w 4 [59],.sp 32])):=by
 refine⟨λrest G=>?_,λws en q rest A=>?_⟩
 ·simp only[B6,B9,C0]
  exact qH (by decide) (X0 _) (Q5 (jk x (X0 _) (Q5 (zd4 (by decide) (Q5 (hx.ok _ (O1 (by decide) (Q5 G)) (T7 (by decide) _ _ _)))))))
 ·simp only[B6,B9,C0]at A
  obtain⟨⟨P,a⟩,H⟩:=A.w;obtain⟨⟨Q,f⟩,I⟩:=H.sp.w;obtain⟨⟨R,o⟩,B⟩:=I.sp.w;obtain⟨⟨S,g⟩,T⟩:=(jg.skip p B.sp).w;obtain⟨-,y,r,J,K⟩:=hx.Js (en:=en) (by decide) B.sp g (by decide) (by decide);have u:R7 ws q=1:=by rw[QT a];simp[hsT]
  have e:q+nW (.w 3 [108,101,116]::.sp 32::.w 2 s.data.toList::.sp 32::.w 4 [61]::.sp 32::(p++[.w 4 [59],.sp 32]))=q+1+1+1+nW p+1:=by simp only[Z2,nW];omega
  rw[e];refine .Y0 (jm (s:=[125]) a (by decide)) (Xf u (by decide) (by decide) (λ_=>⟨jl f,P5 (t:=[61]) o⟩) (show jF ws q=q+1+1+1 by unfold jF;rw[u];rfl) (show xe ws q=s by unfold xe;rw[u,Y4 f,zd5];rfl) r (P5 g)) (λv env c D U M l N=>?_) (λv n C m=>?_)
  ·rw[Nat.add_sub_cancel_left]at N|-
   have E:=l.jt (m+1) (Nat.lt_succ_self m);refine⟨s::env,false,.bind x (by rcases hs with rfl|rfl;exact E.1;exact E.2) (by omega) ((J v env M l.vis).mono (by omega)),nofun,⟨λt h=>?_,λk V=>?_⟩,λt h=>y4 _ h⟩
   ·rcases List.mem_cons.1 h with rfl|h
    ·exact B2 ..
    ·exact y4 _ (l.vis t h)
   ·have F:=l.jt k (by omega)
    simp only[E7,not_or];refine⟨⟨λe=>?_,F.1⟩,⟨λe=>?_,F.2⟩⟩
    ·rcases hs with rfl|rfl
     ·have:=zhE e;omega
     ·exact zf8 _ _ e
    ·rcases hs with rfl|rfl
     ·exact zf8 _ _ e.symm
     ·have:=zhz e;omega
  ·refine C4 (yO (by decide) (by decide) n C m) ?_
   have:=K v C n 0;simp only[P6,N5,Q0,Pc.P8,z9,z7,B1];omega
theorem zdQ(g:(t=[121,105,101,108,100]/\rt=false)\/(t=[114,101,116,117,114,110]/\rt=true))(hx:jQ low d 6 ns 1 p)(G:d<=b):Zi low b 1 rt ns m ns m (.w 3 t::.sp 32::(p++[.w 4 [59],.sp 32])):=by
 refine⟨λrest l=>?_,λws en q rest v=>?_⟩
 ·simp only[B6,B9,C0]
  exact qH (by rcases g with⟨rfl,-⟩|⟨rfl,-⟩<;>decide) (X0 _) (Q5 (hx.ok _ (O1 (by decide) (Q5 l)) (T7 (by decide) _ _ _)))
 ·simp only[B6,B9,C0]at v
  obtain⟨⟨H,a⟩,x⟩:=v.w;obtain⟨⟨I,f⟩,J⟩:=(jg.skip p x.sp).w;obtain⟨-,y,o,C,E⟩:=hx.Js (en:=en) (by decide) x.sp f (by decide) (by decide);have e:q+nW (.w 3 t::.sp 32::(p++[.w 4 [59],.sp 32]))=q+1+nW p+1:=by simp only[Z2,nW];omega
  rw[e];obtain⟨k,r,K,l⟩: ∃k:Nat,R7 ws q=k/\(k=5\/k=6)/\(rt=true->k=5):=by
   rcases g with⟨rfl,rfl⟩|⟨rfl,rfl⟩
   ·exact⟨6,by rw[QT a];simp[hsT],by simp,by simp⟩
   ·exact⟨5,by rw[QT a];simp[hsT],by simp,by simp⟩
  refine .Y0 (jm (s:=[125]) a (by rcases g with⟨rfl,-⟩|⟨rfl,-⟩<;>decide)) (Xf r (by omega) (by omega) (λh=>by omega) (show jF ws q=q+1 by unfold jF;rw[r,B5 (by omega),B5 (by omega),B5 (by omega)]) (show xe ws q=T3 by unfold xe;rw[r,B5 (by omega),B5 (by omega)]) o (P5 f)) (λu env c D M F A _=>?_) (λu n B m=>?_)
  ·rw[Nat.sub_self]
   exact⟨env,_,.Y0 (by omega) (by decide) ((C u env F A.vis).mono (by omega)),λh=>by have:=l h;simp;omega,A,λ_ h=>h⟩
  ·refine C4 (yO (by omega) (by omega) n B m) ?_
   have:=E u B n 0;simp only[P6,N5,Q0,Pc.P8,z9,z7,B1];omega
theorem ziR(hx:jQ low d 6 ns 1 p)(C:d<=b):Zi low b 1 false ns m ns m (p++[.w 4 [59],.sp 32]):=by
 refine⟨λrest u=>?_,λws en q rest f=>?_⟩
 ·simp only[B6,B9,C0]
  exact hx.ok _ (O1 (by decide) (Q5 u)) (T7 (by decide) _ _ _)
 ·simp only[B6,B9,C0]at f
  obtain⟨⟨E,a⟩,F⟩:=(jg.skip p f).w;obtain⟨⟨-,v,g⟩,y,l,x,A⟩:=hx.Js (en:=en) (by decide) f a (by decide) (by decide);have e:q+nW (p++[.w 4 [59],.sp 32])=q+nW p+1:=by simp only[Z2,nW];omega
  rw[e];refine .Y0 v (Xf g (by decide) (by decide) (λh=>by cases h) (show jF ws q=q by unfold jF;rw[g];rfl) (show xe ws q=T3 by unfold xe;rw[g];rfl) l (P5 a)) (λo env c D G B r _=>?_) (λo n s m=>?_)
  ·rw[Nat.sub_self]
   exact⟨env,_,.Y0 (by decide) (by decide) ((x o env B r.vis).mono (by omega)),nofun,r,λ_ h=>h⟩
  ·refine C4 (yO (by decide) (by decide) n s m) ?_
   have:=A o s n 0;simp only[P6,N5,Q0,Pc.P8,z9,z7,B1];omega
theorem ziU{l o:List Pc}(hx:jQ low d 3 ns 2 p)(hd:d<=b)(F:Zi low b 6 false ns m ns m1 l)(G:Zi low b 6 false ns m1 ns m' o)(H:m<=m1)(R:m1<=m'):
 Zi low (b+1) 1 false ns m ns m' (.w 3 [105,102]::.sp 32::(p++.sp 32::.w 4 [123]::.sp 32::(l++.w 4 [125]::.sp 32::.w 3 [101,108,115,101]::.sp 32::.w 4 [123]::.sp 32::(o++[.w 4 [125],.sp 32])))):=by
 refine⟨λrest S=>?_,λws en q rest I=>?_⟩
 ·simp only[B6,B9,C0]
  exact qH (by decide) (X0 _) (Q5 (hx.ok _ (Q5 (O1 (by decide) (Q5 (F.1 _ (O1 (by decide) (Q5 (qH (by decide) (X0 _) (Q5 (O1 (by decide) (Q5 (G.1 _ (O1 (by decide) (Q5 S))))))))))))) (X0 _)))
 ·simp only[B6,B9,C0]at I
  obtain⟨⟨k1,r⟩,J⟩:=I.w;obtain⟨⟨k2,u⟩,K⟩:=(jg.skip p J.sp).sp.w;obtain⟨⟨k3,A⟩,T⟩:=(jg.skip l K.sp).w;obtain⟨⟨k4,B⟩,U⟩:=T.sp.w;obtain⟨⟨k5,v⟩,M⟩:=U.sp.w;obtain⟨⟨k6,C⟩,a6⟩:=(jg.skip o M.sp).w;obtain⟨-,y,E,V,W⟩:=hx.Js (en:=en) (by decide) J.sp u (by decide) (by decide);obtain⟨N,b1,X,Y,Z⟩:=F.2 ws en _ _ K.sp;obtain⟨lb,c1,c2,c3,c4⟩:=G.2 ws en _ _ M.sp;have O:=X [] _ (.done (P5 (t:=[125]) A));have P:=c2 [] _ (.done (P5 (t:=[125]) C));rw[List.append_nil]at O P;have hh:R7 ws q=3:=by rw[QT r];simp[hsT]
  have e:q+nW (.w 3 [105,102]::.sp 32::(p++.sp 32::.w 4 [123]::.sp 32::(l++.w 4 [125]::.sp 32::.w 3 [101,108,115,101]::.sp 32::.w 4 [123]::.sp 32::(o++[.w 4 [125],.sp 32]))))=q+1+nW p+1+nW l+1+1+1+nW o+1:=by simp only[Z2,nW];omega
  rw[e];refine .Y0 (jm (s:=[125]) r (by decide)) (.ifE hh E (.block (P5 u) O) (P5 (t:=[101,108,115,101]) B) (jm (s:=[105,102]) v (by decide)) (.block (P5 (t:=[123]) v) P)) (λa env c D a0 g x h4=>?_) (λa n f m=>?_)
  ·obtain⟨D,rfl⟩: ∃D',D=D'+1:=⟨D-1,by omega⟩
   obtain⟨e1,r1,x1,-,x2,x3⟩:=Y a env c D (by omega) g x (by omega);obtain⟨e2,r2,Q,-,y2,y3⟩:=c3 a env (c+(m1-m)) D (by omega) g (x.mono H) (by omega);rw[show c+(m1-m)+(m'-m1)=c+(m'-m) by omega]at Q;exact⟨env,_,.QZ (by decide) ((V a env g x.vis).mono (by omega)) (by omega) (by omega) x1 Q,nofun,x.mono (by omega),λ_ h=>h⟩
  ·have H:=W a f n 0
   have R:=Z a (n+(O3 a f n 0 y).length+1) f m;have x:=c4 a (n+(O3 a f n 0 y).length+(U3 a (n+(O3 a f n 0 y).length+1) f m N).1.length+2) f (U3 a (n+(O3 a f n 0 y).length+1) f m N).2;rw[S4,B5 (by decide),B5 (by decide),B5 (by decide),E1 rfl];simp only[P6,N5,Q0,Pc.P8,z9,z7,B1]
   split<;>simp only[z9,z7]<;>omega
theorem zeD{s:ByteArray}{g ps:List Pc}(hx:jQ low d 3 (s::ns) 2 p)(hd:d<=b)(A:Zi low b 6 false ns m ns m' g)(hs:Zi low b 1 false (s::ns) m' (s::ns) m' ps)(B:m<=m'):
 Zi low (b+1) 1 false (s::ns) m ns m' (.w 3 [119,104,105,108,101]::.sp 32::(p++.sp 32::.w 4 [123]::.sp 32::(g++(ps++[.w 4 [125],.sp 32])))):=by
 refine⟨λrest M=>?_,λws en q rest C=>?_⟩
 ·simp only[B6,B9,C0]
  exact qH (by decide) (X0 _) (Q5 (hx.ok _ (Q5 (O1 (by decide) (Q5 (A.1 _ (hs.1 _ (O1 (by decide) (Q5 M))))))) (X0 _)))
 ·simp only[B6,B9,C0]at C
  obtain⟨⟨k1,l⟩,E⟩:=C.w;obtain⟨⟨k2,o⟩,F⟩:=(jg.skip p E.sp).sp.w;have G:=jg.skip g F.sp;obtain⟨⟨k6,u⟩,a6⟩:=(jg.skip ps G).w;obtain⟨-,y,v,N,O⟩:=hx.Js (en:=en) (by decide) E.sp o (by decide) (by decide);obtain⟨la,b1,P,Q,R⟩:=A.2 ws en _ _ F.sp;obtain⟨lb,c1,S,T,U⟩:=hs.2 ws en _ _ G;have H:=P _ _ (S [] _ (.done (P5 (t:=[125]) u)));rw[List.append_nil]at H;have V:R7 ws q=4:=by rw[QT l];simp[hsT]
  have e:q+nW (.w 3 [119,104,105,108,101]::.sp 32::(p++.sp 32::.w 4 [123]::.sp 32::(g++(ps++[.w 4 [125],.sp 32]))))=q+1+nW p+1+nW g+nW ps+1:=by simp only[Z2,nW];omega
  rw[e];refine .Y0 (jm (s:=[125]) l (by decide)) (.zhY V v (.block (P5 o) H)) (λa env c D W f r h4=>?_) (λa n x m=>?_)
  ·obtain⟨D,rfl⟩: ∃X,D=X+1:=⟨D-1,by omega⟩
   have I:XR ns m env:=⟨λt Y=>r.vis t (y4 _ Y),r.jt⟩;obtain⟨Z,r1,x1,-,J,x3⟩:=Q a env c D (by omega) f I (by omega);obtain⟨e2,r2,K,-,y2,y3⟩:=T a Z (c+(m'-m)) D (by omega) f ⟨List.forall_mem_cons.2 ⟨x3 _ (r.vis s (B2 ..)),J.vis⟩,J.jt⟩ (by omega);rw[Nat.sub_self,Nat.add_zero]at K;exact⟨env,_,.jf (by decide) ((N a env f r.vis).mono (by omega)) (by rw[z9];omega) (x1.W8 K),nofun,I.mono B,λ_ h=>h⟩
  ·have B:=O a x n 0
   have h2:=ZD.W8 (R a) (U a) (n+(O3 a x n 0 y).length+1) x m;rw[S4,E1 rfl];simp only[P6,N5,Q0,Pc.P8,z9,z7,B1]at h2|-;omega
theorem zir:Y8 0=[48]:=by unfold Y8 Lib.itoa;rw[B5 (by decide)];exact Lib.decDigits_one (by decide)
theorem ziu:Y8 1=[49]:=by unfold Y8 Lib.itoa;rw[B5 (by decide)];exact Lib.decDigits_one (by decide)
theorem zgs{s:ByteArray}{n:Nat}{f:List Pc}(hs:s=iT (m+1))(a:T8 s=true)(h:n<100)(u:3<=b)(l:Zi low b 6 false ns (m+1) ns m' f)(g:m+1<=m'):
 Zi low (b+1) 2 false ns m ns m' ([.w 3 [108,101,116],.sp 32,.w 2 s.data.toList,.sp 32,.w 4 [61],.sp 32,.w 1 [48],.w 4 [59],.sp 32,.w 3 [119,104,105,108,101],.sp 32,.w 2 s.data.toList,.sp 32,.w 4 [60],.sp 32,.w 1 (Y8 n),.sp 32,.w 4 [123],.sp 32]++(f++[.w 2 s.data.toList,.sp 32,.w 4 [61],.sp 32,.w 2 s.data.toList,.sp 32,.w 4 [43],.sp 32,.w 1 [49],.w 4 [59],.sp 32,.w 4 [125],.sp 32])):=by
 have e:s∈s::ns:=B2 ..;have q1:=zc0 (low:=low) (b:=b+1) (d:=1) (ns:=ns) (m:=m) a (za7 (d:=0) (n:=0) (by decide)) (by omega) (.inr hs)
 have r:=zeD (hx:=zf2 (o:=0) (d:=1) (zcS (d:=0) (low:=low) (ns:=s::ns) a e) (za7 (d:=0) h)) (by omega) l
  (zfR (by decide) a e (zjd (zcS (d:=0) (low:=low) (ns:=s::ns) a e) (za7 (d:=0) (n:=1) (by decide))) (by omega)) g
 have:=q1.W8 r (Nat.le_succ m) g;simpa only[zir,ziu,QN,B6,C0,B9]using this
end
theorem zJ.mv{N:Nat}{ns:List ByteArray}{low d i b:Nat}{x:GE}(h:zJ N ns low d i x b):i<=b/\b<=N/\(i<N->i<b):=by
 induction h with
 |Zw a g l=>have:=a.le;have:=g.le;have:=a.2;omega
 |lit a h=>have:=a.le;have:=h.le;have:=a.2;omega
 |neg a _ j=>omega
 |call a c _ _ e f=>have:=c.le;omega
 |host a c _ j=>have:=c.le;omega
 |Je a _ k _ e f=>have:=k.le;omega
theorem zS.mv{N:Nat}{ns:List ByteArray}{low d i b:Nat}{x:GE}(h:zS N ns low d i x b):i<=b/\b<=N:=by
 induction h with
 |not a _ k=>have:=a.le;omega
 |and a _ _ c e=>omega
 |or a _ _ c e=>omega
 |tf a f=>have:=f.le;omega
 |cmp g a j f=>have:=g.le;have:=a.mv;have:=j.le;have:=f.mv;omega
theorem Zi.vis{low b L m m':Nat}{g:Bool}{ns a ns2:List ByteArray}{p:List Pc}(h:Zi low b L g ns m a m' p)(n: ∀s∈ns2,s∈ns\/s∈a):Zi low b L g ns m ns2 m' p:=⟨h.1,λo t q d u=>by
 obtain⟨l,v,w,x,y⟩:=h.2 o t q d u;refine⟨l,v,w,λz f c D A B i C=>?_,y⟩;obtain⟨e,r,E,F,j,k⟩:=x z f c D A B i C;exact⟨e,r,E,F,⟨λs G=>(n s G).elim (λh=>k s (i.vis s h)) (j.vis s),j.jt⟩,k⟩⟩
theorem GL.zfI(a b:GL):(a.W8 b).X5=a.X5++b.X5:=by
 induction a<;>simp only[GL.W8,GL.X5,B9,C0, *]
structure StR(N low b L Z:Nat)(s:Ms)(g:GL)(s':Ms):Prop where
 m:s.m<=s'.m
 i:s.i<=s'.i/\s'.i<=N
 few:s'.i<N->2*(s'.m-s.m)<=s'.i-s.i
 all:2*(s'.m-s.m)<=s'.i-s.i+Z
 tr:NsG s.ns->s'.m<10^10->NsG s'.ns/\Zi low b L false s.ns s.m s'.ns s'.m g.X5
theorem zdk{k:Nat}(a:k<10^10):T8 (vT k)=true/\T8 (iT k)=true:=by
 unfold T8;rw[zaL,zaO];exact⟨yL (c:=118) (by decide) k a,yL (c:=105) (by decide) k a⟩
theorem Zi.le{low b L L' m m':Nat}{g:Bool}{ns a:List ByteArray}{p:List Pc}(h:Zi low b L g ns m a m' p)(A:L<=L'):Zi low b L' false ns m a m' p:=⟨h.1,λi j q d k=>by
 obtain⟨l,B,n,o,s⟩:=h.2 i j q d k;refine⟨l,by omega,n,λt f c D u v w x=>?_,s⟩;obtain⟨e,r,y,-,z⟩:=o t f c D u v w x;exact⟨e,r,y,nofun,z⟩⟩
theorem yG.tr{N low b R:Nat}(o:low<=2)(hb:5<=b)(hR:2<=R){B:Ms->GL->Ms->Prop}(y: ∀s g s',B s g s'->s.i<=N->StR N low b 6 R s g s'/\(s.i=N->s'.m=s.m)/\s'.ns=s.ns){s:Ms}{g:GL}{s':Ms}(h:yG N low B s g s')(hi:s.i<=N):StR N low (b+1) 2 R s g s'/\(s.i=N->s'.m<=s.m+1):=by
 cases h with
 |set j z q e=>
  have:=j.le;have:=z.le;have:=e.mv;refine⟨⟨y6 _,by simp only;omega,by simp,by simp,λd _=>⟨d,?_⟩⟩,by simp⟩;have f:=B7 q;simp only[GL.X5,B9,B6,C0,List.append_nil];exact(zfR (b:=b+1) (by decide) (d _ f) f (e.ex d o) (by omega)).le (by decide)
 |js j e=>
  have:=e.mv;refine⟨⟨y6 _,by simp only;omega,by simp,by simp,λd _=>⟨d,?_⟩⟩,by simp⟩;simp only[GL.X5,B9,B6,C0,List.append_nil];exact(zdQ (b:=b+1) (.inl ⟨rfl,rfl⟩) (e.ex d o) (by omega)).le (by decide)
 |run j e=>
  have:=e.mv;refine⟨⟨y6 _,by simp only;omega,by simp,by simp,λd _=>⟨d,?_⟩⟩,by simp⟩;simp only[GL.X5,B9,B6,C0,List.append_nil];exact(ziR (b:=b+1) (e.ex d o) (by omega)).le (by decide)
 |ret j z e=>
  have:=z.le;have:=e.mv;refine⟨⟨y6 _,by simp only;omega,by simp,by simp,λd _=>⟨d,?_⟩⟩,by simp⟩;simp only[GL.X5,B9,B6,C0,List.append_nil];exact(zdQ (b:=b+1) (.inr ⟨rfl,rfl⟩) (e.ex d o) (by omega)).le (by decide)
 | @bind A m i i1 C x j e=>
   have:=e.mv;refine⟨⟨Nat.le_succ _,by simp only;omega,by simp only;omega,by simp only;omega,λd f=>⟨λs q=>?_,?_⟩⟩,by simp⟩
   ·rcases List.mem_append.1 q with h|h
    ·exact d s h
    ·obtain rfl:=List.mem_singleton.1 h;exact(zdk f).1
   ·have:=((zc0 (b:=b+1) (zdk f).1 (e.ex d o) (by omega) (.inl rfl)).le (L':=2) (by decide)).vis (ns2:=A++[vT (m+1)]) (λs q=>by simpa[or_comm]using q)
    simp only[GL.X5,B9,B6,C0,List.append_nil]
    rwa [zaL]at this
 | @QZ A m i C c a b' Q S j I T D=>
   obtain⟨n1,m1,U⟩:=Q;obtain⟨V,W,X⟩:=s';have Y:=I.mv;obtain⟨⟨r,v,p,E,t⟩,w,u⟩:=y _ _ _ T (by simp only;omega);obtain⟨⟨J,Z,K,b4,L⟩,M,O⟩:=y _ _ _ D v.2;simp only at r v p E t w u J Z K b4 L M O;subst u O;refine⟨⟨by simp only;omega,by simp only;omega,λh=>?_,?_,λd f=>?_⟩,λh=>by simp only at h;omega⟩
   ·simp only at h|-;have:=K h;have:=p (by omega);omega
   ·simp only
    by_cases h:U=N
    ·have:=M h;omega
    ·have:=p (by omega);omega
   ·simp only at d f
    obtain⟨q1,F⟩:=t d (by omega);obtain⟨q3,q4⟩:=L d f;refine⟨d,?_⟩;simp only[GL.X5,B9,B6,C0,List.append_nil];exact(ziU (I.ex d o) (by omega) F q4 r J).le (by decide)
 | @jf A m i C n l S j G H=>
   obtain⟨V,W,X⟩:=s';have a0:=G.le;obtain⟨⟨r,v,p,E,t⟩,w,u⟩:=y _ _ _ H (by simp only;omega);simp only at r v p E t w u;subst u;have a8:=G.2;refine⟨⟨by simp only;omega,by simp only;omega,λh=>?_,?_,λd f=>?_⟩,λh=>by simp only at h;omega⟩
   ·simp only at h|-;have:=p h;omega
   ·simp only
    by_cases h:C=N
    ·have:=w h;omega
    ·omega
   ·simp only at d f
    obtain⟨q1,F⟩:=t d f;have:=zgs (n:=n) rfl (zdk (k:=m+1) (by omega)).2 (by have:=G.1;omega) (by omega) F r;refine⟨d,?_⟩;simp only[GL.X5,B9,B6,C0,List.append_nil];simpa only[zaO,B9,B6,C0]using this
theorem Run.tr{N low b R:Nat}{S:Ms->GL->Ms->Prop}(d: ∀s g s',S s g s'->s.i<=N->StR N low b 2 R s g s'/\(s.i=N->s'.m<=s.m+1)){j:Nat}{s:Ms}{g:GL}{s':Ms}(h:Run S j s g s')(hi:s.i<=N):StR N low b (2*j) (R+2*j) s g s':=by
 induction h with
 |nil=>exact⟨y6 _,⟨y6 _,hi⟩,by simp,by simp,λa _=>⟨a,.nil⟩⟩
 | @xb j s e A g x B f k=>
   obtain⟨l,n,c,C,o⟩:=k hi;obtain⟨⟨p,D,q,E,r⟩,t⟩:=d _ _ _ f n.2;refine⟨by omega,by omega,λh=>?_,?_,λa u=>?_⟩
   ·have:=q h;have:=c (by omega);omega
   ·by_cases h:e.i=N
    ·have:=t h;omega
    ·have:=c (by omega);omega
   ·obtain⟨v,w⟩:=o a (by omega)
    obtain⟨y,z⟩:=r v u;rw[GL.zfI];exact⟨y,w.W8 z l p⟩
def slk:Nat->Nat
 |0=>8
 |d+1=>slk d+6
theorem Jt.tr{N low:Nat}(k:low<=2): ∀(d:Nat)(s:Ms)(g:GL)(s':Ms),Jt N low d s g s'->s.i<=N->StR N low (d+6) 6 (slk d) s g s'/\(s.i=N->s'.m=s.m)/\s'.ns=s.ns:=by
 have a: ∀(b R:Nat)(S:Ms->GL->Ms->Prop),(∀s g s',S s g s'->s.i<=N->StR N low b 2 R s g s'/\(s.i=N->s'.m<=s.m+1))-> ∀s g s',xc N S s g s'->s.i<=N->StR N low b 6 (R+6) s g s'/\(s.i=N->s'.m=s.m)/\s'.ns=s.ns:=by
  rintro b R S r s g s' ⟨j,y,z,e,l,rfl⟩ c;have f:=e.le;have t:=e.1;obtain⟨n,u,o,v,p⟩:=l.tr r f.2.1;simp only at n u o v p;refine⟨⟨n,by simp only;omega,λh=>by simp only at h|-;have:=o h;omega,by simp only;omega,λq w=>⟨q,?_⟩⟩,λh=>?_,rfl⟩
  ·exact((p q w).2.le (by omega)).vis λs h=>.inl h
  ·simp only
   have:=e.2;obtain rfl:j=0:=by omega
   cases l;rfl
 intro d
 induction d with
 |zero=>exact a 6 2 _ λs g s' h c=>yG.tr k (by decide) (by decide) (λ_ _ _ h=>h.elim) h c
 |succ d x=>exact a (d+7) _ _ λs g s' h c=>yG.tr k (by omega) (by cases d<;>simp only[slk]<;>omega) x h c
theorem zbP{l:Bs}{k n:Nat}(h:xZ l=.zq k n)(a:k=1):n<=12:=by
 subst a;unfold Tw.xZ at h
 split at h
 ·cases h
 split at h
 ·cases h
 split at h
 ·split at h
  ·rename_i c
   injection h with _ h
   have d:=(xB _ c).1;have e:L1 T0 l<=l.length:=by unfold L1;exact(List.takeWhile_sublist _).length_le
   rw[I5,Nat.min_eq_left e]at d;omega
  ·cases h
 split at h
 ·split at h
  ·injection h with h _;omega
  ·split at h
   ·cases h
   ·injection h with h _;omega
 ·split at h
  ·cases h
  ·injection h with h _;omega
theorem Tw.xa.ZI{s:ByteArray}{k:Nat}{l:List Wd}{r:Option Nat×List Wd}(h:xa s k l r):qd l->qd r.2:=by
 induction h with
 |done e=>exact id
 |yH _ _=>intro _ x a;simp at a
 |skip _ _ _ c=>exact c
 | @zq i k n l r o f _ c=>
   intro g;refine c λx a d=>?_
   rcases List.mem_append.1 a with a|a
   ·exact g x a d
   ·simp at a;subst a
    have:=zbP f d;simp;omega
theorem Qp.ZI{s:ByteArray}{p e:Int}{ws:List Wd}(h:Qp s p e ws):qd ws:=by
 rcases h with⟨_,_,_,rfl⟩|⟨_,r,c,_,_,rfl⟩
 ·intro x a;simp at a
 ·exact c.ZI (λx a=>by simp at a)
def FnR(low:Nat)(nm:ByteArray)(ps:List ByteArray)(P:List Pc):Prop:=
 (∀a,Q4 a->Q4 (P++a))/\ ∀d g q a,jg d q (P++a)-> ∃f,Df d g q f (q+nW P)/\q<d.length/\f.L6=nm/\f.J3=ps/\
  (∀c,xu c low->Fw f/\f.J3.Nodup/\ ∃e m,Bx c 40 f.J7 f.J3.reverse f.J3.length e m true)/\ ∀c,(jM c f).J6.length<=(zG P).length
section
variable {low b m m' j:Nat}{ns ns':List ByteArray}{p:List Pc}
theorem zdl{ws:List Wd}{en q:Nat}{f:List Pc}(n:Zi low b 7 true ns m ns' m' p)(o:b<=39)(h:jg ws q (.w 4 [123]::.sp 32::(p++.w 4 [125]::f))):
 ∃l:List Sm,l.length<=7/\Ds ws en (.block q) (.Jf l (q+1+nW p+1))/\(∀us e c,xu us low->XR ns m e->c+(m'-m)<=64-> ∃a c',Bx us 40 l e c a c' true)/\ ∀us,ZD us l (zG p).length:=by
 obtain⟨⟨k,s⟩,i⟩:=h.w;obtain⟨⟨E,g⟩,F⟩:=(jg.skip p i.sp).w;obtain⟨l,u,v,x,y⟩:=n.2 ws en _ _ i.sp;have d:=v [] _ (.done (P5 (t:=[125]) g));rw[List.append_nil]at d;refine⟨l,u,.block (P5 (t:=[123]) s) d,λus e c z A B=>?_,y⟩;obtain⟨a,r,C,D,-⟩:=x us e c 39 o z A B;exact⟨a,_,D rfl▸C⟩
theorem zf5{us:List Fn}{nm:ByteArray}{ps:List ByteArray}{l:List Sm}{pos:Int}{a:W9}{c':Nat}(f:T8 nm=true)(c:NsG ps)(d:ps.length<=2)(e:ps.Nodup)(i:l.length<=7)(g:Bx us 40 l ps.reverse ps.length a c' true):
 Fw {L6:=nm,J3:=ps,O6:=ps.map λ_=>1,out:=1,J7:=l,pos:=pos}/\ps.Nodup/\ ∃a m,Bx us 40 l ps.reverse ps.length a m true:=
 ⟨⟨⟨f,C4 (xH f) (by decide)⟩,λn h=>⟨c n h,C4 (xH (c n h)) (by decide)⟩,C4 d (by decide),rfl,rfl,g.sw,C4 i (by decide)⟩,e,a,c',g⟩
theorem zdG{us:List Fn}{f:Fn}{z:Nat}(h:ZD us f.J7 z):(jM us f).J6.length<=z+2:=by
 have:=h 0 (qG 0 f.J3) f.J3.length;simp only[jM,z9,z7,B1];omega
theorem za0:NsG pq:=by intro s a;simp only[pq,E7,List.mem_nil_iff,or_false]at a;rcases a with rfl|rfl<;>decide
theorem ziK{g:GL}{x:GE}(hj:j<100)(B:Zi low b 7 true pq m ns' m' (g.X5++(.w 3 [114,101,116,117,114,110]::.sp 32::(x.X5++[.w 4 [59],.sp 32]))))(Q:b<=39)(R:2+(m'-m)<=64):FnR low (fN j) pq (zaN j g x):=by
 have f:=yL (c:=102) (by decide) j (by omega);have S:zaN j g x=.w 3 [102,117,110]::.sp 32::.w 2 (fL j)::.w 4 [40]::.w 2 [112]::.w 4 [58]::.sp 32::.w 3 [105,110,116]::.w 4 [44]::.sp 32::.w 2 [113]::.w 4 [58]::.sp 32::.w 3 [105,110,116]::.w 4 [41]::.w 4 [58]::.sp 32::.w 3 [105,110,116]::.sp 32::.w 4 [123]::.sp 32::((g.X5++(.w 3 [114,101,116,117,114,110]::.sp 32::(x.X5++[.w 4 [59],.sp 32])))++[.w 4 [125],.sp 10]):=by
  simp only[zaN,B9,B6,C0]
 rw[S];generalize g.X5++_=p at B|-
 refine⟨λa T=>?_,λe n q a h=>?_⟩
 ·simp only[B9,B6,C0]
  have U:=O1 (c:=123) (by decide) (Q5 (B.1 _ (O1 (c:=125) (by decide) (show Q4 (.sp 10::a) from⟨by decide,T⟩))));have V:=O1 (c:=41) (by decide) (O1 (c:=58) (by decide) (Q5 (qH (w:=[105,110,116]) (by decide) (X0 _) (Q5 U))));have W:=O1 (c:=58) (by decide) (Q5 (qH (w:=[105,110,116]) (by decide) (T7 (by decide) _ _ _) V));have X:=O1 (c:=44) (by decide) (Q5 (jk (w:=[113]) (by decide) (T7 (by decide) _ _ _) W));have Y:=O1 (c:=58) (by decide) (Q5 (qH (w:=[105,110,116]) (by decide) (T7 (by decide) _ _ _) X));have Z:=O1 (c:=40) (by decide) (jk (w:=[112]) (by decide) (T7 (by decide) _ _ _) Y);exact qH (by decide) (X0 _) (Q5 (jk f (T7 (by decide) _ _ _) Z))
 ·simp only[B9,B6,C0]at h
  obtain⟨⟨k,O⟩,h1⟩:=h.w;obtain⟨⟨k1,o⟩,h2⟩:=h1.sp.w;obtain⟨⟨k2,C⟩,h3⟩:=h2.w;obtain⟨⟨k3,d⟩,h4⟩:=h3.w;obtain⟨⟨k4,D⟩,h5⟩:=h4.w;obtain⟨⟨k5,E⟩,h6⟩:=h5.sp.w;obtain⟨⟨k6,r⟩,h7⟩:=h6.w;obtain⟨⟨k7,u⟩,h8⟩:=h7.sp.w;obtain⟨⟨k8,F⟩,h9⟩:=h8.w;obtain⟨⟨k9,G⟩,H⟩:=h9.sp.w;obtain⟨⟨a0,v⟩,I⟩:=H.w;obtain⟨⟨a5,y⟩,J⟩:=I.w;obtain⟨⟨a6,z⟩,K⟩:=J.sp.w;obtain⟨l,a1,a2,a3,a4⟩:=zdl (en:=n) B Q K.sp;have L: ∀{i k k'},e[i]?=some ⟨4,⟨([58]:Bs).toArray⟩,k⟩->e[i+1]?=some ⟨3,⟨([105,110,116]:Bs).toArray⟩,k'⟩->zb7 e i:=λh h'=>⟨P5 (t:=[58]) h,P5 (t:=[105,110,116]) h'⟩;have e1:=Dp.jP (ws:=e) (en:=n) (k:=2) (P5 (t:=[41]) v);have e2:=Dp.next (k:=1) (i:=q+1+1+1+1+1+1) (jm (s:=[41]) r (by decide)) (λ_=>P5 (t:=[44]) r) (jl u) (L F G) e1;have P:=Dp.next (k:=0) (i:=q+1+1+1) (jm (s:=[41]) d (by decide)) (λh=>I2 rfl h) (jl d) (L D E) e2;rw[show qK 1 (q+1+1+1+1+1+1)=q+1+1+1+1+1+1+1 from rfl,show qK 0 (q+1+1+1)=q+1+1+1 from rfl,Y4 d,Y4 u]at P;have A:=Df.fn (P5 (t:=[102,117,110]) O) (jl o) (P5 (t:=[40]) C) P (L y z) a2;rw[Y4 o]at A;have M:T8 (fN j)=true:=by unfold T8 fN;rw[Yg];exact f
  refine⟨_,cast (I1 (Df e n q _) ?_) A,(List.getElem?_eq_some_iff.1 O).1,rfl,rfl,λN hU=>?_,λN=>C4 (zdG (a4 N)) ?_⟩
  ·simp only[Z2,nW];omega
  ·obtain⟨a7,c',hB⟩:=a3 N pq.reverse 2 hU ⟨λs hs=>List.mem_reverse.2 hs,λk _=>⟨λh=>(ziD (List.mem_reverse.1 h) k).1 rfl,λh=>(ziD (List.mem_reverse.1 h) k).2 rfl⟩⟩ R
   exact zf5 M za0 (by decide) (by decide) a1 hB
  ·simp only[P6,N5,Q0,Pc.P8,z9,z7,B1];omega
theorem zhs{g:GL}{x:GE}(n:Zi low b 7 true [] m ns' m' (g.X5++(.w 3 [114,101,116,117,114,110]::.sp 32::(x.X5++[.w 4 [59],.sp 32]))))(C:b<=39)(V:m'-m<=64):FnR low yY [] (Qx g x):=by
 have D:Qx g x=.w 3 [102,117,110]::.sp 32::.w 2 [109,97,105,110]::.w 4 [40]::.w 4 [41]::.w 4 [58]::.sp 32::.w 3 [105,110,116]::.sp 32::.w 4 [123]::.sp 32::((g.X5++(.w 3 [114,101,116,117,114,110]::.sp 32::(x.X5++[.w 4 [59],.sp 32])))++[.w 4 [125]]):=by
  simp only[Qx,B9,B6,C0]
 rw[D];generalize g.X5++_=p at n|-
 refine⟨λa E=>?_,λF o q a h=>?_⟩
 ·simp only[B9,B6,C0]
  have G:=O1 (c:=123) (by decide) (Q5 (n.1 _ (O1 (c:=125) (by decide) E)));have H:=O1 (c:=41) (by decide) (O1 (c:=58) (by decide) (Q5 (qH (w:=[105,110,116]) (by decide) (X0 _) (Q5 G))));exact qH (by decide) (X0 _) (Q5 (jk (w:=[109,97,105,110]) (by decide) (T7 (by decide) _ _ _) (O1 (c:=40) (by decide) H)))
 ·simp only[B9,B6,C0]at h
  obtain⟨⟨k,B⟩,I⟩:=h.w;obtain⟨⟨W,d⟩,J⟩:=I.sp.w;obtain⟨⟨X,r⟩,K⟩:=J.w;obtain⟨⟨Y,u⟩,L⟩:=K.w;obtain⟨⟨M,e⟩,v⟩:=L.w;obtain⟨⟨N,f⟩,y⟩:=v.sp.w;obtain⟨l,O,P,Q,R⟩:=zdl (en:=o) n C y.sp;have i:=Df.fn (P5 (t:=[102,117,110]) B) (jl d) (P5 (t:=[40]) r) (.jP (P5 (t:=[41]) u)) ⟨P5 (t:=[58]) e,P5 (t:=[105,110,116]) f⟩ P;rw[Y4 d]at i;refine⟨_,cast (I1 (Df F o q _) ?_) i,(List.getElem?_eq_some_iff.1 B).1,rfl,rfl,λz S=>?_,λz=>C4 (zdG (R z)) ?_⟩
  ·simp only[Z2,nW];omega
  ·obtain⟨T,Z,U⟩:=Q z [] 0 S ⟨λs A=>(nomatch A),λk _=>⟨λh=>(nomatch h),λh=>(nomatch h)⟩⟩ (by omega)
   exact zf5 (by decide) (λs A=>nomatch A) (by decide) List.nodup_nil O U
  ·simp only[P6,N5,Q0,Pc.P8,z9,z7,B1];omega
end
theorem Qu(g:GL)(x:GE): ∀(fs:List (GL×GE))(j:Nat),xr j (fs++[(g,x)])=xr j fs++zaN (j+fs.length) g x
 |[],j=>by simp[xr]
 |(a,c)::fs,j=>by simp only[B6,xr,Qu g x fs,B9,z7];rw[show j+1+fs.length=j+(fs.length+1) by omega]
def Fn.sh(f:Fn):ByteArray×Nat:=(f.L6,f.J3.length)
theorem YH{N low d a e c i f:Nat}{ns:List ByteArray}{g:GL}{x:GE}(k:low<=2)(l:NsG ns)(u:N<=60)(hi:e<=N)(v:d<=3)(y:a<=1000)(o:Jt N low d ⟨ns,a,e⟩ g ⟨ns,c,i⟩)(hx:zJ N ns low 2 i x f):
 a<=c/\c-a<=43/\e<=f/\f<=N/\Zi low (d+6) 7 true ns a ns c (g.X5++(.w 3 [114,101,116,117,114,110]::.sp 32::(x.X5++[.w 4 [59],.sp 32]))):=by
 obtain⟨⟨h,q,z,r,n⟩,-,-⟩:=Jt.tr k d _ _ _ o hi;have s:=hx.mv;have A:slk d<=26:=by
  have t:d=0\/d=1\/d=2\/d=3:=by omega
  rcases t with rfl|rfl|rfl|rfl<;>decide
 simp only at h q r n;exact⟨h,by omega,by omega,s.2.1,(n l (by omega)).2.W8 (zdQ (.inr ⟨rfl,rfl⟩) (hx.ex l k) (by omega)) h (y6 _)⟩
def zkn(k:Nat)(P:List Pc):Prop:=
 (∀a,Q4 a->Q4 (P++a))/\ ∀d g q a,jg d q (P++a)-> ∃l:List Fn,(∀r,Du d g (q+nW P) r->Du d g q (l++r))/\l.map Fn.sh=(List.range' 0 k).map (λj=>(fN j,2))/\
  ∀f∈l,(∀c,xu c k->Fw f/\f.J3.Nodup/\ ∃e m,Bx c 40 f.J7 f.J3.reverse f.J3.length e m true)/\ ∀c,(jM c f).J6.length<=(zG P).length
theorem xu.le{us:List Fn}{j k:Nat}(h:xu us k)(a:j<=k):xu us j:=λf c=>h f (by omega)
theorem xq.tr{N j i m t:Nat}{fs:List (GL×GE)}(S:j<=2)(w:N<=60)(hi:i<=N)(h:xq N j i fs m t):m<=43*j/\t<=N/\zkn j (xr 0 fs):=by
 induction h with
 |nil=>exact⟨y6 _,hi,λ_ h=>h,λk n q c _=>⟨[],λ_ h=>h,rfl,λ_ h=>nomatch h⟩⟩
 | @xb j i T U V W X fs g x y z A B=>
   obtain⟨Y,C,D,E⟩:=B (by omega) hi;obtain⟨Z,b2,b3,F,G⟩:=YH (by omega) za0 w C (by decide) (by omega) z A;obtain⟨H,I⟩:=ziK (j:=j) (by omega) G (by decide) (by omega);refine⟨by omega,F,?_⟩;rw[Qu,y.len,Nat.zero_add];refine⟨λc e=>by rw[B9];exact D _ (H _ e),λk n q c o=>?_⟩;rw[B9]at o;obtain⟨l,J,K,u⟩:=E k n q _ o;obtain⟨f,L,M,O,P,Q,R⟩:=I k n _ _ (jg.skip _ o);refine⟨l++[f],λr e=>?_,?_,λv a=>?_⟩
   ·rw[B9]
    rw[Z2,<-Nat.add_assoc]at e;exact J _ (.Zf M L e)
   ·rw[List.map_append,K,List.range'_concat,List.map_append]
    simp[Fn.sh,O,P,pq]
   ·rw[P6,z9]
    rcases List.mem_append.1 a with a|a
    ·exact⟨λd s=>(u v a).1 d (s.le (by omega)),λd=>C4 ((u v a).2 d) (by omega)⟩
    ·obtain rfl:=List.mem_singleton.1 a
     exact⟨λd s=>Q d (s.le (by omega)),λd=>C4 (R d) (by omega)⟩
def jR(k:Nat):List (ByteArray×Nat):=(List.range' 0 k).map (λj=>(fN j,2))++[(yY,0)]
theorem JZ{k:Nat}(f:k<=2):((jR k).map Prod.fst).Nodup:=by
 have c:k=0\/k=1\/k=2:=by omega
 have d:=zbd 0;have e:=zbd 1;have a:fN 0≠fN 1:=λh=>by have:=zhN h;omega
 rcases c with rfl|rfl|rfl<;>simp[jR,yY,d,e,a,List.range'_succ]
theorem jH.zf{k N:Nat}{t:ByteArray}(h:jH k N t): ∃(ws:List Wd)(us:List Fn),Qp t 0 0 ws/\ws.length<=4000/\qd ws/\Du ws t.size 0 us/\Uw us/\(∀vs,∀f∈us,(jM vs f).J6.length<=4000)/\us.map Fn.sh=jR k:=by
 have q:=XQ.zjt ⟨k,h⟩;obtain⟨d,g,x,i0,m1,i1,m2,i2,i3,B,C,n,J,K,L⟩:=h;have u:k<=2:=by have:=C.1;omega
 obtain⟨a1,M,O,P⟩:=n.tr u B C.le.2.1;obtain⟨b1,b2,b3,b4,Q⟩:=YH (ns:=[]) u (λs R=>nomatch R) B M (by decide) (by omega) J K;obtain⟨S,T⟩:=zhs Q (by decide) (by omega);have D:t.data.toList=zG (qx d g x):=by rw[L,zbH]
 have v:Q4 (qx d g x):=by have:=O _ (S [] trivial);rwa [List.append_nil]at this
 have U:xa t 0 [] (none,Jk (qx d g x) 0):=by
  have:=Q4.zhQ _ 0 v;rw[<-D]at this;exact this.zjF
 have w:Qp t 0 0 (Jk (qx d g x) 0):=.inr ⟨q,_,U,rfl,rfl,rfl⟩;have y:jg (Jk (qx d g x) 0) 0 (xr 0 d++(Qx g x++[])):=by rw[List.append_nil];exact jg.start _ 0
 obtain⟨l,V,W,E⟩:=P _ t.size 0 _ y;obtain⟨f,X,Y,F,G,Z,e6⟩:=T _ t.size _ _ (jg.skip _ y);have r:(Jk (qx d g x) 0).length<=0+nW (xr 0 d)+nW (Qx g x):=by
  have:=I1 List.length (jg.skip _ (jg.skip _ y));simp[ktW,ktP]at this;omega
 have e:(l++[f]).map Fn.sh=jR k:=by rw[List.map_append,W];simp[Fn.sh,F,G,jR]
 have H:(l++[f]).length=k+1:=by have:=I1 List.length e;simpa[jR]using this
 have I:xu (l++[f]) k:=λj hj=>by
  have:(fN j,2)∈(l++[f]).map Fn.sh:=by rw[e];exact List.mem_append_left _ (List.mem_map.2 ⟨j,by simp;omega,rfl⟩)
  obtain⟨fn,q1,z⟩:=List.mem_map.1 this;injection z with z q3
  exact⟨fn,q1,z,q3⟩
 have c: ∀i∈l++[f],(Fw i/\i.J3.Nodup/\ ∃A m,Bx (l++[f]) 40 i.J7 i.J3.reverse i.J3.length A m true)/\ ∀vs,(jM vs i).J6.length<=4000:=by
  have o:(zG (qx d g x)).length<=4000:=by rw[<-D,Array.length_toList];exact q
  rw[qx,P6,z9]at o;intro i a
  rcases List.mem_append.1 a with a|a
  ·exact⟨(E i a).1 _ I,λvs=>C4 ((E i a).2 vs) (by omega)⟩
  ·obtain rfl:=List.mem_singleton.1 a
   exact⟨Z _ I,λvs=>C4 (e6 vs) (by omega)⟩
 refine⟨_,l++[f],w,w.yh.1,w.ZI,V _ (.Zf Y X (.done r)),⟨by omega,?_,⟨f,by simp,F,by rw[G];rfl⟩,λf n=>(c f n).1.1,λf n=>(c f n).1.2⟩,λvs f n=>(c f n).2 vs,e⟩;have:=JZ u
 rwa [<-e,List.map_map]at this
end Go.Proofs.YtalgmjmibamdfaaGreatDoor
namespace Go.Proofs.YtalgmjmibamdfaaGreatDoor
open Go.Proofs.Tryz
open Go.RowKit Tw
theorem JI{us:List Fn}(h:Uw us): ∃f,us[qS us qp]?=some f/\f.L6=qp/\f.J3.length=0:=by
 obtain⟨f,b,a,c⟩:=h.main;exact⟨f,zby h.Zd b a,a,c⟩
theorem Yl{us:List Fn}(h:Uw us):zk (us.map (jM us)) (qS us qp):=by
 refine⟨λc d=>?_,?_⟩
 ·obtain⟨f,a,rfl⟩:=List.mem_map.1 d
  rw[List.map_map];exact zgS h a
 ·obtain⟨f,a,-,b⟩:=JI h
  exact⟨jM us f,by rw[G3,a];rfl,b⟩
theorem zhG(us vs:List Fn)(E:us.map Fn.sh=vs.map Fn.sh)(h0:Uw us)(h4: ∀f∈us,(jM us f).J6.length<=4000)(A t:Option Addr)(c u:Nat)(F:Nat->Prop)(w:World)(hF:M3 w (.slice A us.length c) (us.map λf=>(jM us f).pf))(hU:R0 w F (.slice t vs.length u) vs):
 Calls prog 8 #[.agg #[.slice A us.length c,.int .i64 (qS us qp:Int)],.agg #[.slice t vs.length u]] w λe w'=>e=.returned (.bool true)/\Below w.heap.size w w':=by
 have d:us.length=vs.length:=by have:=I1 List.length E;simpa using this
 have G: ∀(i:Nat)(f:Fn),us[i]?=some f-> ∃n,vs[i]?=some n/\n.L6=f.L6/\n.J3.length=f.J3.length:=λi f H=>by
  have h1:(vs.map Fn.sh)[i]?=some f.sh:=by rw[<-E,G3,H];rfl
  rw[G3]at h1;obtain⟨n,I,h3⟩:=Option.map_eq_some_iff.1 h1;injection h3 with h3 h5
  exact⟨n,I,h3,h5⟩
 have S:=h0.len;have J:=Yl h0;obtain⟨b6,y,B,-⟩:=JI h0;obtain⟨fm,q,K,-⟩:=G _ _ y;rw[B]at K;rw[d]at S hF|-
 have a4:qS us qp<vs.length:=(List.getElem?_eq_some_iff.1 q).1;clear y B;generalize qS us qp=o at J q a4|-
 have b1:=(y7 w.heap.size w).alloc (y6 _) (.cells #[.slice A vs.length c,.int .i64 (o:Int)] 26);have R:=b1.alloc b1.size (.cells #[.slice t vs.length u] 34);have h:=zh (heap_alloc2_old w (.cells #[.slice A vs.length c,.int .i64 (o:Int)] 26) (.cells #[.slice t vs.length u] 34));have m:=zh (heap_alloc2_new w (.cells #[.slice A vs.length c,.int .i64 (o:Int)] 26) (.cells #[.slice t vs.length u] 34));have HF:=zh (hF.J0 (.of R));have HU:Hid (R0 ((w.alloc (.cells #[.slice A vs.length c,.int .i64 (o:Int)] 26)).alloc (.cells #[.slice t vs.length u] 34)) (λ_=>True) (.slice t vs.length u) vs):=zh (hU.J0 (λg h1 I=>⟨trivial,z6 I R.size,R.block g I⟩));have HB:=zh R;have PF:=zh (Yh (us.map (jM us)) o J (by rw[D9,d];exact S) (λx hx=>by obtain⟨f,H,rfl⟩:=List.mem_map.1 hx;exact h4 f H) A c ((w.alloc (.cells #[.slice A vs.length c,.int .i64 (o:Int)] 26)).alloc (.cells #[.slice t vs.length u] 34)) (by rw[D9,d,List.map_map];exact hF.J0 (.of R)));rw[D9,d]at PF;have a5:=zh G;have T:=zh d;have a6:=zh q;have a7:=zh K;clear b1 R hF hU J q K h4 h0 G d E
 go_enter func8,ntmps8
 go_upto_region 1 with(fail)
 generalize World.alloc _ _=w1 at h m HF HU HB PF|-
 obtain⟨bu,L⟩: ∃b,w.heap.size+1=b:=⟨_,rfl⟩;rw[L]at m;simp only[L];clear L;obtain⟨bp,r⟩: ∃b,w.heap.size=b:=⟨_,rfl⟩;have b7:=zh r;rw[r]at h;simp only[r];clear r;have c0:=y5 h.out 0;have c1:=y5 h.out 1
 go_wp2_with fail
 refine PF.out.mono ?_;rintro e w2 ⟨M,v,xE,rfl,-,-,-⟩;have C:=zh ((M.block bp (I7 h.out)).trans h.out);have l:=zh ((M.block bu (I7 m.out)).trans m.out);have a8:=zh (HF.out.J0 (.of M));have U:=zh (HU.out.J0 (F':=λ_=>True) (w':=w2) (λg h1 I=>⟨trivial,z6 I M.size,M.block g I⟩));have V:=zh (HB.out.trans (M.mono HB.out.size));clear M c0 c1 h m HF HU HB PF;have c0:=y5 C.out 0;have c1:=y5 C.out 1;have d0:=y5 l.out 0;obtain⟨g,N,An,cn,At,ct,Ab,cb,rfl,hg,-,-,-,W⟩:=U.out.at o fm a6.out;have n0:w2.cell? ⟨g,N+o*6,none⟩=some (.string ⟨#[109,97,105,110]⟩):=(W 0 _ rfl).trans (by rw[a7.out];rfl);have k0:(0:Int)<=(o:Int):=by omega
 have k1:(o:Int)<(vs.length:Int):=by omega
 clear W hg
 go_upto_region 4 with(fail)
 clear n0 k0 k1 c1
 go_wp2_with fail
 clear c0 d0
 go_loopw[38] (λi wr=> ∃j:Nat,j<=vs.length/\i=.int .i64 j/\Hid (Below w2.heap.size w2 wr)) (λi _=>vs.length-(intOf i).toNat)
 case atStart=>exact⟨0,E2 _,rfl,zh (y7 _ _)⟩
 case round=>
  obtain⟨j,hj,rfl,a⟩:=hrel
  by_cases a9:j<vs.length
  ·obtain⟨f,H⟩: ∃f,us[j]?=some f:=⟨_,y8 (by rw[T.out];exact a9)⟩
   obtain⟨n,X,-,Y⟩:=a5.out j f H;obtain⟨gf,cf,vo,hv,-,s,u0,u1,u2,D⟩:=a8.out.at (k:=j) (f:=(jM us f).pf) (by rw[G3,H];rfl);injection hv with b0 b3 b4
   clear b3;subst b0 b4;obtain⟨go,co,rfl,-⟩:=D.at;obtain⟨g2,b5,An,cn,At,ct,Ab,cb,Z,P,-,-,-,W⟩:=U.out.at j n X;injection Z with Z;injection Z with Z e3
   subst Z e3;replace u0:=(a.out.cell (p:=⟨gf,j*3,none⟩) s).trans u0;replace u1:=(a.out.cell (p:=⟨gf,j*3+1,none⟩) s).trans u1;replace u2:=(a.out.cell (p:=⟨gf,j*3+2,none⟩) s).trans u2;have n1:=(a.out.cell (p:=⟨g,N+j*6+1,none⟩) P).trans (W 1 _ rfl);have ep:(jM us f).pf.params=n.J3.length:=Y.symm;rw[ep]at u0;have d0:=(a.out.cell (p:=⟨bu,0,none⟩) (I7 l.out)).trans (y5 l.out 0);have k0:(0:Int)<=(j:Int):=by omega
   have k1:(j:Int)<(vs.length:Int):=by omega
   obtain⟨nv,a0⟩: ∃z,(jM us f).pf.vars=z:=⟨_,rfl⟩;obtain⟨O,hO⟩: ∃z,(jM us f).pf.ops=z:=⟨_,rfl⟩;rw[a0]at u1;rw[hO]at u2;have ba:=(y7 wr.heap.size wr).alloc (y6 _) (.cells #[.int .i64 n.J3.length,.int .i64 nv,.slice (some ⟨go,0,none⟩) O.length co] 40);have Q:=zh (y9 wr (.cells #[.int .i64 n.J3.length,.int .i64 nv,.slice (some ⟨go,0,none⟩) O.length co] 40));have a1:=zh (a.out.trans (ba.mono a.out.size));have a2:=(ba.cell (p:=⟨g,N+j*6+1,none⟩) (z6 P a.out.size)).trans n1;have a3:=(ba.cell (p:=⟨bu,0,none⟩) (z6 (I7 l.out) a.out.size)).trans d0;clear ba H X Y D W P s ep a0 hO n1 d0
   go_upto_region 7 with(fail)
   clear u0 u1 u2;generalize World.alloc _ _=wa at Q a1 a2 a3|-
   generalize wr.heap.size=bf at Q|-
   have q0:=y5 Q.out 0
   go_quiet (fail)
   clear q0 a2 a3
   go_wp2_with fail
   go_roundw
   case rel=>exact⟨j+1,by omega,by go_num,zh (J9 a1.out _)⟩
   case measure=>simp[intOf];omega
  ·obtain rfl:j=vs.length:=by omega
   go_wp2_with fail
   go_ret;exact⟨rfl,V.out.trans (a.out.mono V.out.size)⟩
end Go.Proofs.YtalgmjmibamdfaaGreatDoor
