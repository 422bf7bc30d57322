/- Merged. -/
import Derived.Test.YtalgmjmibamdfaaGreatDoorCO24
set_option linter.all false
set_option maxHeartbeats 16000000
set_option maxRecDepth 100000
namespace Go.Proofs.YtalgmjmibamdfaaGreatDoor
open Go.RowKit Tw
theorem N5(p:Pc)(l:List Pc):zG (p::l)=p.P8++zG l:=rfl
theorem P6(a b:List Pc):zG (a++b)=zG a++zG b:=by simp[zG]
theorem Q4.zhQ: ∀(l:List Pc)(k:Nat),Q4 l->Jg (zG l) k (Jk l k)
 |[],_,_=>.nil
 |.sp c::l,k,h=>.sp h.1 (Q4.zhQ l (k+1) h.2)
 |.w c t::l,k,h=>.zq h.1 h.2.1 (Q4.zhQ l (k+t.length) h.2.2)
def ktW(ws:List Wd):List (Nat×ByteArray):=ws.map λx=>(x.N4,x.O9)
def ktP:List Pc->List (Nat×ByteArray)
 |[]=>[]
 |.sp _::l=>ktP l
 |.w c t::l=>(c,⟨t.toArray⟩)::ktP l
def jg(ws:List Wd)(i:Nat)(l:List Pc):Prop:=ktW (ws.drop i)=ktP l
theorem XI: ∀(l:List Pc)(k:Nat),ktW (Jk l k)=ktP l
 |[],_=>rfl
 |.sp _::l,k=>XI l (k+1)
 |.w c t::l,k=>by simp only[Jk,ktP];exact I1 (List.cons _) (XI l _)
def nW:List Pc->Nat
 |[]=>0
 |.sp _::l=>nW l
 |.w _ _::l=>nW l+1
theorem Z2: ∀(a b:List Pc),nW (a++b)=nW a+nW b
 |[],b=>by simp[nW]
 |.sp _::l,b=>by simp only[B6,nW];exact Z2 l b
 |.w _ _::l,b=>by simp only[B6,nW,Z2 l b];omega
section
variable {ws:List Wd}{en i:Nat}{l:List Pc}{c:Nat}{t:Bs}
theorem jg.sp{b:UInt8}(h:jg ws i (.sp b::l)):jg ws i l:=h
theorem jg.w(h:jg ws i (.w c t::l)):(∃k,ws[i]?=some ⟨c,⟨t.toArray⟩,k⟩)/\jg ws (i+1) l:=by
 unfold jg at h|-
 simp only[ktP]at h;cases a:ws.drop i with
 |nil=>rw[a]at h;cases h
 |cons x r=>
  rw[a]at h;simp only[ktW,List.map_cons]at h;injection h with b d
  injection b with b e
  refine⟨⟨x.pos,?_⟩,?_⟩
  ·have:=I1 List.head? a
   rw[List.head?_drop]at this;rw[this,<-b,<-e];rfl
  ·rw[<-List.drop_drop,a];exact d
theorem jg.start(l:List Pc)(k:Nat):jg (Jk l k) 0 l:=XI l k
theorem jl{k:Nat}(h:ws[i]?=some ⟨c,⟨t.toArray⟩,k⟩):O8 ws i=c:=by unfold O8;rw[h]
theorem Y4{k:Nat}(h:ws[i]?=some ⟨c,⟨t.toArray⟩,k⟩):L7 ws i=⟨t.toArray⟩:=by unfold L7;rw[h]
theorem Yd{k:Nat}(h:ws[i]?=some ⟨c,⟨t.toArray⟩,k⟩):Y7 ws i=lv t:=by unfold Y7;rw[h]
theorem zbB{k:Nat}(s:Bs)(h:ws[i]?=some ⟨c,⟨t.toArray⟩,k⟩):M0 ws i ⟨s.toArray⟩=(t==s):=by
 unfold M0;rw[h];simp only[E0]
theorem De.ZA{x:Ex}{j L:Nat}(h:De ws en (.xg L i) (.ex x j))(g:L<=6): ∀(n:Nat),n<=L->(∀m,n<=m->m<L->Y7 ws j≠m)->De ws en (.xg n i) (.ex x j):=by
 have b: ∀q n,n+q=L->(∀m,n<=m->m<L->Y7 ws j≠m)->De ws en (.xg n i) (.ex x j):=by
  intro q
  induction q with
  |zero=>
   intro n d _;obtain rfl:n=L:=by omega
   exact h
  |succ q e=>intro n d a;exact .up (by omega) (e (n+1) (by omega) (λm o f=>a m (by omega) f)) (a n (y6 _) (by omega))
 exact λn d a=>b (L-n) n (by omega) a
theorem jm{k:Nat}{s:Bs}(h:ws[i]?=some ⟨c,⟨t.toArray⟩,k⟩)(a:(t==s)=false):M0 ws i ⟨s.toArray⟩=false:=by rw[zbB _ h,a]
theorem P5{k:Nat}(h:ws[i]?=some ⟨c,⟨t.toArray⟩,k⟩):M0 ws i ⟨t.toArray⟩=true:=by rw[zbB _ h];simp
end
section
variable {ws:List Wd}
theorem jg.skip: ∀(a:List Pc){b:List Pc}{i:Nat},jg ws i (a++b)->jg ws (i+nW a) b
 |[],b,i,h=>h
 |.sp _::l,b,i,h=>jg.skip l h.sp
 |.w _ _::l,b,i,h=>by
  have:=jg.skip l h.w.2;rw[show i+1+nW l=i+(nW l+1) by omega]at this;exact this
end
theorem zd5(s:ByteArray):(⟨s.data.toList.toArray⟩:ByteArray)=s:=by cases s;simp
def hqT(c:Nat)(t:Bs):Nat:=
 if t==[45]then 1 else if t==[33]then 2 else if t==[40]then 3 else if t==[116,114,117,101]then 4 else if t==[102,97,108,115,101]then 5 else if t==[64]then 6
 else if c=1 then 7 else if c=2 then 8 else 0
def hsT(c:Nat)(t:Bs)(e:Bool):Nat:=
 if t==[108,101,116]then 1 else if t==[105,102]then 3 else if t==[119,104,105,108,101]then 4 else if t==[114,101,116,117,114,110]then 5 else if t==[121,105,101,108,100]then 6
 else if c=2/\e=true then 2 else 7
section
variable {ws:List Wd}{i c k:Nat}{t:Bs}
theorem qQ(h:ws[i]?=some ⟨c,⟨t.toArray⟩,k⟩):T1 ws i=hqT c t:=by
 unfold T1 hqT;rw[show Xp=⟨([45]:Bs).toArray⟩ from rfl,show zbC=⟨([33]:Bs).toArray⟩ from rfl,show jG=⟨([40]:Bs).toArray⟩ from rfl,show zc7=⟨([116,114,117,101]:Bs).toArray⟩ from rfl,show zaR=⟨([102,97,108,115,101]:Bs).toArray⟩ from rfl,show zd2=⟨([64]:Bs).toArray⟩ from rfl];simp only[zbB _ h,jl h]
theorem QT(h:ws[i]?=some ⟨c,⟨t.toArray⟩,k⟩):R7 ws i=hsT c t (M0 ws (i+1) sEq):=by
 unfold R7 hsT;rw[show zhi=⟨([108,101,116]:Bs).toArray⟩ from rfl,show sIf=⟨([105,102]:Bs).toArray⟩ from rfl,show zav=⟨([119,104,105,108,101]:Bs).toArray⟩ from rfl,show JX=⟨([114,101,116,117,114,110]:Bs).toArray⟩ from rfl,show zaM=⟨([121,105,101,108,100]:Bs).toArray⟩ from rfl];simp only[zbB _ h,jl h]
theorem yS{s:Bs}(h:N3 t=true)(hs:N3 s=false):(t==s)=false:=by
 rw[B0];rintro rfl;rw[h]at hs;cases hs
theorem zbo(h:N3 t=true):hqT 2 t=8:=by simp(disch:=decide) [hqT,yS h]
theorem za1(h:N3 t=true)(e:Bool):hsT 2 t e=if e=true then 2 else 7:=by simp(disch:=decide) [hsT,yS h]
end
def pq:List ByteArray:=[⟨#[112]⟩,⟨#[113]⟩]
def zdI(j:Nat)(g:GL)(x:GE):ByteArray:=⟨#[102,117,110,32,102]⟩++jV j++⟨#[40,112,58,32,105,110,116,44,32,113,58,32,105,110,116,41,58,32,105,110,116,32,123,32]⟩++g.P8++⟨#[114,101,116,117,114,110,32]⟩++x.P8++⟨#[59,32,125,10]⟩
def xx:Nat->List (GL×GE)->ByteArray
 |_,[]=>⟨#[]⟩
 |j,(g,x)::r=>zdI j g x++xx (j+1) r
theorem QA(g:GL)(x:GE): ∀(fs:List (GL×GE))(j:Nat),xx j (fs++[(g,x)])=xx j fs++zdI (j+fs.length) g x:=by
 intro fs
 induction fs with
 |nil=>intro j;simp only[C0,xx,qC,Yz,B1,Nat.add_zero]
 |cons a fs b=>
  obtain⟨c,d⟩:=a;intro j;simp only[B6,xx,b,ByteArray.append_assoc,z7];rw[show j+1+fs.length=j+(fs.length+1) by omega]
inductive xq(N:Nat):Nat->Nat->List (GL×GE)->Nat->Nat->Prop
 |nil {i:Nat}:xq N 0 i [] 0 i
 |xb {j i m1 i1 m2 i2 i3:Nat} {fs:List (GL×GE)} {g:GL} {x:GE}:xq N j i fs m1 i1->Jt N j 2 ⟨pq,m1,i1⟩ g ⟨pq,m2,i2⟩->zJ N pq j 2 i2 x i3->xq N (j+1) i (fs++[(g,x)]) m2 i3
theorem xq.len{N j i m a:Nat}{fs:List (GL×GE)}(h:xq N j i fs m a):fs.length=j:=by
 induction h with
 |nil=>rfl
 |xb _ _ _ b=>simp[b]
def ZR(fs:List (GL×GE))(g:GL)(x:GE):ByteArray:=xx 0 fs++⟨#[102,117,110,32,109,97,105,110,40,41,58,32,105,110,116,32,123,32]⟩++g.P8++⟨#[114,101,116,117,114,110,32]⟩++x.P8++⟨#[59,32,125]⟩
def jH(k N:Nat)(t:ByteArray):Prop:= ∃(a:List (GL×GE))(g:GL)(x:GE)(b c d f e h:Nat),N<=60/\Nx N 3 0 k b/\xq N k b a c d/\Jt N k 3 ⟨[],c,d⟩ g ⟨[],f,e⟩/\zJ N [] k 2 e x h/\t=ZR a g x
def XQ(N:Nat)(t:ByteArray):Prop:= ∃k:Nat,jH k N t
theorem zf1:yc pq:=by intro s a;simp only[pq,E7,List.mem_nil_iff,or_false]at a;rcases a with rfl|rfl<;>decide
theorem QF(k:Nat): ∀u:Nat,u<10^(k+1)->Lib.nDigits u<=k+1:=by
 induction k with
 |zero=>intro u h;rw[Lib.nDigits_small (by simpa using h)];omega
 |succ k b=>
  intro u h
  by_cases a:u<10
  ·rw[Lib.nDigits_small a];omega
  ·rw[Lib.nDigits_big a]
   have:=b (u/10) (by rw[Nat.pow_succ]at h;omega);omega
theorem zcx(n:Nat):(jV n).size=Lib.nDigits n:=by
 have:(Lib.itoa (n:Int))=Lib.decDigits n:=by unfold Lib.itoa;rw[B5 (by omega)];simp
 unfold jV;rw[this];show(Lib.decDigits n).toArray.size=_;rw[E4,Lib.decDigits_length]
theorem jW(k n:Nat)(h:n<10^(k+1)):(jV n).size<=k+1:=by rw[zcx];exact QF k n h
def NsS(ns:List ByteArray):Prop:= ∀s∈ns,s.size<=5
theorem Nx.le{N n i k a:Nat}(h:Nx N n i k a):i<=a/\a<=N/\i<=N:=by
 rcases h.2 with h|h<;>omega
theorem zJ.sz{N:Nat}{ns:List ByteArray}{low d i c:Nat}{x:GE}(e:NsS ns)(v:low<=2)(h:zJ N ns low d i x c):i<=c/\c<=N/\x.P8.size<=5+20*(c-i):=by
 have p: ∀o,(Zt o).size=1:=by intro o;unfold Zt;split<;>rfl
 induction h with
 |Zw a q r=>have:=e _ (B7 r);have:=a.le;have:=q.le;simp only[GE.P8];omega
 | @lit d i w g k n a h=>have:=jW 1 n (by have:=h.1;omega);have:=a.le;have:=h.le;simp only[GE.P8];omega
 |neg a _ s=>simp only[GE.P8,D0,Q3,E4,z7,B1];omega
 | @call d i g m t f x y a b _ _ j l=>
   have:=jW 0 f (by have:=b.1;omega);have:=b.le;simp only[GE.P8,D0,Q3,E4,z7,B1];omega
 | @host d i g m k x a b _ s=>
   have:=jW 0 k (by have:=b.1;omega);have:=b.le;simp only[GE.P8,D0,Q3,E4,z7,B1];omega
 | @Je d i g m t o x y a _ u _ j l=>
   have:=u.le;simp only[GE.P8,D0,p,Q3,E4,z7,B1];omega
theorem zS.sz{N:Nat}{ns:List ByteArray}{low d i e:Nat}{x:GE}(c:NsS ns)(j:low<=2)(r:d<=2)(h:zS N ns low d i x e):i<=e/\e<=N/\x.P8.size<=14+3*d+20*(e-i):=by
 have l: ∀o,(Qd o).size<=4:=by intro o;unfold Qd;split<;>decide
 have m: ∀o,(tfT o).size<=5:=by intro o;unfold tfT;split<;>decide
 induction h with
 | @not d _ _ _ _ _ f _ n=>have:=f.le;have:=n (by omega);simp only[GE.P8,D0,Q3,E4,z7,B1];omega
 | @and d _ _ _ _ _ _ _ _ a b=>have:=a (by omega);have:=b (by omega);simp only[GE.P8,D0,Q3,E4,z7,B1];omega
 | @or d _ _ _ _ _ _ _ _ a b=>have:=a (by omega);have:=b (by omega);simp only[GE.P8,D0,Q3,E4,z7,B1];omega
 | @tf d _ _ k _ g=>have:=m k;have:=g.le;simp only[GE.P8];omega
 | @cmp d i s t u v k o x y p f q g=>have:=p.le;have:=f.sz c j;have:=q.le;have:=g.sz c j;have:=l o;simp only[GE.P8,D0];omega
def SzB(N Z:Nat)(s:Ms)(g:GL)(s':Ms):Prop:=s.m<=s'.m/\(NsS s.ns->s'.m<=9998->s.i<=s'.i/\s'.i<=N/\g.P8.size<=Z+60*(s'.i-s.i)/\NsS s'.ns)
theorem ziT(m:Nat)(h:m<=9998):(vT m).size<=5:=by
 have:=jW 3 m (by omega);simp only[vT,D0,Q3,E4,z7,B1];omega
theorem ziM(m:Nat)(h:m<=9998):(iT m).size<=5:=by
 have:=jW 3 m (by omega);simp only[iT,D0,Q3,E4,z7,B1];omega
theorem yG.sz{N low:Nat}{B:Ms->GL->Ms->Prop}(q:low<=2)(r: ∀s g s',B s g s'->SzB N 0 s g s'/\s'.ns=s.ns){s:Ms}{g:GL}{s':Ms}(h:yG N low B s g s'):SzB N 20 s g s':=by
 refine⟨?_,?_⟩
 ·cases h with
  |QZ _ _ y v=>have e:=(r _ _ _ y).1.1;have w:=(r _ _ _ v).1.1;exact C4 e w
  |jf _ _ v=>have e:=(r _ _ _ v).1.1;simp only at e|-;omega
  |bind _ _=>exact Nat.le_succ _
  |_=>exact y6 _
 cases h with
 | @set t m i I u J j s x p e z f=>
   intro d o;have:=d _ (B7 z);have:=p.le;have:=e.le;have:=f.sz d q;refine⟨by simp only;omega,by simp only;omega,?_,d⟩;simp only[GL.P8,D0,Q3,E4,z7,B1];omega
 | @js t m i u x p f=>
   intro d o;have:=f.sz d q;refine⟨by simp only;omega,by simp only;omega,?_,d⟩;simp only[GL.P8,D0,Q3,E4,z7,B1];omega
 | @QZ t m i u c a b Q K p L y v=>
   intro d o;have:=L.sz d q (by decide);obtain⟨e,w⟩:=r _ _ _ y;obtain⟨E,R⟩:=r _ _ _ v;obtain⟨S,M,T,O⟩:=E.2 (by rw[w];exact d) o;obtain⟨A,F,C,G⟩:=e.2 d (by have:=E.1;omega);simp only at A C;refine⟨by simp only;omega,M,?_,O⟩;simp only[GL.P8,D0,Q3,E4,z7,B1];omega
 | @jf t m i u n l K p H D=>
   intro d o;obtain⟨e,w⟩:=r _ _ _ D;obtain⟨A,F,C,G⟩:=e.2 d o;have P:=e.1;simp only at A P C;have:=ziM (m+1) (by omega);have:=jW 0 n (by have:=H.1;omega);have:=H.le;refine⟨by simp only;omega,F,?_,G⟩;simp only[GL.P8,D0,Q3,E4,z7,B1];omega
 | @run t m i u x p f=>
   intro d o;have:=f.sz d q;refine⟨by simp only;omega,by simp only;omega,?_,d⟩;simp only[GL.P8,D0,Q3,E4,z7,B1];omega
 | @ret t m i u J k x p e f=>
   intro d o;have:=e.le;have:=f.sz d q;refine⟨by simp only;omega,by simp only;omega,?_,d⟩;simp only[GL.P8,D0,Q3,E4,z7,B1];omega
 | @bind t m i I u x p f=>
   intro d o;have:=f.sz d q;have:=ziT (m+1) o;refine⟨by simp only;omega,by simp only;omega,?_,?_⟩
   ·simp only[GL.P8,D0,Q3,E4,z7,B1];omega
   ·intro s z
    rcases List.mem_append.1 z with h|h
    ·exact d s h
    ·simp at h;subst h;assumption
theorem Run.sz{N:Nat}{S:Ms->GL->Ms->Prop}(e: ∀s g s',S s g s'->SzB N 20 s g s'){j:Nat}{s:Ms}{g:GL}{s':Ms}(h:Run S j s g s'):s.m<=s'.m/\(NsS s.ns->s.i<=N->s'.m<=9998->s.i<=s'.i/\s'.i<=N/\g.P8.size<=20*j+60*(s'.i-s.i)/\NsS s'.ns):=by
 induction h with
 |nil=>exact⟨y6 _,λa b _=>⟨y6 _,b,by simp[GL.P8,ByteArray.size],a⟩⟩
 | @xb j s p q g x r f d=>
   have c:=e _ _ _ f;refine⟨C4 d.1 c.1,λa b k=>?_⟩;obtain⟨t,u,v,l⟩:=d.2 a b (by have:=c.1;omega);obtain⟨w,n,y,o⟩:=c.2 l k;refine⟨by omega,n,?_,o⟩;rw[GL.XZ,D0];omega
theorem xc.sz{N:Nat}{S:Ms->GL->Ms->Prop}(i: ∀s g s',S s g s'->SzB N 20 s g s'){s:Ms}{g:GL}{s':Ms}(h:xc N S s g s'):SzB N 0 s g s'/\s'.ns=s.ns:=by
 obtain⟨j,r,t,a,k,rfl⟩:=h;have c:=k.sz i;refine⟨⟨c.1,λd e=>?_⟩,rfl⟩;have b:=a.le;obtain⟨l,f,m,u⟩:=c.2 d b.2.1 e;simp only at l f m e|-
 refine⟨by omega,f,?_,d⟩;have n:j<=3:=by have:=a.1;omega
 rcases a.2 with⟨o,p⟩|⟨o,p,q⟩
 ·omega
 ·subst q;omega
theorem Jt.sz{N low:Nat}(a:low<=2): ∀(d:Nat)(s:Ms)(g:GL)(s':Ms),Jt N low d s g s'->SzB N 0 s g s'/\s'.ns=s.ns:=by
 intro d
 induction d with
 |zero=>intro s g s' h;exact xc.sz (λs g s' h=>yG.sz a (λ_ _ _ h=>h.elim) h) h
 |succ d b=>intro s g s' h;exact xc.sz (λs g s' h=>yG.sz a b h) h
theorem xq.mono{N j i m b:Nat}{fs:List (GL×GE)}(o:j<=2)(hi:i<=N)(h:xq N j i fs m b):m<=129*j/\i<=b/\b<=N/\(xx 0 fs).size<=60*j+60*(b-i):=by
 induction h with
 |nil=>exact⟨by simp,y6 _,hi,by simp[xx,ByteArray.size]⟩
 | @xb j i p q r t u fs g x f d k l=>
   obtain⟨v,w,y,z⟩:=l (by omega) hi;have e:=(Jt.T4 (low:=j) (by omega) 2 _ _ _ d).1 zf1 (by simp only;have:Ju 2=129:=rfl;omega);have a:=(Jt.sz (low:=j) (by omega) 2 _ _ _ d).1.2 (by intro s a;simp only[pq,E7,List.mem_nil_iff,or_false]at a;rcases a with rfl|rfl<;>decide) (by have:=e.2.1;simp only at this|-;have:Ju 2=129:=rfl;omega);have A:=k.sz (by intro s a;simp only[pq,E7,List.mem_nil_iff,or_false]at a;rcases a with rfl|rfl<;>decide) (by omega);have n:=e.2.1;simp only at a n;have:Ju 2=129:=rfl;have B:=jW 0 j (by omega);refine⟨by omega,by omega,by omega,?_⟩;rw[QA,f.len];simp only[zdI,Nat.zero_add,D0,Q3,E4,z7,B1];omega
theorem XQ.zjt{N:Nat}{t:ByteArray}(h:XQ N t):t.size<=4000:=by
 obtain⟨k,o,g,x,p,q,r,u,v,w,y,d,f,e,i,rfl⟩:=h;have b:k<=2:=by have:=d.1;omega
 have j:=d.le;obtain⟨z,A,B,C⟩:=f.mono b j.2.1;have l:=(Jt.T4 (low:=k) b 3 _ _ _ e).1 (by intro s a;simp at a) (by simp only;have:Ju 3=777:=rfl;omega);have m:=l.2.1;simp only at m;have:Ju 3=777:=rfl;have a:=(Jt.sz (low:=k) b 3 _ _ _ e).1.2 (by intro s a;simp at a) (by simp only;omega);have n:=i.sz (by intro s a;simp at a) b;simp only at a;simp only[ZR,D0,Q3,E4,z7,B1];omega
def Y8(n:Nat):Bs:=Lib.itoa (n:Int)
theorem QX(n:Nat):(jV n).data.toList=Y8 n:=rfl
def Jm(o:Nat):Bs:=match o with|0=>[43]|1=>[45]|2=>[42]|3=>[47]|_=>[37]
def QN(o:Nat):Bs:=match o with|0=>[60]|1=>[60,61]|2=>[62]|3=>[62,61]|4=>[61,61]|_=>[33,61]
def tfL(k:Nat):Bs:=match k with|0=>[116,114,117,101]|_=>[102,97,108,115,101]
def vL(m:Nat):Bs:=118::Y8 m
def iL(m:Nat):Bs:=105::Y8 m
def fL(m:Nat):Bs:=102::Y8 m
def GE.X5:GE->List Pc
 |.Zw s=>[.w 2 s.data.toList]
 |.lit n=>[.w 1 (Y8 n)]
 |.neg x=>[.w 4 [45],.w 4 [40]]++x.X5++[.w 4 [41]]
 |.call f x y=>[.w 2 (fL f)]++[.w 4 [40]]++x.X5++[.w 4 [44],.sp 32]++y.X5++[.w 4 [41]]
 |.host k x=>[.w 4 [64]]++[.w 1 (Y8 k)]++[.w 4 [40]]++x.X5++[.w 4 [41]]
 |.Je o x y=>[.w 4 [40]]++x.X5++[.sp 32]++[.w 4 (Jm o)]++[.sp 32]++y.X5++[.w 4 [41]]
 |.not x=>[.w 4 [33],.w 4 [40]]++x.X5++[.w 4 [41]]
 |.and x y=>[.w 4 [40]]++x.X5++[.sp 32,.w 4 [38,38],.sp 32]++y.X5++[.w 4 [41]]
 |.or x y=>[.w 4 [40]]++x.X5++[.sp 32,.w 4 [124,124],.sp 32]++y.X5++[.w 4 [41]]
 |.tf k=>[.w 3 (tfL k)]
 |.cmp o x y=>x.X5++[.sp 32]++[.w 4 (QN o)]++[.sp 32]++y.X5
def GL.X5:GL->List Pc
 |.nil=>[]
 |.set s x r=>[.w 2 s.data.toList]++[.sp 32,.w 4 [61],.sp 32]++x.X5++[.w 4 [59],.sp 32]++r.X5
 |.js x r=>[.w 3 [121,105,101,108,100],.sp 32]++x.X5++[.w 4 [59],.sp 32]++r.X5
 |.QZ c a b r=>[.w 3 [105,102],.sp 32]++c.X5++[.sp 32,.w 4 [123],.sp 32]++a.X5++[.w 4 [125],.sp 32,.w 3 [101,108,115,101],.sp 32,.w 4 [123],.sp 32]++b.X5++[.w 4 [125],.sp 32]++r.X5
 |.jf i n l r=>[.w 3 [108,101,116],.sp 32]++[.w 2 (iL i)]++[.sp 32,.w 4 [61],.sp 32,.w 1 [48],.w 4 [59],.sp 32,.w 3 [119,104,105,108,101],.sp 32]++[.w 2 (iL i)]++[.sp 32,.w 4 [60],.sp 32]++[.w 1 (Y8 n)]++[.sp 32,.w 4 [123],.sp 32]++l.X5++[.w 2 (iL i)]++[.sp 32,.w 4 [61],.sp 32]++[.w 2 (iL i)]++[.sp 32,.w 4 [43],.sp 32,.w 1 [49],.w 4 [59],.sp 32,.w 4 [125],.sp 32]++r.X5
 |.run x r=>x.X5++[.w 4 [59],.sp 32]++r.X5
 |.ret x r=>[.w 3 [114,101,116,117,114,110],.sp 32]++x.X5++[.w 4 [59],.sp 32]++r.X5
 |.bind i x r=>[.w 3 [108,101,116],.sp 32]++[.w 2 (vL i)]++[.sp 32,.w 4 [61],.sp 32]++x.X5++[.w 4 [59],.sp 32]++r.X5
theorem zhf:(⟨#[]⟩:ByteArray).data.toList=[]:=rfl
theorem QD(a b:ByteArray):(a++b).data.toList=a.data.toList++b.data.toList:=by rw[ByteArray.data_append,Array.toList_append]
theorem Yg(l:List UInt8):(⟨l.toArray⟩:ByteArray).data.toList=l:=by simp
theorem zgq: ∀o:Nat,(Zt o).data.toList=Jm o
 |0=>rfl|1=>rfl|2=>rfl|3=>rfl|_+4=>rfl
theorem zgZ: ∀o:Nat,(Qd o).data.toList=32::(QN o++[32])
 |0=>rfl|1=>rfl|2=>rfl|3=>rfl|4=>rfl|_+5=>rfl
theorem zis: ∀o:Nat,(tfT o).data.toList=tfL o
 |0=>rfl|_+1=>rfl
theorem zaL(m:Nat):(vT m).data.toList=vL m:=by unfold vT vL;rw[QD,QX];rfl
theorem zaO(m:Nat):(iT m).data.toList=iL m:=by unfold iT iL;rw[QD,QX];rfl
theorem Q0:zG []=[]:=rfl
theorem GE.JR(x:GE):x.P8.data.toList=zG x.X5:=by
 induction x<;>simp only[GE.P8,GE.X5,QD,P6,N5,Q0,Pc.P8,QX,zgq,zgZ,zis,fL, *]<;>simp
theorem GL.JR(g:GL):g.P8.data.toList=zG g.X5:=by
 induction g<;>simp only[GL.P8,GL.X5,QD,P6,N5,Q0,Pc.P8,QX,zaL,zaO,GE.JR,zhf, *]<;>simp
theorem Qo(n:Nat):Y8 n=Lib.decDigits n:=by unfold Y8 Lib.itoa;rw[B5 (by omega)];simp
theorem Yi(n:Nat):(Y8 n).length=Lib.nDigits n:=by rw[Qo,Lib.decDigits_length]
theorem zax(n:Nat): ∀c∈Y8 n,qm c=true:=by
 intro c a;rw[Qo,Lib.decDigits_eq]at a;obtain⟨t,_,rfl⟩:=List.mem_map.1 a;have b: ∀q:Fin 10,qm (UInt8.ofNat (48+q.val))=true:=by decide
 exact b ⟨n/10^(Lib.nDigits n-1-t)%10,Nat.mod_lt _ (by decide)⟩
theorem ZL(n:Nat):Y8 n≠[]:=by
 intro h;have a:=Yi n;rw[h]at a;have:=Lib.nDigits_pos n;simp at a;omega
theorem yL{c:UInt8}(b:xY c=true)(n:Nat)(g:n<10^10):N3 (c::Y8 n)=true:=by
 have o:(Y8 n).length<=10:=by rw[Yi];exact QF 9 n g
 have i:zX (c::Y8 n)=false:=by
  unfold zX;rw[<-Bool.not_eq_true,List.contains_iff_mem];intro j;have k:zt.all (λw=>!qm (w.getD 1 97))=true:=by decide
  have e:=List.all_eq_true.1 k _ j;obtain⟨d,l,f⟩: ∃d l,Y8 n=d::l:=by
   cases h:Y8 n with
   |nil=>exact I2 h (ZL n)
   |cons d l=>exact⟨d,l,rfl⟩
  have m:=zax n d (by rw[f];exact B2 ..);rw[f]at e;simp[m]at e
 simp only[N3,F4,F2,Bool.not_eq_true',G1];refine⟨⟨⟨⟨by simp,by simp;omega⟩,b⟩,i⟩,?_⟩;intro x a
 rcases List.mem_cons.1 a with rfl|a
 ·simp[T0,b]
 ·simp[T0,zax n x a]
theorem zeU(n:Nat)(h:n<100):U4 (Y8 n)=true:=by
 rw[Qo]
 by_cases c:n<10
 ·rw[Lib.decDigits_one c]
  have: ∀q:Fin 10,U4 [UInt8.ofNat (48+q.val)]=true:=by decide
  exact this ⟨n,c⟩
 ·rw[Lib.decDigits_two c h]
  have: ∀a:Fin 10,∀b:Fin 10,a.val≠0->U4 [UInt8.ofNat (48+a.val),UInt8.ofNat (48+b.val)]=true:=by decide
  exact this ⟨n/10,by omega⟩ ⟨n%10,by omega⟩ (by simp only;omega)
theorem X0(l:List Pc):Jq (zG (.sp 32::l)):=by intro c a;simp[N5,Pc.P8]at a;subst a;decide
theorem T7{c:UInt8}(h:T0 c=false)(t:Bs)(l:List Pc)(k:Nat):Jq (zG (.w k (c::t)::l)):=by intro d a;simp[N5,Pc.P8]at a;subst a;exact h
theorem Q5{l:List Pc}(h:Q4 l):Q4 (.sp 32::l):=⟨by decide,h⟩
theorem O1{c:UInt8}{l:List Pc}(a:c∈([40,41,123,125,44,59,58,64,43,45,42,47,37]:Bs))(h:Q4 l):Q4 (.w 4 [c]::l):=⟨ze1 a,by simp,h⟩
theorem zaw{w:Bs}{l:List Pc}(a:w∈W7)(h:Q4 l):Q4 (.w 4 w::l):=by
 have b: ∀w∈W7,w.length=2:=by decide
 refine⟨by rw[b w a];exact zfc a,by rw[b w a];decide,h⟩
theorem zd4{c:UInt8}{l:List Pc}(a:c∈([60,62,61,33]:Bs))(h:Q4 (.sp 32::l)):Q4 (.w 4 [c]::.sp 32::l):=⟨zbn a (.inl rfl),by simp,h⟩
theorem zfj{l:List Pc}(h:Q4 (.w 4 [40]::l)):Q4 (.w 4 [33]::.w 4 [40]::l):=⟨zbn (c:=33) (by decide) (.inr rfl),by simp,h⟩
theorem jk{w:Bs}{l:List Pc}(a:N3 w=true)(b:Jq (zG l))(h:Q4 l):Q4 (.w 2 w::l):=⟨zdW a b,by simp only[N3,F4,F2]at a;omega,h⟩
theorem qH{w:Bs}{l:List Pc}(a:w∈zt)(b:Jq (zG l))(h:Q4 l):Q4 (.w 3 w::l):=⟨zfh a b,by
 have c: ∀w∈zt,0<w.length:=by decide
 exact c w a,h⟩
theorem zdq{n:Nat}{l:List Pc}(a:n<100)(b:Jq (zG l))(h:Q4 l):Q4 (.w 1 (Y8 n)::l):=⟨YI (zeU n a) (ZL n) b,List.length_pos_iff.2 (ZL n),h⟩
theorem zct(o:Nat): ∃c,Jm o=[c]/\c∈([40,41,123,125,44,59,58,64,43,45,42,47,37]:Bs):=by unfold Jm;split<;>exact⟨_,rfl,by decide⟩
theorem zfs(o:Nat){l:List Pc}(h:Q4 (.sp 32::l)):Q4 (.w 4 (QN o)::.sp 32::l):=by
 unfold QN;split<;>first|exact zd4 (by decide) h|exact zaw (by decide) h
theorem zgP(k:Nat):tfL k∈zt:=by unfold tfL;split<;>decide
theorem XS{s:Bs}(n:Nat)(hs:s.all qm=false):(Y8 n==s)=false:=by
 rw[B0];rintro rfl;rw[List.all_eq_true.2 (zax n)]at hs;cases hs
theorem zbj{a b:Nat}(c:a<10)(d:b<10)(h:UInt8.ofNat (48+a)=UInt8.ofNat (48+b)):a=b:=by
 have:=I1 UInt8.toNat h;simp at this;omega
theorem Jp: ∀a b:Nat,Lib.decDigits a=Lib.decDigits b->a=b:=by
 intro a
 induction a using Nat.strongRecOn with
 |_ a g=>
  intro b h;have e:=I1 List.length h;rw[Lib.decDigits_length,Lib.decDigits_length]at e
  by_cases d:a<10
  ·by_cases c:b<10
   ·rw[Lib.decDigits_one d,Lib.decDigits_one c]at h
    injection h with h
    exact zbj d c h
   ·rw[Lib.nDigits_small d,Lib.nDigits_big c]at e
    have:=Lib.nDigits_pos (b/10);omega
  ·by_cases c:b<10
   ·rw[Lib.nDigits_small c,Lib.nDigits_big d]at e
    have:=Lib.nDigits_pos (a/10);omega
   ·rw[Lib.decDigits,Lib.decDigits.eq_1 b,dif_neg d,dif_neg c]at h
    obtain⟨i,f⟩:=List.append_inj' h rfl;injection f with f
    have j:=g (a/10) (by omega) (b/10) i;have k:=zbj (by omega) (by omega) f;omega
theorem ZZ{a b:Nat}(h:Y8 a=Y8 b):a=b:=by
 have e: ∀n:Nat,Y8 n=Lib.decDigits n:=by intro n;unfold Y8 Lib.itoa;rw[B5 (by omega)];simp
 rw[e,e]at h;exact Jp a b h
theorem zb1{a b:ByteArray}(h:a=b):a.data.toList=b.data.toList:=by rw[h]
theorem zhE{a b:Nat}(h:vT a=vT b):a=b:=by
 have:=zb1 h;rw[zaL,zaL]at this;injection this with _ this
 exact ZZ this
theorem zhz{a b:Nat}(h:iT a=iT b):a=b:=by
 have:=zb1 h;rw[zaO,zaO]at this;injection this with _ this
 exact ZZ this
theorem zf8(a b:Nat):vT a≠iT b:=by
 intro h;have:=zb1 h;rw[zaL,zaO]at this;injection this with this _
 revert this;decide
theorem ziD{s:ByteArray}(hs:s∈pq)(a:Nat):s≠vT a/\s≠iT a:=by
 simp only[pq,E7,List.mem_nil_iff,or_false]at hs;refine⟨λh=>?_,λh=>?_⟩
 all_goals
  have:=zb1 h
  first|rw[zaL]at this|rw[zaO]at this
  rcases hs with rfl|rfl<;>(injection this with this _;revert this;decide)
def fN(j:Nat):ByteArray:=⟨(fL j).toArray⟩
theorem zhN{a b:Nat}(h:fN a=fN b):a=b:=by
 have:=zb1 h;unfold fN at this;rw[Yg,Yg]at this;injection this with _ this
 exact ZZ this
theorem zbd(a:Nat):fN a≠⟨#[109,97,105,110]⟩:=by
 intro h;have:=zb1 h;unfold fN at this;rw[Yg]at this;injection this with this _
 revert this;decide
end Go.Proofs.YtalgmjmibamdfaaGreatDoor
