/- Merged. -/
import Derived.Test.YtalgmjmibamdfaaGreatDoorVS21c
set_option linter.all false
namespace Go.Proofs.YtalgmjmibamdfaaGreatDoor
open Go.RowKit Tw
theorem ZH(k:Nat): ∀u:Nat,u<10^(k+1)->Lib.nDigits u<=k+1:=by
 induction k with
 |zero=>intro u h;rw[Lib.nDigits_small (by simpa using h)];omega
 |succ k b=>
  intro u h
  by_cases a:u<10
  ·rw[Lib.nDigits_small a];omega
  ·rw[Lib.nDigits_big a]
   have:=b (u/10) (by rw[Nat.pow_succ]at h;omega);omega
theorem zbJ(n:Nat):(jo n).size=Lib.nDigits n:=by
 have:(Lib.itoa (n:Int))=Lib.decDigits n:=by unfold Lib.itoa;rw[z7 (by omega)];simp
 unfold jo;rw[this];show(Lib.decDigits n).toArray.size=_;rw[D4,Lib.decDigits_length]
theorem jw(k n:Nat)(h:n<10^(k+1)):(jo n).size<=k+1:=by rw[zbJ];exact ZH k n h
def NsS(ns:List ByteArray):Prop:= ∀s∈ns,s.size<=5
theorem Nx.le{N n i k a:Nat}(h:Nx N n i k a):i<=a/\a<=N/\i<=N:=by
 rcases h.2 with h|h<;>omega
theorem ze.sz{N:Nat}{ns:List ByteArray}{low d i c:Nat}{x:GE}(e:NsS ns)(v:low<=2)(h:ze N ns low d i x c):i<=c/\c<=N/\x.O4.size<=5+20*(c-i):=by
 have p: ∀o,(yv o).size=1:=by intro o;unfold yv;split<;>rfl
 induction h with
 |yE a q r=>have:=e _ (B0 r);have:=a.le;have:=q.le;simp only[GE.O4];omega
 | @lit d i w g k n a h=>have:=jw 1 n (by have:=h.1;omega);have:=a.le;have:=h.le;simp only[GE.O4];omega
 |neg a _ s=>simp only[GE.O4,B7,O8,D4,y6,y9];omega
 | @call d i g m t f x y a b _ _ j l=>
   have:=jw 0 f (by have:=b.1;omega);have:=b.le;simp only[GE.O4,B7,O8,D4,y6,y9];omega
 | @host d i g m k x a b _ s=>
   have:=jw 0 k (by have:=b.1;omega);have:=b.le;simp only[GE.O4,B7,O8,D4,y6,y9];omega
 | @Qg d i g m t o x y a _ u _ j l=>
   have:=u.le;simp only[GE.O4,B7,p,O8,D4,y6,y9];omega
theorem zm.sz{N:Nat}{ns:List ByteArray}{low d i e:Nat}{x:GE}(c:NsS ns)(j:low<=2)(r:d<=2)(h:zm N ns low d i x e):i<=e/\e<=N/\x.O4.size<=14+3*d+20*(e-i):=by
 have l: ∀o,(Zr o).size<=4:=by intro o;unfold Zr;split<;>decide
 have m: ∀o,(tfT o).size<=5:=by intro o;unfold tfT;split<;>decide
 induction h with
 | @not d _ _ _ _ _ f _ n=>have:=f.le;have:=n (by omega);simp only[GE.O4,B7,O8,D4,y6,y9];omega
 | @and d _ _ _ _ _ _ _ _ a b=>have:=a (by omega);have:=b (by omega);simp only[GE.O4,B7,O8,D4,y6,y9];omega
 | @or d _ _ _ _ _ _ _ _ a b=>have:=a (by omega);have:=b (by omega);simp only[GE.O4,B7,O8,D4,y6,y9];omega
 | @tf d _ _ k _ g=>have:=m k;have:=g.le;simp only[GE.O4];omega
 | @XU d i s t u v k o x y p f q g=>have:=p.le;have:=f.sz c j;have:=q.le;have:=g.sz c j;have:=l o;simp only[GE.O4,B7];omega
def SzB(N Z:Nat)(s:Ms)(g:GL)(s':Ms):Prop:=s.m<=s'.m/\(NsS s.ns->s'.m<=9998->s.i<=s'.i/\s'.i<=N/\g.O4.size<=Z+60*(s'.i-s.i)/\NsS s'.ns)
theorem zg5(m:Nat)(h:m<=9998):(vT m).size<=5:=by
 have:=jw 3 m (by omega);simp only[vT,B7,O8,D4,y6,y9];omega
theorem zgY(m:Nat)(h:m<=9998):(iT m).size<=5:=by
 have:=jw 3 m (by omega);simp only[iT,B7,O8,D4,y6,y9];omega
theorem xR.sz{N low:Nat}{B:Ms->GL->Ms->Prop}(q:low<=2)(r: ∀s g s',B s g s'->SzB N 0 s g s'/\s'.ns=s.ns){s:Ms}{g:GL}{s':Ms}(h:xR N low B s g s'):SzB N 20 s g s':=by
 refine⟨?_,?_⟩
 ·cases h with
  |Qc _ _ y v=>have e:=(r _ _ _ y).1.1;have w:=(r _ _ _ v).1.1;exact B5 e w
  |qv _ _ v=>have e:=(r _ _ _ v).1.1;simp only at e|-;omega
  |bind _ _=>exact Nat.le_succ _
  |_=>exact x6 _
 cases h with
 | @set t m i I u J j s x p e z f=>
   intro d o;have:=d _ (B0 z);have:=p.le;have:=e.le;have:=f.sz d q;refine⟨by simp only;omega,by simp only;omega,?_,d⟩;simp only[GL.O4,B7,O8,D4,y6,y9];omega
 | @qH t m i u x p f=>
   intro d o;have:=f.sz d q;refine⟨by simp only;omega,by simp only;omega,?_,d⟩;simp only[GL.O4,B7,O8,D4,y6,y9];omega
 | @Qc t m i u c a b Q K p L y v=>
   intro d o;have:=L.sz d q (by decide);obtain⟨e,w⟩:=r _ _ _ y;obtain⟨E,R⟩:=r _ _ _ v;obtain⟨S,M,T,O⟩:=E.2 (by rw[w];exact d) o;obtain⟨A,F,C,G⟩:=e.2 d (by have:=E.1;omega);simp only at A C;refine⟨by simp only;omega,M,?_,O⟩;simp only[GL.O4,B7,O8,D4,y6,y9];omega
 | @qv t m i u n l K p H D=>
   intro d o;obtain⟨e,w⟩:=r _ _ _ D;obtain⟨A,F,C,G⟩:=e.2 d o;have P:=e.1;simp only at A P C;have:=zgY (m+1) (by omega);have:=jw 0 n (by have:=H.1;omega);have:=H.le;refine⟨by simp only;omega,F,?_,G⟩;simp only[GL.O4,B7,O8,D4,y6,y9];omega
 | @run t m i u x p f=>
   intro d o;have:=f.sz d q;refine⟨by simp only;omega,by simp only;omega,?_,d⟩;simp only[GL.O4,B7,O8,D4,y6,y9];omega
 | @ret t m i u J k x p e f=>
   intro d o;have:=e.le;have:=f.sz d q;refine⟨by simp only;omega,by simp only;omega,?_,d⟩;simp only[GL.O4,B7,O8,D4,y6,y9];omega
 | @bind t m i I u x p f=>
   intro d o;have:=f.sz d q;have:=zg5 (m+1) o;refine⟨by simp only;omega,by simp only;omega,?_,?_⟩
   ·simp only[GL.O4,B7,O8,D4,y6,y9];omega
   ·intro s z
    rcases List.mem_append.1 z with h|h
    ·exact d s h
    ·simp at h;subst h;assumption
theorem Run.sz{N:Nat}{S:Ms->GL->Ms->Prop}(e: ∀s g s',S s g s'->SzB N 20 s g s'){j:Nat}{s:Ms}{g:GL}{s':Ms}(h:Run S j s g s'):s.m<=s'.m/\(NsS s.ns->s.i<=N->s'.m<=9998->s.i<=s'.i/\s'.i<=N/\g.O4.size<=20*j+60*(s'.i-s.i)/\NsS s'.ns):=by
 induction h with
 |nil=>exact⟨x6 _,λa b _=>⟨x6 _,b,by simp[GL.O4,ByteArray.size],a⟩⟩
 | @jB j s p q g x r f d=>
   have c:=e _ _ _ f;refine⟨B5 d.1 c.1,λa b k=>?_⟩;obtain⟨t,u,v,l⟩:=d.2 a b (by have:=c.1;omega);obtain⟨w,n,y,o⟩:=c.2 l k;refine⟨by omega,n,?_,o⟩;rw[GL.JW,B7];omega
theorem jD.sz{N:Nat}{S:Ms->GL->Ms->Prop}(i: ∀s g s',S s g s'->SzB N 20 s g s'){s:Ms}{g:GL}{s':Ms}(h:jD N S s g s'):SzB N 0 s g s'/\s'.ns=s.ns:=by
 obtain⟨j,r,t,a,k,rfl⟩:=h;have c:=k.sz i;refine⟨⟨c.1,λd e=>?_⟩,rfl⟩;have b:=a.le;obtain⟨l,f,m,u⟩:=c.2 d b.2.1 e;simp only at l f m e|-
 refine⟨by omega,f,?_,d⟩;have n:j<=3:=by have:=a.1;omega
 rcases a.2 with⟨o,p⟩|⟨o,p,q⟩
 ·omega
 ·subst q;omega
theorem QB.sz{N low:Nat}(a:low<=2): ∀(d:Nat)(s:Ms)(g:GL)(s':Ms),QB N low d s g s'->SzB N 0 s g s'/\s'.ns=s.ns:=by
 intro d
 induction d with
 |zero=>intro s g s' h;exact jD.sz (λs g s' h=>xR.sz a (λ_ _ _ h=>h.elim) h) h
 |succ d b=>intro s g s' h;exact jD.sz (λs g s' h=>xR.sz a b h) h
theorem jR.mono{N j i m b:Nat}{fs:List (GL×GE)}(o:j<=2)(hi:i<=N)(h:jR N j i fs m b):m<=129*j/\i<=b/\b<=N/\(jM 0 fs).size<=60*j+60*(b-i):=by
 induction h with
 |nil=>exact⟨by simp,x6 _,hi,by simp[jM,ByteArray.size]⟩
 | @jB j i p q r t u fs g x f d k l=>
   obtain⟨v,w,y,z⟩:=l (by omega) hi;have e:=(QB.R1 (low:=j) (by omega) 2 _ _ _ d).1 zeC (by simp only;have:QA 2=129:=rfl;omega);have a:=(QB.sz (low:=j) (by omega) 2 _ _ _ d).1.2 (by intro s a;simp only[pq,D9,List.mem_nil_iff,or_false]at a;rcases a with rfl|rfl<;>decide) (by have:=e.2.1;simp only at this|-;have:QA 2=129:=rfl;omega);have A:=k.sz (by intro s a;simp only[pq,D9,List.mem_nil_iff,or_false]at a;rcases a with rfl|rfl<;>decide) (by omega);have n:=e.2.1;simp only at a n;have:QA 2=129:=rfl;have B:=jw 0 j (by omega);refine⟨by omega,by omega,by omega,?_⟩;rw[ZD,f.xy];simp only[zbA,Nat.zero_add,B7,O8,D4,y6,y9];omega
theorem Jt.zh0{N:Nat}{t:ByteArray}(h:Jt N t):t.size<=4000:=by
 obtain⟨k,o,g,x,p,q,r,u,v,w,y,d,f,e,i,rfl⟩:=h;have b:k<=2:=by have:=d.1;omega
 have j:=d.le;obtain⟨z,A,B,C⟩:=f.mono b j.2.1;have l:=(QB.R1 (low:=k) b 3 _ _ _ e).1 (by intro s a;simp at a) (by simp only;have:QA 3=777:=rfl;omega);have m:=l.2.1;simp only at m;have:QA 3=777:=rfl;have a:=(QB.sz (low:=k) b 3 _ _ _ e).1.2 (by intro s a;simp at a) (by simp only;omega);have n:=i.sz (by intro s a;simp at a) b;simp only at a;simp only[yT,B7,O8,D4,y6,y9];omega
def W4(n:Nat):Bs:=Lib.itoa (n:Int)
theorem ZG(n:Nat):(jo n).data.toList=W4 n:=rfl
def Qu(o:Nat):Bs:=match o with|0=>[43]|1=>[45]|2=>[42]|3=>[47]|_=>[37]
def ZU(o:Nat):Bs:=match o with|0=>[60]|1=>[60,61]|2=>[62]|3=>[62,61]|4=>[61,61]|_=>[33,61]
def tfL(k:Nat):Bs:=match k with|0=>[116,114,117,101]|_=>[102,97,108,115,101]
def vL(m:Nat):Bs:=118::W4 m
def iL(m:Nat):Bs:=105::W4 m
def fL(m:Nat):Bs:=102::W4 m
def GE.U4:GE->List Pc
 |.yE s=>[.w 2 s.data.toList]
 |.lit n=>[.w 1 (W4 n)]
 |.neg x=>[.w 4 [45],.w 4 [40]]++x.U4++[.w 4 [41]]
 |.call f x y=>[.w 2 (fL f)]++[.w 4 [40]]++x.U4++[.w 4 [44],.sp 32]++y.U4++[.w 4 [41]]
 |.host k x=>[.w 4 [64]]++[.w 1 (W4 k)]++[.w 4 [40]]++x.U4++[.w 4 [41]]
 |.Qg o x y=>[.w 4 [40]]++x.U4++[.sp 32]++[.w 4 (Qu o)]++[.sp 32]++y.U4++[.w 4 [41]]
 |.not x=>[.w 4 [33],.w 4 [40]]++x.U4++[.w 4 [41]]
 |.and x y=>[.w 4 [40]]++x.U4++[.sp 32,.w 4 [38,38],.sp 32]++y.U4++[.w 4 [41]]
 |.or x y=>[.w 4 [40]]++x.U4++[.sp 32,.w 4 [124,124],.sp 32]++y.U4++[.w 4 [41]]
 |.tf k=>[.w 3 (tfL k)]
 |.XU o x y=>x.U4++[.sp 32]++[.w 4 (ZU o)]++[.sp 32]++y.U4
def GL.U4:GL->List Pc
 |.nil=>[]
 |.set s x r=>[.w 2 s.data.toList]++[.sp 32,.w 4 [61],.sp 32]++x.U4++[.w 4 [59],.sp 32]++r.U4
 |.qH x r=>[.w 3 [121,105,101,108,100],.sp 32]++x.U4++[.w 4 [59],.sp 32]++r.U4
 |.Qc c a b r=>[.w 3 [105,102],.sp 32]++c.U4++[.sp 32,.w 4 [123],.sp 32]++a.U4++[.w 4 [125],.sp 32,.w 3 [101,108,115,101],.sp 32,.w 4 [123],.sp 32]++b.U4++[.w 4 [125],.sp 32]++r.U4
 |.qv i n l r=>[.w 3 [108,101,116],.sp 32]++[.w 2 (iL i)]++[.sp 32,.w 4 [61],.sp 32,.w 1 [48],.w 4 [59],.sp 32,.w 3 [119,104,105,108,101],.sp 32]++[.w 2 (iL i)]++[.sp 32,.w 4 [60],.sp 32]++[.w 1 (W4 n)]++[.sp 32,.w 4 [123],.sp 32]++l.U4++[.w 2 (iL i)]++[.sp 32,.w 4 [61],.sp 32]++[.w 2 (iL i)]++[.sp 32,.w 4 [43],.sp 32,.w 1 [49],.w 4 [59],.sp 32,.w 4 [125],.sp 32]++r.U4
 |.run x r=>x.U4++[.w 4 [59],.sp 32]++r.U4
 |.ret x r=>[.w 3 [114,101,116,117,114,110],.sp 32]++x.U4++[.w 4 [59],.sp 32]++r.U4
 |.bind i x r=>[.w 3 [108,101,116],.sp 32]++[.w 2 (vL i)]++[.sp 32,.w 4 [61],.sp 32]++x.U4++[.w 4 [59],.sp 32]++r.U4
theorem zgh:(⟨#[]⟩:ByteArray).data.toList=[]:=rfl
theorem ZK(a b:ByteArray):(a++b).data.toList=a.data.toList++b.data.toList:=by rw[ByteArray.data_append,Array.toList_append]
theorem XH(l:List UInt8):(⟨l.toArray⟩:ByteArray).data.toList=l:=by simp
theorem zfD: ∀o:Nat,(yv o).data.toList=Qu o
 |0=>rfl|1=>rfl|2=>rfl|3=>rfl|_+4=>rfl
theorem zfT: ∀o:Nat,(Zr o).data.toList=32::(ZU o++[32])
 |0=>rfl|1=>rfl|2=>rfl|3=>rfl|4=>rfl|_+5=>rfl
theorem zhB: ∀o:Nat,(tfT o).data.toList=tfL o
 |0=>rfl|_+1=>rfl
theorem Yg(m:Nat):(vT m).data.toList=vL m:=by unfold vT vL;rw[ZK,ZG];rfl
theorem Yl(m:Nat):(iT m).data.toList=iL m:=by unfold iT iL;rw[ZK,ZG];rfl
theorem O7:za []=[]:=rfl
theorem GE.QW(x:GE):x.O4.data.toList=za x.U4:=by
 induction x<;>simp only[GE.O4,GE.U4,ZK,O0,M2,O7,Pc.O4,ZG,zfD,zfT,zhB,fL, *]<;>simp
theorem GL.QW(g:GL):g.O4.data.toList=za g.U4:=by
 induction g<;>simp only[GL.O4,GL.U4,ZK,O0,M2,O7,Pc.O4,ZG,Yg,Yl,GE.QW,zgh, *]<;>simp
theorem ZT(n:Nat):W4 n=Lib.decDigits n:=by unfold W4 Lib.itoa;rw[z7 (by omega)];simp
theorem Xq(n:Nat):(W4 n).length=Lib.nDigits n:=by rw[ZT,Lib.decDigits_length]
theorem Ys(n:Nat): ∀c∈W4 n,zI c=true:=by
 intro c a;rw[ZT,Lib.decDigits_eq]at a;obtain⟨t,_,rfl⟩:=List.mem_map.1 a;have b: ∀q:Fin 10,zI (UInt8.ofNat (48+q.val))=true:=by decide
 exact b ⟨n/10^(Lib.nDigits n-1-t)%10,Nat.mod_lt _ (by decide)⟩
theorem yW(n:Nat):W4 n≠[]:=by
 intro h;have a:=Xq n;rw[h]at a;have:=Lib.nDigits_pos n;simp at a;omega
theorem yf{c:UInt8}(b:xn c=true)(n:Nat)(g:n<10^10):L9 (c::W4 n)=true:=by
 have o:(W4 n).length<=10:=by rw[Xq];exact ZH 9 n g
 have i:zC (c::W4 n)=false:=by
  unfold zC;rw[<-Bool.not_eq_true,List.contains_iff_mem];intro j;have k:Z2.all (λw=>!zI (w.getD 1 97))=true:=by decide
  have e:=List.all_eq_true.1 k _ j;obtain⟨d,l,f⟩: ∃d l,W4 n=d::l:=by
   cases h:W4 n with
   |nil=>exact G5 h (yW n)
   |cons d l=>exact⟨d,l,rfl⟩
  have m:=Ys n d (by rw[f];exact z5 ..);rw[f]at e;simp[m]at e
 simp only[L9,E4,E2,Bool.not_eq_true',F4];refine⟨⟨⟨⟨by simp,by simp;omega⟩,b⟩,i⟩,?_⟩;intro x a
 rcases List.mem_cons.1 a with rfl|a
 ·simp[Q7,b]
 ·simp[Q7,Ys n x a]
theorem zeg(n:Nat)(h:n<100):S4 (W4 n)=true:=by
 rw[ZT]
 by_cases c:n<10
 ·rw[Lib.decDigits_one c]
  have: ∀q:Fin 10,S4 [UInt8.ofNat (48+q.val)]=true:=by decide
  exact this ⟨n,c⟩
 ·rw[Lib.decDigits_two c h]
  have: ∀a:Fin 10,∀b:Fin 10,a.val≠0->S4 [UInt8.ofNat (48+a.val),UInt8.ofNat (48+b.val)]=true:=by decide
  exact this ⟨n/10,by omega⟩ ⟨n%10,by omega⟩ (by simp only;omega)
theorem U1(l:List Pc):Qv (za (.sp 32::l)):=by intro c a;simp[M2,Pc.O4]at a;subst a;decide
theorem R6{c:UInt8}(h:Q7 c=false)(t:Bs)(l:List Pc)(k:Nat):Qv (za (.w k (c::t)::l)):=by intro d a;simp[M2,Pc.O4]at a;subst a;exact h
theorem P0{l:List Pc}(h:O9 l):O9 (.sp 32::l):=⟨by decide,h⟩
theorem M7{c:UInt8}{l:List Pc}(a:c∈([40,41,123,125,44,59,58,64,43,45,42,47,37]:Bs))(h:O9 l):O9 (.w 4 [c]::l):=⟨zdI a,by simp,h⟩
theorem Yk{w:Bs}{l:List Pc}(a:w∈T8)(h:O9 l):O9 (.w 4 w::l):=by
 have b: ∀w∈T8,w.length=2:=by decide
 refine⟨by rw[b w a];exact zdG a,by rw[b w a];decide,h⟩
theorem zcr{c:UInt8}{l:List Pc}(a:c∈([60,62,61,33]:Bs))(h:O9 (.sp 32::l)):O9 (.w 4 [c]::.sp 32::l):=⟨YS a (.inl rfl),by simp,h⟩
theorem zdu{l:List Pc}(h:O9 (.w 4 [40]::l)):O9 (.w 4 [33]::.w 4 [40]::l):=⟨YS (c:=33) (by decide) (.inr rfl),by simp,h⟩
theorem qC{w:Bs}{l:List Pc}(a:L9 w=true)(b:Qv (za l))(h:O9 l):O9 (.w 2 w::l):=⟨zcB a b,by simp only[L9,E4,E2]at a;omega,h⟩
theorem zZ{w:Bs}{l:List Pc}(a:w∈Z2)(b:Qv (za l))(h:O9 l):O9 (.w 3 w::l):=⟨zdN a b,by
 have c: ∀w∈Z2,0<w.length:=by decide
 exact c w a,h⟩
theorem zcG{n:Nat}{l:List Pc}(a:n<100)(b:Qv (za l))(h:O9 l):O9 (.w 1 (W4 n)::l):=⟨XN (zeg n a) (yW n) b,List.length_pos_iff.2 (yW n),h⟩
theorem zbR(o:Nat): ∃c,Qu o=[c]/\c∈([40,41,123,125,44,59,58,64,43,45,42,47,37]:Bs):=by unfold Qu;split<;>exact⟨_,rfl,by decide⟩
theorem zdJ(o:Nat){l:List Pc}(h:O9 (.sp 32::l)):O9 (.w 4 (ZU o)::.sp 32::l):=by
 unfold ZU;split<;>first|exact zcr (by decide) h|exact Yk (by decide) h
theorem zfu(k:Nat):tfL k∈Z2:=by unfold tfL;split<;>decide
theorem JI{s:Bs}(n:Nat)(hs:s.all zI=false):(W4 n==s)=false:=by
 rw[y8];rintro rfl;rw[List.all_eq_true.2 (Ys n)]at hs;cases hs
theorem zax{a b:Nat}(c:a<10)(d:b<10)(h:UInt8.ofNat (48+a)=UInt8.ofNat (48+b)):a=b:=by
 have:=G4 UInt8.toNat h;simp at this;omega
theorem Qp: ∀a b:Nat,Lib.decDigits a=Lib.decDigits b->a=b:=by
 intro a
 induction a using Nat.strongRecOn with
 |_ a g=>
  intro b h;have e:=G4 List.length h;rw[Lib.decDigits_length,Lib.decDigits_length]at e
  by_cases d:a<10
  ·by_cases c:b<10
   ·rw[Lib.decDigits_one d,Lib.decDigits_one c]at h
    injection h with h
    exact zax d c h
   ·rw[Lib.nDigits_small d,Lib.nDigits_big c]at e
    have:=Lib.nDigits_pos (b/10);omega
  ·by_cases c:b<10
   ·rw[Lib.nDigits_small c,Lib.nDigits_big d]at e
    have:=Lib.nDigits_pos (a/10);omega
   ·rw[Lib.decDigits,Lib.decDigits.eq_1 b,dif_neg d,dif_neg c]at h
    obtain⟨i,f⟩:=List.append_inj' h rfl;injection f with f
    have j:=g (a/10) (by omega) (b/10) i;have k:=zax (by omega) (by omega) f;omega
theorem ZX{a b:Nat}(h:W4 a=W4 b):a=b:=by
 have e: ∀n:Nat,W4 n=Lib.decDigits n:=by intro n;unfold W4 Lib.itoa;rw[z7 (by omega)];simp
 rw[e,e]at h;exact Qp a b h
theorem zbd{a b:ByteArray}(h:a=b):a.data.toList=b.data.toList:=by rw[h]
theorem zf5{a b:Nat}(h:vT a=vT b):a=b:=by
 have:=zbd h;rw[Yg,Yg]at this;injection this with _ this
 exact ZX this
theorem zfY{a b:Nat}(h:iT a=iT b):a=b:=by
 have:=zbd h;rw[Yl,Yl]at this;injection this with _ this
 exact ZX this
theorem zeA(a b:Nat):vT a≠iT b:=by
 intro h;have:=zbd h;rw[Yg,Yl]at this;injection this with this _
 revert this;decide
theorem zhM{s:ByteArray}(hs:s∈pq)(a:Nat):s≠vT a/\s≠iT a:=by
 simp only[pq,D9,List.mem_nil_iff,or_false]at hs;refine⟨λh=>?_,λh=>?_⟩
 all_goals
  have:=zbd h
  first|rw[Yg]at this|rw[Yl]at this
  rcases hs with rfl|rfl<;>(injection this with this _;revert this;decide)
def fN(j:Nat):ByteArray:=⟨(fL j).toArray⟩
theorem zfb{a b:Nat}(h:fN a=fN b):a=b:=by
 have:=zbd h;unfold fN at this;rw[XH,XH]at this;injection this with _ this
 exact ZX this
theorem zac(a:Nat):fN a≠⟨#[109,97,105,110]⟩:=by
 intro h;have:=zbd h;unfold fN at this;rw[XH]at this;injection this with this _
 revert this;decide
def Yh(j:Nat)(g:GL)(x:GE):List Pc:=[.w 3 [102,117,110],.sp 32]++[.w 2 (fL j)]++[.w 4 [40],.w 2 [112],.w 4 [58],.sp 32,.w 3 [105,110,116],.w 4 [44],.sp 32,.w 2 [113],.w 4 [58],.sp 32,.w 3 [105,110,116],.w 4 [41],.w 4 [58],.sp 32,.w 3 [105,110,116],.sp 32,.w 4 [123],.sp 32]++g.U4++[.w 3 [114,101,116,117,114,110],.sp 32]++x.U4++[.w 4 [59],.sp 32,.w 4 [125],.sp 10]
def jT:Nat->List (GL×GE)->List Pc
 |_,[]=>[]
 |j,(g,x)::r=>Yh j g x++jT (j+1) r
def Zp(g:GL)(x:GE):List Pc:=[.w 3 [102,117,110],.sp 32,.w 2 [109,97,105,110],.w 4 [40],.w 4 [41],.w 4 [58],.sp 32,.w 3 [105,110,116],.sp 32,.w 4 [123],.sp 32]++g.U4++[.w 3 [114,101,116,117,114,110],.sp 32]++x.U4++[.w 4 [59],.sp 32,.w 4 [125]]
def zP(fs:List (GL×GE))(g:GL)(x:GE):List Pc:=jT 0 fs++Zp g x
theorem zgj(j:Nat)(g:GL)(x:GE):(zbA j g x).data.toList=za (Yh j g x):=by
 simp only[zbA,Yh,ZK,O0,M2,O7,Pc.O4,ZG,GL.QW,GE.QW,fL];simp
theorem YU: ∀(fs:List (GL×GE))(j:Nat),(jM j fs).data.toList=za (jT j fs)
 |[],_=>rfl
 |(g,x)::r,j=>by simp only[jM,jT,ZK,O0,zgj,YU r (j+1)]
theorem zaV(fs:List (GL×GE))(g:GL)(x:GE):(yT fs g x).data.toList=za (zP fs g x):=by
 simp only[yT,zP,Zp,ZK,O0,M2,O7,Pc.O4,GL.QW,GE.QW,YU];simp
def NsG(ns:List ByteArray):Prop:= ∀s∈ns,R5 s=true
def jS(us:List Fn)(low:Nat):Prop:= ∀f,f<low-> ∃fn∈us,fn.K3=⟨(fL f).toArray⟩/\fn.I4.length=2
def zhp(ws:List Wd)(j K:Nat):Prop:=K6 ws j qZ=false/\K6 ws j XZ=false/\(K<6->W5 ws j<K)
def Yq(t:Bs)(K:Nat):Bool:=!(t==[40])&&!(t==[61])&&(decide (¬K<6)||decide (lv t<K))
theorem lv5(t:Bs):lv t<=5:=by
 unfold lv;repeat' split
 all_goals omega
structure jl(low d K:Nat)(ns:List ByteArray)(τ:Int)(p:List Pc):Prop where
 ok: ∀rest,O9 rest->Qv (za rest)->O9 (p++rest)
 YL: ∀(ws:List Wd)(en q:Nat)(rest:List Pc),qx ws q (p++rest)->zhp ws (q+nW p) K->
  (K6 ws q zj=false/\K6 ws q Xk=false/\P9 ws q=7)/\ ∃y,De ws en (.jG K q) (.ex y (q+nW p))/\(∀us env,jS us low->(∀s∈ns,s∈env)->Xw us env d τ y)/\ ∀us vs n h,(N0 us vs n h y).length<=(za p).length
section
variable {ws:List Wd}{en q i j c k K d low:Nat}{t:Bs}{ns:List ByteArray}{σ τ:Int}{p p1 p2 rest:List Pc}
theorem zad(h:ws[j]?=some ⟨c,⟨t.toArray⟩,k⟩)(a:Yq t K=true):zhp ws j K:=by
 simp only[Yq,E4,Bool.not_eq_true',Bool.or_eq_true,E2]at a;exact⟨qA (s:=[40]) h a.1.1,qA (s:=[61]) h a.1.2,λb=>by rw[Xi h];exact a.2.resolve_left (λe=>e b)⟩
theorem zcx(h:ws[q]?=some ⟨c,⟨t.toArray⟩,k⟩)(a:(t==[41])=false)(b:(t==[125])=false)(e:hsT c t (K6 ws (q+1) XZ)=7):K6 ws q zj=false/\K6 ws q Xk=false/\P9 ws q=7:=
 ⟨qA (s:=[41]) h a,qA (s:=[125]) h b,by rw[ZR h,e]⟩
theorem QP(h:ws[q]?=some ⟨c,⟨t.toArray⟩,k⟩)(a: ∀e,((t==[41])||(t==[125])||!decide (hsT c t e=7))=false):K6 ws q zj=false/\K6 ws q Xk=false/\P9 ws q=7:=by
 have:=a (K6 ws (q+1) XZ);simp only[Bool.or_eq_false_iff,Bool.not_eq_false',E2]at this;exact zcx h this.1.1 this.1.2 this.2
theorem zeI(h:ws[q]?=some ⟨2,⟨t.toArray⟩,k⟩)(a:L9 t=true)(b:K6 ws (q+1) XZ=false):K6 ws q zj=false/\K6 ws q Xk=false/\P9 ws q=7:=
 zcx h (ya a (by decide)) (ya a (by decide)) (by rw[YP a,b];rfl)
theorem zeP{x:Ex}{c' a:Nat}(b:ws[i]?=some ⟨c,⟨([40]:Bs).toArray⟩,k⟩)(h:De ws en (.jG 1 (i+1)) (.ex x j))(e:ws[j]?=some ⟨c',⟨([41]:Bs).toArray⟩,a⟩):De ws en (.V0 i) (.ex x (j+1)):=
 .par (by rw[qg b];rfl) h (N8 e)
theorem zeH{l:Bs}(h:l.length<=20):(⟨l.toArray⟩:ByteArray).size<=maxLen:=B5 (show l.toArray.size<=20 by simpa using h) (by decide)
theorem jl.k3(h:jl low d 6 ns τ p):jl low d 3 ns τ p:=⟨h.ok,λws en q rest f e=>by
 obtain⟨a,y,b,c⟩:=h.YL ws en q rest f ⟨e.1,e.2.1,λh=>G5 h (by decide)⟩;have:=e.2.2 (by decide);exact⟨a,y,b.yI (by decide) 3 (by decide) (λm g l=>by omega),c⟩⟩
theorem jl.mono{e:Nat}(h:jl low d K ns τ p)(l:d<=e):jl low e K ns τ p:=⟨h.ok,λws en q rest m n=>by
 obtain⟨a,y,b,c,f⟩:=h.YL ws en q rest m n;exact⟨a,y,b,λo g r s=>(c o g r s).mono l,f⟩⟩
theorem jl.Qy(h:jl low d K ns τ p)(r:1<=K/\K<=6)(l:qx ws q (p++rest))(f:ws[q+nW p]?=some ⟨c,⟨t.toArray⟩,k⟩)(o:Yq t 3=true)(u:lv t=0):
 (K6 ws q zj=false/\K6 ws q Xk=false/\P9 ws q=7)/\ ∃y,De ws en (.jG 1 q) (.ex y (q+nW p))/\(∀us e,jS us low->(∀s∈ns,s∈e)->Xw us e d τ y)/\ ∀us vs n h,(N0 us vs n h y).length<=(za p).length:=by
 have g:=zad (K:=3) f o;have v:=Xi f;obtain⟨a,y,b,c⟩:=h.YL ws en q rest l ⟨g.1,g.2.1,λ_=>by omega⟩;exact⟨a,y,b.yI (by omega) 1 (by omega) (λm w x=>by omega),c⟩
theorem zg1(h:jl low d K ns σ p)(s:(t=[45]/\K=6/\σ=1/\τ=1)\/(t=[33]/\K=3/\σ=2/\τ=2)):jl low (d+1) 6 ns τ (.w 4 t::.w 4 [40]::(p++[.w 4 [41]])):=by
 refine⟨λrest C H=>?_,λws en q rest x I=>?_⟩
 ·have l:=M7 (c:=40) (by decide) (h.ok _ (M7 (c:=41) (by decide) C) (R6 (by decide) _ _ _))
  simp only[z9,B2,B4]
  rcases s with⟨rfl,-⟩|⟨rfl,-⟩
  ·exact M7 (by decide) l
  ·exact zdu l
 ·simp only[z9,B2,B4]at x
  obtain⟨⟨J,b⟩,D⟩:=x.w;obtain⟨⟨L,u⟩,z⟩:=D.w;obtain⟨⟨M,m⟩,-⟩:=(qx.skip p z).w;have e:q+nW (.w 4 t::.w 4 [40]::(p++[.w 4 [41]]))=q+1+1+nW p+1:=by simp only[X0,nW];omega
  obtain⟨-,y,E,A,F⟩:=h.Qy (en:=en) (by omega) z m (by decide) (by decide);rw[e];have B:=zeP u E m;have V0: ∀{f o n r k},k≠6->(N0 f o n r (.mk k 0 R0 [y] (L8 ws q en))).length<=(za (.w 4 t::.w 4 [40]::(p++[.w 4 [41]]))).length:=by
   intro f o n r k G;have:=F f o n r;have:=zc7 (us:=f) (vs:=o) (n:=n) (h:=r) (nn:=0) (t:=R0) (a:=y) (p:=L8 ws q en) G;simp only[O0,M2,O7,Pc.O4,y7,y6,y9];have:1<=t.length:=by rcases s with⟨rfl,-⟩|⟨rfl,-⟩<;>decide
   omega
  rcases s with⟨rfl,rfl,rfl,rfl⟩|⟨rfl,rfl,rfl,rfl⟩
  ·exact⟨QP b (by decide),_,.lvl6 (.neg (by rw[qg b];rfl) B),λf g l v=>.mk .neg (by decide) (by simpa using A f g l v),λ_ _ _ _=>V0 (by decide)⟩
  ·exact⟨QP b (by decide),_,.lvl6 (.not (by rw[qg b];rfl) B),λf g l v=>.mk .not (by decide) (by simpa using A f g l v),λ_ _ _ _=>V0 (by decide)⟩
theorem zcL(o:jl low d K ns σ p1)(r:jl low d K ns σ p2)(A:K=3\/K=6)(P:1<=lv t/\lv t<K)(B:Yq t K=true)(C: ∀l,O9 l->O9 (.w 4 t::.sp 32::l))(hs: ∀us a,Sg us a 6 0 ⟨t.toArray⟩ 2 σ τ)(D:t.length<=20):
 jl low (d+1) 6 ns τ (.w 4 [40]::(p1++.sp 32::.w 4 t::.sp 32::(p2++[.w 4 [41]]))):=by
 refine⟨λrest E Q=>?_,λws en q rest s F=>?_⟩
 ·simp only[z9,B2,B4]
  exact M7 (by decide) (o.ok _ (P0 (C _ (r.ok _ (M7 (by decide) E) (R6 (by decide) _ _ _)))) (U1 _))
 ·simp only[z9,B2,B4]at s
  obtain⟨⟨R,g⟩,u⟩:=s.w;obtain⟨⟨S,b⟩,v⟩:=(qx.skip p1 u).sp.w;obtain⟨⟨T,f⟩,-⟩:=(qx.skip p2 v.sp).w;have e:q+nW (.w 4 [40]::(p1++.sp 32::.w 4 t::.sp 32::(p2++[.w 4 [41]])))=q+1+nW p1+1+nW p2+1:=by simp only[X0,nW];omega
  obtain⟨-,U,G,H,I⟩:=o.YL ws en _ _ u (zad b B);obtain⟨-,V,J,L,M⟩:=r.YL ws en _ _ v.sp (zad f (by rcases A with rfl|rfl<;>decide));have N:W5 ws (q+1+nW p1)=lv t:=Xi b;have W:W5 ws (q+1+nW p1+1+nW p2)=0:=Xi f;have X:=lv5 t;have O:=De.two (by omega) (G.yI (by omega) (lv t+1) (by omega) (λm _ _=>by omega)) N (J.yI (by omega) (lv t+1) (by omega) (λm _ _=>by omega)) (by omega);rw[e];refine⟨QP g (by decide),_,.lvl6 (zeP g (O.yI (by omega) 1 (by omega) (λm _ _=>by omega)) f),λus a x y=>?_,λus z n h=>?_⟩
  ·unfold xW;rw[V9 b]
   exact .mk (hs us a) (zeH D) (by simpa using⟨H us a x y,L us a x y⟩)
  ·refine B5 (zdo (I us z) (M us z)) ?_
   simp only[O0,M2,O7,Pc.O4,y7,y6,y9];omega
theorem zeK(r:jl low d 6 ns 1 p1)(s:jl low d 6 ns 1 p2)(N:3<=lv t/\lv t<=4)(y:Yq t 6=true)(z: ∀l,O9 (.sp 32::l)->O9 (.w 4 t::.sp 32::l))(hs: ∀us a,Sg us a 6 0 ⟨t.toArray⟩ 2 1 τ)(A:1<=t.length/\t.length<=20):jl low (d+1) (lv t) ns τ (p1++.sp 32::.w 4 t::.sp 32::p2):=by
 refine⟨λrest B C=>?_,λws en q rest o g=>?_⟩
 ·simp only[z9,B2]
  exact r.ok _ (P0 (z _ (P0 (s.ok _ B C)))) (U1 _)
 ·simp only[z9,B2]at o
  obtain⟨⟨O,b⟩,D⟩:=(qx.skip p1 o).sp.w;have e:q+nW (p1++.sp 32::.w 4 t::.sp 32::p2)=q+nW p1+1+nW p2:=by simp only[X0,nW];omega
  rw[e]at g|-
  obtain⟨f,P,E,F,G⟩:=r.YL ws en _ _ o (zad b y);obtain⟨-,Q,H,I,J⟩:=s.YL ws en _ _ D.sp ⟨g.1,g.2.1,λh=>G5 h (by decide)⟩;have L:W5 ws (q+nW p1)=lv t:=Xi b;have R:=g.2.2 (by omega);refine⟨f,_,.two (by omega) (E.yI (by decide) _ (by omega) (λm _ _=>by omega)) L (H.yI (by decide) _ (by omega) (λm _ _=>by omega)) (by omega),λus a u v=>?_,λus x n h=>?_⟩
  ·unfold xW;rw[V9 b]
   exact .mk (hs us a) (zeH A.2) (by simpa using⟨F us a u v,I us a u v⟩)
  ·have M:=zcm (n:=n) (h:=h) (t:=K4 ws (q+nW p1)) (p:=L8 ws (q+nW p1) en) (G us x) (J us x)
   rw[V9 b,XH,z7 (by omega)]at M;unfold xW;rw[V9 b];simp only[O0,M2,Pc.O4,y7,y6,y9];omega
theorem zeF{o:Nat}(b:jl low d 6 ns 1 p1)(e:jl low d 6 ns 1 p2):jl low (d+1) 3 ns 2 (p1++.sp 32::.w 4 (ZU o)::.sp 32::p2):=by
 have a:lv (ZU o)=3/\Yq (ZU o) 6=true/\1<=(ZU o).length/\(ZU o).length<=20:=by unfold ZU;split<;>decide
 exact a.1▸zeK b e (by omega) a.2.1 (λl h=>zdJ o h) (λg f=>.XU (by rw[XH];exact a.1)) a.2.2
theorem zhG(a:jl low d 6 ns 1 p1)(b:jl low d 6 ns 1 p2):jl low (d+1) 4 ns 1 (p1++.sp 32::.w 4 [43]::.sp 32::p2):=
 zeK (t:=[43]) a b (by decide) (by decide) (λl h=>M7 (by decide) h) (λf e=>.Qg (by decide)) (by decide)
theorem ze2{f:Nat}(hf:f<low)(U:low<=2)(A:jl low d 6 ns 1 p1)(B:jl low d 6 ns 1 p2):jl low (d+1) 6 ns 1 (.w 2 (fL f)::.w 4 [40]::(p1++.w 4 [44]::.sp 32::(p2++[.w 4 [41]]))):=by
 have a:=yf (c:=102) (by decide) f (by omega);refine⟨λrest I V=>?_,λws en q rest C W=>?_⟩
 ·simp only[z9,B2,B4]
  exact qC a (R6 (by decide) _ _ _) (M7 (by decide) (A.ok _ (M7 (by decide) (P0 (B.ok _ (M7 (by decide) I) (R6 (by decide) _ _ _)))) (R6 (by decide) _ _ _)))
 ·simp only[z9,B2,B4]at C
  obtain⟨⟨X,b⟩,J⟩:=C.w;obtain⟨⟨Y,o⟩,D⟩:=J.w;obtain⟨⟨Z,g⟩,E⟩:=(qx.skip p1 D).w;obtain⟨⟨k4,r⟩,-⟩:=(qx.skip p2 E.sp).w;have e:q+nW (.w 2 (fL f)::.w 4 [40]::(p1++.w 4 [44]::.sp 32::(p2++[.w 4 [41]])))=q+1+1+nW p1+1+nW p2+1:=by simp only[X0,nW];omega
  obtain⟨u,z,L,M,N⟩:=A.Qy (en:=en) (by decide) D g (by decide) (by decide);obtain⟨-,F,O,P,Q⟩:=B.Qy (en:=en) (by decide) E.sp r (by decide) (by decide);rw[e];have G:=De.call (en:=en) (l:=[z,F]) (by rw[qg b];exact zaF a) (N8 o) (.first u.1 L (.next (qA (s:=[41]) g (by decide)) (N8 g) O (.jb (N8 r))));rw[V9 b]at G;refine⟨zeI b a (qA (s:=[61]) o (by decide)),_,.lvl6 G,λm v u H=>?_,λm y n h=>?_⟩
  ·obtain⟨fn,R,S,T⟩:=u f hf
   have x:R5 ⟨(fL f).toArray⟩=true:=by unfold R5;rw[XH];exact a
   exact .mk (.call x R S T) (B5 (xl x) (by decide)) (by simpa using⟨M m v u H,P m v u H⟩)
  ·have h3:=N m y n h
   have h4:=Q m y (n+(N0 m y n h z).length) (h+1);rw[N0,z7 (by simp)];have:=ZA m y 7 0 ⟨(fL f).toArray⟩ ([z,F]:List Ex).length;simp only[P6,y7,yh,y9,O0,M2,O7,Pc.O4,y6,fL]at this|-;omega
theorem Xc(n:Nat)(h:n<100):yA ⟨(W4 n).toArray⟩=n:=by
 have: ∀n:Nat,n<100->yA ⟨(W4 n).toArray⟩=n:=by decide+kernel
 exact this n h
theorem zft{n:Nat}(J:n<4)(h:jl low d 6 ns 1 p):jl low (d+1) 6 ns 1 (.w 4 [64]::.w 1 (W4 n)::.w 4 [40]::(p++[.w 4 [41]])):=by
 refine⟨λrest A _=>?_,λws en q rest v L=>?_⟩
 ·simp only[z9,B2,B4]
  exact M7 (by decide) (zcG (by omega) (R6 (by decide) _ _ _) (M7 (by decide) (h.ok _ (M7 (by decide) A) (R6 (by decide) _ _ _))))
 ·simp only[z9,B2,B4]at v
  obtain⟨⟨M,b⟩,B⟩:=v.w;obtain⟨⟨N,f⟩,C⟩:=B.w;obtain⟨⟨O,r⟩,x⟩:=C.w;obtain⟨⟨P,g⟩,-⟩:=(qx.skip p x).w;have e:q+nW (.w 4 [64]::.w 1 (W4 n)::.w 4 [40]::(p++[.w 4 [41]]))=q+1+1+1+nW p+1:=by simp only[X0,nW];omega
  obtain⟨D,y,E,F,G⟩:=h.Qy (en:=en) (by decide) x g (by decide) (by decide);rw[e];have l:=De.host (en:=en) (by rw[qg b];rfl) (qz f) (N8 r) (.first D.1 E (.jb (N8 g)));rw[V9 f,Xc n (by omega)]at l;refine⟨QP b (by decide),_,.lvl6 l,λo s H I=>.mk (.host (by omega) (by omega)) (by decide) (by simpa using F o s H I),λo u m z=>?_⟩;have:=G o u m z;have:=zc7 (us:=o) (vs:=u) (n:=m) (h:=z) (k:=8) (nn:=n) (t:=R0) (a:=y) (p:=L8 ws q en) (by decide);simp only[O0,M2,O7,Pc.O4,y7,y6,y9];omega
theorem Zs{us:List Fn}{vs:N1}{n h:Nat}{k nn:Int}{t:ByteArray}{p:Int}(a:k=1\/k=2\/k=3):(N0 us vs n h (.mk k nn t [] p)).length=1:=by
 rcases a with rfl|rfl|rfl<;>(rw[N0,z7 (by simp)];simp[P6,Ql,jp])
theorem zb3{s:ByteArray}(a:R5 s=true)(l:s∈ns):jl low (d+1) 6 ns 1 [.w 2 s.data.toList]:=by
 refine⟨λrest m b=>qC a b m,λws en q rest b f=>?_⟩;obtain⟨⟨k,e⟩,-⟩:=b.w;have g:=De.yE (en:=en) (by rw[qg e];exact zaF a) f.1;rw[V9 e,zb9]at g;refine⟨zeI e a f.2.1,_,.lvl6 g,λo r _ u=>.mk (.yE a (u s l)) (B5 (xl a) (by decide)) (λ_ h=>nomatch h),λo v n h=>?_⟩;rw[Zs (by simp)];have:L9 s.data.toList=true:=a;simp only[L9,E4,E2]at this;simp only[M2,O7,Pc.O4,List.append_nil];omega
theorem YW{n:Nat}(f:n<100):jl low (d+1) 6 ns 1 [.w 1 (W4 n)]:=by
 refine⟨λrest l b=>zcG f b l,λws en q rest b u=>?_⟩;obtain⟨⟨k,e⟩,-⟩:=b.w;have o:hqT 1 (W4 n)=7:=by simp(disch:=decide) [hqT,JI]
 have g:=De.YO (en:=en) (i:=q) (by rw[qg e];exact o);rw[V9 e,Xc n f]at g;refine⟨zcx e (JI n (by decide)) (JI n (by decide)) (by simp(disch:=decide) [hsT,JI]),_,.lvl6 g,λr s _ v=>.mk (.YO (by omega) (by omega)) (by decide) (λ_ h=>nomatch h),λr x m h=>?_⟩;rw[Zs (by simp)];have:1<=(W4 n).length:=List.length_pos_iff.2 (yW n);simp only[M2,O7,Pc.O4,List.append_nil];omega
theorem zf7{o:Nat}(b:jl low d 6 ns 1 p1)(e:jl low d 6 ns 1 p2):jl low (d+1) 6 ns 1 (.w 4 [40]::(p1++.sp 32::.w 4 (Qu o)::.sp 32::(p2++[.w 4 [41]]))):=by
 obtain⟨c,f,g⟩:=zbR o;have a:3<lv (Qu o)/\Yq (Qu o) 6=true/\(Qu o).length<=20:=by unfold Qu;split<;>decide
 have:=lv5 (Qu o);exact zcL b e (.inr rfl) (by omega) a.2.1 (λl h=>by rw[f];exact M7 g (P0 h)) (λn m=>.Qg (by rw[XH];exact a.1)) a.2.2
theorem ze.ex{N i l:Nat}{x:GE}(e:NsG ns)(m:low<=2)(h:ze N ns low d i x l):jl low (d+1) 6 ns 1 x.U4:=by
 induction h with
 |yE _ _ n=>have g:=B0 n;exact zb3 (e _ g) g
 |lit _ h=>exact YW (by have:=h.1;omega)
 |neg _ _ f=>simp only[GE.U4,B2,z9,B4];exact zg1 f (.inl ⟨rfl,rfl,rfl,rfl⟩)
 |call _ o _ _ a b=>simp only[GE.U4,B2,z9,B4];exact ze2 o.1 m a b
 |host _ r _ f=>simp only[GE.U4,B2,z9,B4];exact zft r.1 f
 |Qg _ _ _ _ a b=>simp only[GE.U4,B2,z9,B4];exact zf7 a b
theorem zm.ex{N i D:Nat}{x:GE}(r:NsG ns)(s:low<=2)(h:zm N ns low d i x D):jl low (d+3) 3 ns 2 x.U4:=by
 induction h with
 |not _ _ E=>simp only[GE.U4,B2,z9,B4];exact(zg1 E (.inr ⟨rfl,rfl,rfl,rfl⟩)).k3
 |and _ _ _ e f=>simp only[GE.U4,B2,z9,B4];exact(zcL e f (.inl rfl) (by decide) (by decide) (λl h=>Yk (by decide) (P0 h)) (λb a=>.log (.inr rfl)) (by decide)).k3
 |or _ _ _ e f=>simp only[GE.U4,B2,z9,B4];exact(zcL e f (.inl rfl) (by decide) (by decide) (λl h=>Yk (by decide) (P0 h)) (λb a=>.log (.inl rfl)) (by decide)).k3
 |XU _ A _ B=>simp only[GE.U4,B2,z9,B4];exact(zeF (A.ex r s) (B.ex r s)).mono (by omega)
 | @tf d i M k _ _=>
   refine⟨λrest F v=>zZ (zfu k) v F,λws en q rest v G=>?_⟩;obtain⟨⟨H,g⟩,-⟩:=v.w;have I:=G.2.2 (by decide);have J:1<=(za (GE.tf k).U4).length:=by simp only[GE.U4,M2,O7,Pc.O4,List.append_nil];unfold tfL;split<;>decide
   have u: ∀{y:Ex},De ws en (.V0 q) (.ex y (q+1))->De ws en (.jG 3 q) (.ex y (q+1)):=λL=>(De.lvl6 L).yI (by decide) 3 (by decide) (λm A B=>by have:W5 ws (q+1)<3:=I;omega);have C: ∀b a n,Sg b a 2 n R0 0 1 2->Xw b a (d+3) 2 (.mk 2 n R0 [] (L8 ws q en)):=λb a n h=>.mk h (by decide) (λ_ h=>nomatch h);have s: ∀b o n h(z:Int),(N0 b o n h (.mk 2 z R0 [] (L8 ws q en))).length<=(za (GE.tf k).U4).length:=λb o n h z=>by rw[Zs (by simp)];exact J
   cases k with
   |zero=>exact⟨QP g (by decide),_,u (.tru (by rw[qg g];rfl)),λb a _ _=>C b a 1 .yes,λb o n h=>s b o n h 1⟩
   |succ k=>
    have g:ws[q]?=some ⟨3,⟨([102,97,108,115,101]:Bs).toArray⟩,H⟩:=g;exact⟨QP g (by decide),_,u (.fls (by rw[qg g];rfl)),λb a _ _=>C b a 0 .no,λb o n h=>s b o n h 0⟩
end
structure JF(ns:List ByteArray)(m:Nat)(env:T9):Prop where
 XW: ∀s∈ns,s∈env
 qF: ∀k,m<k->vT k∉env/\iT k∉env
def Zg(low b L:Nat)(rt:Bool)(ns:List ByteArray)(m:Nat)(ns':List ByteArray)(m' z:Nat)(ws:List Wd)(en q q':Nat):Prop:=
 ∃l:List Sm,l.length<=L/\(∀r j,Ds ws en (.yn q') (.Qj r j)->Ds ws en (.yn q) (.Qj (l++r) j))/\
  (∀e env c D,b<=D->jS e low->JF ns m env->c+(m'-m)<=64-> ∃a r,qm (Sx e (Bx e D) D) l env c a (c+(m'-m)) r/\(rt=true->r=true)/\JF ns' m' a/\ ∀s∈env,s∈a)/\ ∀e,yO e l z
section
variable {low b L L' m m1 m' z z' en q q1 q' i j c k d:Nat}{ns ns1 ns':List ByteArray}{ws:List Wd}{t:Bs}{p rest:List Pc}{env:T9}{rt rt':Bool}
theorem JF.mono(h:JF ns m env)(a:m<=m'):JF ns m' env:=⟨h.XW,λk e=>h.qF k (by omega)⟩
theorem Zg.V0{st:Sm}(f:K6 ws q Xk=false)(g:Ds ws en (.JY q) (.st st q'))
 (l: ∀us env c D,b<=D->jS us low->JF ns m env->c+(m'-m)<=64-> ∃a r,Sx us (Bx us D) D st env c a (c+(m'-m)) r/\(rt=true->r=true)/\JF ns' m' a/\ ∀s∈env,s∈a)
 (o: ∀us n vs m,(Q4 us n vs m st).1.length<=z):Zg low b 1 rt ns m ns' m' z ws en q q':=
 ⟨[st],by simp,λr j h=>.Qf f g h,λus env c D u v w x=>by
  obtain⟨e,r,y,A,B⟩:=l us env c D u v w x;exact⟨e,r||false,.cons y .nil,by simpa using A,B⟩,λus n vs m=>by rw[S3,S3];simpa using o us n vs m⟩
theorem Zg.U7(h:Zg low b L rt ns m ns1 m1 z ws en q q1)(u:Zg low b L' rt' ns1 m1 ns' m' z' ws en q1 q')(Q:m<=m1)(R:m1<=m'):Zg low b (L+L') rt' ns m ns' m' (z+z') ws en q q':=by
 obtain⟨l,S,v,w,x⟩:=h;obtain⟨y,T,A,B,C⟩:=u;refine⟨l++y,by rw[y7];omega,λr j E=>by rw[B2];exact v _ _ (A _ _ E),λa env c D g n F U=>?_,λa=>yO.U7 (x a) (C a)⟩;obtain⟨e,G,H,-,I,J⟩:=w a env c D g n F (by omega);obtain⟨f,K,o,M,N,O⟩:=B a e (c+(m1-m)) D g n I (by omega);rw[show c+(m1-m)+(m'-m1)=c+(m'-m) by omega]at o;exact⟨f,G||K,H.U7 o,λh=>by rw[M h,Bool.or_true],N,λs P=>O s (J s P)⟩
def yp(low b L:Nat)(rt:Bool)(ns:List ByteArray)(m:Nat)(ns':List ByteArray)(m':Nat)(p:List Pc):Prop:=
 (∀rest,O9 rest->O9 (p++rest))/\ ∀ws en q rest,qx ws q (p++rest)->Zg low b L rt ns m ns' m' (za p).length ws en q (q+nW p)
theorem yp.U7{p':List Pc}(h:yp low b L rt ns m ns1 m1 p)(e:yp low b L' rt' ns1 m1 ns' m' p')(f:m<=m1)(g:m1<=m'):yp low b (L+L') rt' ns m ns' m' (p++p'):=by
 refine⟨λrest l=>by rw[B2];exact h.1 _ (e.1 _ l),λws en q rest a=>?_⟩;rw[B2]at a;have:=(h.2 ws en q _ a).U7 (e.2 ws en _ _ (qx.skip p a)) f g
 rwa [O0,y7,X0,<-Nat.add_assoc]
theorem yp.nil:yp low b 0 false ns m ns m []:=⟨λ_ h=>h,λws en q rest e=>⟨[],x6 _,λ_ _ h=>h,λa env c D _ _ h _=>⟨env,false,by rw[Nat.sub_self];exact .nil,λh=>h,h,λ_ h=>h⟩,λa n f m=>by rw[S3];exact C6 _⟩⟩
theorem JR{i q j k:Nat}{y:Ex}{nm:ByteArray}(a:P9 ws i=k)(e:k≠3)(f:k≠4)(g:k=1->N3 ws (i+1)=2/\K6 ws (i+2) XZ=true)(h:qR ws i=q)(l:jF ws i=nm)(n:De ws en (.jG 1 q) (.ex y j))(hs:K6 ws j zc3=true):
 Ds ws en (.JY i) (.st (.mk (k:Int) nm y [] [] (L8 ws i en)) (j+1)):=by
 subst a h l;exact .simp e f g n hs
theorem zey{s:ByteArray}{K:Nat}(C:1<=K/\K<=6)(g:R5 s=true)(E:s∈ns)(hx:jl low d K ns 1 p)(M:d<=b):yp low b 1 false ns m ns m (.w 2 s.data.toList::.sp 32::.w 4 [61]::.sp 32::(p++[.w 4 [59],.sp 32])):=by
 refine⟨λrest F=>?_,λws en q rest x=>?_⟩
 ·simp only[z9,B2,B4]
  exact qC g (U1 _) (P0 (zcr (by decide) (P0 (hx.ok _ (M7 (by decide) (P0 F)) (R6 (by decide) _ _ _)))))
 ·simp only[z9,B2,B4]at x
  obtain⟨⟨N,a⟩,G⟩:=x.w;obtain⟨⟨O,l⟩,A⟩:=G.sp.w;obtain⟨⟨P,f⟩,Q⟩:=(qx.skip p A.sp).w;obtain⟨-,y,o,H,I⟩:=hx.Qy (en:=en) C A.sp f (by decide) (by decide);have r:P9 ws q=2:=by rw[ZR a,show K6 ws (q+1) XZ=true from N8 (t:=[61]) l,YP g];rfl
  have e:q+nW (.w 2 s.data.toList::.sp 32::.w 4 [61]::.sp 32::(p++[.w 4 [59],.sp 32]))=q+1+1+nW p+1:=by simp only[X0,nW];omega
  rw[e];refine .V0 (qA (s:=[125]) a (ya g (by decide))) (JR r (by decide) (by decide) (λh=>by cases h) (show qR ws q=q+1+1 by unfold qR;rw[r];rfl) (show jF ws q=s by unfold jF;rw[r,V9 a,zb9];rfl) o (N8 f)) (λu env c D R J v _=>?_) (λu n B m=>?_)
  ·rw[Nat.sub_self]
   exact⟨env,false,.set g (v.XW s E) ((H u env J v.XW).mono (by omega)),nofun,v,λ_ h=>h⟩
  ·refine B5 (yd (by decide) (by decide) n B m) ?_
   have:=I u B n 0;simp only[O0,M2,O7,Pc.O4,y7,y6,y9];omega
theorem zbD{s:ByteArray}(x:R5 s=true)(hx:jl low d 6 ns 1 p)(O:d<=b)(hs:s=vT (m+1)\/s=iT (m+1)):yp low b 1 false ns m (s::ns) (m+1) (.w 3 [108,101,116]::.sp 32::.w 2 s.data.toList::.sp 32::.w 4 [61]::.sp 32::(p++[.w 4 [59],.sp 32])):=by
 refine⟨λrest G=>?_,λws en q rest A=>?_⟩
 ·simp only[z9,B2,B4]
  exact zZ (by decide) (U1 _) (P0 (qC x (U1 _) (P0 (zcr (by decide) (P0 (hx.ok _ (M7 (by decide) (P0 G)) (R6 (by decide) _ _ _)))))))
 ·simp only[z9,B2,B4]at A
  obtain⟨⟨P,a⟩,H⟩:=A.w;obtain⟨⟨Q,f⟩,I⟩:=H.sp.w;obtain⟨⟨R,o⟩,B⟩:=I.sp.w;obtain⟨⟨S,g⟩,T⟩:=(qx.skip p B.sp).w;obtain⟨-,y,r,J,K⟩:=hx.Qy (en:=en) (by decide) B.sp g (by decide) (by decide);have u:P9 ws q=1:=by rw[ZR a];simp[hsT]
  have e:q+nW (.w 3 [108,101,116]::.sp 32::.w 2 s.data.toList::.sp 32::.w 4 [61]::.sp 32::(p++[.w 4 [59],.sp 32]))=q+1+1+1+nW p+1:=by simp only[X0,nW];omega
  rw[e];refine .V0 (qA (s:=[125]) a (by decide)) (JR u (by decide) (by decide) (λ_=>⟨qz f,N8 (t:=[61]) o⟩) (show qR ws q=q+1+1+1 by unfold qR;rw[u];rfl) (show jF ws q=s by unfold jF;rw[u,V9 f,zb9];rfl) r (N8 g)) (λv env c D U M l N=>?_) (λv n C m=>?_)
  ·rw[Nat.add_sub_cancel_left]at N|-
   have E:=l.qF (m+1) (Nat.lt_succ_self m);refine⟨s::env,false,.bind x (by rcases hs with rfl|rfl;exact E.1;exact E.2) (by omega) ((J v env M l.XW).mono (by omega)),nofun,⟨λt h=>?_,λk V=>?_⟩,λt h=>x4 _ h⟩
   ·rcases List.mem_cons.1 h with rfl|h
    ·exact z5 ..
    ·exact x4 _ (l.XW t h)
   ·have F:=l.qF k (by omega)
    simp only[D9,not_or];refine⟨⟨λe=>?_,F.1⟩,⟨λe=>?_,F.2⟩⟩
    ·rcases hs with rfl|rfl
     ·have:=zf5 e;omega
     ·exact zeA _ _ e
    ·rcases hs with rfl|rfl
     ·exact zeA _ _ e.symm
     ·have:=zfY e;omega
  ·refine B5 (yd (by decide) (by decide) n C m) ?_
   have:=K v C n 0;simp only[O0,M2,O7,Pc.O4,y7,y6,y9];omega
theorem zcs(g:(t=[121,105,101,108,100]/\rt=false)\/(t=[114,101,116,117,114,110]/\rt=true))(hx:jl low d 6 ns 1 p)(G:d<=b):yp low b 1 rt ns m ns m (.w 3 t::.sp 32::(p++[.w 4 [59],.sp 32])):=by
 refine⟨λrest l=>?_,λws en q rest v=>?_⟩
 ·simp only[z9,B2,B4]
  exact zZ (by rcases g with⟨rfl,-⟩|⟨rfl,-⟩<;>decide) (U1 _) (P0 (hx.ok _ (M7 (by decide) (P0 l)) (R6 (by decide) _ _ _)))
 ·simp only[z9,B2,B4]at v
  obtain⟨⟨H,a⟩,x⟩:=v.w;obtain⟨⟨I,f⟩,J⟩:=(qx.skip p x.sp).w;obtain⟨-,y,o,C,E⟩:=hx.Qy (en:=en) (by decide) x.sp f (by decide) (by decide);have e:q+nW (.w 3 t::.sp 32::(p++[.w 4 [59],.sp 32]))=q+1+nW p+1:=by simp only[X0,nW];omega
  rw[e];obtain⟨k,r,K,l⟩: ∃k:Nat,P9 ws q=k/\(k=5\/k=6)/\(rt=true->k=5):=by
   rcases g with⟨rfl,rfl⟩|⟨rfl,rfl⟩
   ·exact⟨6,by rw[ZR a];simp[hsT],by simp,by simp⟩
   ·exact⟨5,by rw[ZR a];simp[hsT],by simp,by simp⟩
  refine .V0 (qA (s:=[125]) a (by rcases g with⟨rfl,-⟩|⟨rfl,-⟩<;>decide)) (JR r (by omega) (by omega) (λh=>by omega) (show qR ws q=q+1 by unfold qR;rw[r,z7 (by omega),z7 (by omega),z7 (by omega)]) (show jF ws q=R0 by unfold jF;rw[r,z7 (by omega),z7 (by omega)]) o (N8 f)) (λu env c D M F A _=>?_) (λu n B m=>?_)
  ·rw[Nat.sub_self]
   exact⟨env,_,.V0 (by omega) (by decide) ((C u env F A.XW).mono (by omega)),λh=>by have:=l h;simp;omega,A,λ_ h=>h⟩
  ·refine B5 (yd (by omega) (by omega) n B m) ?_
   have:=E u B n 0;simp only[O0,M2,O7,Pc.O4,y7,y6,y9];omega
theorem zhm(hx:jl low d 6 ns 1 p)(C:d<=b):yp low b 1 false ns m ns m (p++[.w 4 [59],.sp 32]):=by
 refine⟨λrest u=>?_,λws en q rest f=>?_⟩
 ·simp only[z9,B2,B4]
  exact hx.ok _ (M7 (by decide) (P0 u)) (R6 (by decide) _ _ _)
 ·simp only[z9,B2,B4]at f
  obtain⟨⟨E,a⟩,F⟩:=(qx.skip p f).w;obtain⟨⟨-,v,g⟩,y,l,x,A⟩:=hx.Qy (en:=en) (by decide) f a (by decide) (by decide);have e:q+nW (p++[.w 4 [59],.sp 32])=q+nW p+1:=by simp only[X0,nW];omega
  rw[e];refine .V0 v (JR g (by decide) (by decide) (λh=>by cases h) (show qR ws q=q by unfold qR;rw[g];rfl) (show jF ws q=R0 by unfold jF;rw[g];rfl) l (N8 a)) (λo env c D G B r _=>?_) (λo n s m=>?_)
  ·rw[Nat.sub_self]
   exact⟨env,_,.V0 (by decide) (by decide) ((x o env B r.XW).mono (by omega)),nofun,r,λ_ h=>h⟩
  ·refine B5 (yd (by decide) (by decide) n s m) ?_
   have:=A o s n 0;simp only[O0,M2,O7,Pc.O4,y7,y6,y9];omega
theorem zhl{l o:List Pc}(hx:jl low d 3 ns 2 p)(hd:d<=b)(F:yp low b 6 false ns m ns m1 l)(G:yp low b 6 false ns m1 ns m' o)(H:m<=m1)(R:m1<=m'):
 yp low (b+1) 1 false ns m ns m' (.w 3 [105,102]::.sp 32::(p++.sp 32::.w 4 [123]::.sp 32::(l++.w 4 [125]::.sp 32::.w 3 [101,108,115,101]::.sp 32::.w 4 [123]::.sp 32::(o++[.w 4 [125],.sp 32])))):=by
 refine⟨λrest S=>?_,λws en q rest I=>?_⟩
 ·simp only[z9,B2,B4]
  exact zZ (by decide) (U1 _) (P0 (hx.ok _ (P0 (M7 (by decide) (P0 (F.1 _ (M7 (by decide) (P0 (zZ (by decide) (U1 _) (P0 (M7 (by decide) (P0 (G.1 _ (M7 (by decide) (P0 S))))))))))))) (U1 _)))
 ·simp only[z9,B2,B4]at I
  obtain⟨⟨k1,r⟩,J⟩:=I.w;obtain⟨⟨k2,u⟩,K⟩:=(qx.skip p J.sp).sp.w;obtain⟨⟨k3,A⟩,T⟩:=(qx.skip l K.sp).w;obtain⟨⟨k4,B⟩,U⟩:=T.sp.w;obtain⟨⟨k5,v⟩,M⟩:=U.sp.w;obtain⟨⟨k6,C⟩,a6⟩:=(qx.skip o M.sp).w;obtain⟨-,y,E,V,W⟩:=hx.Qy (en:=en) (by decide) J.sp u (by decide) (by decide);obtain⟨N,b1,X,Y,Z⟩:=F.2 ws en _ _ K.sp;obtain⟨lb,c1,c2,c3,c4⟩:=G.2 ws en _ _ M.sp;have O:=X [] _ (.done (N8 (t:=[125]) A));have P:=c2 [] _ (.done (N8 (t:=[125]) C));rw[List.append_nil]at O P;have hh:P9 ws q=3:=by rw[ZR r];simp[hsT]
  have e:q+nW (.w 3 [105,102]::.sp 32::(p++.sp 32::.w 4 [123]::.sp 32::(l++.w 4 [125]::.sp 32::.w 3 [101,108,115,101]::.sp 32::.w 4 [123]::.sp 32::(o++[.w 4 [125],.sp 32]))))=q+1+nW p+1+nW l+1+1+1+nW o+1:=by simp only[X0,nW];omega
  rw[e];refine .V0 (qA (s:=[125]) r (by decide)) (.ifE hh E (.block (N8 u) O) (N8 (t:=[101,108,115,101]) B) (qA (s:=[105,102]) v (by decide)) (.block (N8 (t:=[123]) v) P)) (λa env c D a0 g x h4=>?_) (λa n f m=>?_)
  ·obtain⟨D,rfl⟩: ∃D',D=D'+1:=⟨D-1,by omega⟩
   obtain⟨e1,r1,x1,-,x2,x3⟩:=Y a env c D (by omega) g x (by omega);obtain⟨e2,r2,Q,-,y2,y3⟩:=c3 a env (c+(m1-m)) D (by omega) g (x.mono H) (by omega);rw[show c+(m1-m)+(m'-m1)=c+(m'-m) by omega]at Q;exact⟨env,_,.Qc (by decide) ((V a env g x.XW).mono (by omega)) (by omega) (by omega) x1 Q,nofun,x.mono (by omega),λ_ h=>h⟩
  ·have H:=W a f n 0
   have R:=Z a (n+(N0 a f n 0 y).length+1) f m;have x:=c4 a (n+(N0 a f n 0 y).length+(S3 a (n+(N0 a f n 0 y).length+1) f m N).1.length+2) f (S3 a (n+(N0 a f n 0 y).length+1) f m N).2;rw[Q4,z7 (by decide),z7 (by decide),z7 (by decide),C5 rfl];simp only[O0,M2,O7,Pc.O4,y7,y6,y9]
   split<;>simp only[y7,y6]<;>omega
theorem zdK{s:ByteArray}{g ps:List Pc}(hx:jl low d 3 (s::ns) 2 p)(hd:d<=b)(A:yp low b 6 false ns m ns m' g)(hs:yp low b 1 false (s::ns) m' (s::ns) m' ps)(B:m<=m'):
 yp low (b+1) 1 false (s::ns) m ns m' (.w 3 [119,104,105,108,101]::.sp 32::(p++.sp 32::.w 4 [123]::.sp 32::(g++(ps++[.w 4 [125],.sp 32])))):=by
 refine⟨λrest M=>?_,λws en q rest C=>?_⟩
 ·simp only[z9,B2,B4]
  exact zZ (by decide) (U1 _) (P0 (hx.ok _ (P0 (M7 (by decide) (P0 (A.1 _ (hs.1 _ (M7 (by decide) (P0 M))))))) (U1 _)))
 ·simp only[z9,B2,B4]at C
  obtain⟨⟨k1,l⟩,E⟩:=C.w;obtain⟨⟨k2,o⟩,F⟩:=(qx.skip p E.sp).sp.w;have G:=qx.skip g F.sp;obtain⟨⟨k6,u⟩,a6⟩:=(qx.skip ps G).w;obtain⟨-,y,v,N,O⟩:=hx.Qy (en:=en) (by decide) E.sp o (by decide) (by decide);obtain⟨la,b1,P,Q,R⟩:=A.2 ws en _ _ F.sp;obtain⟨lb,c1,S,T,U⟩:=hs.2 ws en _ _ G;have H:=P _ _ (S [] _ (.done (N8 (t:=[125]) u)));rw[List.append_nil]at H;have V:P9 ws q=4:=by rw[ZR l];simp[hsT]
  have e:q+nW (.w 3 [119,104,105,108,101]::.sp 32::(p++.sp 32::.w 4 [123]::.sp 32::(g++(ps++[.w 4 [125],.sp 32]))))=q+1+nW p+1+nW g+nW ps+1:=by simp only[X0,nW];omega
  rw[e];refine .V0 (qA (s:=[125]) l (by decide)) (.zgw V v (.block (N8 o) H)) (λa env c D W f r h4=>?_) (λa n x m=>?_)
  ·obtain⟨D,rfl⟩: ∃X,D=X+1:=⟨D-1,by omega⟩
   have I:JF ns m env:=⟨λt Y=>r.XW t (x4 _ Y),r.qF⟩;obtain⟨Z,r1,x1,-,J,x3⟩:=Q a env c D (by omega) f I (by omega);obtain⟨e2,r2,K,-,y2,y3⟩:=T a Z (c+(m'-m)) D (by omega) f ⟨List.forall_mem_cons.2 ⟨x3 _ (r.XW s (z5 ..)),J.XW⟩,J.qF⟩ (by omega);rw[Nat.sub_self,Nat.add_zero]at K;exact⟨env,_,.qv (by decide) ((N a env f r.XW).mono (by omega)) (by rw[y7];omega) (x1.U7 K),nofun,I.mono B,λ_ h=>h⟩
  ·have B:=O a x n 0
   have h2:=yO.U7 (R a) (U a) (n+(N0 a x n 0 y).length+1) x m;rw[Q4,C5 rfl];simp only[O0,M2,O7,Pc.O4,y7,y6,y9]at h2|-;omega
theorem zhe:W4 0=[48]:=by unfold W4 Lib.itoa;rw[z7 (by decide)];exact Lib.decDigits_one (by decide)
theorem zhg:W4 1=[49]:=by unfold W4 Lib.itoa;rw[z7 (by decide)];exact Lib.decDigits_one (by decide)
theorem zf4{s:ByteArray}{n:Nat}{f:List Pc}(hs:s=iT (m+1))(a:R5 s=true)(h:n<100)(u:3<=b)(l:yp low b 6 false ns (m+1) ns m' f)(g:m+1<=m'):
 yp low (b+1) 2 false ns m ns m' ([.w 3 [108,101,116],.sp 32,.w 2 s.data.toList,.sp 32,.w 4 [61],.sp 32,.w 1 [48],.w 4 [59],.sp 32,.w 3 [119,104,105,108,101],.sp 32,.w 2 s.data.toList,.sp 32,.w 4 [60],.sp 32,.w 1 (W4 n),.sp 32,.w 4 [123],.sp 32]++(f++[.w 2 s.data.toList,.sp 32,.w 4 [61],.sp 32,.w 2 s.data.toList,.sp 32,.w 4 [43],.sp 32,.w 1 [49],.w 4 [59],.sp 32,.w 4 [125],.sp 32])):=by
 have e:s∈s::ns:=z5 ..;have q1:=zbD (low:=low) (b:=b+1) (d:=1) (ns:=ns) (m:=m) a (YW (d:=0) (n:=0) (by decide)) (by omega) (.inr hs)
 have r:=zdK (hx:=zeF (o:=0) (d:=1) (zb3 (d:=0) (low:=low) (ns:=s::ns) a e) (YW (d:=0) h)) (by omega) l
  (zey (by decide) a e (zhG (zb3 (d:=0) (low:=low) (ns:=s::ns) a e) (YW (d:=0) (n:=1) (by decide))) (by omega)) g
 have:=q1.U7 r (Nat.le_succ m) g;simpa only[zhe,zhg,ZU,z9,B4,B2]using this
end
theorem ze.mv{N:Nat}{ns:List ByteArray}{low d i b:Nat}{x:GE}(h:ze N ns low d i x b):i<=b/\b<=N/\(i<N->i<b):=by
 induction h with
 |yE a g l=>have:=a.le;have:=g.le;have:=a.2;omega
 |lit a h=>have:=a.le;have:=h.le;have:=a.2;omega
 |neg a _ j=>omega
 |call a c _ _ e f=>have:=c.le;omega
 |host a c _ j=>have:=c.le;omega
 |Qg a _ k _ e f=>have:=k.le;omega
theorem zm.mv{N:Nat}{ns:List ByteArray}{low d i b:Nat}{x:GE}(h:zm N ns low d i x b):i<=b/\b<=N:=by
 induction h with
 |not a _ k=>have:=a.le;omega
 |and a _ _ c e=>omega
 |or a _ _ c e=>omega
 |tf a f=>have:=f.le;omega
 |XU g a j f=>have:=g.le;have:=a.mv;have:=j.le;have:=f.mv;omega
theorem yp.XW{low b L m g:Nat}{i:Bool}{ns a ns2:List ByteArray}{p:List Pc}(h:yp low b L i ns m a g p)(o: ∀s∈ns2,s∈ns\/s∈a):yp low b L i ns m ns2 g p:=⟨h.1,λt u q d v=>by
 obtain⟨l,w,x,y,z⟩:=h.2 t u q d v;refine⟨l,w,x,λA f c D B C j E=>?_,z⟩;obtain⟨e,r,F,G,k,n⟩:=y A f c D B C j E;exact⟨e,r,F,G,⟨λs H=>(o s H).elim (λh=>n s (j.XW s h)) (k.XW s),k.qF⟩,n⟩⟩
theorem GL.zet(a b:GL):(a.U7 b).U4=a.U4++b.U4:=by
 induction a<;>simp only[GL.U7,GL.U4,B2,B4, *]
structure StR(N low b L Z:Nat)(s:Ms)(g:GL)(s':Ms):Prop where
 m:s.m<=s'.m
 i:s.i<=s'.i/\s'.i<=N
 few:s'.i<N->2*(s'.m-s.m)<=s'.i-s.i
 all:2*(s'.m-s.m)<=s'.i-s.i+Z
 tr:NsG s.ns->s'.m<10^10->NsG s'.ns/\yp low b L false s.ns s.m s'.ns s'.m g.U4
theorem zcM{k:Nat}(a:k<10^10):R5 (vT k)=true/\R5 (iT k)=true:=by
 unfold R5;rw[Yg,Yl];exact⟨yf (c:=118) (by decide) k a,yf (c:=105) (by decide) k a⟩
theorem yp.le{low b L L' m g:Nat}{i:Bool}{ns a:List ByteArray}{p:List Pc}(h:yp low b L i ns m a g p)(B:L<=L'):yp low b L' false ns m a g p:=⟨h.1,λj k q d n=>by
 obtain⟨l,C,o,s,t⟩:=h.2 j k q d n;refine⟨l,by omega,o,λu f c D v w x y=>?_,t⟩;obtain⟨e,r,z,-,A⟩:=s u f c D v w x y;exact⟨e,r,z,nofun,A⟩⟩
theorem xR.tr{N low b R:Nat}(o:low<=2)(hb:5<=b)(hR:2<=R){B:Ms->GL->Ms->Prop}(y: ∀s g s',B s g s'->s.i<=N->StR N low b 6 R s g s'/\(s.i=N->s'.m=s.m)/\s'.ns=s.ns){s:Ms}{g:GL}{s':Ms}(h:xR N low B s g s')(hi:s.i<=N):StR N low (b+1) 2 R s g s'/\(s.i=N->s'.m<=s.m+1):=by
 cases h with
 |set j z q e=>
  have:=j.le;have:=z.le;have:=e.mv;refine⟨⟨x6 _,by simp only;omega,by simp,by simp,λd _=>⟨d,?_⟩⟩,by simp⟩;have f:=B0 q;simp only[GL.U4,B2,z9,B4,List.append_nil];exact(zey (b:=b+1) (by decide) (d _ f) f (e.ex d o) (by omega)).le (by decide)
 |qH j e=>
  have:=e.mv;refine⟨⟨x6 _,by simp only;omega,by simp,by simp,λd _=>⟨d,?_⟩⟩,by simp⟩;simp only[GL.U4,B2,z9,B4,List.append_nil];exact(zcs (b:=b+1) (.inl ⟨rfl,rfl⟩) (e.ex d o) (by omega)).le (by decide)
 |run j e=>
  have:=e.mv;refine⟨⟨x6 _,by simp only;omega,by simp,by simp,λd _=>⟨d,?_⟩⟩,by simp⟩;simp only[GL.U4,B2,z9,B4,List.append_nil];exact(zhm (b:=b+1) (e.ex d o) (by omega)).le (by decide)
 |ret j z e=>
  have:=z.le;have:=e.mv;refine⟨⟨x6 _,by simp only;omega,by simp,by simp,λd _=>⟨d,?_⟩⟩,by simp⟩;simp only[GL.U4,B2,z9,B4,List.append_nil];exact(zcs (b:=b+1) (.inr ⟨rfl,rfl⟩) (e.ex d o) (by omega)).le (by decide)
 | @bind A m i i1 C x j e=>
   have:=e.mv;refine⟨⟨Nat.le_succ _,by simp only;omega,by simp only;omega,by simp only;omega,λd f=>⟨λs q=>?_,?_⟩⟩,by simp⟩
   ·rcases List.mem_append.1 q with h|h
    ·exact d s h
    ·obtain rfl:=List.mem_singleton.1 h;exact(zcM f).1
   ·have:=((zbD (b:=b+1) (zcM f).1 (e.ex d o) (by omega) (.inl rfl)).le (L':=2) (by decide)).XW (ns2:=A++[vT (m+1)]) (λs q=>by simpa[or_comm]using q)
    simp only[GL.U4,B2,z9,B4,List.append_nil]
    rwa [Yg]at this
 | @Qc A m i C c a b' Q S j I T D=>
   obtain⟨n1,m1,U⟩:=Q;obtain⟨V,W,X⟩:=s';have Y:=I.mv;obtain⟨⟨r,v,p,E,t⟩,w,u⟩:=y _ _ _ T (by simp only;omega);obtain⟨⟨J,Z,K,b4,L⟩,M,O⟩:=y _ _ _ D v.2;simp only at r v p E t w u J Z K b4 L M O;subst u O;refine⟨⟨by simp only;omega,by simp only;omega,λh=>?_,?_,λd f=>?_⟩,λh=>by simp only at h;omega⟩
   ·simp only at h|-;have:=K h;have:=p (by omega);omega
   ·simp only
    by_cases h:U=N
    ·have:=M h;omega
    ·have:=p (by omega);omega
   ·simp only at d f
    obtain⟨q1,F⟩:=t d (by omega);obtain⟨q3,q4⟩:=L d f;refine⟨d,?_⟩;simp only[GL.U4,B2,z9,B4,List.append_nil];exact(zhl (I.ex d o) (by omega) F q4 r J).le (by decide)
 | @qv A m i C n l S j G H=>
   obtain⟨V,W,X⟩:=s';have a0:=G.le;obtain⟨⟨r,v,p,E,t⟩,w,u⟩:=y _ _ _ H (by simp only;omega);simp only at r v p E t w u;subst u;have a8:=G.2;refine⟨⟨by simp only;omega,by simp only;omega,λh=>?_,?_,λd f=>?_⟩,λh=>by simp only at h;omega⟩
   ·simp only at h|-;have:=p h;omega
   ·simp only
    by_cases h:C=N
    ·have:=w h;omega
    ·omega
   ·simp only at d f
    obtain⟨q1,F⟩:=t d f;have:=zf4 (n:=n) rfl (zcM (k:=m+1) (by omega)).2 (by have:=G.1;omega) (by omega) F r;refine⟨d,?_⟩;simp only[GL.U4,B2,z9,B4,List.append_nil];simpa only[Yl,B2,z9,B4]using this
theorem Run.tr{N low b R:Nat}{S:Ms->GL->Ms->Prop}(d: ∀s g s',S s g s'->s.i<=N->StR N low b 2 R s g s'/\(s.i=N->s'.m<=s.m+1)){j:Nat}{s:Ms}{g:GL}{s':Ms}(h:Run S j s g s')(hi:s.i<=N):StR N low b (2*j) (R+2*j) s g s':=by
 induction h with
 |nil=>exact⟨x6 _,⟨x6 _,hi⟩,by simp,by simp,λa _=>⟨a,.nil⟩⟩
 | @jB j s e A g x B f k=>
   obtain⟨l,n,c,C,o⟩:=k hi;obtain⟨⟨p,D,q,E,r⟩,t⟩:=d _ _ _ f n.2;refine⟨by omega,by omega,λh=>?_,?_,λa u=>?_⟩
   ·have:=q h;have:=c (by omega);omega
   ·by_cases h:e.i=N
    ·have:=t h;omega
    ·have:=c (by omega);omega
   ·obtain⟨v,w⟩:=o a (by omega)
    obtain⟨y,z⟩:=r v u;rw[GL.zet];exact⟨y,w.U7 z l p⟩
def slk:Nat->Nat
 |0=>8
 |d+1=>slk d+6
theorem QB.tr{N low:Nat}(k:low<=2): ∀(d:Nat)(s:Ms)(g:GL)(s':Ms),QB N low d s g s'->s.i<=N->StR N low (d+6) 6 (slk d) s g s'/\(s.i=N->s'.m=s.m)/\s'.ns=s.ns:=by
 have a: ∀(b R:Nat)(S:Ms->GL->Ms->Prop),(∀s g s',S s g s'->s.i<=N->StR N low b 2 R s g s'/\(s.i=N->s'.m<=s.m+1))-> ∀s g s',jD N S s g s'->s.i<=N->StR N low b 6 (R+6) s g s'/\(s.i=N->s'.m=s.m)/\s'.ns=s.ns:=by
  rintro b R S r s g s' ⟨j,y,z,e,l,rfl⟩ c;have f:=e.le;have t:=e.1;obtain⟨n,u,o,v,p⟩:=l.tr r f.2.1;simp only at n u o v p;refine⟨⟨n,by simp only;omega,λh=>by simp only at h|-;have:=o h;omega,by simp only;omega,λq w=>⟨q,?_⟩⟩,λh=>?_,rfl⟩
  ·exact((p q w).2.le (by omega)).XW λs h=>.inl h
  ·simp only
   have:=e.2;obtain rfl:j=0:=by omega
   cases l;rfl
 intro d
 induction d with
 |zero=>exact a 6 2 _ λs g s' h c=>xR.tr k (by decide) (by decide) (λ_ _ _ h=>h.elim) h c
 |succ d x=>exact a (d+7) _ _ λs g s' h c=>xR.tr k (by omega) (by cases d<;>simp only[slk]<;>omega) x h c
end Go.Proofs.YtalgmjmibamdfaaGreatDoor
