/- Merged. -/
import Derived.Test.YtmngofgminlloaaGreatDoorCT23
set_option linter.all false
set_option maxHeartbeats 1000000
namespace Go.Proofs.YtmngofgminlloaaGreatDoor
open Go.RowKit Tw
section
variable {ws:List Wd}{en:Nat}
theorem jK(c)(h:c∈([41,44,59,123]:Bs)):lv [c]=0:=by
 have: ∀c∈([41,44,59,123]:Bs),lv [c]=0:=by decide
 exact this c h
theorem zdE(o:Nat):lv (XI o)=4\/lv (XI o)=5:=by unfold XI;split<;>decide
theorem zby(o:Nat):lv (Jx o)=3:=by unfold Jx;split<;>decide
theorem Q9{i c k:Nat}{t:Bs}{s:Bs}(h:ws[i]?=some ⟨c,⟨t.toArray⟩,k⟩)(a:(t==s)=false):J3 ws i ⟨s.toArray⟩=false:=by rw[yw _ h,a]
theorem S7{i c k:Nat}{t:Bs}(h:ws[i]?=some ⟨c,⟨t.toArray⟩,k⟩):J3 ws i ⟨t.toArray⟩=true:=by rw[yw _ h];simp
theorem jT.skip: ∀a{b}{i:Nat},jT ws i (a++b)->jT ws (i+nW a) b
 |[],b,i,h=>h
 |.sp _::l,b,i,h=>jT.skip l h.sp
 |.w _ _::l,b,i,h=>by
  have:=jT.skip l h.w.2;rw[show i+1+nW l=i+(nW l+1) by omega]at this;exact this
theorem YB(n:Nat)(h:n<100):jv ⟨(zW n).toArray⟩=n:=by
 have: ∀n:Nat,n<100->jv ⟨(zW n).toArray⟩=n:=by decide+kernel
 exact this n h
theorem zb8{x:Ex}{i j k a c b:Nat}(d:ws[i]?=some ⟨c,⟨([40]:Bs).toArray⟩,k⟩)(h:De ws en (.lvl 1 (i+1)) (.ex x j))(e:ws[j]?=some ⟨b,⟨([41]:Bs).toArray⟩,a⟩):De ws en (.zk i) (.ex x (j+1)):=
 .par (by rw[jo d];rfl) h (S7 e)
theorem yK{t:Bs}(h:M5 t=true)(c)(a:Zl c=false):(t==[c])=false:=by
 rw[B0];rintro rfl;simp[M5,a]at h
theorem zgG(n:Nat)(c)(a:qX c=false):(zW n==[c])=false:=by
 rw[B0];intro e;have:=Ym n c (e▸B2 ..);rw[a]at this;cases this
theorem GE.first(x:GE):x.zl-> ∀(i:Nat)(a:List Pc),jT ws i (x.N2++a)->J3 ws i N4=false:=by
 induction x with
 |qE s=>intro d i a h;obtain⟨⟨k,b⟩,_⟩:=h.w;exact Q9 (s:=[41]) b (yK d 41 (by decide))
 |lit n=>intro d i a h;obtain⟨⟨k,b⟩,_⟩:=h.w;exact Q9 (s:=[41]) b (zgG n 41 (by decide))
 |neg x _=>intro d i a h;simp only[GE.N2,B9,B6,C0]at h;obtain⟨⟨k,b⟩,_⟩:=h.w;exact Q9 (s:=[41]) b (by decide)
 |call f x y _ _=>intro d i a h;simp only[GE.N2,B9,B6,C0]at h;obtain⟨⟨k,b⟩,_⟩:=h.w;exact Q9 (s:=[41]) b (yK (zN (c:=102) (by decide) f (by have:=d.1;omega)) 41 (by decide))
 |X0 k x _=>intro d i a h;simp only[GE.N2,B9,B6,C0]at h;obtain⟨⟨k,b⟩,_⟩:=h.w;exact Q9 (s:=[41]) b (by decide)
 |xI o x y _ _=>intro d i a h;simp only[GE.N2,B9,B6,C0]at h;obtain⟨⟨k,b⟩,_⟩:=h.w;exact Q9 (s:=[41]) b (by decide)
 |not x _=>intro d i a h;simp only[GE.N2,B9,B6,C0]at h;obtain⟨⟨k,b⟩,_⟩:=h.w;exact Q9 (s:=[41]) b (by decide)
 |and x y _ _=>intro d i a h;simp only[GE.N2,B9,B6,C0]at h;obtain⟨⟨k,b⟩,_⟩:=h.w;exact Q9 (s:=[41]) b (by decide)
 |or x y _ _=>intro d i a h;simp only[GE.N2,B9,B6,C0]at h;obtain⟨⟨k,b⟩,_⟩:=h.w;exact Q9 (s:=[41]) b (by decide)
 |tf k=>intro d i a h;obtain⟨⟨g,b⟩,_⟩:=h.w;exact Q9 (s:=[41]) b (by unfold tfL;split<;>decide)
 |jx o x y e _=>intro d i a h;simp only[GE.N2,B9]at h;exact e d.1 i _ h
theorem GE.zni(x:GE):x.Zm->x.zl-> ∀(i:Nat)(g:List Pc),jT ws i (x.N2++g)->J3 ws (i+nW x.N2) O6=false->
 ∃y,qA x y/\De ws en (.zk i) (.ex y (i+nW x.N2)):=by
 induction x with
 |qE s=>
  intro _ q i g h G;obtain⟨⟨k,v⟩,r⟩:=h.w;have S:(⟨s.data.toList.toArray⟩:ByteArray)=s:=by cases s;simp
  refine⟨.mk 3 0 s [] (J4 ws i en),.qE,?_⟩;have:=De.qE (en:=en) (by rw[jo v];exact zbo q) G;rw[Y0 v,S]at this;exact this
 |lit n=>
  intro _ q i g h G;obtain⟨⟨k,v⟩,r⟩:=h.w;have H:=De.num (en:=en) (i:=i) (by rw[jo v];exact zlL n);rw[Y0 v,YB n q]at H;exact⟨.mk 1 (n:Int) L1 [] (J4 ws i en),.lit,H⟩
 |neg x K=>
  intro u q i g h G;simp only[GE.N2,B9,B6,C0]at h;obtain⟨⟨k,v⟩,r⟩:=h.w;obtain⟨⟨L,j⟩,p⟩:=r.w;obtain⟨⟨M,d⟩,A⟩:=(jT.skip x.N2 p).w;have e:i+nW (GE.neg x).N2=i+1+1+nW x.N2+1:=by simp only[GE.N2,zq,nW,B6,C0];omega
  obtain⟨y,N,H⟩:=K u q (i+1+1) _ p (Q9 (s:=[40]) d (by decide));rw[e];exact⟨.mk 4 0 L1 [y] (J4 ws i en),.neg N,.neg (by rw[jo v];decide) (zb8 j (H.up 1 (by decide) (λm r p=>by rw[xb d,jK 41 (by decide)];omega)) d)⟩
 |xI o x y B C=>
  intro u q i g h G;simp only[GE.N2,B9,B6,C0]at h;obtain⟨⟨k,v⟩,r⟩:=h.w;obtain⟨⟨L,j⟩,p⟩:=(jT.skip x.N2 r).sp.w;obtain⟨⟨M,d⟩,A⟩:=(jT.skip y.N2 p.sp).w;have e:i+nW (GE.xI o x y).N2=i+1+nW x.N2+1+nW y.N2+1:=by simp only[GE.N2,zq,nW,B6,C0];omega
  have O:(XI o==[40])=false:=by unfold XI;split<;>decide
  obtain⟨a,P,D⟩:=B u.1 q.1 (i+1) _ r (Q9 (s:=[40]) j O);obtain⟨b,Q,E⟩:=C u.2 q.2 (i+1+nW x.N2+1) _ p.sp (Q9 (s:=[40]) d (by decide));rw[e];have T:=zdE o;have I:=xb j;have F:O5 ws (i+1+nW x.N2+1+nW y.N2)=0:=by rw[xb d];exact jK 41 (by decide)
  refine⟨Y9 ws en (i+1+nW x.N2) a b,?_,?_⟩
  ·unfold Y9;rw[Y0 j];exact .xI P Q
  ·have U:De ws en (.lvl (lv (XI o)) (i+1)) (.ex (Y9 ws en (i+1+nW x.N2) a b) (i+1+nW x.N2+1+nW y.N2)):=
    De.two (by omega) (by omega) (D.up _ (by omega) (λm r p=>by rw[I];omega)) I (E.up _ (by omega) (λm r p=>by rw[F];omega)) (by rw[F];omega)
   exact zb8 v (U.zei (by omega) 1 (by omega) (λm r p=>by rw[F];omega)) d
 |X0 k x K=>
  intro u q i g h G;simp only[GE.N2,B9,B6,C0]at h;obtain⟨⟨V,z⟩,r⟩:=h.w;obtain⟨⟨L,j⟩,p⟩:=r.w;obtain⟨⟨M,d⟩,A⟩:=p.w;obtain⟨⟨W,t⟩,X⟩:=(jT.skip x.N2 A).w;have e:i+nW (GE.X0 k x).N2=i+1+1+1+nW x.N2+1:=by simp only[GE.N2,zq,nW,B6,C0];omega
  obtain⟨y,N,H⟩:=K u q.2 (i+1+1+1) _ A (Q9 (s:=[40]) t (by decide));rw[e]
  have J:=De.X0 (en:=en) (by rw[jo z];rfl) (xe j) (S7 d)
   (.first (x.first q.2 _ _ A) (H.up 1 (by decide) (λm r p=>by rw[xb t,jK 41 (by decide)];omega)) (.U4 (S7 t)))
  rw[Y0 j,YB k q.1]at J;exact⟨.mk 8 (k:Int) L1 [y] (J4 ws i en),.X0 N,J⟩
 |call f x y B C=>
  intro u q i g h G;simp only[GE.N2,B9,B6,C0]at h;obtain⟨⟨V,z⟩,r⟩:=h.w;obtain⟨⟨L,j⟩,p⟩:=r.w;obtain⟨⟨M,d⟩,A⟩:=(jT.skip x.N2 p).w;obtain⟨⟨W,t⟩,X⟩:=(jT.skip y.N2 A.sp).w;have e:i+nW (GE.call f x y).N2=i+1+1+nW x.N2+1+nW y.N2+1:=by simp only[GE.N2,zq,nW,B6,C0];omega
  obtain⟨a,P,D⟩:=B u.1 q.2.1 (i+1+1) _ p (Q9 (s:=[40]) d (by decide));obtain⟨b,Q,E⟩:=C u.2 q.2.2 (i+1+1+nW x.N2+1) _ A.sp (Q9 (s:=[40]) t (by decide));rw[e];have R:=zN (c:=102) (by decide) f (by have:=q.1;omega)
  have:=De.call (en:=en) (l:=[a,b]) (by rw[jo z];exact zbo R) (S7 j)
   (.first (x.first q.2.1 _ _ p) (D.up 1 (by decide) (λm r p=>by rw[xb d,jK 44 (by decide)];omega))
    (.next (Q9 (s:=[41]) d (by decide)) (S7 d) (E.up 1 (by decide) (λm r p=>by rw[xb t,jK 41 (by decide)];omega)) (.U4 (S7 t))))
  rw[Y0 z]at this;exact⟨_,.call P Q,this⟩
 |_=>intro u;exact u.elim
theorem GE.zpH(x:GE):x.isF->x.zl-> ∀(i:Nat)(f:List Pc),jT ws i (x.N2++f)->J3 ws (i+nW x.N2) O6=false->O5 ws (i+nW x.N2)<=2->
 ∃y,qA x y/\De ws en (.lvl 3 i) (.ex y (i+nW x.N2)):=by
 induction x with
 |tf k=>
  intro _ n i f h B v;obtain⟨⟨R,u⟩,j⟩:=h.w;have C: ∀{y:Ex},De ws en (.zk i) (.ex y (i+1))->De ws en (.lvl 3 i) (.ex y (i+1)):=λI=>I.up 3 (by decide) (λm j g=>by have:O5 ws (i+1)<=2:=v;omega)
  have D:(k=0/\tfL k=[116,114,117,101])\/(k≠0/\tfL k=[102,97,108,115,101]):=by cases k<;>simp[tfL]
  rcases D with⟨J,D⟩|⟨J,D⟩
  ·rw[D]at u
   have E:=qA.tf (k:=k) (p:=J4 ws i en);rw[C8 J]at E;exact⟨_,E,C (.tru (by rw[jo u];rfl))⟩
  ·rw[D]at u
   have E:=qA.tf (k:=k) (p:=J4 ws i en);rw[B5 J]at E;exact⟨_,E,C (.fls (by rw[jo u];rfl))⟩
 |not x P=>
  intro l n i f h B v;simp only[GE.N2,B9,B6,C0]at h;obtain⟨⟨k,u⟩,j⟩:=h.w;obtain⟨⟨K,c⟩,g⟩:=j.w;obtain⟨⟨N,d⟩,O⟩:=(jT.skip x.N2 g).w;have e:i+nW (GE.not x).N2=i+1+1+nW x.N2+1:=by simp only[GE.N2,zq,nW,B6,C0];omega
  have S:O5 ws (i+1+1+nW x.N2)=0:=by rw[xb d];exact jK 41 (by decide)
  obtain⟨y,Q,I⟩:=P l n (i+1+1) _ g (Q9 (s:=[40]) d (by decide)) (by omega);rw[e]at v|-;have F:De ws en (.zk i) (.ex (.mk 5 0 L1 [y] (J4 ws i en)) (i+1+1+nW x.N2+1)):=.not (by rw[jo u];rfl) (zb8 c (I.zei (by decide) 1 (by decide) (λm j g=>by omega)) d);exact⟨.mk 5 0 L1 [y] (J4 ws i en),.not Q,F.up 3 (by decide) (λm j g=>by omega)⟩
 |and x y z A=>
  intro l n i f h B v;simp only[GE.N2,B9,B6,C0]at h;obtain⟨⟨k,u⟩,j⟩:=h.w;obtain⟨⟨K,c⟩,g⟩:=(jT.skip x.N2 j).sp.w;obtain⟨⟨N,d⟩,O⟩:=(jT.skip y.N2 g.sp).w;have e:i+nW (GE.and x y).N2=i+1+nW x.N2+1+nW y.N2+1:=by simp only[GE.N2,zq,nW,B6,C0];omega
  have q:O5 ws (i+1+nW x.N2)=2:=xb c;have L:O5 ws (i+1+nW x.N2+1+nW y.N2)=0:=by rw[xb d];exact jK 41 (by decide)
  obtain⟨a,G,r⟩:=z l.1 n.1 (i+1) _ j (Q9 (s:=[40]) c (by decide)) (by omega);obtain⟨b,H,t⟩:=A l.2 n.2 (i+1+nW x.N2+1) _ g.sp (Q9 (s:=[40]) d (by decide)) (by omega);rw[e]at v|-;have F:De ws en (.lvl 2 (i+1)) (.ex (Y9 ws en (i+1+nW x.N2) a b) (i+1+nW x.N2+1+nW y.N2)):=De.two (by decide) (by decide) r q t (by omega);refine⟨Y9 ws en (i+1+nW x.N2) a b,?_,(zb8 u (F.zei (by decide) 1 (by decide) (λm j g=>by omega)) d).up 3 (by decide) (λm j g=>by omega)⟩;unfold Y9;rw[Y0 c];exact .and G H
 |or x y z A=>
  intro l n i f h B v;simp only[GE.N2,B9,B6,C0]at h;obtain⟨⟨k,u⟩,j⟩:=h.w;obtain⟨⟨K,c⟩,g⟩:=(jT.skip x.N2 j).sp.w;obtain⟨⟨N,d⟩,O⟩:=(jT.skip y.N2 g.sp).w;have e:i+nW (GE.or x y).N2=i+1+nW x.N2+1+nW y.N2+1:=by simp only[GE.N2,zq,nW,B6,C0];omega
  have q:O5 ws (i+1+nW x.N2)=1:=xb c;have L:O5 ws (i+1+nW x.N2+1+nW y.N2)=0:=by rw[xb d];exact jK 41 (by decide)
  obtain⟨a,G,r⟩:=z l.1 n.1 (i+1) _ j (Q9 (s:=[40]) c (by decide)) (by omega);obtain⟨b,H,t⟩:=A l.2 n.2 (i+1+nW x.N2+1) _ g.sp (Q9 (s:=[40]) d (by decide)) (by omega);rw[e]at v|-;have F:De ws en (.lvl 1 (i+1)) (.ex (Y9 ws en (i+1+nW x.N2) a b) (i+1+nW x.N2+1+nW y.N2)):=De.two (by decide) (by decide) (r.zei (by decide) 2 (by decide) (λm j g=>by omega)) q (t.zei (by decide) 2 (by decide) (λm j g=>by omega)) (by omega);refine⟨Y9 ws en (i+1+nW x.N2) a b,?_,(zb8 u F d).up 3 (by decide) (λm j g=>by omega)⟩;unfold Y9;rw[Y0 c];exact .or G H
 |jx o x y _ _=>
  intro l n i f h B v;simp only[GE.N2,B9,B6,C0]at h;obtain⟨⟨K,c⟩,g⟩:=(jT.skip x.N2 h).sp.w;have e:i+nW (GE.jx o x y).N2=i+nW x.N2+1+nW y.N2:=by simp only[GE.N2,zq,nW,B6,C0];omega
  rw[e]at B v|-;have M:(Jx o==[40])=false:=by unfold Jx;split<;>decide
  have q:O5 ws (i+nW x.N2)=3:=by rw[xb c];exact zby o
  obtain⟨a,G,r⟩:=x.zni (en:=en) l.1 n.1 i _ h (Q9 (s:=[40]) c M);obtain⟨b,H,t⟩:=y.zni (en:=en) l.2 n.2 (i+nW x.N2+1) _ g.sp B;refine⟨Y9 ws en (i+nW x.N2) a b,?_,De.zpI (r.up 4 (by decide) (λm j g=>by omega)) q (t.up 4 (by decide) (λm j g=>by omega)) (by omega)⟩;unfold Y9;rw[Y0 c];exact .jx G H
 |_=>intro l;exact l.elim
end
def GE.jd(ρ:ByteArray->ByteArray):GE->GE
 |.qE s=>.qE (ρ s)
 |.lit n=>.lit n
 |.neg x=>.neg (x.jd ρ)
 |.call f x y=>.call f (x.jd ρ) (y.jd ρ)
 |.X0 k x=>.X0 k (x.jd ρ)
 |.xI o x y=>.xI o (x.jd ρ) (y.jd ρ)
 |.not x=>.not (x.jd ρ)
 |.and x y=>.and (x.jd ρ) (y.jd ρ)
 |.or x y=>.or (x.jd ρ) (y.jd ρ)
 |.tf k=>.tf k
 |.jx o x y=>.jx o (x.jd ρ) (y.jd ρ)
def GE.zer(x:GE):x.jd id=x:=by induction x<;>simp_all[GE.jd]
def GE.Y2{ρ}: ∀(x:GE),x.Zm->(x.jd ρ).Zm
 |.qE _,_=>trivial
 |.lit _,_=>trivial
 |.neg x,h=>GE.Y2 x h
 |.call _ x y,h=>⟨GE.Y2 x h.1,GE.Y2 y h.2⟩
 |.X0 _ x,h=>GE.Y2 x h
 |.xI _ x y,h=>⟨GE.Y2 x h.1,GE.Y2 y h.2⟩
 |.not _,h=>h.elim
 |.and _ _,h=>h.elim
 |.or _ _,h=>h.elim
 |.tf _,h=>h.elim
 |.jx _ _ _,h=>h.elim
def GE.yX{ρ}: ∀(x:GE),x.isF->(x.jd ρ).isF
 |.not x,h=>GE.yX x h
 |.and x y,h=>⟨GE.yX x h.1,GE.yX y h.2⟩
 |.or x y,h=>⟨GE.yX x h.1,GE.yX y h.2⟩
 |.tf _,_=>trivial
 |.jx _ x y,h=>⟨GE.Y2 x h.1,GE.Y2 y h.2⟩
 |.qE _,h=>h.elim
 |.lit _,h=>h.elim
 |.neg _,h=>h.elim
 |.call _ _ _,h=>h.elim
 |.X0 _ _,h=>h.elim
 |.xI _ _ _,h=>h.elim
def GL.P3(ρ:ByteArray->ByteArray):GL->List Pc
 |.nil=>[]
 |.set s x r=>[.w 2 (ρ s).data.toList]++[.sp 32,.w 4 [61],.sp 32]++(x.jd ρ).N2++[.w 4 [59],.sp 32]++r.P3 ρ
 |.Q8 x r=>[.w 3 [121,105,101,108,100],.sp 32]++(x.jd ρ).N2++[.w 4 [59],.sp 32]++r.P3 ρ
 |.xl c a b r=>[.w 3 [105,102],.sp 32]++(c.jd ρ).N2++[.sp 32,.w 4 [123],.sp 32]++a.P3 ρ++[.w 4 [125],.sp 32,.w 3 [101,108,115,101],.sp 32,.w 4 [123],.sp 32]++b.P3 ρ++[.w 4 [125],.sp 32]++r.P3 ρ
 |.X2 i n l r=>[.w 3 [108,101,116],.sp 32]++[.w 2 (ρ (iT i)).data.toList]++[.sp 32,.w 4 [61],.sp 32,.w 1 [48],.w 4 [59],.sp 32,.w 3 [119,104,105,108,101],.sp 32]++[.w 2 (ρ (iT i)).data.toList]++[.sp 32,.w 4 [60],.sp 32]++[.w 1 (zW n)]++[.sp 32,.w 4 [123],.sp 32]++l.P3 ρ++[.w 2 (ρ (iT i)).data.toList]++[.sp 32,.w 4 [61],.sp 32]++[.w 2 (ρ (iT i)).data.toList]++[.sp 32,.w 4 [43],.sp 32,.w 1 [49],.w 4 [59],.sp 32,.w 4 [125],.sp 32]++r.P3 ρ
 |.run x r=>(x.jd ρ).N2++[.w 4 [59],.sp 32]++r.P3 ρ
 |.qi x r=>[.w 3 [114,101,116,117,114,110],.sp 32]++(x.jd ρ).N2++[.w 4 [59],.sp 32]++r.P3 ρ
 |.bind i x r=>[.w 3 [108,101,116],.sp 32]++[.w 2 (ρ (vT i)).data.toList]++[.sp 32,.w 4 [61],.sp 32]++(x.jd ρ).N2++[.w 4 [59],.sp 32]++r.P3 ρ
def GL.zfr(g:GL):g.P3 id=g.N2:=by
 induction g<;>simp only[GL.P3,GL.N2,GE.zer,id,zd4,zcZ, *]
def GL.yg(ρ:ByteArray->ByteArray):GL->Prop
 |.nil=>True
 |.set s x r=>M5 (ρ s).data.toList=true/\(x.jd ρ).zl/\r.yg ρ
 |.Q8 x r=>(x.jd ρ).zl/\r.yg ρ
 |.xl c a b r=>(c.jd ρ).zl/\a.yg ρ/\b.yg ρ/\r.yg ρ
 |.X2 i n l r=>M5 (ρ (iT i)).data.toList=true/\n<100/\l.yg ρ/\r.yg ρ
 |.run x r=>(x.jd ρ).zl/\r.yg ρ
 |.qi x r=>(x.jd ρ).zl/\r.yg ρ
 |.bind i x r=>M5 (ρ (vT i)).data.toList=true/\(x.jd ρ).zl/\r.yg ρ
def GL.ZQ:GL->Prop
 |.nil=>True
 |.set _ x r=>x.Zm/\r.ZQ
 |.Q8 x r=>x.Zm/\r.ZQ
 |.xl c a b r=>c.isF/\a.ZQ/\b.ZQ/\r.ZQ
 |.X2 _ _ l r=>l.ZQ/\r.ZQ
 |.run x r=>x.Zm/\r.ZQ
 |.qi x r=>x.Zm/\r.ZQ
 |.bind _ x r=>x.Zm/\r.ZQ
def GL.XX(a b:GL)(d:a.ZQ)(f:b.ZQ):(a.qv b).ZQ:=by
 induction a with
 |nil=>exact f
 |set s x r e=>exact⟨d.1,e d.2⟩
 |Q8 x r e=>exact⟨d.1,e d.2⟩
 |xl c a b r _ _ e=>exact⟨d.1,d.2.1,d.2.2.1,e d.2.2.2⟩
 |X2 i n l r _ e=>exact⟨d.1,e d.2⟩
 |run x r e=>exact⟨d.1,e d.2⟩
 |qi x r e=>exact⟨d.1,e d.2⟩
 |bind i x r e=>exact⟨d.1,e d.2⟩
def xc.ZQ{N low:Nat}{B:Ms->GL->Ms->Prop}(b: ∀s g c,B s g c->g.ZQ){s g c}(h:xc N low B s g c):g.ZQ:=by
 cases h with
 |set _ _ _ a=>exact⟨a.Zm,trivial⟩
 |Q8 _ a=>exact⟨a.Zm,trivial⟩
 |xl _ d e f=>exact⟨d.isF,b _ _ _ e,b _ _ _ f,trivial⟩
 |X2 _ _ i=>exact⟨b _ _ _ i,trivial⟩
 |run _ a=>exact⟨a.Zm,trivial⟩
 |qi _ _ a=>exact⟨a.Zm,trivial⟩
 |bind _ a=>exact⟨a.Zm,trivial⟩
def Run.ZQ{S:Ms->GL->Ms->Prop}(b: ∀s g a,S s g a->g.ZQ){j:Nat}{s g a}(h:Run S j s g a):g.ZQ:=by
 induction h with
 |nil=>trivial
 |xn _ c d=>exact GL.XX _ _ d (b _ _ _ c)
def yh.ZQ{N low:Nat}: ∀(d:Nat)s g a,yh N low d s g a->g.ZQ:=by
 intro d
 induction d with
 |zero=>intro s g a ⟨_,_,_,_,h,_⟩;exact h.ZQ λ_ _ _ h=>xc.ZQ (λ_ _ _ h=>h.elim) h
 |succ d b=>intro s g a ⟨_,_,_,_,h,_⟩;exact h.ZQ λ_ _ _ h=>xc.ZQ b h
inductive Ql(ρ:ByteArray->ByteArray):GL->List Sm->Prop
 |nil:Ql ρ .nil []
 |set {s:ByteArray} {x:GE} {r:GL} {y:Ex} {l:List Sm} {p:Int}:qA (x.jd ρ) y->Ql ρ r l->Ql ρ (.set s x r) (.mk 2 (ρ s) y [] [] p::l)
 |Q8 {x:GE} {r:GL} {y:Ex} {l:List Sm} {p:Int}:qA (x.jd ρ) y->Ql ρ r l->Ql ρ (.Q8 x r) (.mk 6 L1 y [] [] p::l)
 |xl {c:GE} {a b r:GL} {y:Ex} {la lb l:List Sm} {p:Int}:qA (c.jd ρ) y->Ql ρ a la->Ql ρ b lb->Ql ρ r l->Ql ρ (.xl c a b r) (.mk 3 L1 y la lb p::l)
 |X2 {i n:Nat} {b r:GL} {y0 yc y1:Ex} {lb l:List Sm} {p1 p8 p9:Int}:qA (.lit 0) y0->qA (.jx 0 (.qE (ρ (iT i))) (.lit n)) yc->qA (.xI 0 (.qE (ρ (iT i))) (.lit 1)) y1->Ql ρ b lb->Ql ρ r l->
  Ql ρ (.X2 i n b r) (.mk 1 (ρ (iT i)) y0 [] [] p1::.mk 4 L1 yc (lb++[.mk 2 (ρ (iT i)) y1 [] [] p8]) [] p9::l)
 |run {x:GE} {r:GL} {y:Ex} {l:List Sm} {p:Int}:qA (x.jd ρ) y->Ql ρ r l->Ql ρ (.run x r) (.mk 7 L1 y [] [] p::l)
 |qi {x:GE} {r:GL} {y:Ex} {l:List Sm} {p:Int}:qA (x.jd ρ) y->Ql ρ r l->Ql ρ (.qi x r) (.mk 5 L1 y [] [] p::l)
 |bind {i:Nat} {x:GE} {r:GL} {y:Ex} {l:List Sm} {p:Int}:qA (x.jd ρ) y->Ql ρ r l->Ql ρ (.bind i x r) (.mk 1 (ρ (vT i)) y [] [] p::l)
def hsT(c:Nat)(t:Bs)(e:Bool):Nat:=
 if t==[108,101,116]then 1 else if t==[105,102]then 3 else if t==[119,104,105,108,101]then 4 else if t==[114,101,116,117,114,110]then 5 else if t==[121,105,101,108,100]then 6
 else if c=2/\e=true then 2 else 7
section
variable {ws:List Wd}{en:Nat}{ρ:ByteArray->ByteArray}
theorem xR{i c k:Nat}{t:Bs}(h:ws[i]?=some ⟨c,⟨t.toArray⟩,k⟩):L7 ws i=hsT c t (J3 ws (i+1) yW):=by
 unfold L7 hsT;rw[show QY=⟨([108,101,116]:Bs).toArray⟩ from rfl,show Xq=⟨([105,102]:Bs).toArray⟩ from rfl,show ji=⟨([119,104,105,108,101]:Bs).toArray⟩ from rfl,show qr=⟨([114,101,116,117,114,110]:Bs).toArray⟩ from rfl,show xw=⟨([121,105,101,108,100]:Bs).toArray⟩ from rfl];rw[yw _ h,yw _ h,yw _ h,yw _ h,yw _ h,xe h]
theorem XP{t:Bs}(h:M5 t=true)(e:Bool):hsT 2 t e=if e=true then 2 else 7:=by
 have a: ∀s:Bs,s∈([[108,101,116],[105,102],[119,104,105,108,101],[114,101,116,117,114,110],[121,105,101,108,100]]:List Bs)->(t==s)=false:=by
  intro s b;rw[B0];rintro rfl;have: ∀s:Bs,s∈([[108,101,116],[105,102],[119,104,105,108,101],[114,101,116,117,114,110],[121,105,101,108,100]]:List Bs)->M5 s=false:=by decide
  rw[this _ b]at h;cases h
 unfold hsT;rw[a [108,101,116] (by decide),a [105,102] (by decide),a [119,104,105,108,101] (by decide),a [114,101,116,117,114,110] (by decide),a [121,105,101,108,100] (by decide)];simp
theorem zlO(n:Nat)(e:Bool):hsT 1 (zW n) e=7:=by
 have a: ∀s:Bs,s∈([[108,101,116],[105,102],[119,104,105,108,101],[114,101,116,117,114,110],[121,105,101,108,100]]:List Bs)->(zW n==s)=false:=by
  intro s b;rw[B0];intro e;have d: ∀s:Bs,s∈([[108,101,116],[105,102],[119,104,105,108,101],[114,101,116,117,114,110],[121,105,101,108,100]]:List Bs)-> ¬ ∀c∈s,qX c=true:=by decide
  exact d s b (e▸Ym n)
 unfold hsT;rw[a [108,101,116] (by decide),a [105,102] (by decide),a [119,104,105,108,101] (by decide),a [114,101,116,117,114,110] (by decide),a [121,105,101,108,100] (by decide)];simp
theorem Yt(s:ByteArray):(⟨s.data.toList.toArray⟩:ByteArray)=s:=by cases s;simp
theorem znH:zW 0=[48]:=by unfold zW Lib.itoa;rw[B5 (by decide)];exact Lib.decDigits_one (by decide)
theorem znE:zW 1=[49]:=by unfold zW Lib.itoa;rw[B5 (by decide)];exact Lib.decDigits_one (by decide)
theorem GE.zoJ(x:GE)(l:x.Zm)(j:x.zl){i:Nat}{e}(h:jT ws i (x.N2++.w 4 [59]::e)):L7 ws i=7/\J3 ws i zac=false:=by
 cases x with
 |qE s=>
  obtain⟨⟨k,a⟩,b⟩:=h.w;obtain⟨⟨m,d⟩,p⟩:=b.w;exact⟨by rw[xR a,show J3 ws (i+1) yW=false from Q9 (s:=[61]) d (by decide),XP j];rfl,Q9 (s:=[125]) a (yK j 125 (by decide))⟩
 |lit n=>obtain⟨⟨k,a⟩,b⟩:=h.w;exact⟨by rw[xR a,zlO],Q9 (s:=[125]) a (zgG n 125 (by decide))⟩
 |neg x=>simp only[GE.N2,B9,B6,C0]at h;obtain⟨⟨k,a⟩,b⟩:=h.w;exact⟨by rw[xR a];simp[hsT],Q9 (s:=[125]) a (by decide)⟩
 |call f x y=>
  simp only[GE.N2,B9,B6,C0]at h;obtain⟨⟨k,a⟩,b⟩:=h.w;obtain⟨⟨m,d⟩,p⟩:=b.w;have g:=zN (c:=102) (by decide) f (by have:=j.1;omega);exact⟨by rw[xR a,show J3 ws (i+1) yW=false from Q9 (s:=[61]) d (by decide)];exact XP g false,Q9 (s:=[125]) a (yK g 125 (by decide))⟩
 |X0 k x=>simp only[GE.N2,B9,B6,C0]at h;obtain⟨⟨k,a⟩,b⟩:=h.w;exact⟨by rw[xR a];simp[hsT],Q9 (s:=[125]) a (by decide)⟩
 |xI o x y=>simp only[GE.N2,B9,B6,C0]at h;obtain⟨⟨k,a⟩,b⟩:=h.w;exact⟨by rw[xR a];simp[hsT],Q9 (s:=[125]) a (by decide)⟩
 |_=>exact l.elim
theorem QL{i q j k:Nat}{y}{nm:ByteArray}(a:L7 ws i=k)(b:k≠3)(c:k≠4)(d:k=1->L3 ws (i+1)=2/\J3 ws (i+2) yW=true)(e:X3 ws i=q)(f:Z4 ws i=nm)(g:De ws en (.lvl 1 q) (.ex y j))(hs:J3 ws j Qu=true):
 Ds ws en (.zO i) (.st (.mk (k:Int) nm y [] [] (J4 ws i en)) (j+1)):=by
 subst a e f;exact .simp b c d g hs
theorem GE.zgp(x)(b:x.Zm)(c:x.zl){i:Nat}{rest}(h:jT ws i (x.N2++.w 4 [59]::rest)): ∃y,qA x y/\De ws en (.lvl 1 i) (.ex y (i+nW x.N2))/\J3 ws (i+nW x.N2) Qu=true/\jT ws (i+nW x.N2+1) rest:=by
 obtain⟨⟨g,a⟩,d⟩:=(jT.skip x.N2 h).w;obtain⟨y,e,f⟩:=x.zni (en:=en) b c i _ h (Q9 (s:=[40]) a (by decide));exact⟨y,e,f.up 1 (by decide) (λm j k=>by rw[xb a,jK 59 (by decide)];omega),S7 a,d⟩
theorem GE.zlw(x)(b:x.isF)(c:x.zl){i:Nat}{rest}(h:jT ws i (x.N2++.sp 32::.w 4 [123]::rest)): ∃y,qA x y/\De ws en (.lvl 1 i) (.ex y (i+nW x.N2))/\J3 ws (i+nW x.N2) zbv=true/\jT ws (i+nW x.N2+1) rest:=by
 obtain⟨⟨g,a⟩,d⟩:=(jT.skip x.N2 h).sp.w;have j:O5 ws (i+nW x.N2)=0:=by rw[xb a];exact jK 123 (by decide)
 obtain⟨y,e,f⟩:=x.zpH (en:=en) b c i _ h (Q9 (s:=[40]) a (by decide)) (by omega);exact⟨y,e,f.zei (by decide) 1 (by decide) (λm k l=>by omega),S7 a,d⟩
theorem GL.der(g:GL):g.yg ρ->g.ZQ-> ∀(i j:Nat)(d:List Pc)(m:List Sm),jT ws i (g.P3 ρ++d)->Ds ws en (.qj (i+nW (g.P3 ρ))) (.Zn m j)-> ∃l,Ql ρ g l/\Ds ws en (.qj i) (.Zn (l++m) j):=by
 induction g with
 |nil=>intro _ _ i j d m h B;exact⟨[],.nil,B⟩
 |set s x r G=>
  intro f v i j d m h B;simp only[GL.P3,B9,B6,C0]at h;obtain⟨⟨k,z⟩,D⟩:=h.w;obtain⟨⟨k2,C⟩,K⟩:=D.sp.w;obtain⟨y,M,N,S,H⟩:=(x.jd ρ).zgp (en:=en) (x.Y2 v.1) f.2.1 K.sp;have e:i+nW ((GL.set s x r).P3 ρ)=i+1+1+nW (x.jd ρ).N2+1+nW (r.P3 ρ):=by simp only[GL.P3,zq,nW,B6,C0];omega
  obtain⟨l,I,o⟩:=G f.2.2 v.2 _ j d m H.sp (by rw[<-e];exact B);have u:L7 ws i=2:=by rw[xR z,show J3 ws (i+1) yW=true from S7 (t:=[61]) C,XP f.1];rfl
  have p:=QL (en:=en) u (by decide) (by decide) (λh=>by cases h) (show X3 ws i=i+1+1 by unfold X3;rw[u];rfl) (show Z4 ws i=ρ s by unfold Z4;rw[u,Y0 z,Yt];rfl) N S;exact⟨_::l,.set M I,.qw (Q9 (s:=[125]) z (yK f.1 125 (by decide))) p o⟩
 |Q8 x r G=>
  intro f v i j d m h B;simp only[GL.P3,B9,B6,C0]at h;obtain⟨⟨k,z⟩,D⟩:=h.w;obtain⟨y,M,N,S,H⟩:=(x.jd ρ).zgp (en:=en) (x.Y2 v.1) f.1 D.sp;have e:i+nW ((GL.Q8 x r).P3 ρ)=i+1+nW (x.jd ρ).N2+1+nW (r.P3 ρ):=by simp only[GL.P3,zq,nW,B6,C0];omega
  obtain⟨l,I,o⟩:=G f.2 v.2 _ j d m H.sp (by rw[<-e];exact B);have u:L7 ws i=6:=by rw[xR z];simp[hsT]
  have p:=QL (en:=en) u (by decide) (by decide) (λh=>by cases h) (show X3 ws i=i+1 by unfold X3;rw[u];rfl) (show Z4 ws i=L1 by unfold Z4;rw[u];rfl) N S;exact⟨_::l,.Q8 M I,.qw (Q9 (s:=[125]) z (by decide)) p o⟩
 |qi x r G=>
  intro f v i j d m h B;simp only[GL.P3,B9,B6,C0]at h;obtain⟨⟨k,z⟩,D⟩:=h.w;obtain⟨y,M,N,S,H⟩:=(x.jd ρ).zgp (en:=en) (x.Y2 v.1) f.1 D.sp;have e:i+nW ((GL.qi x r).P3 ρ)=i+1+nW (x.jd ρ).N2+1+nW (r.P3 ρ):=by simp only[GL.P3,zq,nW,B6,C0];omega
  obtain⟨l,I,o⟩:=G f.2 v.2 _ j d m H.sp (by rw[<-e];exact B);have u:L7 ws i=5:=by rw[xR z];simp[hsT]
  have p:=QL (en:=en) u (by decide) (by decide) (λh=>by cases h) (show X3 ws i=i+1 by unfold X3;rw[u];rfl) (show Z4 ws i=L1 by unfold Z4;rw[u];rfl) N S;exact⟨_::l,.qi M I,.qw (Q9 (s:=[125]) z (by decide)) p o⟩
 |run x r G=>
  intro f v i j d m h B;simp only[GL.P3,B9,B6,C0]at h;obtain⟨y,M,N,S,H⟩:=(x.jd ρ).zgp (en:=en) (x.Y2 v.1) f.1 h;obtain⟨u,z⟩:=(x.jd ρ).zoJ (x.Y2 v.1) f.1 h;have e:i+nW ((GL.run x r).P3 ρ)=i+nW (x.jd ρ).N2+1+nW (r.P3 ρ):=by simp only[GL.P3,zq,nW,B6,C0];omega
  obtain⟨l,I,o⟩:=G f.2 v.2 _ j d m H.sp (by rw[<-e];exact B);have p:=QL (en:=en) u (by decide) (by decide) (λh=>by cases h) (show X3 ws i=i by unfold X3;rw[u];rfl) (show Z4 ws i=L1 by unfold Z4;rw[u];rfl) N S;exact⟨_::l,.run M I,.qw z p o⟩
 |bind n x r G=>
  intro f v i j d m h B;simp only[GL.P3,B9,B6,C0]at h;obtain⟨⟨k,z⟩,D⟩:=h.w;obtain⟨⟨k2,C⟩,K⟩:=D.sp.w;obtain⟨⟨k3,O⟩,H⟩:=K.sp.w;obtain⟨y,M,N,S,h4⟩:=(x.jd ρ).zgp (en:=en) (x.Y2 v.1) f.2.1 H.sp;have e:i+nW ((GL.bind n x r).P3 ρ)=i+1+1+1+nW (x.jd ρ).N2+1+nW (r.P3 ρ):=by simp only[GL.P3,zq,nW,B6,C0];omega
  obtain⟨l,I,o⟩:=G f.2.2 v.2 _ j d m h4.sp (by rw[<-e];exact B);have u:L7 ws i=1:=by rw[xR z];simp[hsT]
  have p:=QL (en:=en) u (by decide) (by decide) (λ_=>⟨xe C,S7 (t:=[61]) O⟩) (show X3 ws i=i+1+1+1 by unfold X3;rw[u];rfl) (show Z4 ws i=ρ (vT n) by unfold Z4;rw[u,Y0 C,Yt];rfl) N S;exact⟨_::l,.bind M I,.qw (Q9 (s:=[125]) z (by decide)) p o⟩
 |xl c a b r a7 V G=>
  intro f v i j d m h B;simp only[GL.P3,B9,B6,C0]at h;obtain⟨⟨k,z⟩,D⟩:=h.w;obtain⟨y,M,N,hb,K⟩:=(c.jd ρ).zlw (en:=en) (c.yX v.1) f.1 D.sp;obtain⟨⟨k3,O⟩,H⟩:=(jT.skip (a.P3 ρ) K.sp).w;obtain⟨⟨k4,a8⟩,h4⟩:=H.sp.w;obtain⟨⟨k5,J⟩,h5⟩:=h4.sp.w;obtain⟨⟨k6,a9⟩,h6⟩:=(jT.skip (b.P3 ρ) h5.sp).w;have e:i+nW ((GL.xl c a b r).P3 ρ)=i+1+nW (c.jd ρ).N2+1+nW (a.P3 ρ)+1+1+1+nW (b.P3 ρ)+1+nW (r.P3 ρ):=by simp only[GL.P3,zq,nW,B6,C0];omega
  obtain⟨la,b0,a2⟩:=a7 f.2.1 v.2.1 _ _ _ [] K.sp (.done (S7 (t:=[125]) O));obtain⟨lb,W,T⟩:=V f.2.2.1 v.2.2.1 _ _ _ [] h5.sp (.done (S7 (t:=[125]) a9));obtain⟨l,I,o⟩:=G f.2.2.2 v.2.2.2 _ j d m h6.sp (by rw[<-e];exact B);rw[List.append_nil]at a2 T;have u:L7 ws i=3:=by rw[xR z];simp[hsT]
  have p:Ds ws en (.zO i) (.st (.mk 3 L1 y la lb (J4 ws i en)) _):=.ifE u N (.block hb a2) (S7 (t:=[101,108,115,101]) a8) (Q9 (s:=[105,102]) J (by decide)) (.block (S7 (t:=[123]) J) T);exact⟨_::l,.xl M b0 W I,.qw (Q9 (s:=[125]) z (by decide)) p o⟩
 |X2 n q b r V G=>
  intro f v i j d m h B;simp only[GL.P3,B9,B6,C0]at h;obtain⟨⟨k,z⟩,D⟩:=h.w;obtain⟨⟨k2,C⟩,K⟩:=D.sp.w;obtain⟨⟨k3,O⟩,H⟩:=K.sp.w;have hn:M5 (ρ (iT n)).data.toList=true:=f.1;have e0:(GE.lit 0).N2=[.w 1 [48]]:=by simp only[GE.N2];rw[znH]
  obtain⟨y0,b1,a3,a4,h4⟩:=(GE.lit 0).zgp (en:=en) trivial (show 0<100 by decide) (i:=i+1+1+1) (by rw[e0];exact H.sp);have hv:(GE.qE (ρ (iT n))).N2=[.w 2 (ρ (iT n)).data.toList]:=rfl;obtain⟨⟨k5,J⟩,h5⟩:=h4.sp.w;obtain⟨yc,b2,X,Y,h6⟩:=(GE.jx 0 (.qE (ρ (iT n))) (.lit q)).zlw (en:=en) ⟨trivial,trivial⟩ ⟨hn,f.2.1⟩ (show jT ws _ ((GE.jx 0 (.qE (ρ (iT n))) (.lit q)).N2++.sp 32::.w 4 [123]::_) from h5.sp);obtain⟨⟨k7,Q⟩,h7⟩:=(jT.skip (b.P3 ρ) h6.sp).w;obtain⟨⟨k8,Z⟩,h8⟩:=h7.sp.w;obtain⟨⟨k9,U⟩,h9⟩:=h8.sp.w;obtain⟨⟨c0,A⟩,b3⟩:=h9.sp.w;obtain⟨⟨c1,E⟩,b4⟩:=b3.sp.w;obtain⟨⟨c2,F⟩,b5⟩:=b4.w;obtain⟨⟨c3,R⟩,a0⟩:=b5.sp.w;have n0:nW (GE.lit 0).N2=1:=rfl;have nc:nW (GE.jx 0 (.qE (ρ (iT n))) (.lit q)).N2=3:=rfl;rw[n0]at a3 a4 J h5 X Y h6 Q Z U A E F R a0;rw[nc]at X Y h6 Q Z U A E F R a0;have e:i+nW ((GL.X2 n q b r).P3 ρ)=i+1+1+1+1+1+1+3+1+nW (b.P3 ρ)+1+1+1+1+1+1+1+nW (r.P3 ρ):=by simp only[GL.P3,zq,nW,B6,C0];omega
  obtain⟨l,I,o⟩:=G f.2.2.2 v.2 _ j d m a0.sp (by rw[<-e];exact B);generalize hP:i+1+1+1+1+1+1+3+1+nW (b.P3 ρ)=P at*;have b6:O5 ws (P+1+1+1)=4:=xb A;have c4:O5 ws (P+1+1+1+1+1)=0:=xb F;have d1:=De.qE (ws:=ws) (en:=en) (i:=P+1+1) (by rw[jo U];exact zbo hn) (Q9 (s:=[40]) A (by decide));rw[Y0 U,Yt]at d1;have d2:=De.num (ws:=ws) (en:=en) (i:=P+1+1+1+1) (by rw[jo E];rfl);rw[Y0 E,show jv ⟨([49]:Bs).toArray⟩=((1:Nat):Int) from by rw[<-znE];exact YB 1 (by decide)]at d2;have d3:=De.two (L:=4) (by decide) (by decide) (d1.up 5 (by decide) (λm D K=>by omega)) b6 (d2.up 5 (by decide) (λm D K=>by omega)) (by omega);have d4:=d3.zei (by decide) 1 (by decide) (λm D K=>by omega);have a1:L7 ws P=2:=by rw[xR Q,show J3 ws (P+1) yW=true from S7 (t:=[61]) Z,XP hn];rfl
  have a5:=QL (en:=en) a1 (by decide) (by decide) (λh=>by cases h) (show X3 ws P=P+1+1 by unfold X3;rw[a1];rfl) (show Z4 ws P=ρ (iT n) by unfold Z4;rw[a1,Y0 Q,Yt];rfl) d4 (S7 (t:=[59]) F);have b7:Ds ws en (.qj P) (.Zn _ _):=.qw (Q9 (s:=[125]) Q (yK hn 125 (by decide))) a5 (.done (S7 (t:=[125]) R));obtain⟨lb,W,T⟩:=V f.2.2.1 v.1 _ _ _ _ h6.sp (by rw[hP];exact b7);have u:L7 ws i=1:=by rw[xR z];simp[hsT]
  have p:=QL (en:=en) u (by decide) (by decide) (λ_=>⟨xe C,S7 (t:=[61]) O⟩) (show X3 ws i=i+1+1+1 by unfold X3;rw[u];rfl) (show Z4 ws i=ρ (iT n) by unfold Z4;rw[u,Y0 C,Yt];rfl) a3 a4;have b8:L7 ws (i+1+1+1+1+1)=4:=by rw[xR J];simp[hsT]
  have a6:Ds ws en (.zO (i+1+1+1+1+1)) (.st (.mk 4 L1 yc _ [] (J4 ws (i+1+1+1+1+1) en)) _):=.whil b8 X (.block Y T);have b9:qA (.xI 0 (.qE (ρ (iT n))) (.lit 1)) (Y9 ws en (P+1+1+1) (.mk 3 0 (ρ (iT n)) [] (J4 ws (P+1+1) en)) (.mk 1 ((1:Nat):Int) L1 [] (J4 ws (P+1+1+1+1) en))):=by
   unfold Y9;rw[Y0 A];exact .xI .qE .lit
  exact⟨_::_::l,.X2 b1 b2 b9 W I,.qw (Q9 (s:=[125]) z (by decide)) p (.qw (Q9 (s:=[125]) J (by decide)) a6 o)⟩
end
def NsN(a:List ByteArray):Prop:= ∀s∈a,M5 s.data.toList=true
def zw.zl{N:Nat}{g}{low d i j:Nat}{x}(c:NsN g)(l:low<=2)(h:zw N g low d i x j):x.zl:=by
 induction h with
 |qE _ _ k=>exact c _ (B7 k)
 |lit _ h=>show _<100;have:=h.1;omega
 |neg _ _ e=>exact e
 |call _ f _ _ a b=>exact⟨by have:=f.1;omega,a,b⟩
 |X0 _ f _ e=>exact⟨by have:=f.1;omega,e⟩
 |xI _ _ _ _ a b=>exact⟨a,b⟩
def zi.zl{N:Nat}{e}{low d i g:Nat}{x}(c:NsN e)(f:low<=2)(h:zi N e low d i x g):x.zl:=by
 induction h with
 |not _ _ j=>exact j
 |and _ _ _ a b=>exact⟨a,b⟩
 |or _ _ _ a b=>exact⟨a,b⟩
 |tf _ _=>trivial
 |jx _ k _ l=>exact⟨k.zl c f,l.zl c f⟩
def GL.zkx(a b:GL)(d:a.zl)(f:b.zl):(a.qv b).zl:=by
 induction a with
 |nil=>exact f
 |set s x r e=>exact⟨d.1,d.2.1,e d.2.2⟩
 |Q8 x r e=>exact⟨d.1,e d.2⟩
 |xl c a b r _ _ e=>exact⟨d.1,d.2.1,d.2.2.1,e d.2.2.2⟩
 |X2 i n l r _ e=>exact⟨d.1,d.2.1,d.2.2.1,e d.2.2.2⟩
 |run x r e=>exact⟨d.1,e d.2⟩
 |qi x r e=>exact⟨d.1,e d.2⟩
 |bind i x r e=>exact⟨d.1,d.2.1,e d.2.2⟩
def OkS(s:Ms)(g:GL)(a:Ms):Prop:=s.m<=a.m/\(NsN s.ns->a.m<10^10->g.zl/\NsN a.ns)
def xc.okS{N low:Nat}{B:Ms->GL->Ms->Prop}(k:low<=2)(o: ∀s g s',B s g s'->OkS s g s'/\s'.ns=s.ns){s g s'}(h:xc N low B s g s'):OkS s g s':=by
 refine⟨?_,?_⟩
 ·cases h with
  |xl _ _ t q=>have e:=(o _ _ _ t).1.1;have r:=(o _ _ _ q).1.1;exact C1 e r
  |X2 _ _ q=>have e:=(o _ _ _ q).1.1;simp only at e|-;omega
  |bind _ _=>exact Nat.le_succ _
  |_=>exact x7 _
 cases h with
 |set p e u j=>intro d f;exact⟨⟨d _ (B7 u),j.zl d k,trivial⟩,d⟩
 |Q8 p j=>intro d f;exact⟨⟨j.zl d k,trivial⟩,d⟩
 | @xl y m i z c a b J D p E t q=>
   intro d f;obtain⟨e,r⟩:=o _ _ _ t;obtain⟨A,K⟩:=o _ _ _ q;obtain⟨F,G⟩:=A.2 (by rw[r];exact d) f;obtain⟨v,C⟩:=e.2 d (by have:=A.1;omega);exact⟨⟨E.zl d k,v,F,trivial⟩,G⟩
 | @X2 y m i z n l D p H w=>
   intro d f;obtain⟨e,r⟩:=o _ _ _ w;obtain⟨v,C⟩:=e.2 d f;have I:=e.1;simp only at I;exact⟨⟨by omega,by have:=H.1;omega,v,trivial⟩,C⟩
 |run p j=>intro d f;exact⟨⟨j.zl d k,trivial⟩,d⟩
 |qi p e j=>intro d f;exact⟨⟨j.zl d k,trivial⟩,d⟩
 | @bind y m i L z x p j=>
   intro d f;refine⟨⟨f,j.zl d k,trivial⟩,?_⟩;intro s u
   rcases List.mem_append.1 u with h|h
   ·exact d s h
   ·simp at h;subst h;rw[zcZ];exact zN (c:=118) (by decide) _ f
def Run.okS{S:Ms->GL->Ms->Prop}(d: ∀s g s',S s g s'->OkS s g s'){j:Nat}{s g s'}(h:Run S j s g s'):OkS s g s':=by
 induction h with
 |nil=>exact⟨x7 _,λa _=>⟨trivial,a⟩⟩
 | @xn j s n o g x p e c=>
   have b:=d _ _ _ e;refine⟨C1 c.1 b.1,λa f=>?_⟩;obtain⟨i,k⟩:=c.2 a (by have:=b.1;omega);obtain⟨l,m⟩:=b.2 k f;exact⟨GL.zkx _ _ i l,m⟩
def jA.okS{N:Nat}{S:Ms->GL->Ms->Prop}(d: ∀s g a,S s g a->OkS s g a){s g a}(h:jA N S s g a):OkS s g a/\a.ns=s.ns:=by
 obtain⟨j,i,k,l,e,rfl⟩:=h;have b:=e.okS d;exact⟨⟨b.1,λc f=>⟨(b.2 c f).1,c⟩⟩,rfl⟩
def yh.okS{N low:Nat}(b:low<=2): ∀(d:Nat)s g a,yh N low d s g a->OkS s g a/\a.ns=s.ns:=by
 intro d
 induction d with
 |zero=>intro s g a h;exact jA.okS (λs g a h=>xc.okS b (λ_ _ _ h=>h.elim) h) h
 |succ d c=>intro s g a h;exact jA.okS (λs g a h=>xc.okS b c h) h
def zga(j:Nat)(g:GL)(x:GE):List Pc:=[.w 3 [102,117,110],.sp 32]++[.w 2 (fL j)]++[.w 4 [40],.w 2 [112],.w 4 [58],.sp 32,.w 3 [105,110,116],.w 4 [44],.sp 32,.w 2 [113],.w 4 [58],.sp 32,.w 3 [105,110,116],.w 4 [41],.w 4 [58],.sp 32,.w 3 [105,110,116],.sp 32,.w 4 [123],.sp 32]++g.N2++[.w 3 [114,101,116,117,114,110],.sp 32]++x.N2++[.w 4 [59],.sp 32,.w 4 [125],.sp 10]
def Xv:Nat->List (GL×GE)->List Pc
 |_,[]=>[]
 |j,(g,x)::r=>zga j g x++Xv (j+1) r
def zc0(g:GL)(x:GE):List Pc:=[.w 3 [102,117,110],.sp 32,.w 2 [109,97,105,110],.w 4 [40],.w 4 [41],.w 4 [58],.sp 32,.w 3 [105,110,116],.sp 32,.w 4 [123],.sp 32]++g.N2++[.w 3 [114,101,116,117,114,110],.sp 32]++x.N2++[.w 4 [59],.sp 32,.w 4 [125]]
def jL(fs:List (GL×GE))(g:GL)(x:GE):List Pc:=Xv 0 fs++zc0 g x
def zlY(j:Nat)(g x):(zg7 j g x).data.toList=zt (zga j g x):=by
 simp only[zg7,zga,Ya,P8,N8,P9,Pc.R4,YX,GL.zbj,GE.zbj,fL];simp
def zfb: ∀fs(j:Nat),(Zt j fs).data.toList=zt (Xv j fs)
 |[],_=>rfl
 |(g,x)::r,j=>by simp only[Zt,Xv,Ya,P8,zlY,zfb r (j+1)]
def zf8(fs g x):(XU fs g x).data.toList=zt (jL fs g x):=by
 simp only[XU,jL,zc0,Ya,P8,N8,P9,Pc.R4,GL.zbj,GE.zbj,zfb];simp
def zoe{l:List Pc}(h:R9 l):R9 (.sp 10::l):=⟨by decide,h⟩
def zhz{j:Nat}{g x}(p:j<100)(b:g.zl)(d:x.zl)(a)(e:R9 a):R9 (zga j g x++a):=by
 simp only[zga,B9,B6,C0];have f:=N7 (c:=59) (by decide) (O1 (N7 (c:=125) (by decide) (zoe e)));have h:=qD (w:=[114,101,116,117,114,110]) (by decide) (R8 _) (O1 (x.Qr _ d f (R7 (by decide) _ _ _)));have i:=N7 (c:=123) (by decide) (O1 (g.Qr _ b h));have k:=N7 (c:=41) (by decide) (N7 (c:=58) (by decide) (O1 (qD (w:=[105,110,116]) (by decide) (R8 _) (O1 i))));have l:=N7 (c:=58) (by decide) (O1 (qD (w:=[105,110,116]) (by decide) (R7 (by decide) _ _ _) k));have m:=N7 (c:=44) (by decide) (O1 (qI (w:=[113]) (by decide) (R7 (by decide) _ _ _) l));have n:=N7 (c:=58) (by decide) (O1 (qD (w:=[105,110,116]) (by decide) (R7 (by decide) _ _ _) m));have o:=N7 (c:=40) (by decide) (qI (w:=[112]) (by decide) (R7 (by decide) _ _ _) n);exact qD (by decide) (R8 _) (O1 (qI (zN (c:=102) (by decide) j (by omega)) (R7 (by decide) _ _ _) o))
def zf2{g x}(a:g.zl)(b:x.zl):R9 (zc0 g x):=by
 simp only[zc0,B9,B6,C0];have d:=N7 (c:=59) (by decide) (O1 (N7 (c:=125) (l:=[]) (by decide) trivial));have e:=qD (w:=[114,101,116,117,114,110]) (by decide) (R8 _) (O1 (x.Qr _ b d (R7 (by decide) _ _ _)));have f:=N7 (c:=123) (by decide) (O1 (g.Qr _ a e));have h:=N7 (c:=41) (by decide) (N7 (c:=58) (by decide) (O1 (qD (w:=[105,110,116]) (by decide) (R8 _) (O1 f))));exact qD (by decide) (R8 _) (O1 (qI (w:=[109,97,105,110]) (by decide) (R7 (by decide) _ _ _) (N7 (c:=40) (by decide) h)))
def zaY: ∀fs(j:Nat),j+fs.length<=100->(∀f∈fs,f.1.zl/\f.2.zl)-> ∀a,R9 a->R9 (Xv j fs++a)
 |[],_,_,_,_,b=>b
 |(g,x)::r,j,d,h,a,b=>by
  simp only[Xv,B9];simp only[A8]at d;have c:=h (g,x) (B2 ..);exact zhz (by omega) c.1 c.2 _ (zaY r (j+1) (by omega) (λf e=>h f (x5 _ e)) a b)
def zbr:NsN pq:=by intro s a;simp only[pq,E7,List.mem_nil_iff,or_false]at a;rcases a with rfl|rfl<;>decide
def xr.zl{N j i m d:Nat}{fs}(p:j<=2)(hi:i<=N)(h:xr N j i fs m d): ∀f∈fs,f.1.zl/\f.2.zl:=by
 induction h with
 |nil=>intro f a;cases a
 | @xn j i q r s t u fs g x e c k l=>
   intro f a
   rcases List.mem_append.1 a with a|a
   ·exact l (by omega) hi f a
   ·simp at a;subst a
    have v:=(e.mono (by omega) hi).1;have n:=(yh.X7 (low:=j) (by omega) 2 _ _ _ c).1 zg3 (by simp only;have:Xo 2=129:=rfl;omega);have o:=n.2.1;simp only at o;have:Xo 2=129:=rfl;exact⟨((yh.okS (low:=j) (by omega) 2 _ _ _ c).1.2 zbr (by simp only;omega)).1,k.zl zbr (by omega)⟩
def jj.znf{N:Nat}{t:ByteArray}(h:jj N t): ∃(k:Nat)(fs:List (GL×GE))(g:GL)(x:GE)(c d e j f l:Nat),Nx N 3 0 k c/\xr N k c fs d e/\yh N k 3 ⟨[],d,e⟩ g ⟨[],j,f⟩/\zw N [] k 2 f x l/\t.data.toList=zt (jL fs g x)/\R9 (jL fs g x):=by
 obtain⟨k,fs,g,x,c,d,e,j,f,l,y,m,i,n,r,rfl⟩:=h;have b:k<=2:=by have:=m.1;omega
 have u:=m.le;have z:=(i.mono b u.2.1).1;have v:=(yh.X7 (low:=k) b 3 _ _ _ n).1 (by intro s p;simp at p) (by simp only;have:Xo 3=777:=rfl;omega);have w:=v.2.1;simp only at w;have:Xo 3=777:=rfl;have a:NsN []:=by intro s p;cases p
 have q:=((yh.okS (low:=k) b 3 _ _ _ n).1.2 a (by simp only;omega)).1;exact⟨k,fs,g,x,c,d,e,j,f,l,m,i,n,r,zf8 fs g x,zaY fs 0 (by have:=i.X5;omega) (i.zl b u.2.1) _ (zf2 q (r.zl a b))⟩
def tP:ByteArray:=⟨#[112]⟩
def tQ:ByteArray:=⟨#[113]⟩
def zM(g:GL)(x:GE):GL:=g.qv (.qi x .nil)
theorem GL.zdm{ρ}(a b:GL):(a.qv b).P3 ρ=a.P3 ρ++b.P3 ρ:=by
 induction a<;>simp only[GL.qv,GL.P3,B9,C0, *]
theorem GL.JF{ρ}(a b:GL)(d:a.yg ρ)(f:b.yg ρ):(a.qv b).yg ρ:=by
 induction a with
 |nil=>exact f
 |set s x r e=>exact⟨d.1,d.2.1,e d.2.2⟩
 |Q8 x r e=>exact⟨d.1,e d.2⟩
 |xl c a b r _ _ e=>exact⟨d.1,d.2.1,d.2.2.1,e d.2.2.2⟩
 |X2 i n l r _ e=>exact⟨d.1,d.2.1,d.2.2.1,e d.2.2.2⟩
 |run x r e=>exact⟨d.1,e d.2⟩
 |qi x r e=>exact⟨d.1,e d.2⟩
 |bind i x r e=>exact⟨d.1,d.2.1,e d.2.2⟩
def zav(ρ:ByteArray->ByteArray)(j:Nat)(g:GL)(x:GE):List Pc:=[.w 3 [102,117,110],.sp 32]++[.w 2 (fL j)]++[.w 4 [40],.w 2 (ρ tP).data.toList,.w 4 [58],.sp 32,.w 3 [105,110,116],.w 4 [44],.sp 32,.w 2 (ρ tQ).data.toList,.w 4 [58],.sp 32,.w 3 [105,110,116],.w 4 [41],.w 4 [58],.sp 32,.w 3 [105,110,116],.sp 32,.w 4 [123],.sp 32]++(zM g x).P3 ρ++[.w 4 [125],.sp 10]
def xU(ρ:ByteArray->ByteArray):Nat->List (GL×GE)->List Pc
 |_,[]=>[]
 |j,(g,x)::r=>zav ρ j g x++xU ρ (j+1) r
def Qx(ρ:ByteArray->ByteArray)(g:GL)(x:GE):List Pc:=[.w 3 [102,117,110],.sp 32,.w 2 [109,97,105,110],.w 4 [40],.w 4 [41],.w 4 [58],.sp 32,.w 3 [105,110,116],.sp 32,.w 4 [123],.sp 32]++(zM g x).P3 ρ++[.w 4 [125]]
def Qc(ρ:ByteArray->ByteArray)(fs:List (GL×GE))(g:GL)(x:GE):List Pc:=xU ρ 0 fs++Qx ρ g x
theorem YC(fs g x):Qc id fs g x=jL fs g x:=by
 have h: ∀(fs:List (GL×GE))(j:Nat),xU id j fs=Xv j fs:=by
  intro fs
  induction fs with
  |nil=>intro j;rfl
  |cons f fs a=>
   intro j;obtain⟨g,x⟩:=f;simp only[xU,Xv,a,zav,zga,zM,GL.zdm,GL.zfr,GL.P3,GE.zer,id,B9,B6,C0,List.append_nil];rfl
 simp only[Qc,jL,h,Qx,zc0,zM,GL.zdm,GL.zfr,GL.P3,GE.zer,B9,B6,C0,List.append_nil]
def TrF(ρ:ByteArray->ByteArray)(j:Nat)(g:GL)(x:GE)(f:Fn):Prop:=f.J2=⟨(fL j).toArray⟩/\f.J1=[ρ tP,ρ tQ]/\f.K4=[1,1]/\f.out=1/\Ql ρ (zM g x) f.J0
def TrM(ρ:ByteArray->ByteArray)(g:GL)(x:GE)(f:Fn):Prop:=f.J2=⟨#[109,97,105,110]⟩/\f.J1=[]/\f.K4=[]/\f.out=1/\Ql ρ (zM g x) f.J0
inductive Qo(ρ:ByteArray->ByteArray):Nat->List (GL×GE)->List Fn->Prop
 |nil {j:Nat}:Qo ρ j [] []
 |cons {j:Nat} {g:GL} {x:GE} {r:List (GL×GE)} {f:Fn} {l:List Fn}:TrF ρ j g x f->Qo ρ (j+1) r l->Qo ρ j ((g,x)::r) (f::l)
section
variable {ws:List Wd}{en:Nat}{ρ:ByteArray->ByteArray}
theorem zif{g:GL}{x:GE}(f:g.yg ρ)(j:(x.jd ρ).zl)(a:g.ZQ)(b:x.Zm){i:Nat}{rest}(h:jT ws i (.w 4 [123]::.sp 32::((zM g x).P3 ρ++.w 4 [125]::rest))):
 ∃l,Ql ρ (zM g x) l/\Ds ws en (.block i) (.Zn l (i+1+nW ((zM g x).P3 ρ)+1))/\jT ws (i+1+nW ((zM g x).P3 ρ)+1) rest:=by
 obtain⟨⟨k,m⟩,d⟩:=h.w;obtain⟨⟨p,c⟩,n⟩:=(jT.skip ((zM g x).P3 ρ) d.sp).w;obtain⟨l,o,e⟩:=(zM g x).der (ρ:=ρ) (en:=en) (GL.JF _ _ f ⟨j,trivial⟩) (GL.XX _ _ a ⟨b,trivial⟩) (i+1) _ _ [] d.sp (.done (S7 (t:=[125]) c));rw[List.append_nil]at e;exact⟨l,o,.block (S7 (t:=[123]) m) e,n⟩
theorem zex{i:Nat}{k a:Nat}(h:ws[i]?=some ⟨4,⟨([58]:Bs).toArray⟩,k⟩)(b:ws[i+1]?=some ⟨3,⟨([105,110,116]:Bs).toArray⟩,a⟩):jV ws i=.ok 1:=by
 unfold jV;rw[C8 (show J3 ws i jX=true from S7 (t:=[58]) h),C8 (show J3 ws (i+1) zaf=true from S7 (t:=[105,110,116]) b)]
theorem zow{j:Nat}{g x}(hj:j<100)(H:M5 (ρ tP).data.toList=true)(hQ:M5 (ρ tQ).data.toList=true)(I:g.yg ρ)(J:(x.jd ρ).zl)(q:g.ZQ)(r:x.Zm){i:Nat}{rest}(h:jT ws i (zav ρ j g x++rest)):
 ∃f,TrF ρ j g x f/\Df ws en i (.fn f (i+nW (zav ρ j g x)))/\i<ws.length/\jT ws (i+nW (zav ρ j g x)) rest:=by
 simp only[zav,B9,B6,C0]at h;obtain⟨⟨k,G⟩,K⟩:=h.w;obtain⟨⟨k1,b⟩,L⟩:=K.sp.w;obtain⟨⟨k2,u⟩,M⟩:=L.w;obtain⟨⟨k3,a⟩,N⟩:=M.w;obtain⟨⟨k4,v⟩,O⟩:=N.w;obtain⟨⟨k5,y⟩,P⟩:=O.sp.w;obtain⟨⟨k6,c⟩,Q⟩:=P.w;obtain⟨⟨k7,d⟩,R⟩:=Q.sp.w;obtain⟨⟨k8,z⟩,S⟩:=R.w;obtain⟨⟨k9,A⟩,B⟩:=S.sp.w;obtain⟨⟨T,m⟩,C⟩:=B.w;obtain⟨⟨U,n⟩,D⟩:=C.w;obtain⟨⟨V,o⟩,E⟩:=D.sp.w;obtain⟨l,W,X,F⟩:=zif (en:=en) I J q r E.sp;have e:i+nW (zav ρ j g x)=i+1+1+1+1+1+1+1+1+1+1+1+1+1+1+nW ((zM g x).P3 ρ)+1:=by simp only[zav,zq,nW,B6,C0];omega
 have Y:Dp ws en 0 (i+1+1+1) (.ok [ρ tP,ρ tQ] [1,1] (i+1+1+1+1+1+1+1+1+1+1+1)):=by
  have Z:Dp ws en 2 (i+1+1+1+1+1+1+1+1+1+1) (.ok [] [] (i+1+1+1+1+1+1+1+1+1+1+1)):=.U4 (S7 (t:=[41]) m);have e2:Dp ws en 1 (i+1+1+1+1+1+1) (.ok [ρ tQ] [1] (i+1+1+1+1+1+1+1+1+1+1+1)):=by
   have:=Dp.next (ws:=ws) (en:=en) (k:=1) (i:=i+1+1+1+1+1+1) (Q9 (s:=[41]) c (by decide)) (λ_=>S7 (t:=[44]) c) (xe d) (zex z A) Z;rw[show V9 1 (i+1+1+1+1+1+1)=i+1+1+1+1+1+1+1 from rfl,Y0 d,Yt]at this;exact this
  have:=Dp.next (ws:=ws) (en:=en) (k:=0) (i:=i+1+1+1) (Q9 (s:=[41]) a (yK H 41 (by decide))) (λh=>H9 rfl h) (xe a) (zex v y) e2;rw[show V9 0 (i+1+1+1)=i+1+1+1 from rfl,Y0 a,Yt]at this;exact this
 have p:=Df.fn (S7 (t:=[102,117,110]) G) (xe b) (S7 (t:=[40]) u) Y (zex n o) X;rw[Y0 b]at p;rw[e];exact⟨_,⟨rfl,rfl,rfl,rfl,W⟩,p,(List.getElem?_eq_some_iff.1 G).1,F.sp⟩
theorem zmC{g x}(u:g.yg ρ)(v:(x.jd ρ).zl)(j:g.ZQ)(m:x.Zm){i:Nat}(h:jT ws i (Qx ρ g x)):
 ∃f,TrM ρ g x f/\Df ws en i (.fn f (i+nW (Qx ρ g x)))/\i<ws.length/\ws.length<=i+nW (Qx ρ g x):=by
 simp only[Qx,B9,B6,C0]at h;obtain⟨⟨k,s⟩,y⟩:=h.w;obtain⟨⟨I,a⟩,z⟩:=y.sp.w;obtain⟨⟨J,n⟩,A⟩:=z.w;obtain⟨⟨K,o⟩,B⟩:=A.w;obtain⟨⟨C,b⟩,p⟩:=B.w;obtain⟨⟨D,c⟩,q⟩:=p.sp.w;obtain⟨l,E,F,r⟩:=zif (en:=en) u v j m q.sp;have e:i+nW (Qx ρ g x)=i+1+1+1+1+1+1+1+nW ((zM g x).P3 ρ)+1:=by simp only[Qx,zq,nW,B6,C0];omega
 have G:Dp ws en 0 (i+1+1+1) (.ok [] [] (i+1+1+1+1)):=.U4 (S7 (t:=[41]) o);have d:=Df.fn (S7 (t:=[102,117,110]) s) (xe a) (S7 (t:=[40]) n) G (zex b c) F;rw[Y0 a]at d;rw[e];refine⟨_,⟨rfl,rfl,rfl,rfl,E⟩,d,(List.getElem?_eq_some_iff.1 s).1,?_⟩;have:=r;unfold jT ktW at this;have H:=H0 List.length this;simp[ktP]at H;omega
theorem zim(d:M5 (ρ tP).data.toList=true)(k:M5 (ρ tQ).data.toList=true): ∀fs(j i:Nat)a,j+fs.length<=100->(∀f∈fs,f.1.yg ρ/\(f.2.jd ρ).zl/\f.1.ZQ/\f.2.Zm)->jT ws i (xU ρ j fs++a)->
 ∃l,Qo ρ j fs l/\(∀m,Du ws en (i+nW (xU ρ j fs)) (.xL m)->Du ws en i (.xL (l++m)))/\jT ws (i+nW (xU ρ j fs)) a
 |[],j,i,a,_,_,h=>⟨[],.nil,λ_ h=>h,h⟩
 |(g,x)::r,j,i,a,o,n,h=>by
  simp only[xU,B9]at h;simp only[A8]at o;obtain⟨p,q,s,t⟩:=n (g,x) (B2 ..);obtain⟨f,u,v,b,w⟩:=zow (en:=en) (by omega) d k p q s t h;obtain⟨l,y,z,A⟩:=zim d k r (j+1) _ a (by omega) (λf c=>n f (x5 _ c)) w;have e:i+nW (xU ρ j ((g,x)::r))=i+nW (zav ρ j g x)+nW (xU ρ (j+1) r):=by simp only[xU,zq];omega
  rw[e];exact⟨f::l,.cons u y,λm B=>.qw b v (z m B),A⟩
theorem zil{fs g x}(e:M5 (ρ tP).data.toList=true)(i:M5 (ρ tQ).data.toList=true)(s:fs.length<=100)(j: ∀f∈fs,f.1.yg ρ/\(f.2.jd ρ).zl/\f.1.ZQ/\f.2.Zm)(k:g.yg ρ)(m:(x.jd ρ).zl)(a:g.ZQ)(b:x.Zm)(h:jT ws 0 (Qc ρ fs g x)):
 ∃l f,Qo ρ 0 fs l/\TrM ρ g x f/\Du ws en 0 (.xL (l++[f])):=by
 obtain⟨l,n,o,p⟩:=zim (en:=en) e i fs 0 0 _ (by omega) j h;obtain⟨f,q,r,c,d⟩:=zmC (en:=en) k m a b p;exact⟨l,f,n,q,o _ (.qw c r (.done d))⟩
end
def GE.jU(a:List ByteArray)(low:Nat):GE->Prop
 |.qE s=>s∈a
 |.lit _=>True
 |.neg x=>x.jU a low
 |.call f x y=>f<low/\x.jU a low/\y.jU a low
 |.X0 _ x=>x.jU a low
 |.xI _ x y=>x.jU a low/\y.jU a low
 |.not x=>x.jU a low
 |.and x y=>x.jU a low/\y.jU a low
 |.or x y=>x.jU a low/\y.jU a low
 |.tf _=>True
 |.jx _ x y=>x.jU a low/\y.jU a low
def zw.jU{N:Nat}{e}{low d i f:Nat}{x}(h:zw N e low d i x f):x.jU e low:=by
 induction h with
 |qE _ _ g=>exact B7 g
 |lit _ _=>trivial
 |neg _ _ c=>exact c
 |call _ j _ _ a b=>exact⟨j.1,a,b⟩
 |X0 _ _ _ c=>exact c
 |xI _ _ _ _ a b=>exact⟨a,b⟩
def zi.jU{N:Nat}{c}{low d i e:Nat}{x}(h:zi N c low d i x e):x.jU c low:=by
 induction h with
 |not _ _ f=>exact f
 |and _ _ _ a b=>exact⟨a,b⟩
 |or _ _ _ a b=>exact⟨a,b⟩
 |tf _ _=>trivial
 |jx _ g _ j=>exact⟨g.jU,j.jU⟩
def GL.M3:GL->Nat
 |.nil=>0
 |.set _ _ r=>r.M3
 |.Q8 _ r=>r.M3
 |.xl _ a b r=>a.M3+b.M3+r.M3
 |.X2 _ _ l r=>1+l.M3+r.M3
 |.run _ r=>r.M3
 |.qi _ r=>r.M3
 |.bind _ _ r=>1+r.M3
def GL.nsA:GL->List ByteArray->List ByteArray
 |.nil,a=>a
 |.set _ _ r,a=>r.nsA a
 |.Q8 _ r,a=>r.nsA a
 |.xl _ _ _ r,a=>r.nsA a
 |.X2 _ _ _ r,a=>r.nsA a
 |.run _ r,a=>r.nsA a
 |.qi _ r,a=>r.nsA a
 |.bind i _ r,a=>r.nsA (a++[vT i])
def GL.jU(low:Nat):GL->List ByteArray->Nat->Prop
 |.nil,_,_=>True
 |.set s x r,d,m=>s∈d/\x.jU d low/\r.jU low d m
 |.Q8 x r,d,m=>x.jU d low/\r.jU low d m
 |.xl c a b r,d,m=>c.jU d low/\a.jU low d m/\b.jU low d (m+a.M3)/\r.jU low d (m+a.M3+b.M3)
 |.X2 i _ l r,d,m=>i=m+1/\l.jU low d (m+1)/\r.jU low d (m+1+l.M3)
 |.run x r,d,m=>x.jU d low/\r.jU low d m
 |.qi x r,d,m=>x.jU d low/\r.jU low d m
 |.bind i x r,d,m=>i=m+1/\x.jU d low/\r.jU low (d++[vT i]) (m+1)
def GL.JD(a b:GL):(a.qv b).M3=a.M3+b.M3:=by
 induction a<;>simp only[GL.qv,GL.M3,Nat.add_assoc,Nat.zero_add, *]
def GL.zkG(a b:GL): ∀c,(a.qv b).nsA c=b.nsA (a.nsA c):=by
 induction a<;>intro c<;>simp only[GL.qv,GL.nsA, *]
def GL.zfs(low:Nat)(a b:GL): ∀f m,a.jU low f m->b.jU low (a.nsA f) (m+a.M3)->(a.qv b).jU low f m:=by
 induction a with
 |nil=>intro f m _ h;exact h
 |set s x r d=>intro f m h e;exact⟨h.1,h.2.1,d _ _ h.2.2 e⟩
 |Q8 x r d=>intro f m h e;exact⟨h.1,d _ _ h.2 e⟩
 |xl c a b r _ _ d=>
  intro f m h e;refine⟨h.1,h.2.1,h.2.2.1,d _ _ h.2.2.2 ?_⟩;simp only[GL.M3,GL.nsA]at e
  rwa [show m+a.M3+b.M3+r.M3=m+(a.M3+b.M3+r.M3) by omega]
 |X2 i n l r _ d=>
  intro f m h e;refine⟨h.1,h.2.1,d _ _ h.2.2 ?_⟩;simp only[GL.M3,GL.nsA]at e
  rwa [show m+1+l.M3+r.M3=m+(1+l.M3+r.M3) by omega]
 |run x r d=>intro f m h e;exact⟨h.1,d _ _ h.2 e⟩
 |qi x r d=>intro f m h e;exact⟨h.1,d _ _ h.2 e⟩
 |bind i x r d=>
  intro f m h e;refine⟨h.1,h.2.1,d _ _ h.2.2 ?_⟩;simp only[GL.M3,GL.nsA]at e
  rwa [show m+1+r.M3=m+(1+r.M3) by omega]
def zjJ(low:Nat)(s:Ms)(g:GL)(a:Ms):Prop:=g.jU low s.ns s.m/\a.m=s.m+g.M3/\a.ns=g.nsA s.ns
def zmp(low:Nat)(s:Ms)(g:GL)(a:Ms):Prop:=g.jU low s.ns s.m/\a.m=s.m+g.M3/\a.ns=s.ns
def xc.zkw{N low:Nat}{B:Ms->GL->Ms->Prop}(k: ∀s g s',B s g s'->zmp low s g s'){s g s'}(h:xc N low B s g s'):zjJ low s g s':=by
 cases h with
 |set _ _ p d=>exact⟨⟨B7 p,d.jU,trivial⟩,rfl,rfl⟩
 |Q8 _ d=>exact⟨⟨d.jU,trivial⟩,rfl,rfl⟩
 | @xl q m i r c a b A t _ u v w=>
   obtain⟨f,j,e⟩:=k _ _ _ v;obtain⟨o,x,y⟩:=k _ _ _ w;simp only at f j e;rw[j,e]at o;rw[j]at x;exact⟨⟨u.jU,f,o,trivial⟩,by simp only[GL.M3];omega,by rw[y,e];rfl⟩
 | @X2 q m i r n l t _ _ z=>
   obtain⟨f,j,e⟩:=k _ _ _ z;simp only at f j e;exact⟨⟨rfl,f,trivial⟩,by simp only[GL.M3];omega,e⟩
 |run _ d=>exact⟨⟨d.jU,trivial⟩,rfl,rfl⟩
 |qi _ _ d=>exact⟨⟨d.jU,trivial⟩,rfl,rfl⟩
 |bind _ d=>exact⟨⟨rfl,d.jU,trivial⟩,rfl,rfl⟩
def Run.zkw{low:Nat}{S:Ms->GL->Ms->Prop}(d: ∀s g s',S s g s'->zjJ low s g s'){j:Nat}{s g s'}(h:Run S j s g s'):zjJ low s g s':=by
 induction h with
 |nil=>exact⟨trivial,rfl,rfl⟩
 |xn _ e f=>
  obtain⟨i,a,b⟩:=f;obtain⟨c,k,l⟩:=d _ _ _ e;rw[a,b]at c;exact⟨GL.zfs _ _ _ _ _ i c,by rw[k,a,GL.JD];omega,by rw[l,b,GL.zkG]⟩
def yh.zpQ{N low:Nat}: ∀(d:Nat)s g s',yh N low d s g s'->zmp low s g s':=by
 have a: ∀(S:Ms->GL->Ms->Prop),(∀s g s',S s g s'->zjJ low s g s')-> ∀s g s',jA N S s g s'->zmp low s g s':=by
  rintro S b s g s' ⟨j,k,l,m,c,rfl⟩;obtain⟨e,f,n⟩:=c.zkw b;exact⟨e,f,rfl⟩
 intro d
 induction d with
 |zero=>exact a _ λs g s' h=>xc.zkw (λ_ _ _ h=>h.elim) h
 |succ d i=>exact a _ λs g s' h=>xc.zkw i h
structure zeb(N S:Nat)(s:Ms)(g:GL)(s':Ms):Prop where
 le:s.i<=s'.i
 top:s'.i<=N
 few:s'.i<N->2*g.M3<=s'.i-s.i
 all:2*g.M3<=s'.i-s.i+S
def zw.mv{N:Nat}{g}{low d i b:Nat}{x}(h:zw N g low d i x b):i<=b/\b<=N/\(i<N->i<b):=by
 induction h with
 |qE a j m=>have:=a.le;have:=j.le;have:=a.2;omega
 |lit a h=>have:=a.le;have:=h.le;have:=a.2;omega
 |neg a _ k=>omega
 |call a c _ _ e f=>have:=c.le;omega
 |X0 a c _ k=>have:=c.le;omega
 |xI a _ l _ e f=>have:=l.le;omega
def zi.mv{N:Nat}{g}{low d i b:Nat}{x}(h:zi N g low d i x b):i<=b/\b<=N:=by
 induction h with
 |not a _ l=>have:=a.le;omega
 |and a _ _ c e=>omega
 |or a _ _ c e=>omega
 |tf a f=>have:=f.le;omega
 |jx j a k f=>have:=j.le;have:=a.mv;have:=k.le;have:=f.mv;omega
def xc.cnt{N low R:Nat}(K:2<=R){B:Ms->GL->Ms->Prop}(o: ∀s g j,B s g j->s.i<=N->zeb N R s g j/\(s.i=N->g.M3=0)){s g j}(h:xc N low B s g j)(hi:s.i<=N):zeb N R s g j/\(s.i=N->g.M3<=1):=by
 cases h with
 |set e p L d=>have:=e.le;have:=p.le;have:=d.mv;exact⟨⟨by simp only;omega,by simp only;omega,by simp[GL.M3],by simp[GL.M3]⟩,by simp[GL.M3]⟩
 |Q8 e d=>have:=d.mv;exact⟨⟨by simp only;omega,by simp only;omega,by simp[GL.M3],by simp[GL.M3]⟩,by simp[GL.M3]⟩
 |run e d=>have:=d.mv;exact⟨⟨by simp only;omega,by simp only;omega,by simp[GL.M3],by simp[GL.M3]⟩,by simp[GL.M3]⟩
 |qi e p d=>have:=p.le;have:=d.mv;exact⟨⟨by simp only;omega,by simp only;omega,by simp[GL.M3],by simp[GL.M3]⟩,by simp[GL.M3]⟩
 |bind e d=>
  have:=d.mv;exact⟨⟨by simp only;omega,by simp only;omega,by simp only[GL.M3];omega,by simp only[GL.M3];omega⟩,by simp[GL.M3]⟩
 | @xl w m i u c a b x y e z A C=>
   have D:=z.mv;obtain⟨⟨q,r,f,t⟩,k⟩:=o _ _ _ A (by simp only;omega);obtain⟨⟨M,E,F,O⟩,G⟩:=o _ _ _ C r;simp only at q f t k;refine⟨⟨by simp only;omega,E,λh=>?_,?_⟩,λh=>by simp only at h;omega⟩
   ·simp only[GL.M3]
    have:=F h;have:=f (by omega);omega
   ·simp only[GL.M3]
    by_cases h:x.i=N
    ·have:=G h;omega
    ·have:=f (by omega);omega
 | @X2 w m i u n l y e v H=>
   have I:=v.le;obtain⟨⟨q,r,f,t⟩,k⟩:=o _ _ _ H (by simp only;omega);simp only at q f t k;have J:=v.2;refine⟨⟨by simp only;omega,r,λh=>?_,?_⟩,λh=>by simp only at h;omega⟩
   ·simp only[GL.M3]
    have:=f h;omega
   ·simp only[GL.M3]
    by_cases h:u=N
    ·have:=k h;omega
    ·omega
def Run.cnt{N R:Nat}{S:Ms->GL->Ms->Prop}(b: ∀s g s',S s g s'->s.i<=N->zeb N R s g s'/\(s.i=N->g.M3<=1)){j:Nat}{s g s'}(h:Run S j s g s')(hi:s.i<=N):zeb N (R+2*j) s g s':=by
 induction h with
 |nil=>exact⟨x7 _,hi,by simp[GL.M3],by simp[GL.M3]⟩
 | @xn j s c n g x o d e=>
   obtain⟨p,f,a,q⟩:=e hi;obtain⟨⟨r,k,l,t⟩,m⟩:=b _ _ _ d f;refine⟨by omega,k,λh=>?_,?_⟩
   ·rw[GL.JD];have:=l h;have:=a (by omega);omega
   ·rw[GL.JD]
    by_cases h:c.i=N
    ·have:=m h;omega
    ·have:=a (by omega);omega
def slk:Nat->Nat
 |0=>8
 |d+1=>slk d+6
def yh.cnt{N low:Nat}: ∀(d:Nat)s g a,yh N low d s g a->s.i<=N->zeb N (slk d) s g a/\(s.i=N->g.M3=0):=by
 have b: ∀(R:Nat)(S:Ms->GL->Ms->Prop),(∀s g a,S s g a->s.i<=N->zeb N R s g a/\(s.i=N->g.M3<=1))-> ∀s g a,jA N S s g a->s.i<=N->zeb N (R+6) s g a/\(s.i=N->g.M3=0):=by
  rintro R S n s g a ⟨j,v,w,e,f,rfl⟩ c;have o:=e.le;have p:=e.1;have q:=e.2;obtain⟨r,k,l,t⟩:=f.cnt n (by simp only;omega);simp only at r k l t;refine⟨⟨by simp only;omega,k,λh=>?_,?_⟩,λh=>?_⟩
  ·have:=l h;simp only;omega
  ·simp only;omega
  ·have:j=0:=by omega
   subst this;cases f;rfl
 have u: ∀d,2<=slk d:=by intro d;induction d with
  |zero=>decide
  |succ d m=>simp only[slk];omega
 intro d
 induction d with
 |zero=>exact b 2 _ λs g a h c=>xc.cnt (x7 _) (λ_ _ _ h=>h.elim) h c
 |succ d m=>exact b (slk d) _ λs g a h c=>xc.cnt (u d) m h c
end Go.Proofs.YtmngofgminlloaaGreatDoor
