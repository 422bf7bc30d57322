/- Merged. -/
import Derived.Test.YtalgmjmibamdfaaGreatDoorVS22
set_option linter.all false
set_option maxHeartbeats 16000000
set_option maxRecDepth 100000
namespace Go.Proofs.YtalgmjmibamdfaaGreatDoor
open Go.RowKit Tw
theorem zaM{l:Bs}{k n:Nat}(h:xp l=.Y8 k n)(a:k=1):n<=12:=by
 subst a;unfold Tw.xp at h
 split at h
 ·cases h
 split at h
 ·cases h
 split at h
 ·split at h
  ·rename_i c
   injection h with _ h
   have d:=(jK _ c).1;have e:K0 Q7 l<=l.length:=by unfold K0;exact(List.takeWhile_sublist _).length_le
   rw[G8,Nat.min_eq_left e]at d;omega
  ·cases h
 split at h
 ·split at h
  ·injection h with h _;omega
  ·split at h
   ·cases h
   ·injection h with h _;omega
 ·split at h
  ·cases h
  ·injection h with h _;omega
theorem Tw.jz.yP{s:ByteArray}{k:Nat}{l:List Wd}{r:Option Nat×List Wd}(h:jz s k l r):zw l->zw r.2:=by
 induction h with
 |done e=>exact id
 |xS _ _=>intro _ x a;simp at a
 |skip _ _ _ c=>exact c
 | @Y8 i k n l r o f _ c=>
   intro g;refine c λx a d=>?_
   rcases List.mem_append.1 a with a|a
   ·exact g x a d
   ·simp at a;subst a
    have:=zaM f d;simp;omega
theorem ZZ.yP{s:ByteArray}{p e:Int}{ws:List Wd}(h:ZZ s p e ws):zw ws:=by
 rcases h with⟨_,_,_,rfl⟩|⟨_,r,c,_,_,rfl⟩
 ·intro x a;simp at a
 ·exact c.yP (λx a=>by simp at a)
def FnR(low:Nat)(nm:ByteArray)(ps:List ByteArray)(P:List Pc):Prop:=
 (∀a,O9 a->O9 (P++a))/\ ∀d g q a,qx d q (P++a)-> ∃f,Df d g q f (q+nW P)/\q<d.length/\f.K3=nm/\f.I4=ps/\
  (∀c,jS c low->Fw f/\f.I4.Nodup/\ ∃e m,Bx c 40 f.J0 f.I4.reverse f.I4.length e m true)/\ ∀c,(jk c f).I9.length<=(za P).length
section
variable {low b m m' j:Nat}{ns ns':List ByteArray}{p:List Pc}
theorem zb4{ws:List Wd}{en q:Nat}{f:List Pc}(n:yp low b 7 true ns m ns' m' p)(o:b<=39)(h:qx ws q (.w 4 [123]::.sp 32::(p++.w 4 [125]::f))):
 ∃l:List Sm,l.length<=7/\Ds ws en (.block q) (.Qj l (q+1+nW p+1))/\(∀us e c,jS us low->JF ns m e->c+(m'-m)<=64-> ∃a c',Bx us 40 l e c a c' true)/\ ∀us,yO us l (za p).length:=by
 obtain⟨⟨k,s⟩,i⟩:=h.w;obtain⟨⟨E,g⟩,F⟩:=(qx.skip p i.sp).w;obtain⟨l,u,v,x,y⟩:=n.2 ws en _ _ i.sp;have d:=v [] _ (.done (N8 (t:=[125]) g));rw[List.append_nil]at d;refine⟨l,u,.block (N8 (t:=[123]) s) d,λus e c z A B=>?_,y⟩;obtain⟨a,r,C,D,-⟩:=x us e c 39 o z A B;exact⟨a,_,D rfl▸C⟩
theorem zeE{us:List Fn}{nm:ByteArray}{ps:List ByteArray}{l:List Sm}{pos:Int}{a:T9}{c':Nat}(f:R5 nm=true)(c:NsG ps)(d:ps.length<=2)(e:ps.Nodup)(i:l.length<=7)(g:Bx us 40 l ps.reverse ps.length a c' true):
 Fw {K3:=nm,I4:=ps,N2:=ps.map λ_=>1,out:=1,J0:=l,pos:=pos}/\ps.Nodup/\ ∃a m,Bx us 40 l ps.reverse ps.length a m true:=
 ⟨⟨⟨f,B5 (xl f) (by decide)⟩,λn h=>⟨c n h,B5 (xl (c n h)) (by decide)⟩,B5 d (by decide),rfl,rfl,g.sw,B5 i (by decide)⟩,e,a,c',g⟩
theorem zbG{us:List Fn}{f:Fn}{z:Nat}(h:yO us f.J0 z):(jk us f).I9.length<=z+2:=by
 have:=h 0 (zX 0 f.I4) f.I4.length;simp only[jk,y7,y6,y9];omega
theorem zam:NsG pq:=by intro s a;simp only[pq,D9,List.mem_nil_iff,or_false]at a;rcases a with rfl|rfl<;>decide
theorem zg4{g:GL}{x:GE}(hj:j<100)(B:yp low b 7 true pq m ns' m' (g.U4++(.w 3 [114,101,116,117,114,110]::.sp 32::(x.U4++[.w 4 [59],.sp 32]))))(Q:b<=39)(R:2+(m'-m)<=64):FnR low (fN j) pq (Yh j g x):=by
 have f:=yf (c:=102) (by decide) j (by omega);have S:Yh j g x=.w 3 [102,117,110]::.sp 32::.w 2 (fL j)::.w 4 [40]::.w 2 [112]::.w 4 [58]::.sp 32::.w 3 [105,110,116]::.w 4 [44]::.sp 32::.w 2 [113]::.w 4 [58]::.sp 32::.w 3 [105,110,116]::.w 4 [41]::.w 4 [58]::.sp 32::.w 3 [105,110,116]::.sp 32::.w 4 [123]::.sp 32::((g.U4++(.w 3 [114,101,116,117,114,110]::.sp 32::(x.U4++[.w 4 [59],.sp 32])))++[.w 4 [125],.sp 10]):=by
  simp only[Yh,B2,z9,B4]
 rw[S];generalize g.U4++_=p at B|-
 refine⟨λa T=>?_,λe n q a h=>?_⟩
 ·simp only[B2,z9,B4]
  have U:=M7 (c:=123) (by decide) (P0 (B.1 _ (M7 (c:=125) (by decide) (show O9 (.sp 10::a) from⟨by decide,T⟩))));have V:=M7 (c:=41) (by decide) (M7 (c:=58) (by decide) (P0 (zZ (w:=[105,110,116]) (by decide) (U1 _) (P0 U))));have W:=M7 (c:=58) (by decide) (P0 (zZ (w:=[105,110,116]) (by decide) (R6 (by decide) _ _ _) V));have X:=M7 (c:=44) (by decide) (P0 (qC (w:=[113]) (by decide) (R6 (by decide) _ _ _) W));have Y:=M7 (c:=58) (by decide) (P0 (zZ (w:=[105,110,116]) (by decide) (R6 (by decide) _ _ _) X));have Z:=M7 (c:=40) (by decide) (qC (w:=[112]) (by decide) (R6 (by decide) _ _ _) Y);exact zZ (by decide) (U1 _) (P0 (qC f (R6 (by decide) _ _ _) Z))
 ·simp only[B2,z9,B4]at h
  obtain⟨⟨k,O⟩,h1⟩:=h.w;obtain⟨⟨k1,o⟩,h2⟩:=h1.sp.w;obtain⟨⟨k2,C⟩,h3⟩:=h2.w;obtain⟨⟨k3,d⟩,h4⟩:=h3.w;obtain⟨⟨k4,D⟩,h5⟩:=h4.w;obtain⟨⟨k5,E⟩,h6⟩:=h5.sp.w;obtain⟨⟨k6,r⟩,h7⟩:=h6.w;obtain⟨⟨k7,u⟩,h8⟩:=h7.sp.w;obtain⟨⟨k8,F⟩,h9⟩:=h8.w;obtain⟨⟨k9,G⟩,H⟩:=h9.sp.w;obtain⟨⟨a0,v⟩,I⟩:=H.w;obtain⟨⟨a5,y⟩,J⟩:=I.w;obtain⟨⟨a6,z⟩,K⟩:=J.sp.w;obtain⟨l,a1,a2,a3,a4⟩:=zb4 (en:=n) B Q K.sp;have L: ∀{i k k'},e[i]?=some ⟨4,⟨([58]:Bs).toArray⟩,k⟩->e[i+1]?=some ⟨3,⟨([105,110,116]:Bs).toArray⟩,k'⟩->za2 e i:=λh h'=>⟨N8 (t:=[58]) h,N8 (t:=[105,110,116]) h'⟩;have e1:=Dp.jb (ws:=e) (en:=n) (k:=2) (N8 (t:=[41]) v);have e2:=Dp.next (k:=1) (i:=q+1+1+1+1+1+1) (qA (s:=[41]) r (by decide)) (λ_=>N8 (t:=[44]) r) (qz u) (L F G) e1;have P:=Dp.next (k:=0) (i:=q+1+1+1) (qA (s:=[41]) d (by decide)) (λh=>G5 rfl h) (qz d) (L D E) e2;rw[show qd 1 (q+1+1+1+1+1+1)=q+1+1+1+1+1+1+1 from rfl,show qd 0 (q+1+1+1)=q+1+1+1 from rfl,V9 d,V9 u]at P;have A:=Df.fn (N8 (t:=[102,117,110]) O) (qz o) (N8 (t:=[40]) C) P (L y z) a2;rw[V9 o]at A;have M:R5 (fN j)=true:=by unfold R5 fN;rw[XH];exact f
  refine⟨_,cast (G4 (Df e n q _) ?_) A,(List.getElem?_eq_some_iff.1 O).1,rfl,rfl,λN hU=>?_,λN=>B5 (zbG (a4 N)) ?_⟩
  ·simp only[X0,nW];omega
  ·obtain⟨a7,c',hB⟩:=a3 N pq.reverse 2 hU ⟨λs hs=>List.mem_reverse.2 hs,λk _=>⟨λh=>(zhM (List.mem_reverse.1 h) k).1 rfl,λh=>(zhM (List.mem_reverse.1 h) k).2 rfl⟩⟩ R
   exact zeE M zam (by decide) (by decide) a1 hB
  ·simp only[O0,M2,O7,Pc.O4,y7,y6,y9];omega
theorem zgc{g:GL}{x:GE}(n:yp low b 7 true [] m ns' m' (g.U4++(.w 3 [114,101,116,117,114,110]::.sp 32::(x.U4++[.w 4 [59],.sp 32]))))(C:b<=39)(V:m'-m<=64):FnR low yc [] (Zp g x):=by
 have D:Zp g x=.w 3 [102,117,110]::.sp 32::.w 2 [109,97,105,110]::.w 4 [40]::.w 4 [41]::.w 4 [58]::.sp 32::.w 3 [105,110,116]::.sp 32::.w 4 [123]::.sp 32::((g.U4++(.w 3 [114,101,116,117,114,110]::.sp 32::(x.U4++[.w 4 [59],.sp 32])))++[.w 4 [125]]):=by
  simp only[Zp,B2,z9,B4]
 rw[D];generalize g.U4++_=p at n|-
 refine⟨λa E=>?_,λF o q a h=>?_⟩
 ·simp only[B2,z9,B4]
  have G:=M7 (c:=123) (by decide) (P0 (n.1 _ (M7 (c:=125) (by decide) E)));have H:=M7 (c:=41) (by decide) (M7 (c:=58) (by decide) (P0 (zZ (w:=[105,110,116]) (by decide) (U1 _) (P0 G))));exact zZ (by decide) (U1 _) (P0 (qC (w:=[109,97,105,110]) (by decide) (R6 (by decide) _ _ _) (M7 (c:=40) (by decide) H)))
 ·simp only[B2,z9,B4]at h
  obtain⟨⟨k,B⟩,I⟩:=h.w;obtain⟨⟨W,d⟩,J⟩:=I.sp.w;obtain⟨⟨X,r⟩,K⟩:=J.w;obtain⟨⟨Y,u⟩,L⟩:=K.w;obtain⟨⟨M,e⟩,v⟩:=L.w;obtain⟨⟨N,f⟩,y⟩:=v.sp.w;obtain⟨l,O,P,Q,R⟩:=zb4 (en:=o) n C y.sp;have i:=Df.fn (N8 (t:=[102,117,110]) B) (qz d) (N8 (t:=[40]) r) (.jb (N8 (t:=[41]) u)) ⟨N8 (t:=[58]) e,N8 (t:=[105,110,116]) f⟩ P;rw[V9 d]at i;refine⟨_,cast (G4 (Df F o q _) ?_) i,(List.getElem?_eq_some_iff.1 B).1,rfl,rfl,λz S=>?_,λz=>B5 (zbG (R z)) ?_⟩
  ·simp only[X0,nW];omega
  ·obtain⟨T,Z,U⟩:=Q z [] 0 S ⟨λs A=>(nomatch A),λk _=>⟨λh=>(nomatch h),λh=>(nomatch h)⟩⟩ (by omega)
   exact zeE (by decide) (λs A=>nomatch A) (by decide) List.nodup_nil O U
  ·simp only[O0,M2,O7,Pc.O4,y7,y6,y9];omega
end
theorem ZB(g:GL)(x:GE): ∀(fs:List (GL×GE))(j:Nat),jT j (fs++[(g,x)])=jT j fs++Yh (j+fs.length) g x
 |[],j=>by simp[jT]
 |(a,c)::fs,j=>by simp only[z9,jT,ZB g x fs,B2,y6];rw[show j+1+fs.length=j+(fs.length+1) by omega]
def Fn.sh(f:Fn):ByteArray×Nat:=(f.K3,f.I4.length)
theorem XI{N low d a e c i f:Nat}{ns:List ByteArray}{g:GL}{x:GE}(k:low<=2)(l:NsG ns)(u:N<=60)(hi:e<=N)(v:d<=3)(y:a<=1000)(o:QB N low d ⟨ns,a,e⟩ g ⟨ns,c,i⟩)(hx:ze N ns low 2 i x f):
 a<=c/\c-a<=43/\e<=f/\f<=N/\yp low (d+6) 7 true ns a ns c (g.U4++(.w 3 [114,101,116,117,114,110]::.sp 32::(x.U4++[.w 4 [59],.sp 32]))):=by
 obtain⟨⟨h,q,z,r,n⟩,-,-⟩:=QB.tr k d _ _ _ o hi;have s:=hx.mv;have A:slk d<=26:=by
  have t:d=0\/d=1\/d=2\/d=3:=by omega
  rcases t with rfl|rfl|rfl|rfl<;>decide
 simp only at h q r n;exact⟨h,by omega,by omega,s.2.1,(n l (by omega)).2.U7 (zcs (.inr ⟨rfl,rfl⟩) (hx.ex l k) (by omega)) h (x6 _)⟩
def ziC(k:Nat)(P:List Pc):Prop:=
 (∀a,O9 a->O9 (P++a))/\ ∀d g q a,qx d q (P++a)-> ∃l:List Fn,(∀r,Du d g (q+nW P) r->Du d g q (l++r))/\l.map Fn.sh=(List.range' 0 k).map (λj=>(fN j,2))/\
  ∀f∈l,(∀c,jS c k->Fw f/\f.I4.Nodup/\ ∃e m,Bx c 40 f.J0 f.I4.reverse f.I4.length e m true)/\ ∀c,(jk c f).I9.length<=(za P).length
theorem jS.le{us:List Fn}{j k:Nat}(h:jS us k)(a:j<=k):jS us j:=λf c=>h f (by omega)
theorem jR.tr{N j i m t:Nat}{fs:List (GL×GE)}(S:j<=2)(w:N<=60)(hi:i<=N)(h:jR N j i fs m t):m<=43*j/\t<=N/\ziC j (jT 0 fs):=by
 induction h with
 |nil=>exact⟨x6 _,hi,λ_ h=>h,λk n q c _=>⟨[],λ_ h=>h,rfl,λ_ h=>nomatch h⟩⟩
 | @jB j i T U V W X fs g x y z A B=>
   obtain⟨Y,C,D,E⟩:=B (by omega) hi;obtain⟨Z,b2,b3,F,G⟩:=XI (by omega) zam w C (by decide) (by omega) z A;obtain⟨H,I⟩:=zg4 (j:=j) (by omega) G (by decide) (by omega);refine⟨by omega,F,?_⟩;rw[ZB,y.xy,Nat.zero_add];refine⟨λc e=>by rw[B2];exact D _ (H _ e),λk n q c o=>?_⟩;rw[B2]at o;obtain⟨l,J,K,u⟩:=E k n q _ o;obtain⟨f,L,M,O,P,Q,R⟩:=I k n _ _ (qx.skip _ o);refine⟨l++[f],λr e=>?_,?_,λv a=>?_⟩
   ·rw[B2]
    rw[X0,<-Nat.add_assoc]at e;exact J _ (.Qf M L e)
   ·rw[List.map_append,K,List.range'_concat,List.map_append]
    simp[Fn.sh,O,P,pq]
   ·rw[O0,y7]
    rcases List.mem_append.1 a with a|a
    ·exact⟨λd s=>(u v a).1 d (s.le (by omega)),λd=>B5 ((u v a).2 d) (by omega)⟩
    ·obtain rfl:=List.mem_singleton.1 a
     exact⟨λd s=>Q d (s.le (by omega)),λd=>B5 (R d) (by omega)⟩
def jq(k:Nat):List (ByteArray×Nat):=(List.range' 0 k).map (λj=>(fN j,2))++[(yc,0)]
theorem Jm{k:Nat}(f:k<=2):((jq k).map Prod.fst).Nodup:=by
 have c:k=0\/k=1\/k=2:=by omega
 have d:=zac 0;have e:=zac 1;have a:fN 0≠fN 1:=λh=>by have:=zfb h;omega
 rcases c with rfl|rfl|rfl<;>simp[jq,yc,d,e,a,List.range'_succ]
theorem qV.X8{k N:Nat}{t:ByteArray}(h:qV k N t): ∃(ws:List Wd)(us:List Fn),ZZ t 0 0 ws/\ws.length<=4000/\zw ws/\Du ws t.size 0 us/\Uw us/\(∀vs,∀f∈us,(jk vs f).I9.length<=4000)/\us.map Fn.sh=jq k:=by
 have q:=Jt.zh0 ⟨k,h⟩;obtain⟨d,g,x,i0,m1,i1,m2,i2,i3,B,C,n,J,K,L⟩:=h;have u:k<=2:=by have:=C.1;omega
 obtain⟨a1,M,O,P⟩:=n.tr u B C.le.2.1;obtain⟨b1,b2,b3,b4,Q⟩:=XI (ns:=[]) u (λs R=>nomatch R) B M (by decide) (by omega) J K;obtain⟨S,T⟩:=zgc Q (by decide) (by omega);have D:t.data.toList=za (zP d g x):=by rw[L,zaV]
 have v:O9 (zP d g x):=by have:=O _ (S [] trivial);rwa [List.append_nil]at this
 have U:jz t 0 [] (none,Qx (zP d g x) 0):=by
  have:=O9.zgz _ 0 v;rw[<-D]at this;exact this.zie
 have w:ZZ t 0 0 (Qx (zP d g x) 0):=.inr ⟨q,_,U,rfl,rfl,rfl⟩;have y:qx (Qx (zP d g x) 0) 0 (jT 0 d++(Zp g x++[])):=by rw[List.append_nil];exact qx.start _ 0
 obtain⟨l,V,W,E⟩:=P _ t.size 0 _ y;obtain⟨f,X,Y,F,G,Z,e6⟩:=T _ t.size _ _ (qx.skip _ y);have r:(Qx (zP d g x) 0).length<=0+nW (jT 0 d)+nW (Zp g x):=by
  have:=G4 List.length (qx.skip _ (qx.skip _ y));simp[ktW,ktP]at this;omega
 have e:(l++[f]).map Fn.sh=jq k:=by rw[List.map_append,W];simp[Fn.sh,F,G,jq]
 have H:(l++[f]).length=k+1:=by have:=G4 List.length e;simpa[jq]using this
 have I:jS (l++[f]) k:=λj hj=>by
  have:(fN j,2)∈(l++[f]).map Fn.sh:=by rw[e];exact List.mem_append_left _ (List.mem_map.2 ⟨j,by simp;omega,rfl⟩)
  obtain⟨fn,q1,z⟩:=List.mem_map.1 this;injection z with z q3
  exact⟨fn,q1,z,q3⟩
 have c: ∀i∈l++[f],(Fw i/\i.I4.Nodup/\ ∃A m,Bx (l++[f]) 40 i.J0 i.I4.reverse i.I4.length A m true)/\ ∀vs,(jk vs i).I9.length<=4000:=by
  have o:(za (zP d g x)).length<=4000:=by rw[<-D,Array.length_toList];exact q
  rw[zP,O0,y7]at o;intro i a
  rcases List.mem_append.1 a with a|a
  ·exact⟨(E i a).1 _ I,λvs=>B5 ((E i a).2 vs) (by omega)⟩
  ·obtain rfl:=List.mem_singleton.1 a
   exact⟨Z _ I,λvs=>B5 (e6 vs) (by omega)⟩
 refine⟨_,l++[f],w,w.xx.1,w.yP,V _ (.Qf Y X (.done r)),⟨by omega,?_,⟨f,by simp,F,by rw[G];rfl⟩,λf n=>(c f n).1.1,λf n=>(c f n).1.2⟩,λvs f n=>(c f n).2 vs,e⟩;have:=Jm u
 rwa [<-e,List.map_map]at this
end Go.Proofs.YtalgmjmibamdfaaGreatDoor
namespace Go.Proofs.YtalgmjmibamdfaaGreatDoor
open Go.Proofs.Tryz
open Go.RowKit Tw
theorem QO{us:List Fn}(h:Uw us): ∃f,us[ql us zK]?=some f/\f.K3=zK/\f.I4.length=0:=by
 obtain⟨f,b,a,c⟩:=h.main;exact⟨f,zag h.yo b a,a,c⟩
theorem Xt{us:List Fn}(h:Uw us):Z3 (us.map (jk us)) (ql us zK):=by
 refine⟨λc d=>?_,?_⟩
 ·obtain⟨f,a,rfl⟩:=List.mem_map.1 d
  rw[List.map_map];exact zga h a
 ·obtain⟨f,a,-,b⟩:=QO h
  exact⟨jk us f,by rw[F6,a];rfl,b⟩
theorem zfn(us vs:List Fn)(E:us.map Fn.sh=vs.map Fn.sh)(h0:Uw us)(h4: ∀f∈us,(jk us f).I9.length<=4000)(A t:Option Addr)(c u:Nat)(F:Nat->Prop)(w:World)(hF:L4 w (.slice A us.length c) (us.map λf=>(jk us f).pf))(hU:P4 w F (.slice t vs.length u) vs):
 Calls prog 8 #[.agg #[.slice A us.length c,.int .i64 (ql us zK:Int)],.agg #[.slice t vs.length u]] w λe w'=>e=.returned (.bool true)/\Below w.heap.size w w':=by
 have d:us.length=vs.length:=by have:=G4 List.length E;simpa using this
 have G: ∀(i:Nat)(f:Fn),us[i]?=some f-> ∃n,vs[i]?=some n/\n.K3=f.K3/\n.I4.length=f.I4.length:=λi f H=>by
  have h1:(vs.map Fn.sh)[i]?=some f.sh:=by rw[<-E,F6,H];rfl
  rw[F6]at h1;obtain⟨n,I,h3⟩:=Option.map_eq_some_iff.1 h1;injection h3 with h3 h5
  exact⟨n,I,h3,h5⟩
 have S:=h0.xy;have J:=Xt h0;obtain⟨b6,y,B,-⟩:=QO h0;obtain⟨fm,q,K,-⟩:=G _ _ y;rw[B]at K;rw[d]at S hF|-
 have a4:ql us zK<vs.length:=(List.getElem?_eq_some_iff.1 q).1;clear y B;generalize ql us zK=o at J q a4|-
 have b1:=(x7 w.heap.size w).alloc (x6 _) (.cells #[.slice A vs.length c,.int .i64 (o:Int)] 26);have R:=b1.alloc b1.size (.cells #[.slice t vs.length u] 34);have h:=zh (heap_alloc2_old w (.cells #[.slice A vs.length c,.int .i64 (o:Int)] 26) (.cells #[.slice t vs.length u] 34));have m:=zh (heap_alloc2_new w (.cells #[.slice A vs.length c,.int .i64 (o:Int)] 26) (.cells #[.slice t vs.length u] 34));have HF:=zh (hF.I5 (.of R));have HU:Hid (P4 ((w.alloc (.cells #[.slice A vs.length c,.int .i64 (o:Int)] 26)).alloc (.cells #[.slice t vs.length u] 34)) (λ_=>True) (.slice t vs.length u) vs):=zh (hU.I5 (λg h1 I=>⟨trivial,y5 I R.size,R.block g I⟩));have HB:=zh R;have PF:=zh (ZY (us.map (jk us)) o J (by rw[C0,d];exact S) (λx hx=>by obtain⟨f,H,rfl⟩:=List.mem_map.1 hx;exact h4 f H) A c ((w.alloc (.cells #[.slice A vs.length c,.int .i64 (o:Int)] 26)).alloc (.cells #[.slice t vs.length u] 34)) (by rw[C0,d,List.map_map];exact hF.I5 (.of R)));rw[C0,d]at PF;have a5:=zh G;have T:=zh d;have a6:=zh q;have a7:=zh K;clear b1 R hF hU J q K h4 h0 G d E
 go_enter func8,ntmps8
 go_upto_region 1 with(fail)
 generalize World.alloc _ _=w1 at h m HF HU HB PF|-
 obtain⟨bu,L⟩: ∃b,w.heap.size+1=b:=⟨_,rfl⟩;rw[L]at m;simp only[L];clear L;obtain⟨bp,r⟩: ∃b,w.heap.size=b:=⟨_,rfl⟩;have b7:=zh r;rw[r]at h;simp only[r];clear r;have c0:=x5 h.out 0;have c1:=x5 h.out 1
 go_wp2_with fail
 refine PF.out.mono ?_;rintro e w2 ⟨M,v,xm,rfl,-,-,-⟩;have C:=zh ((M.block bp (I0 h.out)).trans h.out);have l:=zh ((M.block bu (I0 m.out)).trans m.out);have a8:=zh (HF.out.I5 (.of M));have U:=zh (HU.out.I5 (F':=λ_=>True) (w':=w2) (λg h1 I=>⟨trivial,y5 I M.size,M.block g I⟩));have V:=zh (HB.out.trans (M.mono HB.out.size));clear M c0 c1 h m HF HU HB PF;have c0:=x5 C.out 0;have c1:=x5 C.out 1;have d0:=x5 l.out 0;obtain⟨g,N,An,cn,At,ct,Ab,cb,rfl,hg,-,-,-,W⟩:=U.out.at o fm a6.out;have n0:w2.cell? ⟨g,N+o*6,none⟩=some (.string ⟨#[109,97,105,110]⟩):=(W 0 _ rfl).trans (by rw[a7.out];rfl);have k0:(0:Int)<=(o:Int):=by omega
 have k1:(o:Int)<(vs.length:Int):=by omega
 clear W hg
 go_upto_region 4 with(fail)
 clear n0 k0 k1 c1
 go_wp2_with fail
 clear c0 d0
 go_loopw[38] (λi wr=> ∃j:Nat,j<=vs.length/\i=.int .i64 j/\Hid (Below w2.heap.size w2 wr)) (λi _=>vs.length-(intOf i).toNat)
 case atStart=>exact⟨0,C6 _,rfl,zh (x7 _ _)⟩
 case round=>
  obtain⟨j,hj,rfl,a⟩:=hrel
  by_cases a9:j<vs.length
  ·obtain⟨f,H⟩: ∃f,us[j]?=some f:=⟨_,x8 (by rw[T.out];exact a9)⟩
   obtain⟨n,X,-,Y⟩:=a5.out j f H;obtain⟨gf,cf,vo,hv,-,s,u0,u1,u2,D⟩:=a8.out.at (k:=j) (f:=(jk us f).pf) (by rw[F6,H];rfl);injection hv with b0 b3 b4
   clear b3;subst b0 b4;obtain⟨go,co,rfl,-⟩:=D.at;obtain⟨g2,b5,An,cn,At,ct,Ab,cb,Z,P,-,-,-,W⟩:=U.out.at j n X;injection Z with Z;injection Z with Z e3
   subst Z e3;replace u0:=(a.out.cell (p:=⟨gf,j*3,none⟩) s).trans u0;replace u1:=(a.out.cell (p:=⟨gf,j*3+1,none⟩) s).trans u1;replace u2:=(a.out.cell (p:=⟨gf,j*3+2,none⟩) s).trans u2;have n1:=(a.out.cell (p:=⟨g,N+j*6+1,none⟩) P).trans (W 1 _ rfl);have ep:(jk us f).pf.params=n.I4.length:=Y.symm;rw[ep]at u0;have d0:=(a.out.cell (p:=⟨bu,0,none⟩) (I0 l.out)).trans (x5 l.out 0);have k0:(0:Int)<=(j:Int):=by omega
   have k1:(j:Int)<(vs.length:Int):=by omega
   obtain⟨nv,a0⟩: ∃z,(jk us f).pf.vars=z:=⟨_,rfl⟩;obtain⟨O,hO⟩: ∃z,(jk us f).pf.ops=z:=⟨_,rfl⟩;rw[a0]at u1;rw[hO]at u2;have ba:=(x7 wr.heap.size wr).alloc (x6 _) (.cells #[.int .i64 n.I4.length,.int .i64 nv,.slice (some ⟨go,0,none⟩) O.length co] 40);have Q:=zh (x9 wr (.cells #[.int .i64 n.I4.length,.int .i64 nv,.slice (some ⟨go,0,none⟩) O.length co] 40));have a1:=zh (a.out.trans (ba.mono a.out.size));have a2:=(ba.cell (p:=⟨g,N+j*6+1,none⟩) (y5 P a.out.size)).trans n1;have a3:=(ba.cell (p:=⟨bu,0,none⟩) (y5 (I0 l.out) a.out.size)).trans d0;clear ba H X Y D W P s ep a0 hO n1 d0
   go_upto_region 7 with(fail)
   clear u0 u1 u2;generalize World.alloc _ _=wa at Q a1 a2 a3|-
   generalize wr.heap.size=bf at Q|-
   have q0:=x5 Q.out 0
   go_quiet (fail)
   clear q0 a2 a3
   go_wp2_with fail
   go_roundw
   case rel=>exact⟨j+1,by omega,by go_num,zh (J1 a1.out _)⟩
   case measure=>simp[intOf];omega
  ·obtain rfl:j=vs.length:=by omega
   go_wp2_with fail
   go_ret;exact⟨rfl,V.out.trans (a.out.mono V.out.size)⟩
def zk(N:Nat)(ns:List ByteArray)(low d i:Nat)(s:ByteArray)(a:Nat):Prop:= ∃g:GE,s=g.O4/\ze N ns low d i g a
theorem zk.size{N:Nat}{ns:List ByteArray}{low d i:Nat}{s:ByteArray}{b:Nat}(c:d<=4)(a:xq ns)(e:low<=2)(h:zk N ns low d i s b):s.size<=6000:=by
 obtain⟨g,rfl,f⟩:=h;have:=f.R1 a e;have j:2^d<=2^4:=Nat.pow_le_pow_right (by decide) c;simp only[show 2^4=16 from rfl]at j;omega
section
variable {N:Nat}{ns:List ByteArray}{low d i i1 i2 i3 i4:Nat}{s t u:ByteArray}
theorem zk.yE{k j:Nat}(a:Nx N 9 i k i1)(b:Nx N ns.length i1 j i2)(c:ns[j]?=some s):zk N ns low d i s i2:=⟨_,rfl,.yE a b c⟩
theorem zk.lit{k n:Nat}(a:Nx N 9 i k i1)(b:Nx N 20 i1 n i2)(c:s=jo n):zk N ns low d i s i2:=⟨.lit n,c,.lit a b⟩
theorem Nx.got{n k:Nat}(h:Nx N n i k i1)(a:0<k):i<N/\i1=i+1:=by
 rcases h.2 with h|⟨_,_,h⟩
 ·exact h
 ·omega
theorem zk.neg{k:Nat}(a:Nx N 9 i k i1)(b:0<k)(h:zk N ns low (d-1) i1 s i2)(j:1<=d):zk N ns low d i (⟨#[45,40]⟩++s++⟨#[41]⟩) i2:=by
 obtain⟨c,rfl⟩:=a.got b;obtain⟨d,rfl⟩: ∃e,d=e+1:=⟨d-1,by omega⟩;obtain⟨g,rfl,f⟩:=h;exact⟨_,rfl,.neg c f⟩
theorem zk.call{k f:Nat}(b:Nx N 9 i k i1)(c:0<k)(hf:Nx N low i1 f i2)(j:u=jo f)(h:zk N ns low (d-1) i2 s i3)(l:zk N ns low (d-1) i3 t i4)(o:1<=d):zk N ns low d i (⟨#[102]⟩++u++⟨#[40]⟩++s++⟨#[44,32]⟩++t++⟨#[41]⟩) i4:=by
 obtain⟨m,rfl⟩:=b.got c;obtain⟨d,rfl⟩: ∃e,d=e+1:=⟨d-1,by omega⟩;obtain⟨g,rfl,n⟩:=h;obtain⟨p,rfl,a⟩:=l;subst j;exact⟨_,rfl,.call m hf n a⟩
theorem zk.host{k f:Nat}(a:Nx N 9 i k i1)(b:0<k)(hf:Nx N 4 i1 f i2)(c:u=jo f)(h:zk N ns low (d-1) i2 s i3)(m:1<=d):zk N ns low d i (⟨#[64]⟩++u++⟨#[40]⟩++s++⟨#[41]⟩) i3:=by
 obtain⟨j,rfl⟩:=a.got b;obtain⟨d,rfl⟩: ∃e,d=e+1:=⟨d-1,by omega⟩;obtain⟨g,rfl,l⟩:=h;subst c;exact⟨_,rfl,.host j hf l⟩
theorem zk.Qg{k o:Nat}(b:Nx N 9 i k i1)(c:0<k)(h:zk N ns low (d-1) i1 s i2)(f:Nx N 5 i2 o i3)(j:u=yv o)(l:zk N ns low (d-1) i3 t i4)(p:1<=d):zk N ns low d i (⟨#[40]⟩++s++⟨#[32]⟩++u++⟨#[32]⟩++t++⟨#[41]⟩) i4:=by
 obtain⟨m,rfl⟩:=b.got c;obtain⟨d,rfl⟩: ∃e,d=e+1:=⟨d-1,by omega⟩;obtain⟨g,rfl,n⟩:=h;obtain⟨q,rfl,a⟩:=l;subst j;exact⟨_,rfl,.Qg m n f a⟩
end
def YH(w0 c:World)(sb f:Nat)(g:Option Addr)(n0 c0:Nat)(h:Option Addr)(cn:Nat)(ns:List ByteArray)(a low d i:Nat)(e:Ending)(w':World):Prop:=
 ∃(s:ByteArray)(b:Nat),e=.returned (.string s)/\s.size<=6000/\Hid (zk n0 ns low d i s b)/\Sc w0 c w' sb f g n0 c0 b h cn ns a low
def zfa(d:Nat):Prop:=
 ∀{w0 b w:World}{sb c:Nat}{e:Option Addr}{f g i:Nat}{h:Option Addr}{j:Nat}{ns:List ByteArray}{a low:Nat},Sc w0 b w sb c e f g i h j ns a low->Calls prog 32 #[.pointer (some ⟨sb,0,none⟩),.int .i64 d] w (YH w0 b sb c e f g h j ns a low d i)
theorem qk{w0 e w':World}{sb f:Nat}{g:Option Addr}{n0 c0 i:Nat}{h:Option Addr}{cn:Nat}{ns:List ByteArray}{a low:Nat}{d b:Nat}{s:ByteArray}(k:d<=4)(j:zk n0 ns low d i s b)(c:Sc w0 e w' sb f g n0 c0 b h cn ns a low):YH w0 e sb f g n0 c0 h cn ns a low d i (.returned (.string s)) w':=
 ⟨s,b,rfl,j.size k c.sz c.l1,zh j,c⟩
theorem Sc.c3{w0 e w:World}{sb b:Nat}{f:Option Addr}{n0 c0 i:Nat}{c:Option Addr}{cn:Nat}{ns:List ByteArray}{a low:Nat}(h:Sc w0 e w sb b f n0 c0 i c cn ns a low):w.cell? ⟨sb,0,none⟩=some (.pointer (some ⟨b,0,none⟩))/\w.cell? ⟨sb,1,none⟩=some (.slice c ns.length cn)/\w.cell? ⟨sb,3,none⟩=some (.int .i64 low):=⟨h.c0.1,h.c0.2.1,h.c0.2.2.2⟩
theorem Sc.dr{w0 b w:World}{sb c:Nat}{e:Option Addr}{n0 c0 i:Nat}{f:Option Addr}{cn:Nat}{ns:List ByteArray}{a low:Nat}(h:Sc w0 b w sb c e n0 c0 i f cn ns a low):Sc w0 b w.drew sb c e n0 c0 i f cn ns a low:=h.below (I8 _)
theorem zcu(k:Nat)(h:(k:Int)<5): ∃t:ByteArray,(∀a,Utf8.encode ((⟨#[43,45,42,47,37]⟩:ByteArray)[k]'a).toNat=t)/\t.size=1/\Hid (t=yv k):=by
 have b:k=0\/k=1\/k=2\/k=3\/k=4:=by omega
 rcases b with rfl|rfl|rfl|rfl|rfl
 ·exact⟨yv 0,λ_=>by kernel_rfl,by kernel_rfl,zh rfl⟩
 ·exact⟨yv 1,λ_=>by kernel_rfl,by kernel_rfl,zh rfl⟩
 ·exact⟨yv 2,λ_=>by kernel_rfl,by kernel_rfl,zh rfl⟩
 ·exact⟨yv 3,λ_=>by kernel_rfl,by kernel_rfl,zh rfl⟩
 ·exact⟨yv 4,λ_=>by kernel_rfl,by kernel_rfl,zh rfl⟩
theorem nn(k:Nat):(0:Int)<=(k:Int):=Int.natCast_nonneg k
theorem zfw{k low:Nat}(h:(k:Int)<(low:Int))(a:low<=2):k<=2000000:=by omega
theorem zix{a:Nat}(h:a<=21): ¬9223372036854775807<1+a/\ ¬9223372036854775807<1+a+1:=by omega
theorem ziS{a b:Nat}(h:a<=21)(c:b<=6000): ¬9223372036854775807<1+a+1+b/\ ¬9223372036854775807<1+a+1+b+2:=by omega
theorem ziU{a b c:Nat}(h:a<=21)(e:b<=6000)(f:c<=6000): ¬9223372036854775807<1+a+1+b+2+c/\ ¬9223372036854775807<1+a+1+b+2+c+1:=by omega
theorem zhy{a:Nat}(h:a<=6000): ¬9223372036854775807<1+a/\ ¬9223372036854775807<1+a+1:=by omega
theorem zhk{a:Nat}(h:a<=6000): ¬9223372036854775807<1+a+1+1/\ ¬9223372036854775807<1+a+1+1+1:=by omega
theorem zhj{a b:Nat}(h:a<=6000)(c:b<=6000): ¬9223372036854775807<1+a+1+1+1+b/\ ¬9223372036854775807<1+a+1+1+1+b+1:=by omega
theorem zai{α:Type}(l:List α)(k:Nat)(h:(k:Int)<(l.length:Int)): ∃s,l[k]?=some s:=⟨_,x8 (by omega)⟩
theorem Xg(d:Nat)(H:d<=4)(ih:1<=d->zfa (d-1)):zfa d:=by
 intro w0 wv w sb K A0 n0 c0 i L M ns v low h;have IH:1<=d-> ∀{w0 wv w:World}{sb K:Nat}{A0:Option Addr}{n0 c0 i:Nat}{L:Option Addr}{M:Nat}{ns:List ByteArray}{v low:Nat},Sc w0 wv w sb K A0 n0 c0 i L M ns v low->Calls prog 32 #[.pointer (some ⟨sb,0,none⟩),.int .i64 ((d:Int)-1)] w (YH w0 wv sb K A0 n0 c0 L M ns v low (d-1) i):=by
  intro h1 w0 wv w sb K A0 n0 c0 i L M ns v low h;have:=ih h1 h;rw[show((d-1:Nat):Int)=(d:Int)-1 by omega]at this;exact this
 have m:=zh IH;have c:=zh h;clear IH ih;obtain⟨Z,c1,c2,c3⟩:=h.c0;have a8:=h.l1;clear h
 go_enter func32,ntmps32
 go_wp2_with fail
 refine(JX 9 (by decide) (by decide) c.out).mono ?_;rintro e w1 ⟨k,i1,rfl,c8,A,f⟩;replace A:=zh A;replace c:=zh f;clear f Z c1 c2 c3;obtain⟨Z,c1,c2,c3⟩:=c.out.c0
 by_cases hv:k<2/\0<ns.length
 ·obtain⟨n,hn⟩:=hv
  have J:decide ((k:Int)<2)=true:=by simp;omega
  obtain⟨g,rfl⟩:=c.out.arr hn;have a9:(0:Int)<(ns.length:Int):=by omega
  have c9:=c.out.nl;have b0:(1:Int)<=(ns.length:Int):=by omega
  have b1:(ns.length:Int)<=4000000000:=by omega
  go_upto_region 3 with(fail)
  have b2:=c.out.dr
  go_region_law(first|(go_simp;go_at_call 29;refine(JX _ b0 b1 b2).mono ?_;rintro e w8 ⟨y,i2,rfl,a0,p,a⟩;obtain⟨s8,O⟩:=zai ns y a0;have d8:=a.K3 y s8 O;have a1:=zh a;have b3:=zh O;replace p:=zh p;obtain⟨e0,e1,e2,e3⟩:=a.c0;have d0:=nn y;clear O a))
  all_goals
   go_wp2_with fail
   go_ret;exact qk H (.yE A.out p.out b3.out) (by first|exact a1.out|exact a1.out.dr)
 by_cases n:k<2
 ·have a9:(ns.length:Int)<=0:=by omega
  clear hv
  go_wp2_with fail
  refine(JX 20 (by omega) (by omega) c.out).mono ?_;rintro e P ⟨y,i2,rfl,n,b,f⟩;replace c:=zh f;clear f;replace b:=zh b
  go_wp2_with fail
  refine(qM y (by omega) c.out).mono ?_;rintro e X ⟨Y,rfl,l,x,f⟩;replace c:=zh f;clear f
  go_wp2_with fail
  go_ret;exact qk H (.lit A.out b.out l.out) c.out
 have J:(2:Int)<=k:=by omega
 clear hv n
 by_cases b4:k<4
 ·have a2:(k:Int)<4:=by omega
  go_wp2_with fail
  refine(JX 20 (by omega) (by omega) c.out).mono ?_;rintro e P ⟨y,i2,rfl,n,b,f⟩;replace c:=zh f;clear f;replace b:=zh b
  go_wp2_with fail
  refine(qM y (by omega) c.out).mono ?_;rintro e X ⟨Y,rfl,l,x,f⟩;replace c:=zh f;clear f
  go_wp2_with fail
  go_ret;exact qk H (.lit A.out b.out l.out) c.out
 have a2:(4:Int)<=k:=by omega
 clear b4 J
 by_cases a3:d=0
 ·subst a3
  go_wp2_with fail
  refine(JX 20 (by omega) (by omega) c.out).mono ?_;rintro e P ⟨y,i2,rfl,n,b,f⟩;replace c:=zh f;clear f;replace b:=zh b
  go_wp2_with fail
  refine(qM y (by omega) c.out).mono ?_;rintro e X ⟨Y,rfl,l,x,f⟩;replace c:=zh f;clear f
  go_wp2_with fail
  go_ret;exact qk H (.lit A.out b.out l.out) c.out
 have j:1<=d:=by omega
 have c4:(1:Int)<=(d:Int):=by omega
 have c5:((d:Int)==0)=false:=beq_eq_false_iff_ne.2 (by omega);clear a3
 by_cases hk:k=4
 ·subst hk
  go_wp2_with fail
  refine(m.out j c.out).mono ?_;rintro e P ⟨Y,i2,rfl,x,a4,f⟩;replace c:=zh f;clear f
  go_wp2_with fail
  go_ret;exact qk H (.neg A.out (by decide) a4.out j) c.out
 by_cases Q:k=6
 ·subst Q
  clear hk
  go_wp2_with fail
  refine(JX 4 (by omega) (by omega) c.out).mono ?_;rintro e P ⟨y,i2,rfl,n,b,f⟩;replace c:=zh f;clear f;replace b:=zh b
  go_wp2_with fail
  refine(qM y (by omega) c.out).mono ?_;rintro e X ⟨Y,rfl,l,x,f⟩;replace c:=zh f;clear f
  go_wp2_with fail
  refine(m.out j c.out).mono ?_;rintro e w4 ⟨s3,i3,rfl,c6,a5,f⟩;replace c:=zh f;clear f
  go_wp2_with fail
  go_ret;exact qk H (.host A.out (by decide) b.out l.out a5.out j) c.out
 by_cases R:k=5/\0<low
 ·obtain⟨rfl,c7⟩:=R
  have S:(1:Int)<=(low:Int):=by omega
  have T:(low:Int)<=4000000000:=by omega
  have b5:(0:Int)<(low:Int):=by omega
  clear hk Q
  go_upto_region 9 with(fail)
  have o:=zh c.out.dr;clear c;have a6:IntKind.i64.wrap ((d:Int)-1)=(d:Int)-1:=IntWalk.i64_in _ (by omega)
  go_region_held3 (λW=>W.cell? ⟨sb,0,none⟩=some (.pointer (some ⟨K,0,none⟩))/\W.cell? ⟨sb,1,none⟩=some (.slice L ns.length M)/\W.cell? ⟨sb,3,none⟩=some (.int .i64 low))
   (first|(with_reducible exact o.out.c3)|(with_reducible assumption))
   (first
    |(go_at_call 29;refine(JX _ S T o.out).mono ?_;rintro e P ⟨y,i2,rfl,n,p,a⟩;have I:=a.c3;have B:=zh a;replace p:=zh p;clear a)
    |(go_at_call 30;refine(qM y (zfw n a8) B.out).mono ?_;rintro e X ⟨s3,rfl,C,D,a⟩;have I:=a.c3;have E:=zh a;clear a;have f1:=zix D)
    |(go_at_call 32;refine(m.out j F.out).mono ?_;rintro e w5 ⟨s5,i5,rfl,b6,b7,a⟩;have I:=a.c3;have b8:=zh a;clear a;have f5:=ziU D z b6)
    |(go_at_call 32;refine(m.out j E.out).mono ?_;rintro e w4 ⟨s4,i4,rfl,z,G,a⟩;have I:=a.c3;have F:=zh a;clear a;have f3:=ziS D z))
  go_wp2_with fail
  go_ret;exact qk H (.call A.out (by decide) p.out C.out G.out b7.out j) b8.out
 ·have e4:((k:Int)==4)=false:=beq_eq_false_iff_ne.2 (by omega)
  have e6:((k:Int)==6)=false:=beq_eq_false_iff_ne.2 (by omega);have a7:0<k:=by omega
  have hx:((k:Int)==5)=false\/(k=5/\(low:Int)<=0):=by
   rcases D6 0 low with h|h
   ·exact .inl (beq_eq_false_iff_ne.2 (by intro e;exact R ⟨by omega,h⟩))
   ·by_cases h5:k=5
    ·exact .inr ⟨h5,by omega⟩
    ·exact .inl (beq_eq_false_iff_ne.2 (by omega))
  clear R Q hk
  rcases hx with e5|⟨e5,d1⟩
  ·skip
   go_upto_region 12 with(fail)
   have o:=zh c.out.dr;clear c;have a6:IntKind.i64.wrap ((d:Int)-1)=(d:Int)-1:=IntWalk.i64_in _ (by omega)
   go_region_held3 (λW=>W.cell? ⟨sb,0,none⟩=some (.pointer (some ⟨K,0,none⟩))/\W.cell? ⟨sb,1,none⟩=some (.slice L ns.length M)/\W.cell? ⟨sb,3,none⟩=some (.int .i64 low))
    (first|(with_reducible exact o.out.c3)|(with_reducible assumption))
    (first
     |(go_at_call 29;refine(JX _ (by omega) (by omega) B.out).mono ?_;rintro e X ⟨k3,i3,rfl,U,q,a⟩;have I:=a.c3;have E:=zh a;replace q:=zh q;clear a;have j0:=nn k3;obtain⟨t3,b9,D,C⟩:=zcu k3 U;have f3:=zhk r)
     |(go_at_call 32;refine(m.out j E.out).mono ?_;rintro e w4 ⟨s4,i4,rfl,z,G,a⟩;have I:=a.c3;have F:=zh a;clear a;have f4:=zhj r z)
     |(go_at_call 32;refine(m.out j o.out).mono ?_;rintro e P ⟨Y,i2,rfl,r,V,a⟩;have I:=a.c3;have B:=zh a;clear a;have f1:=zhy r))
   all_goals
    go_wp2_with fail
    go_ret;exact qk H (.Qg A.out a7 V.out q.out C.out G.out j) F.out
  ·subst e5
   go_upto_region 12 with(fail)
   have o:=zh c.out.dr;clear c;have a6:IntKind.i64.wrap ((d:Int)-1)=(d:Int)-1:=IntWalk.i64_in _ (by omega)
   go_region_held3 (λW=>W.cell? ⟨sb,0,none⟩=some (.pointer (some ⟨K,0,none⟩))/\W.cell? ⟨sb,1,none⟩=some (.slice L ns.length M)/\W.cell? ⟨sb,3,none⟩=some (.int .i64 low))
    (first|(with_reducible exact o.out.c3)|(with_reducible assumption))
    (first
     |(go_at_call 29;refine(JX _ (by omega) (by omega) B.out).mono ?_;rintro e X ⟨k3,i3,rfl,U,q,a⟩;have I:=a.c3;have E:=zh a;replace q:=zh q;clear a;have j0:=nn k3;obtain⟨t3,b9,D,C⟩:=zcu k3 U;have f3:=zhk r)
     |(go_at_call 32;refine(m.out j E.out).mono ?_;rintro e w4 ⟨s4,i4,rfl,z,G,a⟩;have I:=a.c3;have F:=zh a;clear a;have f4:=zhj r z)
     |(go_at_call 32;refine(m.out j o.out).mono ?_;rintro e P ⟨Y,i2,rfl,r,V,a⟩;have I:=a.c3;have B:=zh a;clear a;have f1:=zhy r))
   all_goals
    go_wp2_with fail
    go_ret;exact qk H (.Qg A.out a7 V.out q.out C.out G.out j) F.out
def zo(N:Nat)(ns:List ByteArray)(low d i:Nat)(s:ByteArray)(a:Nat):Prop:= ∃g:GE,s=g.O4/\zm N ns low d i g a
theorem zo.size{N:Nat}{ns:List ByteArray}{low d i:Nat}{s:ByteArray}{b:Nat}(c:d<=2)(a:xq ns)(e:low<=2)(h:zo N ns low d i s b):s.size<=4000:=by
 obtain⟨g,rfl,f⟩:=h;have:=f.R1 a e;have j:2^d<=2^2:=Nat.pow_le_pow_right (by decide) c;simp only[show 2^2=4 from rfl]at j;omega
section
variable {N:Nat}{ns:List ByteArray}{low d i i1 i2 i3 i4:Nat}{s t u:ByteArray}
theorem zo.not{k:Nat}(a:Nx N 6 i k i1)(h:zo N ns low (d-1) i1 s i2)(c:1<=d):zo N ns low d i (⟨#[33,40]⟩++s++⟨#[41]⟩) i2:=by
 obtain⟨d,rfl⟩: ∃e,d=e+1:=⟨d-1,by omega⟩;obtain⟨g,rfl,b⟩:=h;exact⟨_,rfl,.not a b⟩
theorem zo.and{k:Nat}(b:Nx N 6 i k i1)(c:0<k)(h:zo N ns low (d-1) i1 s i2)(f:zo N ns low (d-1) i2 t i3)(m:1<=d):zo N ns low d i (⟨#[40]⟩++s++⟨#[32,38,38,32]⟩++t++⟨#[41]⟩) i3:=by
 obtain⟨j,rfl⟩:=b.got c;obtain⟨d,rfl⟩: ∃e,d=e+1:=⟨d-1,by omega⟩;obtain⟨g,rfl,l⟩:=h;obtain⟨n,rfl,a⟩:=f;exact⟨_,rfl,.and j l a⟩
theorem zo.or{k:Nat}(b:Nx N 6 i k i1)(c:0<k)(h:zo N ns low (d-1) i1 s i2)(f:zo N ns low (d-1) i2 t i3)(m:1<=d):zo N ns low d i (⟨#[40]⟩++s++⟨#[32,124,124,32]⟩++t++⟨#[41]⟩) i3:=by
 obtain⟨j,rfl⟩:=b.got c;obtain⟨d,rfl⟩: ∃e,d=e+1:=⟨d-1,by omega⟩;obtain⟨g,rfl,l⟩:=h;obtain⟨n,rfl,a⟩:=f;exact⟨_,rfl,.or j l a⟩
theorem zo.tf{k j:Nat}(a:Nx N 6 i k i1)(b:0<k)(h:Nx N 2 i1 j i2)(hs:s=tfT j):zo N ns low d i s i2:=by
 obtain⟨c,rfl⟩:=a.got b;exact⟨.tf j,hs,.tf c h⟩
theorem zo.XU{k o:Nat}(b:Nx N 6 i k i1)(h:zk N ns low 1 i1 s i2)(c:Nx N 6 i2 o i3)(e:u=Zr o)(f:zk N ns low 1 i3 t i4):zo N ns low d i (s++u++t) i4:=by
 obtain⟨g,rfl,j⟩:=h;obtain⟨l,rfl,a⟩:=f;subst e;exact⟨_,rfl,.XU b j c a⟩
end
def YY(w0 c:World)(sb f:Nat)(g:Option Addr)(n0 c0:Nat)(h:Option Addr)(cn:Nat)(ns:List ByteArray)(a low d i:Nat)(e:Ending)(w':World):Prop:=
 ∃(s:ByteArray)(b:Nat),e=.returned (.string s)/\s.size<=4000/\Hid (zo n0 ns low d i s b)/\Sc w0 c w' sb f g n0 c0 b h cn ns a low
def zcT(d:Nat):Prop:=
 ∀{w0 b w:World}{sb c:Nat}{e:Option Addr}{f g i:Nat}{h:Option Addr}{j:Nat}{ns:List ByteArray}{a low:Nat},Sc w0 b w sb c e f g i h j ns a low->Calls prog 104 #[.pointer (some ⟨sb,0,none⟩),.int .i64 d] w (YY w0 b sb c e f g h j ns a low d i)
theorem jN{w0 e w':World}{sb f:Nat}{g:Option Addr}{n0 c0 i:Nat}{h:Option Addr}{cn:Nat}{ns:List ByteArray}{a low:Nat}{d b:Nat}{s:ByteArray}(k:d<=2)(j:zo n0 ns low d i s b)(c:Sc w0 e w' sb f g n0 c0 b h cn ns a low):YY w0 e sb f g n0 c0 h cn ns a low d i (.returned (.string s)) w':=
 ⟨s,b,rfl,j.size k c.sz c.l1,zh j,c⟩
theorem yj: ∀d:Nat,d<=4->zfa d
 |0,_=>Xg 0 (by decide) (by omega)
 |d+1,h=>Xg (d+1) h (λ_=>yj d (by omega))
theorem Sc.al{w0 b w:World}{sb c:Nat}{e:Option Addr}{n0 c0 i:Nat}{f:Option Addr}{cn:Nat}{ns:List ByteArray}{a low:Nat}(h:Sc w0 b w sb c e n0 c0 i f cn ns a low)(o:Obj):Sc w0 b (w.alloc o) sb c e n0 c0 i f cn ns a low:=h.below ((x7 _ _).alloc (x6 _) o)
theorem Sc.qF{w0 e w:World}{sb b:Nat}{f:Option Addr}{n0 c0 i:Nat}{g:Option Addr}{cn:Nat}{ns:List ByteArray}{a low:Nat}{w':World}{c:Array Value}{t:TypeId}(h:Sc w0 e w sb b f n0 c0 i g cn ns a low)(q:Unit)(j:(w.alloc (.cells c t)).grownBy w' (some b)):w'.heap[w.heap.size]?=some (.cells c t (0,0)):=
 (j.block _ (by simp) (by have:=h.q;have:=h.s;simp;omega)).trans (x9 w _)
theorem Sc.old{w0 e w:World}{sb c:Nat}{f:Option Addr}{n0 c0 i:Nat}{j:Option Addr}{cn:Nat}{ns:List ByteArray}{b low:Nat}{w':World}{g:Nat}{o:Obj}(h:Sc w0 e w sb c f n0 c0 i j cn ns b low)(k:w.grownBy w' (some c))(a:w.heap[g]?=some o/\g≠c):w'.heap[g]?=some o:=
 (k.block _ (I0 a.1) (by simpa using a.2)).trans a.1
theorem Sc.ne{w0 b w:World}{sb qb:Nat}{c:Option Addr}{n0 c0 i:Nat}{e:Option Addr}{cn:Nat}{ns:List ByteArray}{a low:Nat}(h:Sc w0 b w sb qb c n0 c0 i e cn ns a low):w.heap.size≠qb:=by have:=h.q;have:=h.s;omega
theorem Sc.zi0{w0 e w:World}{sb b:Nat}{f:Option Addr}{n0 c0 i:Nat}{g:Option Addr}{cn:Nat}{ns:List ByteArray}{a low:Nat}{w':World}{c:Array Value}{t:TypeId}(h:Sc w0 e w sb b f n0 c0 i g cn ns a low)(j:(w.alloc (.cells c t)).drew.grownBy w' (some b)):w'.heap[w.heap.size]?=some (.cells c t (0,0)):=Sc.qF h () (J6 (J5 (I8 _) _) j)
theorem Sc.ald{w0 b w:World}{sb c:Nat}{e:Option Addr}{n0 c0 i:Nat}{f:Option Addr}{cn:Nat}{ns:List ByteArray}{a low:Nat}(h:Sc w0 b w sb c e n0 c0 i f cn ns a low)(o:Obj):Sc w0 b (w.alloc o).drew sb c e n0 c0 i f cn ns a low:=(h.al o).dr
theorem zfA:(1:Int)<=6:=by decide
theorem zf8:(6:Int)<=4000000000:=by decide
theorem zfh{a b:Nat}(h:a<=6000)(c:b<=4): ¬9223372036854775807<a+b:=by omega
theorem zgi{a b c:Nat}(h:a<=6000)(e:b<=4)(f:c<=6000): ¬9223372036854775807<a+b+c:=by omega
theorem zcq(k:Nat): ∃t:ByteArray,t.size<=4/\t=Zr k:=⟨Zr k,by unfold Zr;split<;>decide,rfl⟩
theorem yC{k:Nat}{t:ByteArray}(h:(k:Int)<6)(b:t=Zr k)(w:World)(g:Nat)(a:w.heap[g]?=some (.cells #[.string ⟨#[32,60,32]⟩,.string ⟨#[32,60,61,32]⟩,.string ⟨#[32,62,32]⟩,.string ⟨#[32,62,61,32]⟩,.string ⟨#[32,61,61,32]⟩,.string ⟨#[32,33,61,32]⟩] 9 (0,0))):w.cell? ⟨g,k,none⟩=some (.string t):=by
 subst b;have c:k=0\/k=1\/k=2\/k=3\/k=4\/k=5:=by omega
 rcases c with rfl|rfl|rfl|rfl|rfl|rfl
 ·exact x5 a 0
 ·exact x5 a 1
 ·exact x5 a 2
 ·exact x5 a 3
 ·exact x5 a 4
 ·exact x5 a 5
theorem zhN(k:Nat)(h:(k:Int)<2)(w:World)(g:Nat)(a:w.heap[g]?=some (.cells #[.string ⟨#[116,114,117,101]⟩,.string ⟨#[102,97,108,115,101]⟩] 9 (0,0))): ∃t:ByteArray,w.cell? ⟨g,k,none⟩=some (.string t)/\t=tfT k:=by
 have b:k=0\/k=1:=by omega
 rcases b with rfl|rfl
 ·exact⟨tfT 0,x5 a 0,rfl⟩
 ·exact⟨tfT 1,x5 a 1,rfl⟩
theorem QN(d:Nat)(Z:d<=2)(ih:1<=d->zcT (d-1)):zcT d:=by
 intro w0 L w sb M O P Q i R S ns c low h;have IH:1<=d-> ∀{w0 L w:World}{sb M:Nat}{O:Option Addr}{P Q i:Nat}{R:Option Addr}{S:Nat}{ns:List ByteArray}{c low:Nat},Sc w0 L w sb M O P Q i R S ns c low->Calls prog 104 #[.pointer (some ⟨sb,0,none⟩),.int .i64 ((d:Int)-1)] w (YY w0 L sb M O P Q R S ns c low (d-1) i):=by
  intro h1 w0 L w sb M O P Q i R S ns c low h;have:=ih h1 h;rw[show((d-1:Nat):Int)=(d:Int)-1 by omega]at this;exact this
 have v:=zh IH;have b:=zh h;have HN:Hid (∀{w0 L w:World}{sb M:Nat}{O:Option Addr}{P Q i:Nat}{R:Option Addr}{S:Nat}{ns:List ByteArray}{c low:Nat},Sc w0 L w sb M O P Q i R S ns c low->Calls prog 32 #[.pointer (some ⟨sb,0,none⟩),.int .i64 1] w (YH w0 L sb M O P Q R S ns c low 1 i)):=zh (yj 1 (by decide));clear IH ih;obtain⟨x,c1,c2,c3⟩:=h.c0;have a8:=h.l1;clear h
 go_enter func104,ntmps104
 go_wp2_with fail
 refine(JX 6 (by decide) (by decide) b.out).mono ?_;rintro e w1 ⟨k,i1,rfl,a9,T,g⟩;replace T:=zh T;replace b:=zh g;clear g x c1 c2 c3
 by_cases h0:k=0/\1<=d
 ·obtain⟨rfl,j⟩:=h0
  have F:(1:Int)<=(d:Int):=by omega
  have G:(0:Int)<(d:Int):=by omega
  go_wp2_with fail
  refine(v.out j b.out).mono ?_;rintro e X ⟨s2,i2,rfl,H,n,g⟩;replace b:=zh g;clear g
  go_wp2_with fail
  go_ret;exact jN Z (.not T.out n.out j) b.out
 by_cases h1:k=1/\1<=d
 ·obtain⟨rfl,j⟩:=h1
  have F:(1:Int)<=(d:Int):=by omega
  have G:(0:Int)<(d:Int):=by omega
  clear h0
  go_wp2_with fail
  refine(v.out j b.out).mono ?_;rintro e X ⟨s2,i2,rfl,H,n,g⟩;replace b:=zh g;clear g
  go_wp2_with fail
  refine(v.out j b.out).mono ?_;rintro e I ⟨s3,i3,rfl,a0,y,g⟩;replace b:=zh g;clear g
  go_wp2_with fail
  go_ret;exact jN Z (.and T.out (by decide) n.out y.out j) b.out
 by_cases h2:k=2/\1<=d
 ·obtain⟨rfl,j⟩:=h2
  have F:(1:Int)<=(d:Int):=by omega
  have G:(0:Int)<(d:Int):=by omega
  clear h0 h1
  go_wp2_with fail
  refine(v.out j b.out).mono ?_;rintro e X ⟨s2,i2,rfl,H,n,g⟩;replace b:=zh g;clear g
  go_wp2_with fail
  refine(v.out j b.out).mono ?_;rintro e I ⟨s3,i3,rfl,a0,y,g⟩;replace b:=zh g;clear g
  go_wp2_with fail
  go_ret;exact jN Z (.or T.out (by decide) n.out y.out j) b.out
 have hq:k=3\/(k=0/\d=0)\/(k=1/\d=0)\/(k=2/\d=0)\/(((k:Int)==0)=false/\((k:Int)==1)=false/\((k:Int)==2)=false/\((k:Int)==3)=false):=by
  by_cases h3:k<4
  ·omega
  ·exact .inr (.inr (.inr (.inr ⟨beq_eq_false_iff_ne.2 (by omega),beq_eq_false_iff_ne.2 (by omega),beq_eq_false_iff_ne.2 (by omega),beq_eq_false_iff_ne.2 (by omega)⟩)))
 clear h0 h1 h2
 rcases hq with rfl|hq
 ·obtain⟨x,c1,c2,c3⟩:=b.out.c0
  have a6:=b.out.s
  go_wp2_with fail
  have a1:=zh (b.out.al (.cells #[.string ⟨#[116,114,117,101]⟩,.string ⟨#[102,97,108,115,101]⟩] 9));refine(JX 2 (by decide) (by decide) a1.out.zQ).mono ?_;rintro e X ⟨k2,i2,rfl,a7,U,g⟩;obtain⟨t,ht,hT⟩:=zhN k2 a7 X w1.heap.size (Sc.qF b.out () g.gr);have HT:=zh hT;replace U:=zh U;replace b:=zh (a1.out.tr g);have j0:=nn k2;clear g x c1 c2 c3 hT
  go_wp2_with fail
  go_ret;exact jN Z (.tf T.out (by decide) U.out HT.out) b.out
 ·rcases hq with⟨rfl,rfl⟩|⟨rfl,rfl⟩|⟨rfl,rfl⟩|⟨q0,q1,q2,q3⟩
  all_goals
   obtain⟨x,c1,c2,c3⟩:=b.out.c0
   go_upto_region 10 with(fail)
   have a2:=zh b.out.dr;have J:=a2.out.c3;have q7:=b.out.c3;have a6:=b.out.s;have C:=zh b.out;clear b x c1 c2 c3
   go_region_law(first|(go_simp;first
    |(go_at_call 29;refine(JX _ zfA zf8 z.out.1.zQ).mono ?_;rintro e I ⟨K,i3,rfl,o,l,a⟩;have J:=a.c3;have V:=a.s;have j0:=nn K;replace l:=zh l;have D:=zh (And.intro (Sc.old z.out.1 a.gr z.out.2) z.out.2.2);obtain⟨t3,p,f⟩:=zcq K;have a3:=yC o f I _ D.out.1;have r:=zh f;have m:=zh (z.out.1.tr a);have f3:=zfh q p;clear a f)
    |(go_at_call 29;refine(JX _ zfA zf8 (A.out.al _).zQ).mono ?_;rintro e I ⟨K,i3,rfl,o,l,a⟩;have J:=a.c3;have V:=a.s;have j0:=nn K;replace l:=zh l;have D:=zh (And.intro (Sc.qF A.out () a.gr) (Sc.ne A.out));obtain⟨t3,p,f⟩:=zcq K;have a3:=yC o f I _ D.out.1;have r:=zh f;have m:=zh ((A.out.al _).tr a);have f3:=zfh q p;clear a f)
    |(go_at_call 29;refine(JX _ zfA zf8 A.out).mono ?_;rintro e I ⟨K,i3,rfl,o,l,a⟩;have J:=a.c3;have V:=a.s;have j0:=nn K;replace l:=zh l;obtain⟨t3,p,f⟩:=zcq K;have a3:=yC o f (I.alloc (.cells #[.string ⟨#[32,60,32]⟩,.string ⟨#[32,60,61,32]⟩,.string ⟨#[32,62,32]⟩,.string ⟨#[32,62,61,32]⟩,.string ⟨#[32,61,61,32]⟩,.string ⟨#[32,33,61,32]⟩] 9)) _ (x9 I _);have r:=zh f;have m:=zh a;have f3:=zfh q p;clear a f)
    |(go_at_call 32;refine(HN.out m.out.zQ).mono ?_;rintro e Y ⟨s4,i4,rfl,B,W,a⟩;have J:=a.c3;have V:=a.s;have E:=zh (m.out.tr a);have a4:=yC o r.out Y _ (Sc.old m.out a.gr D.out);clear a;have f4:=zgi q p B)
    |(go_at_call 32;refine(HN.out (m.out.al _).zQ).mono ?_;rintro e Y ⟨s4,i4,rfl,B,W,a⟩;have J:=a.c3;have V:=a.s;have E:=zh ((m.out.al _).tr a);have a4:=yC o r.out Y _ (Sc.qF m.out () a.gr);clear a;have f4:=zgi q p B)
    |(go_at_call 32;refine(HN.out m.out).mono ?_;rintro e Y ⟨s4,i4,rfl,B,W,a⟩;have J:=a.c3;have V:=a.s;have E:=zh a;have a4:=yC o r.out (Y.alloc (.cells #[.string ⟨#[32,60,32]⟩,.string ⟨#[32,60,61,32]⟩,.string ⟨#[32,62,32]⟩,.string ⟨#[32,62,61,32]⟩,.string ⟨#[32,61,61,32]⟩,.string ⟨#[32,33,61,32]⟩] 9)) _ (x9 Y _);clear a;have f4:=zgi q p B)
    |(go_at_call 32;refine(HN.out a2.out).mono ?_;rintro e X ⟨s2,i2,rfl,q,a5,a⟩;have J:=a.c3;have V:=a.s;have A:=zh a;clear a)
    |(go_at_call 32;refine(HN.out (C.out.ald _).zQ).mono ?_;rintro e X ⟨s2,i2,rfl,q,a5,a⟩;have J:=a.c3;have V:=a.s;have z:=zh (And.intro ((C.out.ald _).tr a) (And.intro (Sc.zi0 C.out a.gr) (Sc.ne C.out)));clear a)))
   all_goals
    go_wp2_with fail
    go_ret;exact jN Z (.XU T.out a5.out l.out r.out W.out) (by first|exact E.out|exact E.out.al _)
end Go.Proofs.YtalgmjmibamdfaaGreatDoor
namespace Go.Proofs.YtalgmjmibamdfaaGreatDoor
open Go.RowKit Tw
theorem xR.pre{N low:Nat}{B:Ms->GL->Ms->Prop}(a: ∀s g s',B s g s'->s'.ns=s.ns){s:Ms}{g:GL}{s':Ms}(h:xR N low B s g s'): ∃l,s'.ns=s.ns++l:=by
 cases h with
 |Qc _ _ b c=>exact⟨[],by rw[a _ _ _ c,a _ _ _ b];simp⟩
 |qv _ _ e=>exact⟨[],by rw[a _ _ _ e];simp⟩
 |bind _ _=>exact⟨_,rfl⟩
 |set _ _ _ _=>exact⟨[],by simp⟩
 |qH _ _=>exact⟨[],by simp⟩
 |run _ _=>exact⟨[],by simp⟩
 |ret _ _ _=>exact⟨[],by simp⟩
theorem zfR{N low:Nat}{d:Nat}{s:Ms}{g:GL}{s':Ms}(h:QB N low d s g s'):s'.ns=s.ns:=by
 rw[zbU]at h;obtain⟨j,i1,a,_,_,rfl⟩:=h;rfl
theorem Qo.pre{N low d:Nat}{s:Ms}{g:GL}{s':Ms}(h:Qo N low d s g s'): ∃l,s'.ns=s.ns++l:=by
 cases d with
 |zero=>exact xR.pre (λ_ _ _ h=>h.elim) h
 |succ d=>exact xR.pre (λ_ _ _ h=>zfR h) h
theorem Run.pre{N low d j:Nat}{s:Ms}{g:GL}{s':Ms}(h:Run (Qo N low d) j s g s'): ∃l,s'.ns=s.ns++l:=by
 induction h with
 |nil=>exact⟨[],by simp⟩
 |jB _ b c=>
  obtain⟨l,e⟩:=c;obtain⟨f,a⟩:=b.pre;exact⟨l++f,by rw[a,e,B2]⟩
theorem YJ{d:Nat}(h:d<=3):QA d<=777/\mkS d<=259:=by
 have a:d=0\/d=1\/d=2\/d=3:=by omega
 rcases a with rfl|rfl|rfl|rfl<;>decide
theorem Ye{d:Nat}(h:d<=3):szB d<=3885000/\szS d<=1295000:=by
 have a:d=0\/d=1\/d=2\/d=3:=by omega
 rcases a with rfl|rfl|rfl|rfl<;>decide
def Y1(N low d:Nat)(s:Ms)(t:ByteArray)(s':Ms):Prop:= ∃g:GL,t=g.O4/\Qo N low d s g s'
def ZW(N low d j:Nat)(s:Ms)(t:ByteArray)(s':Ms):Prop:= ∃g:GL,t=g.O4/\Run (Qo N low d) j s g s'
def JM(N low d:Nat)(s:Ms)(t:ByteArray)(s':Ms):Prop:= ∃g:GL,t=g.O4/\QB N low d s g s'
theorem Y1.bd{N low d:Nat}{s:Ms}{t:ByteArray}{s':Ms}(h:Y1 N low d s t s')(a:d<=3)(b:low<=2)(c:xq s.ns)(o:s.m<=900000):s.m<=s'.m/\s'.m<=s.m+mkS d/\t.size<=1295000/\xq s'.ns/\s'.ns.length<=s.ns.length+1:=by
 obtain⟨g,rfl,e⟩:=h;have p:=YJ a;have q:=Ye a;obtain⟨f,j,r,l,n⟩:=Qo.R1 b d _ _ _ e c (by omega);exact⟨f,j,by omega,l,n⟩
theorem JM.bd{N low d:Nat}{s:Ms}{t:ByteArray}{s':Ms}(h:JM N low d s t s')(a:d<=3)(b:low<=2)(c:xq s.ns)(o:s.m<=900000):s.m<=s'.m/\s'.m<=s.m+QA d/\t.size<=3885000/\s'.ns=s.ns:=by
 obtain⟨g,rfl,e⟩:=h;have p:=YJ a;have q:=Ye a;obtain⟨f,j⟩:=QB.R1 b d _ _ _ e;obtain⟨l,n,r,v,w⟩:=f c (by omega);exact⟨l,n,by omega,j⟩
theorem ZW.bd{N low d j:Nat}{s:Ms}{t:ByteArray}{s':Ms}(h:ZW N low d j s t s')(a:j<=3)(b:d<=3)(e:low<=2)(f:xq s.ns)(r:s.m<=900000):s.m<=s'.m/\s'.m<=s.m+j*mkS d/\t.size<=3885000/\xq s'.ns/\s'.ns.length<=s.ns.length+j/\ ∃l,s'.ns=s.ns++l:=by
 obtain⟨g,rfl,c⟩:=h;have v:=YJ b;have w:=Ye b;have y:=F9 (mkS d) a;have z:=F9 (szS d) a;obtain⟨n,o,A,p,q⟩:=c.R1 (Qo.R1 e d) f (by omega);exact⟨n,o,by omega,p,q,c.pre⟩
theorem ZW.nil{N low d:Nat}(s:Ms):ZW N low d 0 s ⟨#[]⟩ s:=⟨.nil,rfl,.nil⟩
theorem ZW.jB{N low d j:Nat}{s a s2:Ms}{t u:ByteArray}(h:ZW N low d j s t a)(b:Y1 N low d a u s2):ZW N low d (j+1) s (t++u) s2:=by
 obtain⟨g,rfl,c⟩:=h;obtain⟨x,rfl,e⟩:=b;exact⟨_,(GL.JW g x).symm,.jB c e⟩
theorem ZW.J7{N low d j i1:Nat}{s a:Ms}{t:ByteArray}(b:Nx N 4 s.i j i1)(h:ZW N low d j ⟨s.ns,s.m,i1⟩ t a):JM N low d s t ⟨s.ns,a.m,a.i⟩:=by
 obtain⟨g,rfl,c⟩:=h;exact⟨_,rfl,by rw[zbU];exact⟨j,i1,a,b,c,rfl⟩⟩
section
variable {N low d:Nat}{ns:List ByteArray}{m i i1 i2 i3 k:Nat}{s t u x:ByteArray}
theorem Y1.mk0{g:GL}{s':Ms}{t:ByteArray}(a:t=g.O4)(h: ∀B,xR N low B ⟨ns,m,i⟩ g s'):Y1 N low d ⟨ns,m,i⟩ t s':=⟨g,a,by cases d<;>exact h _⟩
theorem Y1.set{j:Nat}(a:Nx N 8 i 0 i1)(b:Nx N ns.length i1 j i2)(hs:ns[j]?=some s)(hx:zk N ns low 2 i2 x i3):Y1 N low d ⟨ns,m,i⟩ (s++⟨#[32,61,32]⟩++x++⟨#[59,32]⟩) ⟨ns,m,i3⟩:=by
 obtain⟨g,rfl,c⟩:=hx;exact .mk0 (g:=.set s g .nil) (by simp only[GL.O4,zV]) λB=>.set a b hs c
theorem Y1.qH(a:Nx N 8 i k i1)(b:0<k)(hx:zk N ns low 2 i1 x i2):Y1 N low d ⟨ns,m,i⟩ (⟨#[121,105,101,108,100,32]⟩++x++⟨#[59,32]⟩) ⟨ns,m,i2⟩:=by
 obtain⟨c,rfl⟩:=a.got b;obtain⟨g,rfl,e⟩:=hx;exact .mk0 (g:=.qH g .nil) (by simp only[GL.O4,zV]) λB=>.qH c e
theorem Y1.run(a:Nx N 8 i k i1)(b:0<k)(hx:zk N ns low 2 i1 x i2):Y1 N low d ⟨ns,m,i⟩ (x++⟨#[59,32]⟩) ⟨ns,m,i2⟩:=by
 obtain⟨c,rfl⟩:=a.got b;obtain⟨g,rfl,e⟩:=hx;exact .mk0 (g:=.run g .nil) (by simp only[GL.O4,zV]) λB=>.run c e
theorem Y1.ret{j:Nat}(a:Nx N 8 i k i1)(b:0<k)(c:Nx N 8 i1 j i2)(hx:zk N ns low 1 i2 x i3):Y1 N low d ⟨ns,m,i⟩ (⟨#[114,101,116,117,114,110,32]⟩++x++⟨#[59,32]⟩) ⟨ns,m,i3⟩:=by
 obtain⟨e,rfl⟩:=a.got b;obtain⟨g,rfl,f⟩:=hx;exact .mk0 (g:=.ret g .nil) (by simp only[GL.O4,zV]) λB=>.ret e c f
theorem Y1.Qc{c a b:ByteArray}{j s2:Ms}(l:Nx N 8 i k i1)(n:0<k)(z:1<=d)(o:zo N ns low 2 i1 c i2)(p:JM N low (d-1) ⟨ns,m,i2⟩ a j)(q:JM N low (d-1) j b s2):
 Y1 N low d ⟨ns,m,i⟩ (⟨#[105,102,32]⟩++c++⟨#[32,123,32]⟩++a++⟨#[125,32,101,108,115,101,32,123,32]⟩++b++⟨#[125,32]⟩) s2:=by
 obtain⟨r,rfl⟩:=l.got n;obtain⟨d,rfl⟩: ∃e,d=e+1:=⟨d-1,by omega⟩;obtain⟨v,rfl,f⟩:=o;obtain⟨w,rfl,g⟩:=p;obtain⟨y,rfl,h⟩:=q;exact⟨.Qc v w y .nil,by simp only[GL.O4,zV],.Qc r f g h⟩
theorem Y1.qv{v z l:ByteArray}{n:Nat}{s2:Ms}(b:Nx N 8 i k i1)(c:0<k)(q:1<=d)(f:Nx N 4 i1 n i2)(g:v=iT (m+1))(h:z=jo n)(j:JM N low (d-1) ⟨ns,m+1,i2⟩ l s2):
 Y1 N low d ⟨ns,m,i⟩ (⟨#[108,101,116,32]⟩++v++⟨#[32,61,32,48,59,32,119,104,105,108,101,32]⟩++v++⟨#[32,60,32]⟩++z++⟨#[32,123,32]⟩++l++v++⟨#[32,61,32]⟩++v++⟨#[32,43,32,49,59,32,125,32]⟩) s2:=by
 obtain⟨o,rfl⟩:=b.got c;obtain⟨d,rfl⟩: ∃e,d=e+1:=⟨d-1,by omega⟩;obtain⟨p,rfl,a⟩:=j;subst g h;exact⟨.qv (m+1) n p .nil,by simp only[GL.O4,zV],.qv o f a⟩
theorem Y1.bind{v:ByteArray}(a:i<i1/\i1<=N\/i=N/\i1=N)(hx:zk N ns low 2 i1 x i2)(b:v=vT (m+1)):Y1 N low d ⟨ns,m,i⟩ (⟨#[108,101,116,32]⟩++v++⟨#[32,61,32]⟩++x++⟨#[59,32]⟩) ⟨ns++[v],m+1,i2⟩:=by
 obtain⟨g,rfl,c⟩:=hx;subst b;exact .mk0 (g:=.bind (m+1) g .nil) (by simp only[GL.O4,zV]) λB=>.bind a c
theorem Nx.mv{n:Nat}(h:Nx N n i k i1):i<i1/\i1<=N\/i=N/\i1=N:=by
 rcases h.2 with h|h<;>omega
theorem Nx.mv2{n b c:Nat}(h:Nx N n i k i1)(a:Nx N b i1 c i2):i<i2/\i2<=N\/i=N/\i2=N:=by
 rcases h.2 with h|h<;>rcases a.2 with a|a<;>omega
end
end Go.Proofs.YtalgmjmibamdfaaGreatDoor
