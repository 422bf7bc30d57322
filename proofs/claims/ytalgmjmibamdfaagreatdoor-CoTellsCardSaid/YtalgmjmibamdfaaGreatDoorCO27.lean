/- Merged. -/
import Derived.Test.YtalgmjmibamdfaaGreatDoorCO26
import Derived.Test.YtalgmjmibamdfaaGreatDoorCO25
import Derived.Test.YtalgmjmibamdfaaGreatDoorCO23b
set_option linter.all false
set_option maxHeartbeats 16000000
set_option maxRecDepth 100000
namespace Go.Proofs.YtalgmjmibamdfaaGreatDoor
open Go.Proofs.Tryz
open Go.RowKit Tw
def QL(N j i:Nat)(t:ByteArray)(m' b:Nat):Prop:= ∃a:List (GL×GE),t=xx 0 a/\xq N j i a m' b
theorem QL.xb{N j i c d e f i3:Nat}{t a b z:ByteArray}(h:QL N j i t c d)(l:z=jV j)(m:Xb N j 2 ⟨pq,c,d⟩ a ⟨pq,e,f⟩)(n:zB N pq j 2 f b i3):
 QL N (j+1) i (t++(⟨#[102,117,110,32,102]⟩++z++⟨#[40,112,58,32,105,110,116,44,32,113,58,32,105,110,116,41,58,32,105,110,116,32,123,32]⟩++a++⟨#[114,101,116,117,114,110,32]⟩++b++⟨#[59,32,125,10]⟩)) e i3:=by
 obtain⟨q,rfl,k⟩:=h;obtain⟨g,rfl,o⟩:=m;obtain⟨x,rfl,p⟩:=n;subst l;refine⟨_,?_,.xb k o p⟩;rw[QA,k.len,Nat.zero_add];rfl
theorem QL.zh3{N k c d e i f j:Nat}{t a b:ByteArray}(l:N<=60)(m:Nx N 3 0 k c)(h:QL N k c t d e)(n:Xb N k 3 ⟨[],d,e⟩ a ⟨[],i,f⟩)(o:zB N [] k 2 f b j):
 jH k N (t++⟨#[102,117,110,32,109,97,105,110,40,41,58,32,105,110,116,32,123,32]⟩++a++⟨#[114,101,116,117,114,110,32]⟩++b++⟨#[59,32,125]⟩):=by
 obtain⟨p,rfl,q⟩:=h;obtain⟨g,rfl,r⟩:=n;obtain⟨x,rfl,s⟩:=o;exact⟨p,g,x,c,d,e,i,f,j,l,m,q,r,s,rfl⟩
theorem zhx(A:Option Addr)(n c:Nat)(w:World):Calls prog 28 #[.slice A n c] w λe w'=>e=.returned (.pointer (some ⟨w.heap.size,0,none⟩))/\w'=w.alloc (.cells #[.slice A n c,.int .i64 0] 131):=by
 go_enter func28,ntmps28
 go_wp2_with fail
 go_ret;exact⟨rfl,rfl⟩
theorem Sc.start{w:World}{c:Option Addr}{n0 c0:Nat}(d:U2 w)(h: ∀j,j<n0-> ∃g b v,c=some ⟨g,b,none⟩/\g<w.heap.size/\w.cell? ⟨g,b+j,none⟩=some (.int .i64 v))(i:n0<=60):
 Sc w ((w.alloc (.cells #[.slice c n0 c0,.int .i64 0] 131)).alloc (.cells #[.pointer (some ⟨w.heap.size,0,none⟩),.slice none 0 0,.int .i64 0,.int .i64 0] 84))
  ((w.alloc (.cells #[.slice c n0 c0,.int .i64 0] 131)).alloc (.cells #[.pointer (some ⟨w.heap.size,0,none⟩),.slice none 0 0,.int .i64 0,.int .i64 0] 84)) (w.heap.size+1) w.heap.size c n0 c0 0 none 0 [] 0 0:=by
 have l: ∀k,k<w.heap.size->((w.alloc (.cells #[.slice c n0 c0,.int .i64 0] 131)).alloc (.cells #[.pointer (some ⟨w.heap.size,0,none⟩),.slice none 0 0,.int .i64 0,.int .i64 0] 84)).heap[k]?=w.heap[k]?:=λk m=>
  (D4 _ _ (by simp;omega)).trans (D4 w _ m)
 have e:=((y7 w.heap.size w).alloc (y6 _) (.cells #[.slice c n0 c0,.int .i64 0] 131)).alloc (by simp) (.cells #[.pointer (some ⟨w.heap.size,0,none⟩),.slice none 0 0,.int .i64 0,.int .i64 0] 84);refine⟨by simpa using y9 (w.alloc (.cells #[.slice c n0 c0,.int .i64 0] 131)) (.cells #[.pointer (some ⟨w.heap.size,0,none⟩),.slice none 0 0,.int .i64 0,.int .i64 0] 84),(D4 _ _ (by simp)).trans (y9 w _),λj n=>?_,xj.nil _ _ _ _ _,by intro s o;simp at o,by simp,E2 _,i,by omega,by omega,d.Jv,by omega,by simp,d.to e,e,K7 (y7 _ _) _⟩;obtain⟨g,b,v,p,f,q⟩:=h j n;exact⟨g,b,v,p,f,(E9 (a:=⟨g,b+j,none⟩) (l g f)).trans q⟩
theorem Sc.zkx{w0 u w:World}{sb m:Nat}{n:Option Addr}{n0 c0 i:Nat}{v:Option Addr}{cn:Nat}{ns:List ByteArray}{b low:Nat}(h:Sc w0 u w sb m n n0 c0 i v cn ns b low)(j:Nat)(x:j<=2){W:World}(y:W=((w.setCell ⟨sb,1,none⟩ (.slice (some ⟨w.heap.size,0,none⟩) 2 2)).setCell ⟨sb,3,none⟩ (.int .i64 j)).alloc (.cells #[.string ⟨#[112]⟩,.string ⟨#[113]⟩] 9)):
 Sc w0 W W sb m n n0 c0 i (some ⟨w.heap.size,0,none⟩) 2 pq b j:=by
 subst y;have z:=h.s;have A:=h.q;have d:=J2 w sb 1 (.slice (some ⟨w.heap.size,0,none⟩) 2 2);have o:=z5 w sb 1 _ _ (.slice (some ⟨w.heap.size,0,none⟩) 2 2) h.Zh;have p:(w.setCell ⟨sb,1,none⟩ (.slice (some ⟨w.heap.size,0,none⟩) 2 2)).heap.size=w.heap.size:=by simp
 generalize w.setCell ⟨sb,1,none⟩ (.slice (some ⟨w.heap.size,0,none⟩) 2 2)=e at d o p|-
 have f:=J2 e sb 3 (.int .i64 j);have r:=z5 e sb 3 _ _ (.int .i64 j) o;have t:(e.setCell ⟨sb,3,none⟩ (.int .i64 j)).heap.size=e.heap.size:=by simp
 generalize e.setCell ⟨sb,3,none⟩ (.int .i64 j)=g at f r t|-
 have c:=(y7 g.heap.size g).alloc (y6 _) (.cells #[.string ⟨#[112]⟩,.string ⟨#[113]⟩] 9);have l:=y9 g (.cells #[.string ⟨#[112]⟩,.string ⟨#[113]⟩] 9);rw[t,p]at l;generalize g.alloc (.cells #[.string ⟨#[112]⟩,.string ⟨#[113]⟩] 9)=B at c l|-
 have C:=c.size;refine h.qU (by simpa[pq]using(c.block sb (by omega)).trans r) (λk D=>(c.block k (by omega)).trans ((f.block k (by omega) (by simp;omega)).trans (d.block k (by omega) (by simp;omega)))) (by omega) (c.os.trans (f.os.trans d.os)) (c.tape.trans (f.tape.trans d.tape)) (c.output.trans (f.output.trans d.output)) ?_ zf1 (by decide) h.m1 x;exact⟨⟨rfl,.inr ⟨w.heap.size,2,_,rfl,by omega,l,by decide,by decide,rfl,rfl⟩⟩,λa _=>trivial⟩
theorem Sc.zkO{w0 n w:World}{sb e:Nat}{f:Option Addr}{n0 c0 i:Nat}{o:Option Addr}{cn:Nat}{ns:List ByteArray}{a low:Nat}(h:Sc w0 n w sb e f n0 c0 i o cn ns a low)(j:Nat)(p:j<=2){W:World}(r:W=(w.setCell ⟨sb,1,none⟩ (.slice none 0 0)).setCell ⟨sb,3,none⟩ (.int .i64 j)):
 Sc w0 W W sb e f n0 c0 i none 0 [] a j:=by
 subst r;have g:=h.s;have u:=h.q;have b:=J2 w sb 1 (.slice none 0 0);have l:=z5 w sb 1 _ _ (.slice none 0 0) h.Zh;generalize w.setCell ⟨sb,1,none⟩ (.slice none 0 0)=d at b l|-
 have c:=J2 d sb 3 (.int .i64 j);have m:=z5 d sb 3 _ _ (.int .i64 j) l;generalize d.setCell ⟨sb,3,none⟩ (.int .i64 j)=v at c m|-
 have t:=b.size;exact h.qU (by simpa using m) (λk x=>(c.block k (by omega) (by simp;omega)).trans (b.block k (by omega) (by simp;omega))) (by have:=c.size;omega) (c.os.trans b.os) (c.tape.trans b.tape) (c.output.trans b.output) (xj.nil _ _ _ _ _) (by intro s g;simp at g) (by decide) h.m1 p
theorem Sc.zjz{w0 b w:World}{sb c:Nat}{d:Option Addr}{n0 c0 i:Nat}{e:Option Addr}{cn:Nat}{ns:List ByteArray}{a low:Nat}(h:Sc w0 b w sb c d n0 c0 i e cn ns a low):w.frozen? ⟨sb,3,none⟩=false:=B4 h.Zh 3
theorem zc1: ∀d:Nat,d<=3->Qy d/\ZX d:=by
 intro d
 induction d with
 |zero=>
  intro h;have this:Qy 0:=JM 0 h (by omega);exact⟨this,Qm 0 h this⟩
 |succ d a=>
  intro h;have this:Qy (d+1):=JM (d+1) h (λ_=>(a (by omega)).2);exact⟨this,Qm (d+1) h this⟩
theorem Jw(d:Nat)(h:d<=3):ZX d:=(zc1 d h).2
def zfS(w0:World)(sb g:Nat)(h:Option Addr)(n0 c0 i a:Nat)(t:ByteArray)(W:World):Prop:=
 ∃(j:List ByteArray)(b f:Nat)(c:Option Addr)(d e:Nat),QL n0 a i t b f/\t.size<=a*3900000/\b<=a*129/\Sc w0 W W sb g h n0 c0 f c d j b e
theorem JJ(A:Option Addr)(n c:Nat)(w:World)(hG:U2 w)(R:n<=c)(h: ∀j,j<n-> ∃g K v,A=some ⟨g,K,none⟩/\g<w.heap.size/\w.cell? ⟨g,K+j,none⟩=some (.int .i64 v)):
 Calls prog 7 #[.slice A n c] w λe w'=> ∃(t:ByteArray)(N k:Nat),e=.returned (.string t)/\t.size<=12000000/\Hid (jH k N t)/\qz w A n 0 3 k/\Below w.heap.size w w':=by
 obtain⟨N,hN⟩: ∃N,N=min n 60:=⟨_,rfl⟩;have y:N<=60:=by omega
 have S:N<=n:=by omega
 have L:=zh (Sc.start (c0:=c) (n0:=N) hG (λj hj=>h j (by omega)) y);have T:Hid (∀{w0 H w:World}{sb z:Nat}{B:Option Addr}{p r i:Nat}{I:Option Addr}{J:Nat}{q:List ByteArray}{a f:Nat},Sc w0 H w sb z B p r i I J q a f->a+Ju 3<=900000->q.length+3*(3+1)<=90->Calls prog 31 #[.pointer (some ⟨sb,0,none⟩),.int .i64 3] w (xI w0 sb z B p r q a f 3 i)):=zh (Jw 3 (by decide));have U:Hid (∀{w0 H w:World}{sb z:Nat}{B:Option Addr}{p r i:Nat}{I:Option Addr}{J:Nat}{q:List ByteArray}{a f:Nat},Sc w0 H w sb z B p r i I J q a f->a+Ju 2<=900000->q.length+3*(2+1)<=90->Calls prog 31 #[.pointer (some ⟨sb,0,none⟩),.int .i64 2] w (xI w0 sb z B p r q a f 2 i)):=zh (Jw 2 (by decide));have HN:Hid (∀{w0 H w:World}{sb z:Nat}{B:Option Addr}{p r i:Nat}{I:Option Addr}{J:Nat}{q:List ByteArray}{a f:Nat},Sc w0 H w sb z B p r i I J q a f->Calls prog 32 #[.pointer (some ⟨sb,0,none⟩),.int .i64 2] w (zam w0 H sb z B p r I J q a f 2 i)):=zh (yJ 2 (by decide));have M:n<=60/\N=n\/60<n/\N=60:=by omega
 have V:=zh M;clear h hN M hG
 go_enter func7,ntmps7
 go_upto_region 1 with(fail)
 go_cut[3] (λv W=>v=.pointer (some ⟨w.heap.size+1,0,none⟩)/\Hid (Sc w W W (w.heap.size+1) w.heap.size A N c 0 none 0 [] 0 0))
 case first=>
  have X:Hid ((min (n:Int) 60).toNat=N):=zh (by have:=V.out;omega);have h2:(n:Int)<=(c:Int):=by omega
  have h3:(0:Int)<=(n:Int):=by omega
  have h4:(0:Int)<=min (n:Int) 60:=by omega
  have h5:min (n:Int) 60<=(c:Int):=by omega
  go_wp2_with(go_at_call 28;refine(zhx _ _ _ _).mono ?_;rintro e w' ⟨rfl,rfl⟩)
  go_meet
  case rel=>
   refine⟨rfl,?_⟩;rw[X.out];exact L
 case rest=>
  obtain⟨rfl,C⟩:=hcut;have Y:Hid (n=0↔N=0):=zh (by have:=V.out;omega);clear L V R S;have b1:10<w.heap.size:=C.out.b0;generalize b2:w.heap.size+1=sb at C;obtain⟨Z,c1,c2,c3⟩:=C.out.c0
  go_wp2_with fail
  refine(n_k 3 (by decide) (by decide) C.out).mono ?_;rintro e w1 ⟨k,i0,rfl,b3,HX,d,hD⟩;have HD:=zh (hD.zfE (n0:=n) C.out.O7 (y6 _) Y.out);clear hD;replace HX:=zh HX;replace C:=zh d.qy;clear d Z c1 c2 c3;have a0:k<=2:=by omega
  go_wp2_with fail
  go_loopw[5,21] (λo j wr=> ∃(l:Nat)(t:ByteArray),o=.string t/\j=.int .i64 l/\l<=k/\Hid (zfS w sb w.heap.size A N c i0 l t wr))
   (λ_ j _=>(4-intOf j).toNat)
  case atStart=>exact⟨0,⟨#[]⟩,rfl,rfl,E2 _,zh ⟨[],0,i0,none,0,0,⟨[],rfl,.nil⟩,by simp[ByteArray.size],by simp,C.out⟩⟩
  case round=>
   obtain⟨l,t,rfl,rfl,b4,u⟩:=hrel;obtain⟨b5,m',i',b6,b7,a8,hA,D,E,d⟩:=u.out;have HA:=zh hA;have b:=zh d;clear hA d u C
   by_cases a1:l<k
   ·have a9:(l:Int)<(k:Int):=by omega
    have a2:t.size<=7800000:=by have:=G6 3900000 (show l<=2 by omega);omega
    have a3:m'<=258:=by have:=G6 129 (show l<=2 by omega);omega
    have O:=zh (And.intro D E);clear D E;obtain⟨d0,d1,d2,d3⟩:=b.out.c0;obtain⟨q1,q2⟩:=b.out.frz;have q3:=b.out.zjz;have hs:=b.out.s
    go_upto_region 8 with(fail)
    have m:=zh (b.out.zkx l (by omega) rfl);clear d0 d1 d2 d3 q1 q2 q3 hs b;generalize((wr.setCell _ _).setCell _ _).alloc _=w2 at m|-
    generalize wr.heap.size=gp at m|-
    go_wp2_with fail
    refine(jx l (by omega) m.out).mono ?_;rintro e w3 ⟨s3,rfl,a4,b8,d⟩;replace m:=zh d;clear d
    go_wp2_with fail
    refine(U.out m.out (by have:Ju 2=129:=rfl;omega) (by decide)).mono ?_;rintro e w4 ⟨s4,m4,i4,P,Q,rfl,a5,x,F,d⟩;replace m:=zh d;have a6:=zh x;clear d x
    go_wp2_with fail
    refine(HN.out m.out).mono ?_;rintro e w5 ⟨s5,i5,rfl,a7,G,d⟩;replace m:=zh d.qy;clear d
    have u:Hid (zfS w sb w.heap.size A N c i0 (l+1) (t++(⟨#[102,117,110,32,102]⟩++s3++⟨#[40,112,58,32,105,110,116,44,32,113,58,32,105,110,116,41,58,32,105,110,116,32,123,32]⟩++s4++⟨#[114,101,116,117,114,110,32]⟩++s5++⟨#[59,32,125,10]⟩)) w5):=
     zh ⟨pq,m4,i5,P,Q,l,HA.out.xb a4.out F.out G.out,by
      have:=O.out.1;simp only[D0,Q3,E4,z7,B1];omega,by have:=O.out.2;have:=a6.out;have:Ju 2=129:=rfl;omega,m.out⟩
    go_wp2_with fail
    go_roundw
    case rel=>exact⟨l+1,_,rfl,by go_num,a1,u⟩
    case measure=>simp[intOf];omega
   ·obtain rfl:l=k:=by omega
    have a2:t.size<=7800000:=by have:=G6 3900000 (show l<=2 by omega);omega
    have a3:m'<=258:=by have:=G6 129 (show l<=2 by omega);omega
    clear D E;obtain⟨d0,d1,d2,d3⟩:=b.out.c0;obtain⟨q1,q2⟩:=b.out.frz;have q3:=b.out.zjz
    go_upto_region 11 with(fail)
    have m:=zh (b.out.zkO l a0 rfl);clear d0 d1 d2 d3 q1 q2 q3 b;generalize(wr.setCell _ _).setCell _ _=w2 at m|-
    go_wp2_with fail
    refine(T.out m.out (by have:Ju 3=777:=rfl;omega) (by decide)).mono ?_;rintro e w4 ⟨s4,m4,i4,P,Q,rfl,a5,x,F,d⟩;replace m:=zh d;clear d x
    go_wp2_with fail
    refine(HN.out m.out).mono ?_;rintro e w5 ⟨s5,i5,rfl,a7,G,d⟩;replace m:=zh d.qy;clear d
    go_wp2_with fail
    go_ret;refine⟨_,N,_,rfl,?_,zh (QL.zh3 y HX.out HA.out F.out G.out),HD.out,m.out.O7⟩;simp only[D0,Q3,E4,z7,B1];omega
theorem zgY(l:List Fn)(A:Option Addr)(c:Nat)(F:Nat->Prop)(w:World)(hA:R0 w F (.slice A l.length c) l)(hw: ∀f∈l,Fw f)(a3:l.length<=16)(hG:U2 w):
 Calls prog 71 #[.agg #[.slice A l.length c]] w λe w'=>e=.returned (.int .i64 0)/\Below w.heap.size w w':=by
 have HA:=zh hA;have HW:=zh hw;have P:=zh hG;have a4:(l.length:Int)<=16:=by omega
 have Q:=zh ((y7 w.heap.size w).alloc (y6 _) (.cells #[.slice A l.length c] 34));clear hA hw hG
 go_in
 go_wp2_with fail
 go_loopw[17] (λi wr=> ∃j:Nat,j<=l.length/\i=.int .i64 j/\Hid (Below w.heap.size w wr)) (λi _=>l.length-(intOf i).toNat)
 case atStart=>exact⟨0,E2 _,rfl,Q⟩
 case round=>
  obtain⟨j,hj,rfl,K⟩:=hrel
  by_cases R:j<l.length
  ·obtain⟨f,S⟩: ∃f,l[j]?=some f:=⟨_,y8 R⟩
   have B:=HW.out f (B7 S);obtain⟨g,T,U,V,W,X,L,M,rfl,hg,C,E,G,x⟩:=(HA.out.J0 (J1 K.out)).at j f S;have y:f.O6.length=f.J3.length:=by rw[B.O6,D9]
   rw[y,B.out]at x;have q0:wr.cell? ⟨g,T+j*6,none⟩=_:=x 0 _ rfl;have q1:=x 1 _ rfl;have q2:=x 2 _ rfl;have q3:=x 3 _ rfl;have q4:=x 4 _ rfl;have q5:=x 5 _ rfl;have h6:(f.J3.length:Int)<=6:=by have:=B.zcj;omega
   have H:=zh B;have d:=zh C;have h:=zh E;have k:=zh G;have a5:=zh y;clear B C E G y x S;have k0:(0:Int)<=(j:Int):=by omega
   have k1:(j:Int)<(l.length:Int):=by omega
   go_upto_region 7 with(fail)
   have r:=zh (K.out.alloc K.out.size (.cells #[.string f.L6,.slice U f.J3.length V,.slice W f.J3.length X,.int .i64 1,.slice L f.J7.length M,.int .i64 f.pos] 91));have s:=zh (y9 wr (.cells #[.string f.L6,.slice U f.J3.length V,.slice W f.J3.length X,.int .i64 1,.slice L f.J7.length M,.int .i64 f.pos] 91));have t:Below wr.heap.size wr (wr.alloc (.cells #[.string f.L6,.slice U f.J3.length V,.slice W f.J3.length X,.int .i64 1,.slice L f.J7.length M,.int .i64 f.pos] 91)):=(y7 _ _).alloc (y6 _) _;replace d:=zh (d.out.J0 (F':=F) (J1 t));replace h:=zh (h.out.J0 (F':=F) (J1 t));replace k:=zh (k.out.J0 (F':=F) (J1 t));clear q0 q1 q2 q3 q4 q5 t;generalize wr.alloc _=wa at r s d h k|-
   generalize wr.heap.size=N at s|-
   have D:=N6 s.out;have o:=I7 s.out
   go_wp2_with(first|(go_at_call 119;refine(yU f.L6 H.out.L6 _ (P.out.to r.out)).mono ?_;rintro e w7 ⟨rfl,a⟩;have D7:=N6 ((a.block N o).trans s.out))|(go_at_call 118;refine(zf6 _).mono ?_;rintro e w8 ⟨rfl,rfl⟩))
   have I:=zh (r.out.trans (a.mono r.out.size));replace s:=zh ((a.block N o).trans s.out);replace d:=zh (d.out.J0 (F':=F) (J1 a));replace h:=zh (h.out.J0 (F':=F) (J1 a));replace k:=zh (k.out.J0 (F':=F) (J1 a));clear D D7 o a
   go_loopw[6,46] (λu i wq=> ∃q:Nat,q<=f.J3.length/\u=.bool true/\i=.int .i64 q/\Hid (Below w7.heap.size w7 wq)) (λ_ i _=>f.J3.length-(intOf i).toNat)
   case atStart=>exact⟨0,E2 _,rfl,rfl,zh (y7 _ _)⟩
   case round=>
    obtain⟨q,hq,rfl,rfl,b⟩:=hrel;have Y:=(b.out.block N (I7 s.out)).trans s.out;have D:=N6 Y;have o:=I7 Y;have v:=zh (I.out.trans (b.out.mono I.out.size))
    by_cases Z:q<f.J3.length
    ·obtain⟨n,O⟩: ∃n,f.J3[q]?=some n:=⟨_,y8 Z⟩
     have J:=H.out.J3 n (B7 O);obtain⟨gn,on,rfl,-,kn⟩:=(d.out.J0 (F':=F) (J1 b.out)).at q n O;obtain⟨gt,ot,rfl,a0,kt⟩:=(h.out.J0 (F':=F) (J1 b.out)).at q 1 (by rw[H.out.O6,G3,O];rfl);have a1:=zh J;have m0:(0:Int)<=(q:Int):=by omega
     have m1:(q:Int)<(f.J3.length:Int):=by omega
     clear O J
     go_wp2_with(first|(go_at_call 119;refine(yU n a1.out _ (P.out.to v.out)).mono ?_;rintro e w8 ⟨rfl,m⟩;have D8:=N6 ((m.block N o).trans Y);have a6:=(m.cell (p:=⟨gt,ot+q,none⟩) a0).trans kt)|(go_at_call 118;refine(zf6 _).mono ?_;rintro e w9 ⟨rfl,rfl⟩))
     exact⟨⟨q+1,by omega,rfl,by go_num,zh (b.out.trans (m.mono b.out.size))⟩,by simp[intOf];omega⟩
    ·have k2:(f.J3.length:Int)<=(q:Int):=by omega
     go_wp2_with fail
     refine(sw false 40 40 rfl (by omega) f.J7 L M F _ (k.out.J0 (J1 b.out)) H.out.J7 H.out.zfK (P.out.to v.out)).mono ?_;rintro e w8 ⟨rfl,m⟩;have a2:=zh (v.out.trans (m.mono v.out.size));clear m D
     go_wp2_with fail
     exact⟨⟨j+1,by omega,by go_num,a2⟩,by simp[intOf];omega⟩
  ·have k1:(l.length:Int)<=(j:Int):=by omega
   go_wp2_with fail
   go_ret;exact⟨rfl,K.out⟩
theorem zhB(A:Option Addr)(n c:Nat)(w:World)(K:U2 w)(L:n<=c)(h: ∀j,j<n-> ∃g i v,A=some ⟨g,i,none⟩/\g<w.heap.size/\w.cell? ⟨g,i+j,none⟩=some (.int .i64 v)):
 Calls prog 9 #[.slice A n c] w λe w'=> ∃(k:Nat)(m:List Fn)(b:Option Addr)(d:Nat),e=.returned (.agg #[.slice b m.length d])/\R0 w' (λ_=>True) (.slice b m.length d) m/\Below w.heap.size w w'/\m.map Fn.sh=jR k/\qz w A n 0 3 k:=by
 have o:=(y7 w.heap.size w).alloc (y6 _) (.cells #[.slice none 0 0] 34);have f:=zh (y9 w (.cells #[.slice none 0 0] 34));have q:=zh o;have HG:=zh K;have M:Hid (∀k,qz (w.alloc (.cells #[.slice none 0 0] 34)) A n 0 3 k->qz w A n 0 3 k):=zh (λk hk=>hk.zfE o (y6 _) Iff.rfl);have O:=zh (JJ A n c (w.alloc (.cells #[.slice none 0 0] 34)) (K.to o) L (λj hj=>by
  obtain⟨g,i,v,G,r,h3⟩:=h j hj;exact⟨g,i,v,G,z6 r o.size,(o.cell (p:=⟨g,i+j,none⟩) r).trans h3⟩))
 clear o K h
 go_enter func9,ntmps9
 go_upto_region 1 with(fail)
 generalize World.alloc _ _=w1 at f q M O|-
 generalize x:w.heap.size=l at f q|-
 have y:=zh x;clear x
 go_wp2_with fail
 refine O.out.mono ?_;rintro e w2 ⟨t,N,k,rfl,a0,Z,hD,P⟩;obtain⟨ws,m,s1,s2,s3,s4,Q,-,z⟩:=Z.out.zf;have R:=zh z;have S:=zh (M.out k hD);have T:t.size<=maxLen:=by unfold maxLen;omega
 have a:=I7 f.out;replace f:=zh ((P.block l a).trans f.out);replace q:Hid (Below l w w2):=zh (q.out.trans (P.mono (I0 a)));have B:U2 w2:=HG.out.to (by rw[y.out];exact q.out);have S2:=zh (zb9 t w2 ws m T B s1 s2 s3 s4 λA n W ⟨F,H⟩ g=>zgY m A n F W H Q.fw Q.len g);clear P O s1 s2 s3 s4 Q z hD Z a M
 go_wp2_with fail
 refine S2.out.mono ?_;rintro e u ⟨b,d,rfl,H,I,C⟩;have a:=I7 f.out;have o:=I.alloc I.size (.cells #[.slice b m.length d] 34);have U:=(y7 u.heap.size u).alloc (y6 _) (.cells #[.slice b m.length d] 34);replace f:=zh ((o.block l a).trans f.out);replace q:Hid (Below l w _):=zh (q.out.trans (o.mono (I0 a)));have D:Hid (R0 (u.alloc (.cells #[.slice b m.length d] 34)) (λg=>l<g) (.slice b m.length d) m):=zh (H.J0 λg G r=>⟨z6 a G,z6 r U.size,U.block g r⟩);have s:=zh (y9 u (.cells #[.slice b m.length d] 34));have V:Hid (l≠u.heap.size):=zh (by have:=I.size;omega);clear H I C a o U B S2
 go_upto_region 2 with(fail)
 generalize World.alloc _ _=J at f q D s|-
 generalize u.heap.size=b3 at s V|-
 have c0:=y5 s.out 0;have d0:=y5 f.out 0;have g0:=B4 f.out 0;have a:=I7 f.out;have X:=zh (z5 J l 0 _ _ (.slice b m.length d) f.out);have Y:=zh (M2 q.out (y6 _) 0 (.slice b m.length d));have E:Hid (R0 (J.setCell ⟨l,0,none⟩ (.slice b m.length d)) (λ_=>True) (.slice b m.length d) m):=zh (D.out.J0 λg G r=>⟨trivial,z6 r (J2 J l 0 _).size,(J2 J l 0 _).block g r (λe=>by injection e with e;omega)⟩)
 go_wp2_with fail
 refine F1 (F3 rfl _ _ l _ _ _ _ rfl X.out underlying34 rfl zdg) rfl ?_;exact⟨k,m,b,d,rfl,E.out,by rw[y.out];exact Y.out,R.out,S.out⟩
theorem zcI(a:Option Addr)(c:Nat)(w:World):Calls prog 35 #[.agg #[.slice a 0 c,.int .i64 0]] w λe w'=>e=.returned (.int .i64 16)/\Below w.heap.size w w':=by
 have d:=zh (y9 w (.cells #[.slice a 0 c,.int .i64 0] 26));have f:=zh ((y7 w.heap.size w).alloc (y6 _) (.cells #[.slice a 0 c,.int .i64 0] 26))
 go_enter func35,ntmps35
 go_upto_region 1 with(fail)
 generalize World.alloc _ _=h at d f|-
 generalize b:w.heap.size=j at d f|-
 have g:=zh b;clear b;have k:=y5 d.out 0;have l:=y5 d.out 1
 go_upto_region 4 with(fail)
 go_loopw[20] (λi wr=>i=.int .i64 0/\wr=h) (λ_ _=>0)
 case atStart=>exact⟨rfl,rfl⟩
 case round=>
  obtain⟨rfl,rfl⟩:=hrel
  go_wp2_with fail
  go_ret;exact⟨rfl,by rw[g.out];exact f.out⟩
theorem zeS(a:Option Addr)(c:Nat)(w:World):Calls prog 10 #[.agg #[.slice a 0 c,.int .i64 0]] w λe w'=>e=.returned (.slice none 0 0)/\Below w.heap.size w w':=by
 have b:=zh (y9 w (.cells #[.slice a 0 c,.int .i64 0] 26));have f:=zh ((y7 w.heap.size w).alloc (y6 _) (.cells #[.slice a 0 c,.int .i64 0] 26))
 go_enter func10,ntmps10
 go_upto_region 1 with(fail)
 generalize World.alloc _ _=j at b f|-
 generalize d:w.heap.size=k at b f|-
 have g:=zh d;clear d;have l:=y5 b.out 0;have m:=y5 b.out 1
 go_wp2_with fail
 refine(zcI a c j).mono ?_;rintro e n ⟨rfl,i⟩;have h:=zh (f.out.trans (i.mono (I0 (I7 b.out))));clear i
 go_wp2_with fail
 go_ret;exact⟨rfl,by rw[g.out];exact h.out⟩
theorem zgt{w:World}{g:Nat}(b:w.heap[g]?=some (.cells #[.slice none 0 0,.int .i64 0] 26 (0,0))):Calls prog 17 #[.slice (some ⟨g,0,none⟩) 1 1] w λe w'=>e=.returned (.tuple #[.slice none 0 0,.int .i64 3])/\Below w.heap.size w w':=by
 have G:=N6 b;have j:=I7 b;have o:=zh b;clear b
 go_enter func17,ntmps17
 go_wp2_with fail
 go_loopw[13] (λi wr=>i=.int .i64 0/\wr=w) (λ_ _=>0)
 case atStart=>exact⟨rfl,rfl⟩
 case round=>
  obtain⟨rfl,rfl⟩:=hrel;have c:=zh (y9 wr (.cells #[.slice none 0 0,.int .i64 0] 26));have d:=zh ((y7 wr.heap.size wr).alloc (y6 _) (.cells #[.slice none 0 0,.int .i64 0] 26))
  go_upto_region 7 with(fail)
  clear G j;generalize World.alloc _ _=k at c d|-
  generalize h:wr.heap.size=p at c d|-
  have m:=zh h;clear h;have C:=N6 c.out
  go_wp2_with fail
  refine(zeS _ _ k).mono ?_;rintro e n ⟨rfl,a⟩;have f:=zh (d.out.trans (a.mono (I0 (I7 c.out))));clear C a;have q:=Lib.run_eql_slice_nil (P:=prog) n 22 3 none 0 0 0 0 underlying22
  go_wp2_with fail
  go_ret2;exact⟨rfl,by rw[m.out];exact f.out⟩
theorem zho:R1 prog 59 26 2:=⟨underlying59,by kernel_rfl,by decide⟩
structure PrI(B:Nat)(Ap:Option Addr)(cp:Nat)(l:List Kv)(w:World):Prop where
 yD:w.ownsRow B 26 2 (.slice Ap l.length cp) l.length (l.flatMap Kv.pc)
 jd: ∀b∈l,(∃A c,b.2.1=.slice A b.1.L.length c)/\M3 w b.2.1 (b.1.L.map Cf.pf)/\yx b.1/\b.1.M=L0 b.1.L b.1.main/\b.1.sl=0
section
variable {B:Nat}{Ap:Option Addr}{cp:Nat}{l:List Kv}{w w':World}
theorem PrI.low(h:PrI B Ap cp l w)(a:Below w.heap.size w w'):PrI B Ap cp l w':=⟨K6 h.yD a,λb c=>by
 obtain⟨d,e,f⟩:=h.jd b c;exact⟨d,e.J0 (.of a),f⟩⟩
theorem PrI.prs(h:PrI B Ap cp l w):zao w Ap cp l:=by
 refine⟨(N9 h.yD).1,h.jd,?_⟩
 rcases N8 h.yD with⟨a,b⟩|⟨g,c,e,-,d,f⟩
 ·injection a with i _ j
  exact .inl ⟨List.length_eq_zero_iff.1 b,i,j⟩
 ·injection e with e
  exact .inr ⟨g,e,d,f⟩
theorem zgw{L:List Cf}{main:Nat}{q:Option Addr}{r:Nat}(z:TypeId)(h:PrI B Ap cp l w)(s:B<=w.heap.size)(C:M3 w (.slice q L.length r) (L.map Cf.pf))(D:yx ⟨L,main,L0 L main,0⟩)(K:l.length<=1000):
 ∃g cap w',(Builtin.append_ #[59,59] z #[.slice Ap l.length cp,.slice (some ⟨w.heap.size,0,none⟩) 1 1]).run prog (w.alloc (.cells #[.slice q L.length r,.int .i64 main] 26))=.ok (.slice (some ⟨g,0,none⟩) (l.length+1) cap) w'/\PrI B (some ⟨g,0,none⟩) cap (l++[((⟨L,main,L0 L main,0⟩:Ko),.slice q L.length r,undef)]) w'/\Below B w w'/\ ∀(k:Nat)(a:Array Value)(t:Nat)(d:Nat×Nat),w.heap[k]?=some (.cells a t d)->t≠26->w'.heap[k]?=w.heap[k]?:=by
 have f:=(y7 w.heap.size w).alloc (y6 _) (.cells #[.slice q L.length r,.int .i64 main] 26);have j:=K6 h.yD f;obtain⟨E,m,w3,F,u,n,-⟩:=yN (c:=1) zho z j (y9 w _) rfl (by simp[Value.oneCell']) (by omega) (C4 s f.size);have o: ∀(k:Nat)(a:Array Value)(t:Nat)(d:Nat×Nat),w.heap[k]?=some (.cells a t d)->t≠26->w3.heap[k]?=w.heap[k]?:=λk a t d p v=>by
  have x:=f.block k (I7 p);refine(n.block k (z6 (I7 p) f.size) λe=>?_).trans x;obtain⟨G,i⟩:=zC h.yD e.symm;rw[p]at i;injection i with i
  injection i with _ i
  exact v i
 have A:Y2 w w3:=⟨λg a t d H v=>o g a t d H (by rcases v with rfl|rfl<;>decide)⟩;refine⟨E,m,w3,F,⟨?_,λb I=>?_⟩,L8 (f.mono s) j (y6 _) (C4 s f.size) n,o⟩
 ·rw[z9,List.flatMap_append]
  simpa[Kv.pc]using u
 ·rcases List.mem_append.1 I with y|y
  ·obtain⟨p,x,J⟩:=h.jd b y
   exact⟨p,x.J0 A,J⟩
  ·rw[List.mem_singleton.1 y]
   exact⟨⟨_,_,rfl⟩,C.J0 A,D,rfl,rfl⟩
end
theorem xn.ex{j lv:Nat}{w:World}{rs:List (List Int)}(h:xn j lv (λ_=>True) w rs): ∃ex:List (Nat×Array Value×Nat),(∀x∈ex,w.heap[x.1]?=some (.cells x.2.1 x.2.2 (0,0)))/\(∀x∈ex,x.1=lv\/x.2.2=22)/\ ∀{Z:Nat}{w':World},Hk Z w w'->(∀x∈ex,w'.heap[x.1]?=some (.cells x.2.1 x.2.2 (0,0)))->xn j lv (λ_=>True) w' rs:=by
 obtain⟨A,c,p,m,n,q,s⟩:=h.row
 have d: ∀(ex:List (Nat×Array Value×Nat)),(lv,#[Value.slice A rs.length c],55)∈ex->(∀g b,(Value.slice A rs.length c).ownBlock=some g->w.heap[g]?=some (.cells b 22 (0,0))->(g,b,22)∈ex)-> ∀{Z:Nat}{w':World},Hk Z w w'->(∀x∈ex,w'.heap[x.1]?=some (.cells x.2.1 x.2.2 (0,0)))->xn j lv (λ_=>True) w' rs:=λex t u Z w' y o=>
  ⟨A,c,p,o _ t,M4 n λg b z f=>(o _ (u g b z f)).trans f.symm,q,λi v C=>by
   obtain⟨r,D,E,F⟩:=s i v C;exact⟨r,D,E,y.zhS F⟩⟩
 rcases k:(Value.slice A rs.length c).ownBlock with _|g
 ·exact⟨[(lv,#[.slice A rs.length c],55)],by simpa using m,by simp,d _ (by simp) λg b e=>by rw[k]at e;cases e⟩
 ·obtain⟨b,f⟩:=zC n k
  refine⟨[(lv,#[.slice A rs.length c],55),(g,b,22)],by simpa using⟨m,f⟩,by simp,d _ (by simp) λH G e a=>?_⟩;rw[k]at e;injection e with e
  subst e;rw[f]at a;injection a with a
  injection a with a
  subst a;simp
theorem xn.nil{a lv:Nat}{w:World}(h:w.heap[lv]?=some (.cells #[.slice none 0 0] 55 (0,0))):xn a lv (λ_=>True) w []:=⟨none,0,[],h,G5 _ _ _ _,rfl,λi v b=>by cases b⟩
end Go.Proofs.YtalgmjmibamdfaaGreatDoor
namespace Go.Proofs.YtalgmjmibamdfaaGreatDoor
open Go.RowKit
def opL(ops:Array Oper)(sl:List (Nat×Nat))(a:List Nat)(i:Nat):Bool:=match ops[i]? with
 |some o=>o.guard.isNone&&(match o.op with|.select ..=>false|_=>true)&&decide (o.dst=(sl.find? (λe=>e.1==i)).map (·.2))&&(o.after.toList.all λe=>!Region.binds .any e||decide (e.on<i))&&
  o.op.operands.toList.all λx=>match x with|.tmp t=>(sl.all λe=>!(e.2==t)||(zeF ops i e.1||(a.contains e.1&&zr ops ops.size e.1 i)))|_=>true
 |none=>false
def zfU(ops:Array Oper)(sl:List (Nat×Nat))(a:List Nat):Bool:=
 ((List.range ops.size).all (opL ops sl a))&&decide ((sl.map (·.1)).Nodup)&&decide ((sl.map (·.2)).Nodup)&&sl.all (λe=>decide (e.1<ops.size))
def U9(T:je)(a0:Act)(L:Array Bool)(a:Act):Prop:= ∀e∈T,L.getD e.1 false=false->a.tmps[e.2.1]?=a0.tmps[e.2.1]?
section
variable {D:Type}{P:Program}{ops:Array Oper}{Q:Exit->Act->World->Prop}{a0:Act}{imp:List Nat}{stages:List (List Nat)}{V:Nat->D->je}{W:Nat->D->World}{G:Nat->D->Prop}
theorem zbR{id:Nat}{w:World}(hm:P.follows .mixedOrders=true)(sl:List (Nat×Nat))(C:List Nat)(imp:List Nat)(stages:List (List Nat))(V:Nat->D->je)(W:Nat->D->World)(G:Nat->D->Prop)(lit:List (Nat×Nat))(b3:zfU ops sl C=true)(b4:zcA ops imp stages=lit)
 (hV: ∀j d,(V j d).map (λe=>(e.1,e.2.1))=sl) (hz:(sl.all λe=>decide (e.2<a0.tmps.size))=true) (d0:D) (h0:W 0 d0=w.drew) (hG:G 0 d0) (b5:stages[0]?=some []) (c5:(lit.all λp=>decide (p.2+1<stages.length)||C.all λk=>!zr ops ops.size k p.1)=true) (c6: ∀j d,j+1<stages.length-> ∀e∈V j d,C.contains e.1=true->a0.tmps[e.2.1]?=some e.2.2)
 (c7: ∀p∈lit,∀o,ops[p.1]?=some o-> ∀d,G p.2 d->YQ P ops imp stages V W G a0 p.1 p.2 d o)
 (hQ: ∀j d,G j d->(∀t∈imp,t<ops.size->(stages.getD j []).contains t=true)->Q .normal (J8 (V j d) a0) (W j d)):(Code.region id ops true).wp P Q a0 w:=by
 simp only[zfU,F4,F2]at b3;obtain⟨⟨⟨b6,b7⟩,Y⟩,c8⟩:=b3;have Z: ∀j d,(V j d).map (·.1)=sl.map (·.1):=λj d=>by rw[<-hV j d,List.map_map];rfl
 have E: ∀j d,(V j d).map (·.2.1)=sl.map (·.2):=λj d=>by rw[<-hV j d,List.map_map];rfl
 have a1: ∀j d,∀e∈V j d,(e.1,e.2.1)∈sl:=λj d e m=>by rw[<-hV j d];exact G8 (f:=λe:Nat×Nat×Value=>(e.1,e.2.1)) m
 have a8: ∀j d,∀e∈V j d,e.2.1<a0.tmps.size:=λj d e m=>by simpa using List.all_eq_true.1 hz _ (a1 j d e m)
 have a3: ∀i,i<ops.size->opL ops sl C i=true:=λi hi=>List.all_eq_true.1 b6 i (List.mem_range.2 hi);refine ja hm ops.size rfl (λL a w=> ∃j d,j<stages.length/\G j d/\w=W j d/\(S9 (V j d) a0 L a/\U9 (V j d) a0 L a)/\ ∀t∈imp,t<ops.size->L.getD t false=(stages.getD j []).contains t) ⟨0,d0,(List.getElem?_eq_some_iff.1 b5).1,hG,h0.symm,⟨S9.start _ _ _,λ_ _ _=>rfl⟩,λt _ _=>by rw[W3,List.getD_eq_getElem?_getD,b5];rfl⟩ ?_ ?_ ?_
 ·rintro L a w1 i hL hC ⟨j,d,hj,K,rfl,⟨hS,hU⟩,hI⟩ hi
  have B:i<ops.size:=(zN hi).1;have a2:=xz hi (by rw[hL];exact B);have ho:=a3 i B;obtain⟨o,z⟩: ∃o,ops[i]?=some o:=⟨_,Array.getElem?_eq_getElem B⟩;unfold opL at ho;rw[z]at ho;simp only[F4,F2]at ho;obtain⟨⟨⟨⟨hg,a4⟩,hd⟩,-⟩,b8⟩:=ho;have M:o.guard=none:=by simpa using hg
  have a5: ∀t,L.getD t false=true->zr ops ops.size t i=false:=λt F=>by
   cases hb:zr ops ops.size t i with
   |false=>rfl
   |true=>have:=Z3 hC _ _ _ hb F;rw[a2]at this;cases this
  have c9:okS ops imp (stages.getD j []) i=true:=by
   refine List.all_eq_true.2 λt F=>?_
   by_cases A:t<ops.size
   ·rw[<-hI t F A]
    cases hb:L.getD t false with
    |true=>
     simp only[if_true,F4,Bool.not_eq_true',B0];exact⟨λe=>(by rw[e,a2]at hb;cases hb),a5 t hb⟩
    |false=>
     simp only[C6,if_false,Bool.not_eq_true'];cases r:zr ops ops.size i t with
     |false=>rfl
     |true=>have:=qq hC hi r;rw[hb]at this;cases this
   ·have u:zr ops ops.size i t=false:=by
     cases r:zr ops ops.size i t with
     |false=>rfl
     |true=>
      have:=qq hC hi r;rw[F5,G7 (by rw[hL];omega)]at this;cases this
    have r:zr ops ops.size t i=false:=by
     have:ops[t]?=none:=G7 (by omega);cases hn:ops.size with
     |zero=>rfl
     |succ n=>simp[zr,this]
    have J:t≠i:=by omega
    simp[u,r,J]
  have N:(i,j)∈lit:=by
   rw[<-b4];exact List.mem_flatMap.2 ⟨i,List.mem_range.2 B,List.mem_map.2 ⟨j,List.mem_filter.2 ⟨List.mem_range.2 hj,c9⟩,rfl⟩⟩
  have a9:execOp (Act.eval (J8 (V j d) a0)) o=execOp (Act.eval a) o:=by
   refine execOp_congr o (λcs b e=>by rw[e]at a4;cases a4) λx hx=>?_;have u:=List.all_eq_true.1 b8 x (by simpa using hx);cases x with
   |tmp t=>
    simp only at u;show(J8 (V j d) a0).tmps.getD t undef=a.tmps.getD t undef;rw[F5,F5];have b9:((V j d).map (·.2.1)).Nodup:=by rw[E];exact Y
    by_cases O: ∃e∈V j d,e.2.1=t
    ·obtain⟨e,m,rfl⟩:=O
     have r:=List.all_eq_true.1 u (e.1,e.2.1) (a1 j d e m);simp only[beq_self_eq_true,Bool.not_true,Bool.false_or,Bool.or_eq_true,F4]at r;show(((V j d).foldl (λt e=>t.setIfInBounds e.2.1 e.2.2) a0.tmps)[e.2.1]?).getD undef=_;rw[xV (V j d) _ b9 (a8 j d) e m]
     rcases r with r|⟨r,J⟩
     ·rw[hS.tb e m (ym hi r)]
     ·have h4:L.getD e.1 false=false:=by
       cases hb:L.getD e.1 false with
       |false=>rfl
       |true=>have:=Z3 hC _ _ _ J hb;rw[a2]at this;cases this
      have X:=List.all_eq_true.1 c5 _ N;simp only[Bool.or_eq_true,F2]at X;rw[hU e m h4]
      rcases X with X|X
      ·rw[c6 j d X e m r]
      ·have:=List.all_eq_true.1 X e.1 (by simpa using r)
       rw[J]at this;cases this
    ·have r: ∀e∈V j d,e.2.1≠t:=λe m R=>O ⟨e,m,R⟩
     show(((V j d).foldl (λt e=>t.setIfInBounds e.2.1 e.2.2) a0.tmps)[t]?).getD undef=_;rw[zH (V j d) _ _ r,hS.un t r]
   |_=>rfl
  have b0: ∀g l,((V g l).find? (λe=>e.1==i)).map (·.2.1)=o.dst:=λg l=>by
   rw[hd,<-hV g l,List.find?_map,Option.map_map]
   congr 1
  have S: ∀g l,(∀e∈V j d,e.1≠i->zr ops ops.size e.1 i=false->e∈V g l)-> ∀nx,X9 (V g l) i=nx->match nx with
   |.value v=>(S9 (V g l) a0 (L.setIfInBounds i true) (a.put o.dst v)/\U9 (V g l) a0 (L.setIfInBounds i true) (a.put o.dst v))/\ ∃q,o.dst=some q
   |_=>o.dst=none/\nx=.skip/\S9 (V g l) a0 (L.setIfInBounds i true) a/\U9 (V g l) a0 (L.setIfInBounds i true) a:=λg l hk nx s=>by
   have d1: ∀e∈V g l,L.getD e.1 false=true->e∈V j d:=λe m hl=>by
    have H:e.1≠i:=λR=>by rw[R,a2]at hl;cases hl
    have u:e.1∈(V j d).map (·.1):=by rw[Z,<-Z g l];exact G8 m
    obtain⟨e',d2,ee⟩:=List.mem_map.1 u;have r:=hk e' d2 (by rw[ee];exact H) (by rw[ee];exact a5 _ hl)
    rwa [<-Xk (f:=(·.1)) (by rw[Z];exact b7) e' r e m ee]
   have c0:=hS.change d1 (by rw[E,E]);have c1: ∀x∈V g l,(L.setIfInBounds i true).getD x.1 false=false->x.1≠i/\a.tmps[x.2.1]?=a0.tmps[x.2.1]?:=λx hx T=>by
    have H:x.1≠i:=λR=>by rw[R,M9 (by rw[hL];exact B)]at T;cases T
    rw[I9 H]at T;have u:(x.1,x.2.1)∈(V j d).map (λe=>(e.1,e.2.1)):=by rw[hV j d];exact a1 g l x hx
    obtain⟨y,hy,e⟩:=List.mem_map.1 u;injection e with e1 R
    have:=hU y hy (by rw[e1];exact T);rw[R]at this;exact⟨H,this⟩
   have T:=b0 g l;unfold X9 at s;cases U:(V g l).find? (λe=>e.1==i)with
   |some e=>
    rw[U]at s T;subst s;have m:=List.mem_of_find?_eq_some U;have c2:e.1=i:=by simpa using List.find?_some U
    have:=c0.put (by rw[Z];exact b7) (by rw[E];exact Y) (a8 g l) e m;rw[c2]at this;refine⟨⟨?_,λx hx b1=>?_⟩,e.2.1,T.symm⟩
    ·rw[<-T];exact this
    ·obtain⟨H,d3⟩:=c1 x hx b1
     have c3:e.2.1≠x.2.1:=λh=>H (by rw[<-Xk (f:=λe=>e.2.1) (by rw[E];exact Y) e m x hx h];exact c2);rw[<-T];show(a.tmps.setIfInBounds e.2.1 e.2.2)[x.2.1]?=_;rw[E3 c3];exact d3
   |none=>
    rw[U]at s T;subst s;exact⟨T.symm,rfl,c0.skip i λe m R=>(by have:=List.find?_eq_none.1 U e m;simp[R]at this),λx hx b1=>(c1 x hx b1).2⟩
  have a6: ∀g l,zbW ops imp stages V G i j d g l-> ∀t∈imp,t<ops.size->(L.setIfInBounds i true).getD t false=(stages.getD g []).contains t:=λg l h t F A=>by
   have e:(stages.getD g []).contains t=(i::stages.getD j []).contains t:=by simpa using List.all_eq_true.1 h.done t F
   rw[e]
   by_cases b2:t=i
   ·subst b2;rw[M9 (by rw[hL];exact A)];simp
   ·rw[I9 b2,hI t F A,List.contains_cons];simp[b2]
  cases c7 (i,j) N o z d K with
  |xk c4 c=>
   rw[a9]at c;have u:=S j d (λe m _ _=>m) _ rfl;have r: ∀t∈imp,t<ops.size->(L.setIfInBounds i true).getD t false=(stages.getD j []).contains t:=λt F A=>by
    rw[I9 (λe=>by rw[<-e]at c4;simp[F]at c4)];exact hI t F A
   cases s:X9 (V j d) i with
   |value v=>
    rw[s]at u c;obtain⟨J,q,hq⟩:=u;exact K0 q z M hq c ⟨j,d,hj,K,rfl,by rw[<-hq];exact J,r⟩
   |_=>
    rw[s]at u c;obtain⟨J,h4,X⟩:=u;rw[h4]at c;exact zO z M J c ⟨j,d,hj,K,rfl,X,r⟩
  |qU g l I c=>
   rw[a9]at c;have u:=S g l I.J0 _ rfl;have r:=a6 g l I;cases s:X9 (V g l) i with
   |value v=>
    rw[s]at u c;obtain⟨J,q,hq⟩:=u;exact K0 q z M hq c ⟨g,l,I.lt,I.zcl,rfl,by rw[<-hq];exact J,r⟩
   |_=>
    rw[s]at u c;obtain⟨J,h4,X⟩:=u;rw[h4]at c;exact zO z M J c ⟨g,l,I.lt,I.zcl,rfl,X,r⟩
  |call f args c hc=>
   rw[a9]at c;refine JA f args z M c (hc.mono ?_);rintro e w' ⟨v,g,l,rfl,I,rfl,hv⟩;have u:=S g l I.J0 _ hv;exact⟨g,l,I.lt,I.zcl,rfl,u.1,a6 g l I⟩
 ·refine List.all_eq_true.2 λi hi=>?_
  have ho:=a3 i (List.mem_range.1 hi);unfold opL at ho;cases z:ops[i]? with
  |none=>rfl
  |some o=>
   rw[z]at ho;simp only[F4]at ho;exact ho.1.2
 ·rintro L a w1 a7 ⟨j,d,hj,K,rfl,⟨hS,-⟩,hI⟩
  have I:a=J8 (V j d) a0:=by
   have F:a.tmps=(J8 (V j d) a0).tmps:=by
    apply Array.ext_getElem?;intro k;show _=((V j d).foldl (λt e=>t.setIfInBounds e.2.1 e.2.2) a0.tmps)[k]?
    by_cases O: ∃e∈V j d,e.2.1=k
    ·obtain⟨e,m,rfl⟩:=O
     rw[xV (V j d) _ (by rw[E];exact Y) (a8 j d) e m];exact hS.tb e m (a7 _ (by simpa using List.all_eq_true.1 c8 _ (a1 j d e m)))
    ·have r: ∀e∈V j d,e.2.1≠k:=λe m R=>O ⟨e,m,R⟩
     rw[hS.un k r,zH (V j d) _ _ r]
   have d4:=hS.df;cases a;simp only[J8]at*;subst d4 F;rfl
  rw[I];exact hQ j d K λt F A=>by rw[<-hI t F A];exact a7 t A
end
end Go.Proofs.YtalgmjmibamdfaaGreatDoor
