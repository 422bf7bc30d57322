/- Merged. -/
import Derived.Test.YtmngofgminlloaaGreatDoorCT22
set_option linter.all false
set_option maxHeartbeats 16000000
set_option maxRecDepth 100000
namespace Go.Proofs.YtmngofgminlloaaGreatDoor
open Go.Proofs.Tryz
open Go.RowKit Tw
def Sc.ziz{w0 u w}{sb p:Nat}{t}{n0 c0 i:Nat}{x}{cn:Nat}{y}{m low:Nat}(h:Sc w0 u w sb p t n0 c0 i x cn y m low){W:World}{e:Option Addr}{f:Nat}{c:List ByteArray}{b low':Nat}
 (z:W.heap[sb]?=some (.cells #[.pointer (some ⟨p,0,none⟩),.slice e c.length f,.int .i64 b,.int .i64 low'] 144 (0,0)))
 (d: ∀k,k<sb->W.heap[k]?=w.heap[k]?) (l:w.heap.size<=W.heap.size) (r:W.os=w.os) (A:W.tape=w.tape) (B:W.output=w.output)
 (C:O8 S1 W (sb+1) 9 1 (.slice e c.length f) c) (D:Qp c) (E:c.length<=100) (F:b<=1000000) (n:low'<=2):Sc w0 W W sb p t n0 c0 i e f c b low':=by
 have G:=h.q;have H:=h.s;have N:=h.b0;exact⟨z,(d p (by omega)).trans h.zdj,λj I=>by
  obtain⟨g,o,v,J,K,L⟩:=h.XN j I;exact⟨g,o,v,J,K,(E8 (a:=⟨g,o+j,none⟩) (d g (by omega))).trans L⟩,C,D,E,h.i0,h.n60,F,n,h.b0,G,A7 H l,h.gl.Z3 l (λg O=>d g (by omega)),
  ⟨r.trans h.M1.os,A.trans h.M1.tape,B.trans h.M1.output,C1 h.M1.size l,λk M=>(d k (by omega)).trans (h.M1.block k M)⟩,I7 (x8 _ _) _⟩
def Sc.zdl{w0 j w}{sb c:Nat}{d}{n0 c0 i:Nat}{f}{cn:Nat}{g}{a low:Nat}(h:Sc w0 j w sb c d n0 c0 i f cn g a low)(l:a+1<=1000000):Sc w0 (w.setCell ⟨sb,2,none⟩ (.int .i64 ((a:Int)+1))) (w.setCell ⟨sb,2,none⟩ (.int .i64 ((a:Int)+1))) sb c d n0 c0 i f cn g (a+1) low:=by
 have b:=I8 w sb 2 (.int .i64 ((a:Int)+1));refine h.ziz (by simpa using A6 w sb 2 _ _ (.int .i64 ((a:Int)+1)) h.JI) (λk m=>b.block k (by have:=h.s;omega) (by simp;omega)) b.size b.os b.tape b.output (h.row.kept b (λk e=>.inl (by cases e;omega))) h.sz h.nl l h.l1
def O8.take{E:XG ByteArray}{w}{base T:Nat}{A}{c:Nat}{l:List ByteArray}(o: ∀a,(E.cells a).length=1)(h:O8 E w base T 1 (.slice A l.length c) l){n:Nat}(B:n<=l.length):O8 E w base T 1 (.slice A (l.take n).length c) (l.take n):=by
 have b:(l.take n).length=n:=by simp;omega
 have d: ∀l:List ByteArray,(l.flatMap E.cells).length=l.length:=by
  intro l;induction l with
  |nil=>rfl
  |cons a l f=>simp[f,o];omega
 have i: ∀(l:List ByteArray)(n:Nat),(l.take n).flatMap E.cells=(l.flatMap E.cells).take n:=by
  intro l;induction l with
  |nil=>intro n;simp
  |cons a l f=>
   intro n;cases n with
   |zero=>simp
   |succ n=>
    obtain⟨x,q⟩: ∃x,E.cells a=[x]:=List.length_eq_one_iff.1 (o a);simp[f,q]
 refine⟨⟨by simp[d],?_⟩,λa r=>by cases A<;>exact h.2 a (List.mem_of_mem_take r)⟩;rw[b]
 rcases h.1.2 with⟨e,p⟩|⟨g,s,j,e,t,u,C,v,y,z⟩
 ·injection e with k p m
  subst k m;have:n=0:=by omega
  subst this;exact .inl ⟨rfl,rfl⟩
 ·injection e with k p m
  subst k m;refine .inr ⟨g,c,j,rfl,t,u,by omega,v,y,?_⟩;rw[i,<-z,List.take_take]
  congr 1
  omega
def Sc.zp1{w0 o w}{sb g:Nat}{j}{n0 c0 i:Nat}{c}{cn:Nat}{f}{b low:Nat}(h:Sc w0 o w sb g j n0 c0 i c cn f b low)(n:Nat)(l)(p:f.take n=l)(q:n<=f.length):Sc w0 (w.setCell ⟨sb,1,none⟩ (.slice c n cn)) (w.setCell ⟨sb,1,none⟩ (.slice c n cn)) sb g j n0 c0 i c cn l b low:=by
 have d:=I8 w sb 1 (.slice c n cn);subst p;have a:(f.take n).length=n:=by simp;omega
 have m:=(h.row.take (λ_=>rfl) q).kept d (λk e=>.inl (by cases e;omega));rw[a]at m;refine h.ziz (by rw[a];simpa using A6 w sb 1 _ _ (.slice c n cn) h.JI) (λk t=>d.block k (by have:=h.s;omega) (by simp;omega)) d.size d.os d.tape d.output (by rw[a];exact m) (λs r=>h.sz s (List.mem_of_mem_take r)) (by have:=h.nl;omega) h.m1 h.l1
def Sc.qv{w0 A w}{sb y:Nat}{z}{n0 c0 i:Nat}{q}{cn:Nat}{c}{j low:Nat}(h:Sc w0 A w sb y z n0 c0 i q cn c j low){u f}{g cap:Nat}{s:ByteArray}(m:Below w.heap.size w u)(own:f.ownsRow (sb+1) 9 1 (.slice (some ⟨g,0,none⟩) (c.length+1) cap) (c.length+1) (c.flatMap S1.cells++[.string s]))
 (n:u.grownBy f (Value.slice q c.length cn).ownBlock) (v:(Value.slice q c.length cn).ownBlock=some g\/g=u.heap.size) (hs:s.size<=22) (B:c.length+1<=100):
 Sc w0 (f.setCell ⟨sb,1,none⟩ (.slice (some ⟨g,0,none⟩) (c.length+1) cap)) (f.setCell ⟨sb,1,none⟩ (.slice (some ⟨g,0,none⟩) (c.length+1) cap)) sb y z n0 c0 i (some ⟨g,0,none⟩) cap (c++[s]) j low:=by
 have C:=h.s;have l:=h.row.below m;have o: ∀k,(Value.slice q c.length cn).ownBlock=some k->sb<k:=λk e=>by have:=(l.1.lt k e).1;omega
 have p: ∀k,k<=sb->f.heap[k]?=w.heap[k]?:=λk D=>(n.block k (by have:=m.size;omega) (λe=>by have:=o k e.symm;omega)).trans (m.block k (by omega))
 have b:=I8 f sb 1 (.slice (some ⟨g,0,none⟩) (c.length+1) cap);have d:(c++[s]).length=c.length+1:=by simp
 have E:O8 S1 f (sb+1) 9 1 (.slice (some ⟨g,0,none⟩) (c.length+1) cap) (c++[s]):=
  l.qv (a:=s) (F:=λ_=>False) trivial (λ_ h=>h.elim) (by simpa[S1]using own) n v
 have x:w.heap.size<=f.heap.size:=C1 m.size n.size
 refine h.ziz (by rw[d];simpa using A6 f sb 1 _ _ (.slice (some ⟨g,0,none⟩) (c.length+1) cap) ((p sb (x7 _)).trans h.JI)) (λk D=>(b.block k (by omega) (by simp;omega)).trans (p k (by omega))) (C1 x b.size)
  (b.os.trans (n.os.trans m.os)) (b.tape.trans (n.tape.trans m.tape)) (b.output.trans (n.output.trans m.output)) (by rw[d];exact E.kept b (λk e=>.inl (by cases e;omega))) (λt G=>by
   rcases List.mem_append.1 G with r|r
   ·exact h.sz t r
   ·simp at r;subst r;exact hs) (by rw[d];exact B) h.m1 h.l1
def Sc.frz{w0 b w}{sb c:Nat}{d}{n0 c0 i:Nat}{e}{cn:Nat}{f}{a low:Nat}(h:Sc w0 b w sb c d n0 c0 i e cn f a low):w.frozen? ⟨sb,1,none⟩=false/\w.frozen? ⟨sb,2,none⟩=false:=⟨B4 h.JI 1,B4 h.JI 2⟩
def zhk:qC prog 28 9 1:=⟨underlying28,by kernel_rfl,by decide⟩
def zbw(w0:World)(sb k:Nat)(l:Option Addr)(n0 c0:Nat)(h:List ByteArray)(a low d i:Nat)(e:Ending)(w':World):Prop:=
 ∃(t:ByteArray)(b:List ByteArray)(c j:Nat)(f:Option Addr)(g:Nat),e=.returned (.string t)/\t.size<=1295000/\c<=a+mkS d/\b.length<=h.length+1/\Hid (qz n0 low d ⟨h,a,i⟩ t ⟨b,c,j⟩)/\Sc w0 w' w' sb k l n0 c0 j f g b c low
def Yu(d:Nat):Prop:=
 ∀{w0 j w:World}{sb e:Nat}{f:Option Addr}{g h i:Nat}{k:Option Addr}{l:Nat}{c:List ByteArray}{a b:Nat},Sc w0 j w sb e f g h i k l c a b->a+mkS d<=900000->c.length+1+3*d<=90->Calls prog 120 #[.pointer (some ⟨sb,0,none⟩),.int .i64 d] w (zbw w0 sb e f g h c a b d i)
def zhE{w0 m w'}{sb j:Nat}{k}{n0 c0 i:Nat}{f}{a low:Nat}{d g h:Nat}{t:ByteArray}{b c}{e:Nat}(n:d<=3)(o:low<=2)(p:Qp f)(v:a+mkS d<=900000)(l:qz n0 low d ⟨f,a,i⟩ t ⟨b,h,g⟩)(q:Sc w0 m w' sb j k n0 c0 g c e b h low):
 zbw w0 sb j k n0 c0 f a low d i (.returned (.string t)) w':=by
 obtain⟨w,r,s,x,u⟩:=l.bd n o p (by simp only;omega);exact⟨t,b,h,g,c,e,rfl,s,r,u,qh l,q.Z8⟩
def Qf(w0:World)(sb j:Nat)(k:Option Addr)(n0 c0:Nat)(b:List ByteArray)(a low d i:Nat)(e:Ending)(w':World):Prop:=
 ∃(t:ByteArray)(c h:Nat)(f:Option Addr)(g:Nat),e=.returned (.string t)/\t.size<=3885000/\c<=a+Xo d/\Hid (zbW n0 low d ⟨b,a,i⟩ t ⟨b,c,h⟩)/\Sc w0 w' w' sb j k n0 c0 h f g b c low
def XT(d:Nat):Prop:=
 ∀{w0 j w:World}{sb e:Nat}{f:Option Addr}{g h i:Nat}{k:Option Addr}{l:Nat}{c:List ByteArray}{a b:Nat},Sc w0 j w sb e f g h i k l c a b->a+Xo d<=900000->c.length+3*(d+1)<=90->Calls prog 71 #[.pointer (some ⟨sb,0,none⟩),.int .i64 d] w (Qf w0 sb e f g h c a b d i)
def zpd{a:Nat}(h:a<=22): ¬9223372036854775807<a+3:=by omega
def zpc{a b:Nat}(h:a<=22)(c:b<=6000): ¬9223372036854775807<a+3+b/\ ¬9223372036854775807<a+3+b+2:=by omega
def zda: ∀d:Nat,d<=2->zg5 d
 |0,_=>za9 0 (by decide) (by omega)
 |d+1,h=>za9 (d+1) h (λ_=>zda d (by omega))
def zgy{d:Nat}(h:1<=d):mkS d=1+2*Xo (d-1):=by
 obtain⟨d,rfl⟩: ∃e,d=e+1:=⟨d-1,by omega⟩;rfl
def zhN{w0 l w}{sb m:Nat}{n}{n0 c0 i:Nat}{d}{cn:Nat}{f}{b low:Nat}{g o}(h:Sc w0 l w sb m n n0 c0 i d cn f b low)(p:(w.alloc o).grownBy g (Value.slice d f.length cn).ownBlock):g.cell? ⟨sb,1,none⟩=some (.slice d f.length cn)/\g.frozen? ⟨sb,1,none⟩=false:=by
 have q:=h.s;have c: ∀k,(Value.slice d f.length cn).ownBlock=some k->sb<k:=λk e=>by have:=(h.row.1.lt k e).1;omega
 have j:g.heap[sb]?=w.heap[sb]?:=(p.block sb (by simp;omega) (λe=>by have:=c sb e.symm;omega)).trans (C4 w _ q);exact⟨(E8 (a:=⟨sb,1,none⟩) j).trans h.c0.2.1,(World.frozen?_of_block (a:=⟨sb,1,none⟩) j).trans h.frz.1⟩
def zhC(v:ByteArray)(x:Int){w0 w}{sb g:Nat}{j}{n0 c0:Nat}{k}{a low d i:Nat}(h:Calls prog 71 #[.pointer (some ⟨sb,0,none⟩),.int .i64 x] w (Qf w0 sb g j n0 c0 k a low d i)):Calls prog 170 #[.pointer (some ⟨sb,0,none⟩),.string v,.int .i64 x] w (Qf w0 sb g j n0 c0 k a low d i):=by
 have H:=qh h;clear h
 go_enter func170,ntmps170
 go_wp2_with fail
 refine H.out.mono ?_;rintro e r ⟨t,o,p,b,c,rfl,q,l,m,n⟩;have f:=qh (And.intro l (And.intro m n));clear l m n
 go_wp2_with fail
 go_ret;exact⟨t,o,p,b,c,rfl,q,f.out.1,f.out.2.1,f.out.2.2⟩
def zaQ(d:Nat)(hd:d<=3)(ih:1<=d->XT (d-1)):Yu d:=by
 intro w0 I w sb F G u H i J K q j p h hm b1;have IH:1<=d-> ∀{w0 I w:World}{sb F:Nat}{G:Option Addr}{u H i:Nat}{J:Option Addr}{K:Nat}{q:List ByteArray}{j p:Nat},Sc w0 I w sb F G u H i J K q j p->j+Xo (d-1)<=900000->q.length+3*d<=90->Calls prog 71 #[.pointer (some ⟨sb,0,none⟩),.int .i64 ((d:Int)-1)] w (Qf w0 sb F G u H q j p (d-1) i):=by
  intro h1 w0 I w sb F G u H i J K q j p h h2 h3;have:=ih h1 h h2 (by omega);rw[show((d-1:Nat):Int)=(d:Int)-1 by omega]at this;exact this
 have a7:=qh IH;have l:=qh h;have HN:Hid (∀{w0 I w:World}{sb F:Nat}{G:Option Addr}{u H i:Nat}{J:Option Addr}{K:Nat}{q:List ByteArray}{j p:Nat},Sc w0 I w sb F G u H i J K q j p->Calls prog 72 #[.pointer (some ⟨sb,0,none⟩),.int .i64 2] w (zdR w0 I sb F G u H J K q j p 2 i)):=qh (Jm 2 (by decide));have d3:Hid (∀{w0 I w:World}{sb F:Nat}{G:Option Addr}{u H i:Nat}{J:Option Addr}{K:Nat}{q:List ByteArray}{j p:Nat},Sc w0 I w sb F G u H i J K q j p->Calls prog 72 #[.pointer (some ⟨sb,0,none⟩),.int .i64 1] w (zdR w0 I sb F G u H J K q j p 1 i)):=qh (Jm 1 (by decide));have d4:Hid (∀{w0 I w:World}{sb F:Nat}{G:Option Addr}{u H i:Nat}{J:Option Addr}{K:Nat}{q:List ByteArray}{j p:Nat},Sc w0 I w sb F G u H i J K q j p->Calls prog 169 #[.pointer (some ⟨sb,0,none⟩),.int .i64 2] w (zeE w0 I sb F G u H J K q j p 2 i)):=qh (zda 2 (by decide));have HR:Hid (∀{d5 w':World}{i' m':Nat}{t:ByteArray}{b2:List ByteArray}{d6:Option Addr}{d7:Nat},qz u p d ⟨q,j,i⟩ t ⟨b2,m',i'⟩->Sc w0 d5 w' sb F G u H i' d6 d7 b2 m' p->zbw w0 sb F G u H q j p d i (.returned (.string t)) w'):=qh (λhA m=>zhE hd m.l1 h.sz hm hA m);clear IH ih;obtain⟨n,z,r,A⟩:=h.c0;have g3:=h.l1;have HM:=qh hm;have HL:=qh b1;clear h hm b1
 go_enter func120,ntmps120
 go_wp2_with fail
 refine(n_c 8 (by decide) (by decide) l.out).mono ?_;rintro e w1 ⟨k,i1,rfl,g4,T,m⟩;replace T:=qh T;replace l:=qh m;clear m n z r A;obtain⟨n,z,r,A⟩:=l.out.c0
 by_cases hv:k=0/\0<q.length
 ·obtain⟨rfl,hn⟩:=hv
  obtain⟨g,rfl⟩:=l.out.arr hn;have g5:(0:Int)<(q.length:Int):=by omega
  have g6:=l.out.nl;have e4:(1:Int)<=(q.length:Int):=by omega
  have e5:(q.length:Int)<=4000000000:=by omega
  have e6:=qh l.out.sz
  go_upto_region 3 with(fail)
  have e7:=l.out.dr
  go_region_law(first|(go_simp;first
   |(go_at_call 69;refine(n_c _ e4 e5 e7).mono ?_;rintro e w8 ⟨k2,i2,rfl,b3,a8,U⟩;obtain⟨s8,V⟩:=ze1 q k2 b3;have d8:=U.J2 k2 s8 V;have e8:=qh U;have b4:=qh V;replace a8:=qh a8;obtain⟨e0,e1,e2,e3⟩:=U.c0;have g7:=nn k2;have z8:=e6.out s8 (B7 V);have f8:=zpd z8;clear V U)
   |(go_at_call 72;refine(HN.out e8.out).mono ?_;rintro e w9 ⟨s9,i9,rfl,e9,f0,X⟩;have d9:=X.J2 k2 s8 b4.out;obtain⟨y0,y1,y2,y3⟩:=X.c0;have b5:=qh X;have f9:=zpc z8 e9;clear X)))
  all_goals
   go_wp2_with fail
   go_ret;exact HR.out (.set T.out a8.out b4.out f0.out) (by first|exact b5.out|exact b5.out.dr)
 by_cases hk:k=1
 ·subst hk
  clear hv
  go_wp2_with fail
  refine(HN.out l.out).mono ?_;rintro e Y ⟨s2,i2,rfl,B,o,m⟩;replace l:=qh m;clear m
  go_wp2_with fail
  go_ret;exact HR.out (.Q8 T.out (by decide) o.out) l.out
 have HV:=qh hv;clear hv
 by_cases L:k=2/\1<=d
 ·obtain⟨rfl,C⟩:=L
  clear hk HV;have b6:(1:Int)<=(d:Int):=by omega
  have b7:(0:Int)<(d:Int):=by omega
  have b8:=zgy C;have Z:=qh b8;clear b8
  go_wp2_with fail
  refine(d4.out l.out).mono ?_;rintro e Y ⟨s2,i2,rfl,B,o,m⟩;replace l:=qh m;clear m
  go_wp2_with fail
  refine(a7.out C l.out (by have:=HM.out;have:=Z.out;omega) (by have:=HL.out;omega)).mono ?_;rintro e w3 ⟨s3,m3,i3,g8,g9,rfl,b9,c4,c5,m⟩;replace l:=qh m;clear m;have f1:=qh c4;clear c4
  go_wp2_with fail
  refine(a7.out C l.out (by have:=HM.out;have:=Z.out;have:=f1.out;omega) (by have:=HL.out;omega)).mono ?_;rintro e w4 ⟨s4,m4,i4,h0,h4,rfl,a5,f2,c6,m⟩;replace l:=qh m;clear m f2
  go_wp2_with fail
  go_ret;exact HR.out (.xl T.out (by decide) C o.out c5.out c6.out) l.out
 by_cases a0:k=3/\1<=d
 ·obtain⟨rfl,C⟩:=a0
  clear hk HV L;have b6:(1:Int)<=(d:Int):=by omega
  have b7:(0:Int)<(d:Int):=by omega
  have Z:=qh (zgy C);have c7:j<=900000:=by have:=HM.out;omega
  have a6:(j:Int)<=900000:=by omega
  obtain⟨q1,q2⟩:=l.out.frz
  go_upto_region 10 with(fail)
  replace l:=qh (l.out.zdl (by omega));clear n z r A q1 q2;generalize w1.setCell _ _=Y at l|-;obtain⟨n,z,r,A⟩:=l.out.c0;have M:Y.cell? ⟨sb,2,none⟩=some (.int .i64 ((j:Int)+1)):=r;clear r
  go_wp2_with fail
  refine(yb (j+1) (by omega) l.out).mono ?_;rintro e w3 ⟨s3,rfl,c8,b9,m⟩;replace l:=qh m;clear m n z M A;obtain⟨n,z,r,A⟩:=l.out.c0
  go_upto_region 11 with(fail)
  obtain⟨v3,a1⟩: ∃v:ByteArray,(⟨#[105]⟩:ByteArray)++s3=v:=⟨_,rfl⟩;have a2:v3.size<=22:=by rw[<-a1];simp only[C3,S6,D9,A8,B1];omega
  have f3:Hid (v3=iT (j+1)):=qh (by rw[<-a1,c8.out];rfl);simp only[a1];clear a1
  go_wp2_with fail
  refine(n_c 4 (by decide) (by decide) l.out).mono ?_;rintro e w4 ⟨k4,i4,rfl,a3,a9,m⟩;replace l:=qh m;replace a9:=qh a9;clear m
  go_wp2_with fail
  refine(yb k4 (by omega) l.out).mono ?_;rintro e w5 ⟨s5,rfl,c9,g1,m⟩;replace l:=qh m;clear m
  go_wp2_with fail
  refine(zhC v3 ((d:Int)-1) (a7.out C l.out (by have:=HM.out;have:=Z.out;omega) (by have:=HL.out;omega))).mono ?_;rintro e w6 ⟨s6,m6,i6,h7,h8,rfl,g2,f4,d0,m⟩;replace l:=qh m;clear m f4
  go_wp2_with fail
  go_ret;exact HR.out (.X2 T.out (by decide) C a9.out f3.out c9.out d0.out) l.out
 by_cases a3:k=4
 ·subst a3
  clear hk HV L a0
  go_wp2_with fail
  refine(HN.out l.out).mono ?_;rintro e Y ⟨s2,i2,rfl,B,o,m⟩;replace l:=qh m;clear m
  go_wp2_with fail
  go_ret;exact HR.out (.run T.out (by decide) o.out) l.out
 by_cases d1:k=5
 ·subst d1
  clear hk HV L a0 a3
  go_wp2_with fail
  refine(n_c 8 (by decide) (by decide) l.out).mono ?_;rintro e w9 ⟨k9,i9,rfl,i0,a4,m⟩;replace l:=qh m;replace a4:=qh a4;clear m n z r A
  by_cases h9:k9=0
  ·subst h9
   go_wp2_with fail
   refine(d3.out l.out).mono ?_;rintro e Y ⟨s2,i2,rfl,B,o,m⟩;replace l:=qh m;clear m
   go_wp2_with fail
   go_ret;exact HR.out (.qi T.out (by decide) a4.out o.out) l.out
  have i5:((k9:Int)==0)=false:=beq_eq_false_iff_ne.2 (by omega)
  skip
  ·skip
   replace l:=qh l.out.Z8;have c7:j<=900000:=by have:=HM.out;omega
   have a6:(j:Int)<=900000:=by omega
   go_wp2_with fail
   refine(HN.out l.out).mono ?_;rintro e Y ⟨s2,i2,rfl,B,o,m⟩;replace l:=qh m;clear m;obtain⟨n,z,r,A⟩:=l.out.c0;obtain⟨q1,q2⟩:=l.out.frz
   go_upto_region 18 with(fail)
   replace l:=qh (l.out.zdl (by omega));clear n z r A q1 q2;generalize Y.setCell _ _=w3 at l|-;obtain⟨n,z,r,A⟩:=l.out.c0;have M:w3.cell? ⟨sb,2,none⟩=some (.int .i64 ((j:Int)+1)):=r;clear r
   go_wp2_with fail
   refine(yb (j+1) (by omega) l.out).mono ?_;rintro e w4 ⟨s4,rfl,N,a5,m⟩;replace l:=qh m;clear m n z M A;obtain⟨n,z,r,A⟩:=l.out.c0
   go_upto_region 19 with(fail)
   obtain⟨O,x⟩: ∃v:ByteArray,(⟨#[118]⟩:ByteArray)++s4=v:=⟨_,rfl⟩;have a2:O.size<=22:=by rw[<-x];simp only[C3,S6,D9,A8,B1];omega
   have b0:Hid (O=vT (j+1)):=qh (by rw[<-x,N.out];rfl);simp only[x];clear x;have f5:=l.out.s;have P:=qh (l.out.row.below ((x8 _ _).alloc (x7 _) (.cells #[.string O] 9)));have Q:Hid (q.length+1<=100):=qh (by have:=HL.out;omega);have D:=A5 w4 (.cells #[.string O] 9);have HB:=qh D;clear D;obtain⟨q1,q2⟩:=l.out.frz
   go_wp2_with(at_builtin;go_must(refine N0 zhk rfl _ _ rfl (sb+1) _ q.length (q.flatMap S1.cells) rfl P.out.1 w4.heap.size 1 #[.string O] rfl HB.out rfl (by simp[Value.oneCell']) (by have:=Q.out;omega) (by simp;omega) ?_);intro g f6 w5 E R S f7;have y:=qh (And.intro E (And.intro R S));have qs:=zhN l.out y.out.2.1;clear E R S)
   go_ret;exact HR.out (.bind (T.out.mv2 a4.out) o.out b0.out) (l.out.qv ((x8 _ _).alloc (x7 _) _) y.out.1 y.out.2.1 y.out.2.2 a2 Q.out)
 have hq:(k=0/\q.length=0)\/(k=2/\d=0)\/(k=3/\d=0)\/(((k:Int)==0)=false/\((k:Int)==1)=false/\((k:Int)==2)=false/\((k:Int)==3)=false/\((k:Int)==4)=false/\((k:Int)==5)=false):=by
  have hv:=HV.out
  by_cases h6:k<6
  ·omega
  ·refine .inr (.inr (.inr ⟨?_,?_,?_,?_,?_,?_⟩))<;>exact beq_eq_false_iff_ne.2 (by omega)
 clear hk HV L a0 a3 d1;have HQ:Hid (i<i1/\i1<=u\/i=u/\i1=u):=qh T.out.mv;have d2:(k=0/\q.length=0)\/(k=2/\d=0)\/(k=3/\d=0)\/5<k:=by
  rcases hq with h|h|h|h
  ·exact .inl h
  ·exact .inr (.inl h)
  ·exact .inr (.inr (.inl h))
  ·have:=h.1
   obtain⟨a,b,c,d,e,f⟩:=h;rw[B0]at a b c d e f;omega
 have g0:=qh d2;clear d2 hq
 go_upto_block 0 with(fail)
 go_cut[] (λW=>W=w1)
 case first=>
  rcases g0.out with⟨rfl,hn⟩|⟨rfl,rfl⟩|⟨rfl,rfl⟩|h5
  ·have i7:(q.length:Int)<=0:=by omega
   go_wp2_with fail
   go_meet
   case rel=>rfl
  ·go_wp2_with fail
   go_meet
   case rel=>rfl
  ·go_wp2_with fail
   go_meet
   case rel=>rfl
  ·have i8:(5:Int)<(k:Int):=by omega
   go_wp2_with fail
   go_meet
   case rel=>rfl
 case rest=>
  subst hcut
  skip
  ·skip
   replace l:=qh l.out.Z8;have c7:j<=900000:=by have:=HM.out;omega
   have a6:(j:Int)<=900000:=by omega
   go_wp2_with fail
   refine(HN.out l.out).mono ?_;rintro e Y ⟨s2,i2,rfl,B,o,m⟩;replace l:=qh m;clear m;obtain⟨n,z,r,A⟩:=l.out.c0;obtain⟨q1,q2⟩:=l.out.frz
   go_upto_region 18 with(fail)
   replace l:=qh (l.out.zdl (by omega));clear n z r A q1 q2;generalize Y.setCell _ _=w3 at l|-;obtain⟨n,z,r,A⟩:=l.out.c0;have M:w3.cell? ⟨sb,2,none⟩=some (.int .i64 ((j:Int)+1)):=r;clear r
   go_wp2_with fail
   refine(yb (j+1) (by omega) l.out).mono ?_;rintro e w4 ⟨s4,rfl,N,a5,m⟩;replace l:=qh m;clear m n z M A;obtain⟨n,z,r,A⟩:=l.out.c0
   go_upto_region 19 with(fail)
   obtain⟨O,x⟩: ∃v:ByteArray,(⟨#[118]⟩:ByteArray)++s4=v:=⟨_,rfl⟩;have a2:O.size<=22:=by rw[<-x];simp only[C3,S6,D9,A8,B1];omega
   have b0:Hid (O=vT (j+1)):=qh (by rw[<-x,N.out];rfl);simp only[x];clear x;have f5:=l.out.s;have P:=qh (l.out.row.below ((x8 _ _).alloc (x7 _) (.cells #[.string O] 9)));have Q:Hid (q.length+1<=100):=qh (by have:=HL.out;omega);have D:=A5 w4 (.cells #[.string O] 9);have HB:=qh D;clear D;obtain⟨q1,q2⟩:=l.out.frz
   go_wp2_with(at_builtin;go_must(refine N0 zhk rfl _ _ rfl (sb+1) _ q.length (q.flatMap S1.cells) rfl P.out.1 w4.heap.size 1 #[.string O] rfl HB.out rfl (by simp[Value.oneCell']) (by have:=Q.out;omega) (by simp;omega) ?_);intro g f6 w5 E R S f7;have y:=qh (And.intro E (And.intro R S));have qs:=zhN l.out y.out.2.1;clear E R S)
   go_ret;exact HR.out (.bind HQ.out o.out b0.out) (l.out.qv ((x8 _ _).alloc (x7 _) _) y.out.1 y.out.2.1 y.out.2.2 a2 Q.out)
def O8.cap{E w}{base T a:Nat}{A}{c:Nat}{l:List ByteArray}(h:O8 E w base T a (.slice A l.length c) l):(l.length:Int)<=(c:Int):=by
 rcases h.1.2 with⟨e,b⟩|⟨g,d,f,e,i,j,k,m,n,o⟩
 ·omega
 ·injection e with p b q
  omega
def zfh(w0:World)(sb h:Nat)(i:Option Addr)(n0 c0:Nat)(j:List ByteArray)(a low d k l:Nat)(t:ByteArray)(W:World):Prop:=
 ∃(b:List ByteArray)(f g:Nat)(c:Option Addr)(e:Nat),Yk n0 low d l ⟨j,a,k⟩ t ⟨b,f,g⟩/\Sc w0 W W sb h i n0 c0 g c e b f low
def zfh.bd{w0}{sb e:Nat}{f}{n0 c0:Nat}{b}{a low d g c:Nat}{t:ByteArray}{W}(h:zfh w0 sb e f n0 c0 b a low d g c t W)(i:c<=3)(j:d<=3)(k:Qp b)(q:a+Xo d<=900000):t.size<=3885000:=by
 obtain⟨l,r,s,m,n,o,p⟩:=h;exact(o.bd i j p.l1 k (by simp only;omega)).2.2.1
def Yl(d:Nat)(x:d<=3)(y:Yu d):XT d:=by
 intro w0 wv w sb z A B C i N O ns a k h hm m;have P:Hid (∀{w0 wv w:World}{sb z:Nat}{A:Option Addr}{B C i:Nat}{N:Option Addr}{O:Nat}{ns:List ByteArray}{a k:Nat},Sc w0 wv w sb z A B C i N O ns a k->a+mkS d<=900000->ns.length+1+3*d<=90->Calls prog 120 #[.pointer (some ⟨sb,0,none⟩),.int .i64 d] w (zbw w0 sb z A B C ns a k d i)):=qh y;have D:=qh h;obtain⟨Q,c1,c2,c3⟩:=h.c0;have R:=h.l1;have n:=qh h.sz;have v:=qh hm;have HL:=qh m;clear h hm m y
 go_enter func71,ntmps71
 go_wp2_with fail
 refine(n_c 4 (by decide) (by decide) D.out).mono ?_;rintro e w1 ⟨j,S,rfl,a8,T,f⟩;replace T:=qh T;replace D:=qh f.Z8;clear f Q c1 c2 c3
 go_wp2_with fail
 go_loopw[6,17] (λo c wr=> ∃(g:Nat)(t:ByteArray),o=.string t/\c=.int .i64 g/\g<=j/\Hid (zfh w0 sb z A B C ns a k d S g t wr))
  (λ_ c _=>(4-intOf c).toNat)
 case atStart=>exact⟨0,⟨#[]⟩,rfl,rfl,D0 _,qh ⟨ns,a,S,N,O,.nil _,D.out⟩⟩
 case round=>
  obtain⟨g,t,rfl,rfl,a9,b⟩:=hrel
  by_cases U:g<j
  ·have a6:(g:Int)<(j:Int):=by omega
   have V:=b.out.bd (by omega) x n.out v.out;obtain⟨p,m',i',E,F,q,f⟩:=b.out;have W:=qh q;obtain⟨X,K,Y,Z,L,M⟩:=q.bd (show g<=3 by omega) x f.l1 n.out (by have:=v.out;simp only;omega);have HB:=qh (And.intro K (And.intro L M));have G:=qh f;clear q f X K Y Z L M b D
   go_wp2_with fail
   refine(P.out G.out (by
    have h1:=HB.out.1;have h2:=v.out;have h3:=zor d;have h4:g*mkS d<=2*mkS d:=G5 _ (by omega);omega) (by have:=HB.out.2.1;have:=HL.out;omega)).mono ?_
   rintro e w2 ⟨u,a0,m2,i2,a1,a2,rfl,b0,a3,a4,a5,f⟩;have r:=qh f;clear f a3 a4 G;have b:Hid (zfh w0 sb z A B C ns a k d S (g+1) (t++u) w2):=qh ⟨a0,m2,i2,a1,a2,W.out.xn a5.out,r.out⟩
   go_wp2_with fail
   go_roundw
   case rel=>exact⟨g+1,t++u,rfl,by go_num,U,b⟩
   case measure=>simp[intOf];omega
  ·obtain rfl:g=j:=by omega
   obtain⟨p,m',i',E,F,q,f⟩:=b.out;have V:=b.out.bd (by omega) x n.out v.out;obtain⟨X,K,Y,Z,L,M⟩:=q.bd (show g<=3 by omega) x f.l1 n.out (by have:=v.out;simp only;omega);obtain⟨l,H⟩:=M;have m:ns.length<=p.length:=by simp only at H;rw[H];simp
   have I:p.take ns.length=ns:=by simp only at H;rw[H];simp
   have W:=qh q;have r:=qh (f.zp1 ns.length ns I m);obtain⟨d0,d1,d2,d3⟩:=f.c0;obtain⟨q1,q2⟩:=f.frz;have k0:(ns.length:Int)<=(p.length:Int):=by omega
   have k1:(0:Int)<=(ns.length:Int):=by omega
   have a7:=f.row.cap;clear q f X K Y Z L H I b D m
   go_wp2_with fail
   go_ret;have hb:=(Yk.P6 (s:=⟨ns,a,i⟩) T.out W.out);have J:=hb.bd x R n.out (by have:=v.out;simp only;omega);exact⟨t,m',i',E,F,rfl,J.2.2.1,J.2.1,qh hb,r.out⟩
def pq:List ByteArray:=[⟨#[112]⟩,⟨#[113]⟩]
def zg7(j:Nat)(g:GL)(x:GE):ByteArray:=⟨#[102,117,110,32,102]⟩++yC j++⟨#[40,112,58,32,105,110,116,44,32,113,58,32,105,110,116,41,58,32,105,110,116,32,123,32]⟩++g.R4++⟨#[114,101,116,117,114,110,32]⟩++x.R4++⟨#[59,32,125,10]⟩
def Zt:Nat->List (GL×GE)->ByteArray
 |_,[]=>⟨#[]⟩
 |j,(g,x)::r=>zg7 j g x++Zt (j+1) r
def YW(g x): ∀fs(j:Nat),Zt j (fs++[(g,x)])=Zt j fs++zg7 (j+fs.length) g x:=by
 intro fs
 induction fs with
 |nil=>intro j;simp only[C0,Zt,jO,zcp,B1,Nat.add_zero]
 |cons a fs b=>
  obtain⟨c,d⟩:=a;intro j;simp only[B6,Zt,b,ByteArray.append_assoc,A8];rw[show j+1+fs.length=j+(fs.length+1) by omega]
inductive xr(N:Nat):Nat->Nat->List (GL×GE)->Nat->Nat->Prop
 |nil {i:Nat}:xr N 0 i [] 0 i
 |xn {j i m1 i1 m2 i2 i3:Nat} {fs:List (GL×GE)} {g:GL} {x:GE}:xr N j i fs m1 i1->yh N j 2 ⟨pq,m1,i1⟩ g ⟨pq,m2,i2⟩->zw N pq j 2 i2 x i3->xr N (j+1) i (fs++[(g,x)]) m2 i3
def xr.X5{N j i m a:Nat}{fs}(h:xr N j i fs m a):fs.length=j:=by
 induction h with
 |nil=>rfl
 |xn _ _ _ b=>simp[b]
def XU(fs:List (GL×GE))(g:GL)(x:GE):ByteArray:=Zt 0 fs++⟨#[102,117,110,32,109,97,105,110,40,41,58,32,105,110,116,32,123,32]⟩++g.R4++⟨#[114,101,116,117,114,110,32]⟩++x.R4++⟨#[59,32,125]⟩
def jj(N:Nat)(t:ByteArray):Prop:= ∃(k:Nat)(a:List (GL×GE))(g:GL)(x:GE)(b c d f e h:Nat),N<=60/\Nx N 3 0 k b/\xr N k b a c d/\yh N k 3 ⟨[],c,d⟩ g ⟨[],f,e⟩/\zw N [] k 2 e x h/\t=XU a g x
def YK(N j i:Nat)(t:ByteArray)(b c:Nat):Prop:= ∃a:List (GL×GE),t=Zt 0 a/\xr N j i a b c
def YK.xn{N j i c d e f i3:Nat}{t a b z:ByteArray}(h:YK N j i t c d)(l:z=yC j)(m:zbW N j 2 ⟨pq,c,d⟩ a ⟨pq,e,f⟩)(n:qO N pq j 2 f b i3):
 YK N (j+1) i (t++(⟨#[102,117,110,32,102]⟩++z++⟨#[40,112,58,32,105,110,116,44,32,113,58,32,105,110,116,41,58,32,105,110,116,32,123,32]⟩++a++⟨#[114,101,116,117,114,110,32]⟩++b++⟨#[59,32,125,10]⟩)) e i3:=by
 obtain⟨q,rfl,k⟩:=h;obtain⟨g,rfl,o⟩:=m;obtain⟨x,rfl,p⟩:=n;subst l;refine⟨_,?_,.xn k o p⟩;rw[YW,k.X5,Nat.zero_add];rfl
def YK.znl{N k c d e i f j:Nat}{t a b:ByteArray}(l:N<=60)(m:Nx N 3 0 k c)(h:YK N k c t d e)(n:zbW N k 3 ⟨[],d,e⟩ a ⟨[],i,f⟩)(o:qO N [] k 2 f b j):
 jj N (t++⟨#[102,117,110,32,109,97,105,110,40,41,58,32,105,110,116,32,123,32]⟩++a++⟨#[114,101,116,117,114,110,32]⟩++b++⟨#[59,32,125]⟩):=by
 obtain⟨p,rfl,q⟩:=h;obtain⟨g,rfl,r⟩:=n;obtain⟨x,rfl,s⟩:=o;exact⟨k,p,g,x,c,d,e,i,f,j,l,m,q,r,s,rfl⟩
def zg3:Qp pq:=by intro s a;simp only[pq,E7,List.mem_nil_iff,or_false]at a;rcases a with rfl|rfl<;>decide
def zlT(A)(n c:Nat)(w):Calls prog 68 #[.slice A n c] w λe w'=>e=.returned (.pointer (some ⟨w.heap.size,0,none⟩))/\w'=w.alloc (.cells #[.slice A n c,.int .i64 0] 209):=by
 go_enter func68,ntmps68
 go_wp2_with fail
 go_ret;exact⟨rfl,rfl⟩
def Sc.start{w c}{n0 c0:Nat}(d:O4 w)(h: ∀j,j<n0-> ∃g b v,c=some ⟨g,b,none⟩/\g<w.heap.size/\w.cell? ⟨g,b+j,none⟩=some (.int .i64 v))(i:n0<=60):
 Sc w ((w.alloc (.cells #[.slice c n0 c0,.int .i64 0] 209)).alloc (.cells #[.pointer (some ⟨w.heap.size,0,none⟩),.slice none 0 0,.int .i64 0,.int .i64 0] 144))
  ((w.alloc (.cells #[.slice c n0 c0,.int .i64 0] 209)).alloc (.cells #[.pointer (some ⟨w.heap.size,0,none⟩),.slice none 0 0,.int .i64 0,.int .i64 0] 144)) (w.heap.size+1) w.heap.size c n0 c0 0 none 0 [] 0 0:=by
 have l: ∀k,k<w.heap.size->((w.alloc (.cells #[.slice c n0 c0,.int .i64 0] 209)).alloc (.cells #[.pointer (some ⟨w.heap.size,0,none⟩),.slice none 0 0,.int .i64 0,.int .i64 0] 144)).heap[k]?=w.heap[k]?:=λk m=>
  (C4 _ _ (by simp;omega)).trans (C4 w _ m)
 have e:=((x8 w.heap.size w).alloc (x7 _) (.cells #[.slice c n0 c0,.int .i64 0] 209)).alloc (by simp) (.cells #[.pointer (some ⟨w.heap.size,0,none⟩),.slice none 0 0,.int .i64 0,.int .i64 0] 144);refine⟨by simpa using A5 (w.alloc (.cells #[.slice c n0 c0,.int .i64 0] 209)) (.cells #[.pointer (some ⟨w.heap.size,0,none⟩),.slice none 0 0,.int .i64 0,.int .i64 0] 144),(C4 _ _ (by simp)).trans (A5 w _),λj n=>?_,O8.nil _ _ _ _ _,by intro s o;simp at o,by simp,D0 _,i,by omega,by omega,d.xM,by omega,by simp,d.to e,e,I7 (x8 _ _) _⟩;obtain⟨g,b,v,p,f,q⟩:=h j n;exact⟨g,b,v,p,f,(E8 (a:=⟨g,b+j,none⟩) (l g f)).trans q⟩
def Sc.zpV{w0 u w}{sb m:Nat}{n}{n0 c0 i:Nat}{v}{cn:Nat}{x}{b low:Nat}(h:Sc w0 u w sb m n n0 c0 i v cn x b low)(j:Nat)(y:j<=2){W}(z:W=((w.setCell ⟨sb,1,none⟩ (.slice (some ⟨w.heap.size,0,none⟩) 2 2)).setCell ⟨sb,3,none⟩ (.int .i64 j)).alloc (.cells #[.string ⟨#[112]⟩,.string ⟨#[113]⟩] 9)):
 Sc w0 W W sb m n n0 c0 i (some ⟨w.heap.size,0,none⟩) 2 pq b j:=by
 subst z;have A:=h.s;have B:=h.q;have d:=I8 w sb 1 (.slice (some ⟨w.heap.size,0,none⟩) 2 2);have o:=A6 w sb 1 _ _ (.slice (some ⟨w.heap.size,0,none⟩) 2 2) h.JI;have p:(w.setCell ⟨sb,1,none⟩ (.slice (some ⟨w.heap.size,0,none⟩) 2 2)).heap.size=w.heap.size:=by simp
 generalize w.setCell ⟨sb,1,none⟩ (.slice (some ⟨w.heap.size,0,none⟩) 2 2)=e at d o p|-;have f:=I8 e sb 3 (.int .i64 j);have r:=A6 e sb 3 _ _ (.int .i64 j) o;have t:(e.setCell ⟨sb,3,none⟩ (.int .i64 j)).heap.size=e.heap.size:=by simp
 generalize e.setCell ⟨sb,3,none⟩ (.int .i64 j)=g at f r t|-;have c:=(x8 g.heap.size g).alloc (x7 _) (.cells #[.string ⟨#[112]⟩,.string ⟨#[113]⟩] 9);have l:=A5 g (.cells #[.string ⟨#[112]⟩,.string ⟨#[113]⟩] 9);rw[t,p]at l;generalize g.alloc (.cells #[.string ⟨#[112]⟩,.string ⟨#[113]⟩] 9)=C at c l|-;have D:=c.size;refine h.ziz (by simpa[pq]using(c.block sb (by omega)).trans r) (λk E=>(c.block k (by omega)).trans ((f.block k (by omega) (by simp;omega)).trans (d.block k (by omega) (by simp;omega)))) (by omega) (c.os.trans (f.os.trans d.os)) (c.tape.trans (f.tape.trans d.tape)) (c.output.trans (f.output.trans d.output)) ?_ zg3 (by decide) h.m1 y;exact⟨⟨rfl,.inr ⟨w.heap.size,2,_,rfl,by omega,l,by decide,by decide,rfl,rfl⟩⟩,λa _=>trivial⟩
def Sc.zpP{w0 n w}{sb e:Nat}{f}{n0 c0 i:Nat}{o}{cn:Nat}{p}{a low:Nat}(h:Sc w0 n w sb e f n0 c0 i o cn p a low)(j:Nat)(r:j<=2){W}(t:W=(w.setCell ⟨sb,1,none⟩ (.slice none 0 0)).setCell ⟨sb,3,none⟩ (.int .i64 j)):
 Sc w0 W W sb e f n0 c0 i none 0 [] a j:=by
 subst t;have g:=h.s;have v:=h.q;have b:=I8 w sb 1 (.slice none 0 0);have l:=A6 w sb 1 _ _ (.slice none 0 0) h.JI;generalize w.setCell ⟨sb,1,none⟩ (.slice none 0 0)=d at b l|-;have c:=I8 d sb 3 (.int .i64 j);have m:=A6 d sb 3 _ _ (.int .i64 j) l;generalize d.setCell ⟨sb,3,none⟩ (.int .i64 j)=x at c m|-;have u:=b.size;exact h.ziz (by simpa using m) (λk y=>(c.block k (by omega) (by simp;omega)).trans (b.block k (by omega) (by simp;omega))) (by have:=c.size;omega) (c.os.trans b.os) (c.tape.trans b.tape) (c.output.trans b.output) (O8.nil _ _ _ _ _) (by intro s g;simp at g) (by decide) h.m1 r
def Sc.zoI{w0 b w}{sb c:Nat}{d}{n0 c0 i:Nat}{e}{cn:Nat}{f}{a low:Nat}(h:Sc w0 b w sb c d n0 c0 i e cn f a low):w.frozen? ⟨sb,3,none⟩=false:=B4 h.JI 3
def zhR: ∀d:Nat,d<=3->Yu d/\XT d:=by
 intro d
 induction d with
 |zero=>
  intro h;have this:Yu 0:=zaQ 0 h (by omega);exact⟨this,Yl 0 h this⟩
 |succ d a=>
  intro h;have this:Yu (d+1):=zaQ (d+1) h (λ_=>(a (by omega)).2);exact⟨this,Yl (d+1) h this⟩
def zaJ(d:Nat)(h:d<=3):XT d:=(zhR d h).2
def zkL(w0:World)(sb g:Nat)(h:Option Addr)(n0 c0 i a:Nat)(t:ByteArray)(W:World):Prop:=
 ∃(j:List ByteArray)(b f:Nat)(c:Option Addr)(d e:Nat),YK n0 a i t b f/\t.size<=a*3900000/\b<=a*129/\Sc w0 W W sb g h n0 c0 f c d j b e
def zfQ(A)(n c:Nat)(w)(hG:O4 w)(R:n<=c)(h: ∀j,j<n-> ∃g K v,A=some ⟨g,K,none⟩/\g<w.heap.size/\w.cell? ⟨g,K+j,none⟩=some (.int .i64 v)):
 Calls prog 19 #[.slice A n c] w λe w'=> ∃(t:ByteArray)(N:Nat),e=.returned (.string t)/\t.size<=12000000/\Hid (jj N t)/\Below w.heap.size w w':=by
 obtain⟨N,hN⟩: ∃N,N=min n 60:=⟨_,rfl⟩;have y:N<=60:=by omega
 have S:N<=n:=by omega
 have L:=qh (Sc.start (c0:=c) (n0:=N) hG (λj hj=>h j (by omega)) y);have T:Hid (∀{w0 H w:World}{sb z:Nat}{B:Option Addr}{r q i:Nat}{I:Option Addr}{J:Nat}{p:List ByteArray}{a f:Nat},Sc w0 H w sb z B r q i I J p a f->a+Xo 3<=900000->p.length+3*(3+1)<=90->Calls prog 71 #[.pointer (some ⟨sb,0,none⟩),.int .i64 3] w (Qf w0 sb z B r q p a f 3 i)):=qh (zaJ 3 (by decide));have U:Hid (∀{w0 H w:World}{sb z:Nat}{B:Option Addr}{r q i:Nat}{I:Option Addr}{J:Nat}{p:List ByteArray}{a f:Nat},Sc w0 H w sb z B r q i I J p a f->a+Xo 2<=900000->p.length+3*(2+1)<=90->Calls prog 71 #[.pointer (some ⟨sb,0,none⟩),.int .i64 2] w (Qf w0 sb z B r q p a f 2 i)):=qh (zaJ 2 (by decide));have HN:Hid (∀{w0 H w:World}{sb z:Nat}{B:Option Addr}{r q i:Nat}{I:Option Addr}{J:Nat}{p:List ByteArray}{a f:Nat},Sc w0 H w sb z B r q i I J p a f->Calls prog 72 #[.pointer (some ⟨sb,0,none⟩),.int .i64 2] w (zdR w0 H sb z B r q I J p a f 2 i)):=qh (Jm 2 (by decide));have M:n<=60/\N=n\/60<n/\N=60:=by omega
 have HE:=qh M;clear h hN M hG
 go_enter func19,ntmps19
 go_upto_region 1 with(fail)
 go_cut[3] (λv W=>v=.pointer (some ⟨w.heap.size+1,0,none⟩)/\Hid (Sc w W W (w.heap.size+1) w.heap.size A N c 0 none 0 [] 0 0))
 case first=>
  have V:Hid ((min (n:Int) 60).toNat=N):=qh (by have:=HE.out;omega);have h2:(n:Int)<=(c:Int):=by omega
  have h3:(0:Int)<=(n:Int):=by omega
  have h4:(0:Int)<=min (n:Int) 60:=by omega
  have h5:min (n:Int) 60<=(c:Int):=by omega
  go_wp2_with(go_at_call 68;refine(zlT _ _ _ _).mono ?_;rintro e w' ⟨rfl,rfl⟩)
  go_meet
  case rel=>
   refine⟨rfl,?_⟩;rw[V.out];exact L
 case rest=>
  obtain⟨rfl,C⟩:=hcut;clear L HE R S;have b1:10<w.heap.size:=C.out.b0;generalize b2:w.heap.size+1=sb at C;obtain⟨X,c1,c2,c3⟩:=C.out.c0
  go_wp2_with fail
  refine(n_c 3 (by decide) (by decide) C.out).mono ?_;rintro e w1 ⟨k,Y,rfl,b3,Z,d⟩;replace Z:=qh Z;replace C:=qh d.Z8;clear d X c1 c2 c3;have a0:k<=2:=by omega
  go_wp2_with fail
  go_loopw[5,21] (λo j wr=> ∃(l:Nat)(t:ByteArray),o=.string t/\j=.int .i64 l/\l<=k/\Hid (zkL w sb w.heap.size A N c Y l t wr))
   (λ_ j _=>(4-intOf j).toNat)
  case atStart=>exact⟨0,⟨#[]⟩,rfl,rfl,D0 _,qh ⟨[],0,Y,none,0,0,⟨[],rfl,.nil⟩,by simp[ByteArray.size],by simp,C.out⟩⟩
  case round=>
   obtain⟨l,t,rfl,rfl,b4,u⟩:=hrel;obtain⟨b5,m',i',b6,b7,a8,hA,D,E,d⟩:=u.out;have HA:=qh hA;have b:=qh d;clear hA d u C
   by_cases a1:l<k
   ·have a9:(l:Int)<(k:Int):=by omega
    have a2:t.size<=7800000:=by have:=G5 3900000 (show l<=2 by omega);omega
    have a3:m'<=258:=by have:=G5 129 (show l<=2 by omega);omega
    have O:=qh (And.intro D E);clear D E;obtain⟨d0,d1,d2,d3⟩:=b.out.c0;obtain⟨q1,q2⟩:=b.out.frz;have q3:=b.out.zoI;have hs:=b.out.s
    go_upto_region 8 with(fail)
    have m:=qh (b.out.zpV l (by omega) rfl);clear d0 d1 d2 d3 q1 q2 q3 hs b;generalize((wr.setCell _ _).setCell _ _).alloc _=w2 at m|-;generalize wr.heap.size=gp at m|-
    go_wp2_with fail
    refine(yb l (by omega) m.out).mono ?_;rintro e w3 ⟨s3,rfl,a4,b8,d⟩;replace m:=qh d;clear d
    go_wp2_with fail
    refine(U.out m.out (by have:Xo 2=129:=rfl;omega) (by decide)).mono ?_;rintro e w4 ⟨s4,m4,i4,P,Q,rfl,a5,x,F,d⟩;replace m:=qh d;have a6:=qh x;clear d x
    go_wp2_with fail
    refine(HN.out m.out).mono ?_;rintro e w5 ⟨s5,i5,rfl,a7,G,d⟩;replace m:=qh d.Z8;clear d
    have u:Hid (zkL w sb w.heap.size A N c Y (l+1) (t++(⟨#[102,117,110,32,102]⟩++s3++⟨#[40,112,58,32,105,110,116,44,32,113,58,32,105,110,116,41,58,32,105,110,116,32,123,32]⟩++s4++⟨#[114,101,116,117,114,110,32]⟩++s5++⟨#[59,32,125,10]⟩)) w5):=
     qh ⟨pq,m4,i5,P,Q,l,HA.out.xn a4.out F.out G.out,by
      have:=O.out.1;simp only[C3,S6,D9,A8,B1];omega,by have:=O.out.2;have:=a6.out;have:Xo 2=129:=rfl;omega,m.out⟩
    go_wp2_with fail
    go_roundw
    case rel=>exact⟨l+1,_,rfl,by go_num,a1,u⟩
    case measure=>simp[intOf];omega
   ·obtain rfl:l=k:=by omega
    have a2:t.size<=7800000:=by have:=G5 3900000 (show l<=2 by omega);omega
    have a3:m'<=258:=by have:=G5 129 (show l<=2 by omega);omega
    clear D E;obtain⟨d0,d1,d2,d3⟩:=b.out.c0;obtain⟨q1,q2⟩:=b.out.frz;have q3:=b.out.zoI
    go_upto_region 11 with(fail)
    have m:=qh (b.out.zpP l a0 rfl);clear d0 d1 d2 d3 q1 q2 q3 b;generalize(wr.setCell _ _).setCell _ _=w2 at m|-
    go_wp2_with fail
    refine(T.out m.out (by have:Xo 3=777:=rfl;omega) (by decide)).mono ?_;rintro e w4 ⟨s4,m4,i4,P,Q,rfl,a5,x,F,d⟩;replace m:=qh d;clear d x
    go_wp2_with fail
    refine(HN.out m.out).mono ?_;rintro e w5 ⟨s5,i5,rfl,a7,G,d⟩;replace m:=qh d.Z8;clear d
    go_wp2_with fail
    go_ret;refine⟨_,N,rfl,?_,qh (YK.znl y Z.out HA.out F.out G.out),m.out.M1⟩;simp only[C3,S6,D9,A8,B1];omega
end Go.Proofs.YtmngofgminlloaaGreatDoor
namespace Go.Proofs.YtmngofgminlloaaGreatDoor
open Go.RowKit Tw
def Yb(k:Nat): ∀u:Nat,u<10^(k+1)->Lib.nDigits u<=k+1:=by
 induction k with
 |zero=>intro u h;rw[Lib.nDigits_small (by simpa using h)];omega
 |succ k b=>
  intro u h
  by_cases a:u<10
  ·rw[Lib.nDigits_small a];omega
  ·rw[Lib.nDigits_big a]
   have:=b (u/10) (by rw[Nat.pow_succ]at h;omega);omega
def zh2(n:Nat):(yC n).size=Lib.nDigits n:=by
 have:(Lib.itoa (n:Int))=Lib.decDigits n:=by unfold Lib.itoa;rw[B5 (by omega)];simp
 unfold yC;rw[this];show(Lib.decDigits n).toArray.size=_;rw[D9,Lib.decDigits_length]
def yI(k n:Nat)(h:n<10^(k+1)):(yC n).size<=k+1:=by rw[zh2];exact Yb k n h
def NsS(a:List ByteArray):Prop:= ∀s∈a,s.size<=5
def Nx.le{N n i k a:Nat}(h:Nx N n i k a):i<=a/\a<=N/\i<=N:=by
 rcases h.2 with h|h<;>omega
def zw.sz{N:Nat}{m}{low d i c:Nat}{x}(e:NsS m)(w:low<=2)(h:zw N m low d i x c):i<=c/\c<=N/\x.R4.size<=5+20*(c-i):=by
 have q: ∀o,(Xc o).size=1:=by intro o;unfold Xc;split<;>rfl
 induction h with
 |qE a r s=>have:=e _ (B7 s);have:=a.le;have:=r.le;simp only[GE.R4];omega
 | @lit d i z g k n a h=>have:=yI 1 n (by have:=h.1;omega);have:=a.le;have:=h.le;simp only[GE.R4];omega
 |neg a _ t=>simp only[GE.R4,C3,S6,D9,A8,B1];omega
 | @call d i g p u f x y a b _ _ j l=>
   have:=yI 0 f (by have:=b.1;omega);have:=b.le;simp only[GE.R4,C3,S6,D9,A8,B1];omega
 | @X0 d i g p k x a b _ t=>
   have:=yI 0 k (by have:=b.1;omega);have:=b.le;simp only[GE.R4,C3,S6,D9,A8,B1];omega
 | @xI d i g p u o x y a _ v _ j l=>
   have:=v.le;simp only[GE.R4,C3,q,S6,D9,A8,B1];omega
def zi.sz{N:Nat}{j}{low d i e:Nat}{x}(c:NsS j)(l:low<=2)(s:d<=2)(h:zi N j low d i x e):i<=e/\e<=N/\x.R4.size<=14+3*d+20*(e-i):=by
 have m: ∀o,(YT o).size<=4:=by intro o;unfold YT;split<;>decide
 have n: ∀o,(tfT o).size<=5:=by intro o;unfold tfT;split<;>decide
 induction h with
 | @not d _ _ _ _ _ f _ p=>have:=f.le;have:=p (by omega);simp only[GE.R4,C3,S6,D9,A8,B1];omega
 | @and d _ _ _ _ _ _ _ _ a b=>have:=a (by omega);have:=b (by omega);simp only[GE.R4,C3,S6,D9,A8,B1];omega
 | @or d _ _ _ _ _ _ _ _ a b=>have:=a (by omega);have:=b (by omega);simp only[GE.R4,C3,S6,D9,A8,B1];omega
 | @tf d _ _ k _ g=>have:=n k;have:=g.le;simp only[GE.R4];omega
 | @jx d i t u v w k o x y q f r g=>have:=q.le;have:=f.sz c l;have:=r.le;have:=g.sz c l;have:=m o;simp only[GE.R4,C3];omega
def SzB(N Z:Nat)(s:Ms)(g:GL)(a:Ms):Prop:=s.m<=a.m/\(NsS s.ns->a.m<=9998->s.i<=a.i/\a.i<=N/\g.R4.size<=Z+60*(a.i-s.i)/\NsS a.ns)
def znK(m:Nat)(h:m<=9998):(vT m).size<=5:=by
 have:=yI 3 m (by omega);simp only[vT,C3,S6,D9,A8,B1];omega
def zou(m:Nat)(h:m<=9998):(iT m).size<=5:=by
 have:=yI 3 m (by omega);simp only[iT,C3,S6,D9,A8,B1];omega
def xc.sz{N low:Nat}{B:Ms->GL->Ms->Prop}(q:low<=2)(r: ∀s g s',B s g s'->SzB N 0 s g s'/\s'.ns=s.ns){s g s'}(h:xc N low B s g s'):SzB N 20 s g s':=by
 refine⟨?_,?_⟩
 ·cases h with
  |xl _ _ y v=>have e:=(r _ _ _ y).1.1;have w:=(r _ _ _ v).1.1;exact C1 e w
  |X2 _ _ v=>have e:=(r _ _ _ v).1.1;simp only at e|-;omega
  |bind _ _=>exact Nat.le_succ _
  |_=>exact x7 _
 cases h with
 | @set t m i I u J j s x p e z f=>
   intro d o;have:=d _ (B7 z);have:=p.le;have:=e.le;have:=f.sz d q;refine⟨by simp only;omega,by simp only;omega,?_,d⟩;simp only[GL.R4,C3,S6,D9,A8,B1];omega
 | @Q8 t m i u x p f=>
   intro d o;have:=f.sz d q;refine⟨by simp only;omega,by simp only;omega,?_,d⟩;simp only[GL.R4,C3,S6,D9,A8,B1];omega
 | @xl t m i u c a b Q K p L y v=>
   intro d o;have:=L.sz d q (by decide);obtain⟨e,w⟩:=r _ _ _ y;obtain⟨E,R⟩:=r _ _ _ v;obtain⟨S,M,T,O⟩:=E.2 (by rw[w];exact d) o;obtain⟨A,F,C,G⟩:=e.2 d (by have:=E.1;omega);simp only at A C;refine⟨by simp only;omega,M,?_,O⟩;simp only[GL.R4,C3,S6,D9,A8,B1];omega
 | @X2 t m i u n l K p H D=>
   intro d o;obtain⟨e,w⟩:=r _ _ _ D;obtain⟨A,F,C,G⟩:=e.2 d o;have P:=e.1;simp only at A P C;have:=zou (m+1) (by omega);have:=yI 0 n (by have:=H.1;omega);have:=H.le;refine⟨by simp only;omega,F,?_,G⟩;simp only[GL.R4,C3,S6,D9,A8,B1];omega
 | @run t m i u x p f=>
   intro d o;have:=f.sz d q;refine⟨by simp only;omega,by simp only;omega,?_,d⟩;simp only[GL.R4,C3,S6,D9,A8,B1];omega
 | @qi t m i u J k x p e f=>
   intro d o;have:=e.le;have:=f.sz d q;refine⟨by simp only;omega,by simp only;omega,?_,d⟩;simp only[GL.R4,C3,S6,D9,A8,B1];omega
 | @bind t m i I u x p f=>
   intro d o;have:=f.sz d q;have:=znK (m+1) o;refine⟨by simp only;omega,by simp only;omega,?_,?_⟩
   ·simp only[GL.R4,C3,S6,D9,A8,B1];omega
   ·intro s z
    rcases List.mem_append.1 z with h|h
    ·exact d s h
    ·simp at h;subst h;assumption
def Run.sz{N:Nat}{S:Ms->GL->Ms->Prop}(f: ∀s g a,S s g a->SzB N 20 s g a){j:Nat}{s g a}(h:Run S j s g a):s.m<=a.m/\(NsS s.ns->s.i<=N->a.m<=9998->s.i<=a.i/\a.i<=N/\g.R4.size<=20*j+60*(a.i-s.i)/\NsS a.ns):=by
 induction h with
 |nil=>exact⟨x7 _,λb c _=>⟨x7 _,c,by simp[GL.R4,ByteArray.size],b⟩⟩
 | @xn j s q r g x t k e=>
   have d:=f _ _ _ k;refine⟨C1 e.1 d.1,λb c l=>?_⟩;obtain⟨u,v,w,n⟩:=e.2 b c (by have:=d.1;omega);obtain⟨y,o,z,p⟩:=d.2 n l;refine⟨by omega,o,?_,p⟩;rw[GL.zbY,C3];omega
def jA.sz{N:Nat}{S:Ms->GL->Ms->Prop}(k: ∀s g a,S s g a->SzB N 20 s g a){s g a}(h:jA N S s g a):SzB N 0 s g a/\a.ns=s.ns:=by
 obtain⟨j,t,u,b,l,rfl⟩:=h;have d:=l.sz k;refine⟨⟨d.1,λe f=>?_⟩,rfl⟩;have c:=b.le;obtain⟨m,i,n,v⟩:=d.2 e c.2.1 f;simp only at m i n f|-;refine⟨by omega,i,?_,e⟩;have o:j<=3:=by have:=b.1;omega
 rcases b.2 with⟨p,q⟩|⟨p,q,r⟩
 ·omega
 ·subst r;omega
def yh.sz{N low:Nat}(b:low<=2): ∀(d:Nat)s g a,yh N low d s g a->SzB N 0 s g a/\a.ns=s.ns:=by
 intro d
 induction d with
 |zero=>intro s g a h;exact jA.sz (λs g a h=>xc.sz b (λ_ _ _ h=>h.elim) h) h
 |succ d c=>intro s g a h;exact jA.sz (λs g a h=>xc.sz b c h) h
def xr.mono{N j i m b:Nat}{fs}(o:j<=2)(hi:i<=N)(h:xr N j i fs m b):m<=129*j/\i<=b/\b<=N/\(Zt 0 fs).size<=60*j+60*(b-i):=by
 induction h with
 |nil=>exact⟨by simp,x7 _,hi,by simp[Zt,ByteArray.size]⟩
 | @xn j i p q r t u fs g x f d k l=>
   obtain⟨v,w,y,z⟩:=l (by omega) hi;have e:=(yh.X7 (low:=j) (by omega) 2 _ _ _ d).1 zg3 (by simp only;have:Xo 2=129:=rfl;omega);have a:=(yh.sz (low:=j) (by omega) 2 _ _ _ d).1.2 (by intro s a;simp only[pq,E7,List.mem_nil_iff,or_false]at a;rcases a with rfl|rfl<;>decide) (by have:=e.2.1;simp only at this|-;have:Xo 2=129:=rfl;omega);have A:=k.sz (by intro s a;simp only[pq,E7,List.mem_nil_iff,or_false]at a;rcases a with rfl|rfl<;>decide) (by omega);have n:=e.2.1;simp only at a n;have:Xo 2=129:=rfl;have B:=yI 0 j (by omega);refine⟨by omega,by omega,by omega,?_⟩;rw[YW,f.X5];simp only[zg7,Nat.zero_add,C3,S6,D9,A8,B1];omega
def jj.zlq{N:Nat}{t:ByteArray}(h:jj N t):t.size<=4000:=by
 obtain⟨k,o,g,x,p,q,r,u,v,w,y,d,f,e,i,rfl⟩:=h;have b:k<=2:=by have:=d.1;omega
 have j:=d.le;obtain⟨z,A,B,C⟩:=f.mono b j.2.1;have l:=(yh.X7 (low:=k) b 3 _ _ _ e).1 (by intro s a;simp at a) (by simp only;have:Xo 3=777:=rfl;omega);have m:=l.2.1;simp only at m;have:Xo 3=777:=rfl;have a:=(yh.sz (low:=k) b 3 _ _ _ e).1.2 (by intro s a;simp at a) (by simp only;omega);have n:=i.sz (by intro s a;simp at a) b;simp only at a;simp only[XU,C3,S6,D9,A8,B1];omega
def zW(n:Nat):Bs:=Lib.itoa (n:Int)
def YX(n:Nat):(yC n).data.toList=zW n:=rfl
def XI(o:Nat):Bs:=match o with|0=>[43]|1=>[45]|2=>[42]|3=>[47]|_=>[37]
def Jx(o:Nat):Bs:=match o with|0=>[60]|1=>[60,61]|2=>[62]|3=>[62,61]|4=>[61,61]|_=>[33,61]
def tfL(k:Nat):Bs:=match k with|0=>[116,114,117,101]|_=>[102,97,108,115,101]
def vL(m:Nat):Bs:=118::zW m
def iL(m:Nat):Bs:=105::zW m
def fL(m:Nat):Bs:=102::zW m
def GE.N2:GE->List Pc
 |.qE s=>[.w 2 s.data.toList]
 |.lit n=>[.w 1 (zW n)]
 |.neg x=>[.w 4 [45],.w 4 [40]]++x.N2++[.w 4 [41]]
 |.call f x y=>[.w 2 (fL f)]++[.w 4 [40]]++x.N2++[.w 4 [44],.sp 32]++y.N2++[.w 4 [41]]
 |.X0 k x=>[.w 4 [64]]++[.w 1 (zW k)]++[.w 4 [40]]++x.N2++[.w 4 [41]]
 |.xI o x y=>[.w 4 [40]]++x.N2++[.sp 32]++[.w 4 (XI o)]++[.sp 32]++y.N2++[.w 4 [41]]
 |.not x=>[.w 4 [33],.w 4 [40]]++x.N2++[.w 4 [41]]
 |.and x y=>[.w 4 [40]]++x.N2++[.sp 32,.w 4 [38,38],.sp 32]++y.N2++[.w 4 [41]]
 |.or x y=>[.w 4 [40]]++x.N2++[.sp 32,.w 4 [124,124],.sp 32]++y.N2++[.w 4 [41]]
 |.tf k=>[.w 3 (tfL k)]
 |.jx o x y=>x.N2++[.sp 32]++[.w 4 (Jx o)]++[.sp 32]++y.N2
def GL.N2:GL->List Pc
 |.nil=>[]
 |.set s x r=>[.w 2 s.data.toList]++[.sp 32,.w 4 [61],.sp 32]++x.N2++[.w 4 [59],.sp 32]++r.N2
 |.Q8 x r=>[.w 3 [121,105,101,108,100],.sp 32]++x.N2++[.w 4 [59],.sp 32]++r.N2
 |.xl c a b r=>[.w 3 [105,102],.sp 32]++c.N2++[.sp 32,.w 4 [123],.sp 32]++a.N2++[.w 4 [125],.sp 32,.w 3 [101,108,115,101],.sp 32,.w 4 [123],.sp 32]++b.N2++[.w 4 [125],.sp 32]++r.N2
 |.X2 i n l r=>[.w 3 [108,101,116],.sp 32]++[.w 2 (iL i)]++[.sp 32,.w 4 [61],.sp 32,.w 1 [48],.w 4 [59],.sp 32,.w 3 [119,104,105,108,101],.sp 32]++[.w 2 (iL i)]++[.sp 32,.w 4 [60],.sp 32]++[.w 1 (zW n)]++[.sp 32,.w 4 [123],.sp 32]++l.N2++[.w 2 (iL i)]++[.sp 32,.w 4 [61],.sp 32]++[.w 2 (iL i)]++[.sp 32,.w 4 [43],.sp 32,.w 1 [49],.w 4 [59],.sp 32,.w 4 [125],.sp 32]++r.N2
 |.run x r=>x.N2++[.w 4 [59],.sp 32]++r.N2
 |.qi x r=>[.w 3 [114,101,116,117,114,110],.sp 32]++x.N2++[.w 4 [59],.sp 32]++r.N2
 |.bind i x r=>[.w 3 [108,101,116],.sp 32]++[.w 2 (vL i)]++[.sp 32,.w 4 [61],.sp 32]++x.N2++[.w 4 [59],.sp 32]++r.N2
def zmr:(⟨#[]⟩:ByteArray).data.toList=[]:=rfl
def Ya(a b:ByteArray):(a++b).data.toList=a.data.toList++b.data.toList:=by rw[ByteArray.data_append,Array.toList_append]
def zat(l):(⟨l.toArray⟩:ByteArray).data.toList=l:=by simp
def zl7: ∀o:Nat,(Xc o).data.toList=XI o
 |0=>rfl|1=>rfl|2=>rfl|3=>rfl|_+4=>rfl
def zlF: ∀o:Nat,(YT o).data.toList=32::(Jx o++[32])
 |0=>rfl|1=>rfl|2=>rfl|3=>rfl|4=>rfl|_+5=>rfl
def znD: ∀o:Nat,(tfT o).data.toList=tfL o
 |0=>rfl|_+1=>rfl
def zcZ(m:Nat):(vT m).data.toList=vL m:=by unfold vT vL;rw[Ya,YX];rfl
def zd4(m:Nat):(iT m).data.toList=iL m:=by unfold iT iL;rw[Ya,YX];rfl
def P9:zt []=[]:=rfl
def GE.zbj(x:GE):x.R4.data.toList=zt x.N2:=by
 induction x<;>simp only[GE.R4,GE.N2,Ya,P8,N8,P9,Pc.R4,YX,zl7,zlF,znD,fL, *]<;>simp
def GL.zbj(g:GL):g.R4.data.toList=zt g.N2:=by
 induction g<;>simp only[GL.R4,GL.N2,Ya,P8,N8,P9,Pc.R4,YX,zcZ,zd4,GE.zbj,zmr, *]<;>simp
def YS(n:Nat):zW n=Lib.decDigits n:=by unfold zW Lib.itoa;rw[B5 (by omega)];simp
def Jb(n:Nat):(zW n).length=Lib.nDigits n:=by rw[YS,Lib.decDigits_length]
def Ym(n:Nat): ∀c∈zW n,qX c=true:=by
 intro c a;rw[YS,Lib.decDigits_eq]at a;obtain⟨t,_,rfl⟩:=List.mem_map.1 a;have b: ∀q:Fin 10,qX (UInt8.ofNat (48+q.val))=true:=by decide
 exact b ⟨n/10^(Lib.nDigits n-1-t)%10,Nat.mod_lt _ (by decide)⟩
def XR(n:Nat):zW n≠[]:=by
 intro h;have a:=Jb n;rw[h]at a;have:=Lib.nDigits_pos n;simp at a;omega
def zN{c}(b:Zl c=true)(n:Nat)(g:n<10^10):M5 (c::zW n)=true:=by
 have o:(zW n).length<=10:=by rw[Jb];exact Yb 9 n g
 have i:qd (c::zW n)=false:=by
  unfold qd;rw[<-Bool.not_eq_true,List.contains_iff_mem];intro j;have k:qF.all (λw=>!qX (w.getD 1 97))=true:=by decide
  have e:=List.all_eq_true.1 k _ j;obtain⟨d,l,f⟩: ∃d l,zW n=d::l:=by
   cases h:zW n with
   |nil=>exact H9 h (XR n)
   |cons d l=>exact⟨d,l,rfl⟩
  have m:=Ym n d (by rw[f];exact B2 ..);rw[f]at e;simp[m]at e
 simp only[M5,F3,F1,Bool.not_eq_true',G0];refine⟨⟨⟨⟨by simp,by simp;omega⟩,b⟩,i⟩,?_⟩;intro x a
 rcases List.mem_cons.1 a with rfl|a
 ·simp[X8,b]
 ·simp[X8,Ym n x a]
def zjY(n:Nat)(h:n<100):zj (zW n)=true:=by
 rw[YS]
 by_cases c:n<10
 ·rw[Lib.decDigits_one c]
  have: ∀q:Fin 10,zj [UInt8.ofNat (48+q.val)]=true:=by decide
  exact this ⟨n,c⟩
 ·rw[Lib.decDigits_two c h]
  have: ∀a:Fin 10,∀b:Fin 10,a.val≠0->zj [UInt8.ofNat (48+a.val),UInt8.ofNat (48+b.val)]=true:=by decide
  exact this ⟨n/10,by omega⟩ ⟨n%10,by omega⟩ (by simp only;omega)
def GE.zl:GE->Prop
 |.qE s=>M5 s.data.toList=true
 |.lit n=>n<100
 |.neg x=>x.zl
 |.call f x y=>f<100/\x.zl/\y.zl
 |.X0 k x=>k<100/\x.zl
 |.xI _ x y=>x.zl/\y.zl
 |.not x=>x.zl
 |.and x y=>x.zl/\y.zl
 |.or x y=>x.zl/\y.zl
 |.tf _=>True
 |.jx _ x y=>x.zl/\y.zl
def GL.zl:GL->Prop
 |.nil=>True
 |.set s x r=>M5 s.data.toList=true/\x.zl/\r.zl
 |.Q8 x r=>x.zl/\r.zl
 |.xl c a b r=>c.zl/\a.zl/\b.zl/\r.zl
 |.X2 i n l r=>i<10^10/\n<100/\l.zl/\r.zl
 |.run x r=>x.zl/\r.zl
 |.qi x r=>x.zl/\r.zl
 |.bind i x r=>i<10^10/\x.zl/\r.zl
def R8(l):XL (zt (.sp 32::l)):=by intro c a;simp[N8,Pc.R4]at a;subst a;decide
def R7{c:UInt8}(h:X8 c=false)(t:Bs)(l:List Pc)(k:Nat):XL (zt (.w k (c::t)::l)):=by intro d a;simp[N8,Pc.R4]at a;subst a;exact h
def O1{l:List Pc}(h:R9 l):R9 (.sp 32::l):=⟨by decide,h⟩
def N7{c:UInt8}{l:List Pc}(a:c∈([40,41,123,125,44,59,58,64,43,45,42,47,37]:Bs))(h:R9 l):R9 (.w 4 [c]::l):=⟨zjS a,by simp,h⟩
def zdX{w:Bs}{l}(a:w∈zz)(h:R9 l):R9 (.w 4 w::l):=by
 have b: ∀w∈zz,w.length=2:=by decide
 refine⟨by rw[b w a];exact ziV a,by rw[b w a];decide,h⟩
def zba{c:UInt8}{l:List Pc}(a:c∈([60,62,61,33]:Bs))(h:R9 (.sp 32::l)):R9 (.w 4 [c]::.sp 32::l):=⟨zfm a (.inl rfl),by simp,h⟩
def zi4{l:List Pc}(h:R9 (.w 4 [40]::l)):R9 (.w 4 [33]::.w 4 [40]::l):=⟨zfm (c:=33) (by decide) (.inr rfl),by simp,h⟩
def qI{w:Bs}{l:List Pc}(a:M5 w=true)(b:XL (zt l))(h:R9 l):R9 (.w 2 w::l):=⟨zhO a b,by simp only[M5,F3,F1]at a;omega,h⟩
def qD{w:Bs}{l:List Pc}(a:w∈qF)(b:XL (zt l))(h:R9 l):R9 (.w 3 w::l):=⟨zjL a b,by
 have c: ∀w∈qF,0<w.length:=by decide
 exact c w a,h⟩
def zdB{n:Nat}{l:List Pc}(a:n<100)(b:XL (zt l))(h:R9 l):R9 (.w 1 (zW n)::l):=⟨Zp (zjY n a) (XR n) b,List.length_pos_iff.2 (XR n),h⟩
def zir(o:Nat): ∃c,XI o=[c]/\c∈([40,41,123,125,44,59,58,64,43,45,42,47,37]:Bs):=by unfold XI;split<;>exact⟨_,rfl,by decide⟩
def zjf(o:Nat){l}(h:R9 (.sp 32::l)):R9 (.w 4 (Jx o)::.sp 32::l):=by
 unfold Jx;split<;>first|exact zba (by decide) h|exact zdX (by decide) h
def zlV(k:Nat):tfL k∈qF:=by unfold tfL;split<;>decide
def GE.Qr(x:GE): ∀a:List Pc,x.zl->R9 a->XL (zt a)->R9 (x.N2++a):=by
 induction x with
 |qE s=>intro a h b g;exact qI h g b
 |lit n=>intro a h b g;exact zdB h g b
 |neg x i=>
  intro a h b g;simp only[GE.N2,B9,B6,C0];exact N7 (by decide) (N7 (by decide) (i _ h (N7 (by decide) b) (R7 (by decide) _ _ _)))
 |call f x y d e=>
  intro a h b g;simp only[GE.N2,B9,B6,C0];exact qI (zN (c:=102) (by decide) f (by have:=h.1;omega)) (R7 (by decide) _ _ _) (N7 (by decide) (d _ h.2.1 (N7 (by decide) (O1 (e _ h.2.2 (N7 (by decide) b) (R7 (by decide) _ _ _)))) (R7 (by decide) _ _ _)))
 |X0 k x i=>
  intro a h b g;simp only[GE.N2,B9,B6,C0];exact N7 (by decide) (zdB h.1 (R7 (by decide) _ _ _) (N7 (by decide) (i _ h.2 (N7 (by decide) b) (R7 (by decide) _ _ _))))
 |xI o x y d e=>
  intro a h b g;obtain⟨c,j,l⟩:=zir o;simp only[GE.N2,B9,B6,C0,j];exact N7 (by decide) (d _ h.1 (O1 (N7 l (O1 (e _ h.2 (N7 (by decide) b) (R7 (by decide) _ _ _))))) (R8 _))
 |not x i=>
  intro a h b g;simp only[GE.N2,B9,B6,C0];exact zi4 (N7 (by decide) (i _ h (N7 (by decide) b) (R7 (by decide) _ _ _)))
 |and x y d e=>
  intro a h b g;simp only[GE.N2,B9,B6,C0];exact N7 (by decide) (d _ h.1 (O1 (zdX (by decide) (O1 (e _ h.2 (N7 (by decide) b) (R7 (by decide) _ _ _))))) (R8 _))
 |or x y d e=>
  intro a h b g;simp only[GE.N2,B9,B6,C0];exact N7 (by decide) (d _ h.1 (O1 (zdX (by decide) (O1 (e _ h.2 (N7 (by decide) b) (R7 (by decide) _ _ _))))) (R8 _))
 |tf k=>intro a h b g;exact qD (zlV k) g b
 |jx o x y d e=>
  intro a h b g;simp only[GE.N2,B9,B6,C0];exact d _ h.1 (O1 (zjf o (O1 (e _ h.2 b g)))) (R8 _)
def GL.Qr(g:GL): ∀d:List Pc,g.zl->R9 d->R9 (g.N2++d):=by
 induction g with
 |nil=>intro d _ e;exact e
 |set s x r f=>
  intro d h e;simp only[GL.N2,B9,B6,C0];exact qI h.1 (R8 _) (O1 (zba (by decide) (O1 (x.Qr _ h.2.1 (N7 (by decide) (O1 (f _ h.2.2 e))) (R7 (by decide) _ _ _)))))
 |Q8 x r f=>
  intro d h e;simp only[GL.N2,B9,B6,C0];exact qD (by decide) (R8 _) (O1 (x.Qr _ h.1 (N7 (by decide) (O1 (f _ h.2 e))) (R7 (by decide) _ _ _)))
 |xl c a b r m o f=>
  intro d h e;simp only[GL.N2,B9,B6,C0];have p:=N7 (c:=125) (by decide) (O1 (f _ h.2.2.2 e));have q:=N7 (c:=123) (by decide) (O1 (o _ h.2.2.1 p));have t:=N7 (c:=125) (by decide) (O1 (qD (w:=[101,108,115,101]) (by decide) (R8 _) (O1 q)));have u:=N7 (c:=123) (by decide) (O1 (m _ h.2.1 t));exact qD (by decide) (R8 _) (O1 (c.Qr _ h.1 (O1 u) (R8 _)))
 |X2 i n l r v f=>
  intro d h e;simp only[GL.N2,B9,B6,C0];have k:=zN (c:=105) (by decide) i h.1;have z: ∀l:List Pc,R9 l->XL (zt l)->R9 (.w 1 [48]::l):=λl h y=>⟨Zp (by decide) (by decide) y,by decide,h⟩
  have A: ∀l:List Pc,R9 l->XL (zt l)->R9 (.w 1 [49]::l):=λl h y=>⟨Zp (by decide) (by decide) y,by decide,h⟩
  have j:=qI k (R8 _) (O1 (zba (c:=61) (by decide) (O1 (qI k (R8 _) (O1 (N7 (c:=43) (by decide) (O1 (A _ (N7 (c:=59) (by decide) (O1 (N7 (c:=125) (by decide) (O1 (f _ h.2.2.2 e))))) (R7 (by decide) _ _ _)))))))));have p:=N7 (c:=123) (by decide) (O1 (v _ h.2.2.1 j));have q:=zba (c:=60) (by decide) (O1 (zdB h.2.1 (R8 _) (O1 p)));have t:=N7 (c:=59) (by decide) (O1 (qD (w:=[119,104,105,108,101]) (by decide) (R8 _) (O1 (qI k (R8 _) (O1 q)))));have u:=zba (c:=61) (by decide) (O1 (z _ t (R7 (by decide) _ _ _)));exact qD (by decide) (R8 _) (O1 (qI k (R8 _) (O1 u)))
 |run x r f=>
  intro d h e;simp only[GL.N2,B9,B6,C0];exact x.Qr _ h.1 (N7 (by decide) (O1 (f _ h.2 e))) (R7 (by decide) _ _ _)
 |qi x r f=>
  intro d h e;simp only[GL.N2,B9,B6,C0];exact qD (by decide) (R8 _) (O1 (x.Qr _ h.1 (N7 (by decide) (O1 (f _ h.2 e))) (R7 (by decide) _ _ _)))
 |bind i x r f=>
  intro d h e;simp only[GL.N2,B9,B6,C0];exact qD (by decide) (R8 _) (O1 (qI (zN (c:=118) (by decide) i h.1) (R8 _) (O1 (zba (by decide) (O1 (x.Qr _ h.2.1 (N7 (by decide) (O1 (f _ h.2.2 e))) (R7 (by decide) _ _ _)))))))
inductive qA:GE->Ex->Prop
 |qE {s:ByteArray} {p:Int}:qA (.qE s) (.mk 3 0 s [] p)
 |lit {n:Nat} {p:Int}:qA (.lit n) (.mk 1 (n:Int) L1 [] p)
 |neg {x:GE} {y:Ex} {p:Int}:qA x y->qA (.neg x) (.mk 4 0 L1 [y] p)
 |call {f:Nat} {a b:GE} {x y:Ex} {p:Int}:qA a x->qA b y->qA (.call f a b) (.mk 7 0 ⟨(fL f).toArray⟩ [x,y] p)
 |X0 {k:Nat} {a:GE} {x:Ex} {p:Int}:qA a x->qA (.X0 k a) (.mk 8 (k:Int) L1 [x] p)
 |xI {o:Nat} {a b:GE} {x y:Ex} {p:Int}:qA a x->qA b y->qA (.xI o a b) (.mk 6 0 ⟨(XI o).toArray⟩ [x,y] p)
 |not {x:GE} {y:Ex} {p:Int}:qA x y->qA (.not x) (.mk 5 0 L1 [y] p)
 |and {a b:GE} {x y:Ex} {p:Int}:qA a x->qA b y->qA (.and a b) (.mk 6 0 ⟨#[38,38]⟩ [x,y] p)
 |or {a b:GE} {x y:Ex} {p:Int}:qA a x->qA b y->qA (.or a b) (.mk 6 0 ⟨#[124,124]⟩ [x,y] p)
 |tf {k:Nat} {p:Int}:qA (.tf k) (.mk 2 (if k=0 then 1 else 0) L1 [] p)
 |jx {o:Nat} {a b:GE} {x y:Ex} {p:Int}:qA a x->qA b y->qA (.jx o a b) (.mk 6 0 ⟨(Jx o).toArray⟩ [x,y] p)
def hqT(c:Nat)(t:Bs):Nat:=
 if t==[45]then 1 else if t==[33]then 2 else if t==[40]then 3 else if t==[116,114,117,101]then 4 else if t==[102,97,108,115,101]then 5 else if t==[64]then 6
 else if c=1 then 7 else if c=2 then 8 else 0
section
variable {ws:List Wd}{en i:Nat}{c:Nat}{t:Bs}
theorem jo{k:Nat}(h:ws[i]?=some ⟨c,⟨t.toArray⟩,k⟩):K8 ws i=hqT c t:=by
 unfold K8 hqT;rw[show zU=⟨([45]:Bs).toArray⟩ from rfl,show jR=⟨([33]:Bs).toArray⟩ from rfl,show O6=⟨([40]:Bs).toArray⟩ from rfl,show xq=⟨([116,114,117,101]:Bs).toArray⟩ from rfl,show jm=⟨([102,97,108,115,101]:Bs).toArray⟩ from rfl,show yv=⟨([64]:Bs).toArray⟩ from rfl];rw[yw _ h,yw _ h,yw _ h,yw _ h,yw _ h,yw _ h,xe h]
theorem zbo(h:M5 t=true):hqT 2 t=8:=by
 have a: ∀s:Bs,s∈([[45],[33],[40],[116,114,117,101],[102,97,108,115,101],[64]]:List Bs)->(t==s)=false:=by
  intro s b;rw[B0];rintro rfl;have: ∀s:Bs,s∈([[45],[33],[40],[116,114,117,101],[102,97,108,115,101],[64]]:List Bs)->M5 s=false:=by decide
  rw[this _ b]at h;cases h
 unfold hqT;rw[a [45] (by decide),a [33] (by decide),a [40] (by decide),a [116,114,117,101] (by decide),a [102,97,108,115,101] (by decide),a [64] (by decide)];rfl
theorem zlL(n:Nat):hqT 1 (zW n)=7:=by
 have a: ∀s:Bs,s∈([[45],[33],[40],[116,114,117,101],[102,97,108,115,101],[64]]:List Bs)->(zW n==s)=false:=by
  intro s b;rw[B0];intro e;have d: ∀s:Bs,s∈([[45],[33],[40],[116,114,117,101],[102,97,108,115,101],[64]]:List Bs)-> ¬ ∀c∈s,qX c=true:=by decide
  exact d s b (e▸Ym n)
 unfold hqT;rw[a [45] (by decide),a [33] (by decide),a [40] (by decide),a [116,114,117,101] (by decide),a [102,97,108,115,101] (by decide),a [64] (by decide)];rfl
end
def GE.Zm:GE->Prop
 |.qE _=>True
 |.lit _=>True
 |.neg x=>x.Zm
 |.call _ x y=>x.Zm/\y.Zm
 |.X0 _ x=>x.Zm
 |.xI _ x y=>x.Zm/\y.Zm
 |_=>False
def GE.isF:GE->Prop
 |.not x=>x.isF
 |.and x y=>x.isF/\y.isF
 |.or x y=>x.isF/\y.isF
 |.tf _=>True
 |.jx _ x y=>x.Zm/\y.Zm
 |_=>False
theorem zw.Zm{N:Nat}{f}{low d i g:Nat}{x}(h:zw N f low d i x g):x.Zm:=by
 induction h with
 |qE _ _ _=>trivial
 |lit _ _=>trivial
 |neg _ _ e=>exact e
 |call _ _ _ _ a b=>exact⟨a,b⟩
 |X0 _ _ _ e=>exact e
 |xI _ _ _ _ a b=>exact⟨a,b⟩
theorem zi.isF{N:Nat}{e}{low d i f:Nat}{x}(h:zi N e low d i x f):x.isF:=by
 induction h with
 |not _ _ g=>exact g
 |and _ _ _ a b=>exact⟨a,b⟩
 |or _ _ _ a b=>exact⟨a,b⟩
 |tf _ _=>trivial
 |jx _ j _ k=>exact⟨j.Zm,k.Zm⟩
end Go.Proofs.YtmngofgminlloaaGreatDoor
