/- Merged. -/
import Derived.Test.YtalgmjmibamdfaaGreatDoorVS23
set_option linter.all false
set_option maxHeartbeats 16000000
set_option maxRecDepth 100000
namespace Go.Proofs.YtalgmjmibamdfaaGreatDoor
open Go.Proofs.Tryz
open Go.RowKit Tw
theorem Sc.jC{w0 u w:World}{sb p:Nat}{t:Option Addr}{n0 c0 i:Nat}{x:Option Addr}{cn:Nat}{ns:List ByteArray}{m low:Nat}(h:Sc w0 u w sb p t n0 c0 i x cn ns m low){W:World}{e:Option Addr}{f:Nat}{c:List ByteArray}{b low':Nat}
 (y:W.heap[sb]?=some (.cells #[.pointer (some ⟨p,0,none⟩),.slice e c.length f,.int .i64 b,.int .i64 low'] 84 (0,0)))
 (d: ∀k,k<sb->W.heap[k]?=w.heap[k]?) (l:w.heap.size<=W.heap.size) (r:W.os=w.os) (z:W.tape=w.tape) (A:W.output=w.output)
 (B:jH Q0 W (sb+1) 9 1 (.slice e c.length f) c) (C:xq c) (D:c.length<=100) (E:b<=1000000) (n:low'<=2):Sc w0 W W sb p t n0 c0 i e f c b low':=by
 have F:=h.q;have G:=h.s;have M:=h.b0;exact⟨y,(d p (by omega)).trans h.XV,λj H=>by
  obtain⟨g,o,v,I,J,K⟩:=h.yP j H;exact⟨g,o,v,I,J,(E0 (a:=⟨g,o+j,none⟩) (d g (by omega))).trans K⟩,B,C,D,h.i0,h.n60,E,n,h.b0,F,y5 G l,h.gl.zr l (λg N=>d g (by omega)),
  ⟨r.trans h.N5.os,z.trans h.N5.tape,A.trans h.N5.output,B5 h.N5.size l,λk L=>(d k (by omega)).trans (h.N5.block k L)⟩,J5 (x7 _ _) _⟩
theorem Sc.zgM{w0 g w:World}{sb c:Nat}{d:Option Addr}{n0 c0 i:Nat}{f:Option Addr}{cn:Nat}{ns:List ByteArray}{a low:Nat}(h:Sc w0 g w sb c d n0 c0 i f cn ns a low)(j:a+1<=1000000):Sc w0 (w.setCell ⟨sb,2,none⟩ (.int .i64 ((a:Int)+1))) (w.setCell ⟨sb,2,none⟩ (.int .i64 ((a:Int)+1))) sb c d n0 c0 i f cn ns (a+1) low:=by
 have b:=I7 w sb 2 (.int .i64 ((a:Int)+1));refine h.jC (by simpa using y4 w sb 2 _ _ (.int .i64 ((a:Int)+1)) h.yr) (λk l=>b.block k (by have:=h.s;omega) (by simp;omega)) b.size b.os b.tape b.output (h.row.kept b (λk e=>.inl (by cases e;omega))) h.sz h.nl j h.l1
theorem jH.take{E:xC ByteArray}{w:World}{base T:Nat}{A:Option Addr}{c:Nat}{l:List ByteArray}(o: ∀a,(E.cells a).length=1)(h:jH E w base T 1 (.slice A l.length c) l){n:Nat}(B:n<=l.length):jH E w base T 1 (.slice A (l.take n).length c) (l.take n):=by
 have b:(l.take n).length=n:=by simp;omega
 have d: ∀l:List ByteArray,(l.flatMap E.cells).length=l.length:=by
  intro l;induction l with
  |nil=>rfl
  |cons a l f=>simp[f,o];omega
 have i: ∀(l:List ByteArray)(n:Nat),(l.take n).flatMap E.cells=(l.flatMap E.cells).take n:=by
  intro l;induction l with
  |nil=>intro n;simp
  |cons a l f=>
   intro n;cases n with
   |zero=>simp
   |succ n=>
    obtain⟨x,q⟩: ∃x,E.cells a=[x]:=List.length_eq_one_iff.1 (o a);simp[f,q]
 refine⟨⟨by simp[d],?_⟩,λa r=>by cases A<;>exact h.2 a (List.mem_of_mem_take r)⟩;rw[b]
 rcases h.1.2 with⟨e,p⟩|⟨g,s,j,e,t,u,C,v,y,z⟩
 ·injection e with k p m
  subst k m;have:n=0:=by omega
  subst this;exact .inl ⟨rfl,rfl⟩
 ·injection e with k p m
  subst k m;refine .inr ⟨g,c,j,rfl,t,u,by omega,v,y,?_⟩;rw[i,<-z,List.take_take]
  congr 1
  omega
theorem Sc.zi4{w0 m w:World}{sb f:Nat}{g:Option Addr}{n0 c0 i:Nat}{c:Option Addr}{cn:Nat}{ns:List ByteArray}{b low:Nat}(h:Sc w0 m w sb f g n0 c0 i c cn ns b low)(n:Nat)(l:List ByteArray)(o:ns.take n=l)(p:n<=ns.length):Sc w0 (w.setCell ⟨sb,1,none⟩ (.slice c n cn)) (w.setCell ⟨sb,1,none⟩ (.slice c n cn)) sb f g n0 c0 i c cn l b low:=by
 have d:=I7 w sb 1 (.slice c n cn);subst o;have a:(ns.take n).length=n:=by simp;omega
 have j:=(h.row.take (λ_=>rfl) p).kept d (λk e=>.inl (by cases e;omega));rw[a]at j;refine h.jC (by rw[a];simpa using y4 w sb 1 _ _ (.slice c n cn) h.yr) (λk r=>d.block k (by have:=h.s;omega) (by simp;omega)) d.size d.os d.tape d.output (by rw[a];exact j) (λs q=>h.sz s (List.mem_of_mem_take q)) (by have:=h.nl;omega) h.m1 h.l1
theorem Sc.U7{w0 y w:World}{sb v:Nat}{x:Option Addr}{n0 c0 i:Nat}{p:Option Addr}{cn:Nat}{ns:List ByteArray}{f low:Nat}(h:Sc w0 y w sb v x n0 c0 i p cn ns f low){r d:World}{g b:Nat}{s:ByteArray}(j:Below w.heap.size w r)(yR:d.ownsRow (sb+1) 9 1 (.slice (some ⟨g,0,none⟩) (ns.length+1) b) (ns.length+1) (ns.flatMap Q0.cells++[.string s]))
 (l:r.grownBy d (Value.slice p ns.length cn).ownBlock) (z:(Value.slice p ns.length cn).ownBlock=some g\/g=r.heap.size) (hs:s.size<=22) (A:ns.length+1<=100):
 Sc w0 (d.setCell ⟨sb,1,none⟩ (.slice (some ⟨g,0,none⟩) (ns.length+1) b)) (d.setCell ⟨sb,1,none⟩ (.slice (some ⟨g,0,none⟩) (ns.length+1) b)) sb v x n0 c0 i (some ⟨g,0,none⟩) b (ns++[s]) f low:=by
 have xm:=h.s;have m:=h.row.below j;have n: ∀k,(Value.slice p ns.length cn).ownBlock=some k->sb<k:=λk e=>by have:=(m.1.lt k e).1;omega
 have o: ∀k,k<=sb->d.heap[k]?=w.heap[k]?:=λk B=>(l.block k (by have:=j.size;omega) (λe=>by have:=n k e.symm;omega)).trans (j.block k (by omega));have a:=I7 d sb 1 (.slice (some ⟨g,0,none⟩) (ns.length+1) b);have c:(ns++[s]).length=ns.length+1:=by simp
 have C:jH Q0 d (sb+1) 9 1 (.slice (some ⟨g,0,none⟩) (ns.length+1) b) (ns++[s]):=
  ⟨by simpa[Q0]using yR,λ_ _=>trivial⟩
 have u:w.heap.size<=d.heap.size:=B5 j.size l.size
 refine h.jC (by rw[c];simpa using y4 d sb 1 _ _ (.slice (some ⟨g,0,none⟩) (ns.length+1) b) ((o sb (x6 _)).trans h.yr)) (λk B=>(a.block k (by omega) (by simp;omega)).trans (o k (by omega))) (B5 u a.size)
  (a.os.trans (l.os.trans j.os)) (a.tape.trans (l.tape.trans j.tape)) (a.output.trans (l.output.trans j.output)) (by rw[c];exact C.kept a (λk e=>.inl (by cases e;omega))) (λt D=>by
   rcases List.mem_append.1 D with q|q
   ·exact h.sz t q
   ·simp at q;subst q;exact hs) (by rw[c];exact A) h.m1 h.l1
theorem Sc.frz{w0 b w:World}{sb c:Nat}{d:Option Addr}{n0 c0 i:Nat}{e:Option Addr}{cn:Nat}{ns:List ByteArray}{a low:Nat}(h:Sc w0 b w sb c d n0 c0 i e cn ns a low):w.frozen? ⟨sb,1,none⟩=false/\w.frozen? ⟨sb,2,none⟩=false:=⟨z6 h.yr 1,z6 h.yr 2⟩
theorem zcD:S1 prog 82 9 1:=⟨underlying82,by kernel_rfl,by decide⟩
def JG(w0:World)(sb j:Nat)(k:Option Addr)(n0 c0:Nat)(ns:List ByteArray)(a low d i:Nat)(e:Ending)(w':World):Prop:=
 ∃(t:ByteArray)(b:List ByteArray)(c h:Nat)(f:Option Addr)(g:Nat),e=.returned (.string t)/\t.size<=1295000/\c<=a+mkS d/\b.length<=ns.length+1/\Hid (Y1 n0 low d ⟨ns,a,i⟩ t ⟨b,c,h⟩)/\Sc w0 w' w' sb j k n0 c0 h f g b c low
def ZM(d:Nat):Prop:=
 ∀{w0 j w:World}{sb e:Nat}{f:Option Addr}{g h i:Nat}{k:Option Addr}{l:Nat}{c:List ByteArray}{a b:Nat},Sc w0 j w sb e f g h i k l c a b->a+mkS d<=900000->c.length+1+3*d<=90->Calls prog 61 #[.pointer (some ⟨sb,0,none⟩),.int .i64 d] w (JG w0 sb e f g h c a b d i)
theorem zbV{w0 l w':World}{sb h:Nat}{j:Option Addr}{n0 c0 i:Nat}{ns:List ByteArray}{a low:Nat}{d f g:Nat}{t:ByteArray}{b:List ByteArray}{c:Option Addr}{e:Nat}(m:d<=3)(n:low<=2)(o:xq ns)(u:a+mkS d<=900000)(k:Y1 n0 low d ⟨ns,a,i⟩ t ⟨b,g,f⟩)(p:Sc w0 l w' sb h j n0 c0 f c e b g low):
 JG w0 sb h j n0 c0 ns a low d i (.returned (.string t)) w':=by
 obtain⟨v,q,r,w,s⟩:=k.bd m n o (by simp only;omega);exact⟨t,b,g,f,c,e,rfl,r,q,s,zh k,p.zQ⟩
def xc(w0:World)(sb h:Nat)(j:Option Addr)(n0 c0:Nat)(ns:List ByteArray)(a low d i:Nat)(e:Ending)(w':World):Prop:=
 ∃(t:ByteArray)(b g:Nat)(c:Option Addr)(f:Nat),e=.returned (.string t)/\t.size<=3885000/\b<=a+QA d/\Hid (JM n0 low d ⟨ns,a,i⟩ t ⟨ns,b,g⟩)/\Sc w0 w' w' sb h j n0 c0 g c f ns b low
def yX(d:Nat):Prop:=
 ∀{w0 j w:World}{sb e:Nat}{f:Option Addr}{g h i:Nat}{k:Option Addr}{l:Nat}{c:List ByteArray}{a b:Nat},Sc w0 j w sb e f g h i k l c a b->a+QA d<=900000->c.length+3*(d+1)<=90->Calls prog 31 #[.pointer (some ⟨sb,0,none⟩),.int .i64 d] w (xc w0 sb e f g h c a b d i)
theorem ziJ{a:Nat}(h:a<=22): ¬9223372036854775807<a+3:=by omega
theorem ziQ{a b:Nat}(h:a<=22)(c:b<=6000): ¬9223372036854775807<a+3+b/\ ¬9223372036854775807<a+3+b+2:=by omega
theorem XR: ∀d:Nat,d<=2->zcT d
 |0,_=>QN 0 (by decide) (by omega)
 |d+1,h=>QN (d+1) h (λ_=>XR d (by omega))
theorem zcc{d:Nat}(h:1<=d):mkS d=1+2*QA (d-1):=by
 obtain⟨d,rfl⟩: ∃e,d=e+1:=⟨d-1,by omega⟩;rfl
theorem zcd{w0 j w:World}{sb l:Nat}{m:Option Addr}{n0 c0 i:Nat}{d:Option Addr}{cn:Nat}{ns:List ByteArray}{b low:Nat}{f:World}{n:Obj}(h:Sc w0 j w sb l m n0 c0 i d cn ns b low)(o:(w.alloc n).grownBy f (Value.slice d ns.length cn).ownBlock):f.cell? ⟨sb,1,none⟩=some (.slice d ns.length cn)/\f.frozen? ⟨sb,1,none⟩=false:=by
 have p:=h.s;have c: ∀k,(Value.slice d ns.length cn).ownBlock=some k->sb<k:=λk e=>by have:=(h.row.1.lt k e).1;omega
 have g:f.heap[sb]?=w.heap[sb]?:=(o.block sb (by simp;omega) (λe=>by have:=c sb e.symm;omega)).trans (B8 w _ p);exact⟨(E0 (a:=⟨sb,1,none⟩) g).trans h.c0.2.1,(World.frozen?_of_block (a:=⟨sb,1,none⟩) g).trans h.frz.1⟩
theorem zb1(v:ByteArray)(x:Int){w0 w:World}{sb g:Nat}{j:Option Addr}{n0 c0:Nat}{ns:List ByteArray}{a low d i:Nat}(h:Calls prog 31 #[.pointer (some ⟨sb,0,none⟩),.int .i64 x] w (xc w0 sb g j n0 c0 ns a low d i)):Calls prog 105 #[.pointer (some ⟨sb,0,none⟩),.string v,.int .i64 x] w (xc w0 sb g j n0 c0 ns a low d i):=by
 have H:=zh h;clear h
 go_enter func105,ntmps105
 go_wp2_with fail
 refine H.out.mono ?_;rintro e q ⟨t,n,o,b,c,rfl,p,k,l,m⟩;have f:=zh (And.intro k (And.intro l m));clear k l m
 go_wp2_with fail
 go_ret;exact⟨t,n,o,b,c,rfl,p,f.out.1,f.out.2.1,f.out.2.2⟩
theorem QS(d:Nat)(hd:d<=3)(ih:1<=d->yX (d-1)):ZM d:=by
 intro w0 I w sb F G u H i J K q j p h hm b1;have IH:1<=d-> ∀{w0 I w:World}{sb F:Nat}{G:Option Addr}{u H i:Nat}{J:Option Addr}{K:Nat}{q:List ByteArray}{j p:Nat},Sc w0 I w sb F G u H i J K q j p->j+QA (d-1)<=900000->q.length+3*d<=90->Calls prog 31 #[.pointer (some ⟨sb,0,none⟩),.int .i64 ((d:Int)-1)] w (xc w0 sb F G u H q j p (d-1) i):=by
  intro h1 w0 I w sb F G u H i J K q j p h h2 h3;have:=ih h1 h h2 (by omega);rw[show((d-1:Nat):Int)=(d:Int)-1 by omega]at this;exact this
 have a7:=zh IH;have l:=zh h;have HN:Hid (∀{w0 I w:World}{sb F:Nat}{G:Option Addr}{u H i:Nat}{J:Option Addr}{K:Nat}{q:List ByteArray}{j p:Nat},Sc w0 I w sb F G u H i J K q j p->Calls prog 32 #[.pointer (some ⟨sb,0,none⟩),.int .i64 2] w (YH w0 I sb F G u H J K q j p 2 i)):=zh (yj 2 (by decide));have d3:Hid (∀{w0 I w:World}{sb F:Nat}{G:Option Addr}{u H i:Nat}{J:Option Addr}{K:Nat}{q:List ByteArray}{j p:Nat},Sc w0 I w sb F G u H i J K q j p->Calls prog 32 #[.pointer (some ⟨sb,0,none⟩),.int .i64 1] w (YH w0 I sb F G u H J K q j p 1 i)):=zh (yj 1 (by decide));have d4:Hid (∀{w0 I w:World}{sb F:Nat}{G:Option Addr}{u H i:Nat}{J:Option Addr}{K:Nat}{q:List ByteArray}{j p:Nat},Sc w0 I w sb F G u H i J K q j p->Calls prog 104 #[.pointer (some ⟨sb,0,none⟩),.int .i64 2] w (YY w0 I sb F G u H J K q j p 2 i)):=zh (XR 2 (by decide));have HR:Hid (∀{d5 w':World}{i' m':Nat}{t:ByteArray}{b2:List ByteArray}{d6:Option Addr}{d7:Nat},Y1 u p d ⟨q,j,i⟩ t ⟨b2,m',i'⟩->Sc w0 d5 w' sb F G u H i' d6 d7 b2 m' p->JG w0 sb F G u H q j p d i (.returned (.string t)) w'):=zh (λhA m=>zbV hd m.l1 h.sz hm hA m);clear IH ih;obtain⟨n,z,r,A⟩:=h.c0;have g3:=h.l1;have HM:=zh hm;have HL:=zh b1;clear h hm b1
 go_enter func61,ntmps61
 go_wp2_with fail
 refine(JX 8 (by decide) (by decide) l.out).mono ?_;rintro e w1 ⟨k,i1,rfl,g4,T,m⟩;replace T:=zh T;replace l:=zh m;clear m n z r A;obtain⟨n,z,r,A⟩:=l.out.c0
 by_cases hv:k=0/\0<q.length
 ·obtain⟨rfl,hn⟩:=hv
  obtain⟨g,rfl⟩:=l.out.arr hn;have g5:(0:Int)<(q.length:Int):=by omega
  have g6:=l.out.nl;have e4:(1:Int)<=(q.length:Int):=by omega
  have e5:(q.length:Int)<=4000000000:=by omega
  have e6:=zh l.out.sz
  go_upto_region 3 with(fail)
  have e7:=l.out.dr
  go_region_law(first|(go_simp;first
   |(go_at_call 29;refine(JX _ e4 e5 e7).mono ?_;rintro e w8 ⟨k2,i2,rfl,b3,a8,U⟩;obtain⟨s8,V⟩:=zai q k2 b3;have d8:=U.K3 k2 s8 V;have e8:=zh U;have b4:=zh V;replace a8:=zh a8;obtain⟨e0,e1,e2,e3⟩:=U.c0;have g7:=nn k2;have z8:=e6.out s8 (B0 V);have f8:=ziJ z8;clear V U)
   |(go_at_call 32;refine(HN.out e8.out).mono ?_;rintro e w9 ⟨s9,i9,rfl,e9,f0,X⟩;have d9:=X.K3 k2 s8 b4.out;obtain⟨y0,y1,y2,y3⟩:=X.c0;have b5:=zh X;have f9:=ziQ z8 e9;clear X)))
  all_goals
   go_wp2_with fail
   go_ret;exact HR.out (.set T.out a8.out b4.out f0.out) (by first|exact b5.out|exact b5.out.dr)
 by_cases hk:k=1
 ·subst hk
  clear hv
  go_wp2_with fail
  refine(HN.out l.out).mono ?_;rintro e Y ⟨s2,i2,rfl,B,o,m⟩;replace l:=zh m;clear m
  go_wp2_with fail
  go_ret;exact HR.out (.qH T.out (by decide) o.out) l.out
 have HV:=zh hv;clear hv
 by_cases L:k=2/\1<=d
 ·obtain⟨rfl,C⟩:=L
  clear hk HV;have b6:(1:Int)<=(d:Int):=by omega
  have b7:(0:Int)<(d:Int):=by omega
  have b8:=zcc C;have Z:=zh b8;clear b8
  go_wp2_with fail
  refine(d4.out l.out).mono ?_;rintro e Y ⟨s2,i2,rfl,B,o,m⟩;replace l:=zh m;clear m
  go_wp2_with fail
  refine(a7.out C l.out (by have:=HM.out;have:=Z.out;omega) (by have:=HL.out;omega)).mono ?_;rintro e w3 ⟨s3,m3,i3,g8,g9,rfl,b9,c4,c5,m⟩;replace l:=zh m;clear m;have f1:=zh c4;clear c4
  go_wp2_with fail
  refine(a7.out C l.out (by have:=HM.out;have:=Z.out;have:=f1.out;omega) (by have:=HL.out;omega)).mono ?_;rintro e w4 ⟨s4,m4,i4,h0,h4,rfl,a5,f2,c6,m⟩;replace l:=zh m;clear m f2
  go_wp2_with fail
  go_ret;exact HR.out (.Qc T.out (by decide) C o.out c5.out c6.out) l.out
 by_cases a0:k=3/\1<=d
 ·obtain⟨rfl,C⟩:=a0
  clear hk HV L;have b6:(1:Int)<=(d:Int):=by omega
  have b7:(0:Int)<(d:Int):=by omega
  have Z:=zh (zcc C);have c7:j<=900000:=by have:=HM.out;omega
  have a6:(j:Int)<=900000:=by omega
  obtain⟨q1,q2⟩:=l.out.frz
  go_upto_region 10 with(fail)
  replace l:=zh (l.out.zgM (by omega));clear n z r A q1 q2;generalize w1.setCell _ _=Y at l|-
  obtain⟨n,z,r,A⟩:=l.out.c0;have M:Y.cell? ⟨sb,2,none⟩=some (.int .i64 ((j:Int)+1)):=r;clear r
  go_wp2_with fail
  refine(qM (j+1) (by omega) l.out).mono ?_;rintro e w3 ⟨s3,rfl,c8,b9,m⟩;replace l:=zh m;clear m n z M A;obtain⟨n,z,r,A⟩:=l.out.c0
  go_upto_region 11 with(fail)
  obtain⟨v3,a1⟩: ∃v:ByteArray,(⟨#[105]⟩:ByteArray)++s3=v:=⟨_,rfl⟩;have a2:v3.size<=22:=by rw[<-a1];simp only[B7,O8,D4,y6,y9];omega
  have f3:Hid (v3=iT (j+1)):=zh (by rw[<-a1,c8.out];rfl);simp only[a1];clear a1
  go_wp2_with fail
  refine(JX 4 (by decide) (by decide) l.out).mono ?_;rintro e w4 ⟨k4,i4,rfl,a3,a9,m⟩;replace l:=zh m;replace a9:=zh a9;clear m
  go_wp2_with fail
  refine(qM k4 (by omega) l.out).mono ?_;rintro e w5 ⟨s5,rfl,c9,g1,m⟩;replace l:=zh m;clear m
  go_wp2_with fail
  refine(zb1 v3 ((d:Int)-1) (a7.out C l.out (by have:=HM.out;have:=Z.out;omega) (by have:=HL.out;omega))).mono ?_;rintro e w6 ⟨s6,m6,i6,h7,h8,rfl,g2,f4,d0,m⟩;replace l:=zh m;clear m f4
  go_wp2_with fail
  go_ret;exact HR.out (.qv T.out (by decide) C a9.out f3.out c9.out d0.out) l.out
 by_cases a3:k=4
 ·subst a3
  clear hk HV L a0
  go_wp2_with fail
  refine(HN.out l.out).mono ?_;rintro e Y ⟨s2,i2,rfl,B,o,m⟩;replace l:=zh m;clear m
  go_wp2_with fail
  go_ret;exact HR.out (.run T.out (by decide) o.out) l.out
 by_cases d1:k=5
 ·subst d1
  clear hk HV L a0 a3
  go_wp2_with fail
  refine(JX 8 (by decide) (by decide) l.out).mono ?_;rintro e w9 ⟨k9,i9,rfl,i0,a4,m⟩;replace l:=zh m;replace a4:=zh a4;clear m n z r A
  by_cases h9:k9=0
  ·subst h9
   go_wp2_with fail
   refine(d3.out l.out).mono ?_;rintro e Y ⟨s2,i2,rfl,B,o,m⟩;replace l:=zh m;clear m
   go_wp2_with fail
   go_ret;exact HR.out (.ret T.out (by decide) a4.out o.out) l.out
  have i5:((k9:Int)==0)=false:=beq_eq_false_iff_ne.2 (by omega)
  skip
  ·skip
   replace l:=zh l.out.zQ;have c7:j<=900000:=by have:=HM.out;omega
   have a6:(j:Int)<=900000:=by omega
   go_wp2_with fail
   refine(HN.out l.out).mono ?_;rintro e Y ⟨s2,i2,rfl,B,o,m⟩;replace l:=zh m;clear m;obtain⟨n,z,r,A⟩:=l.out.c0;obtain⟨q1,q2⟩:=l.out.frz
   go_upto_region 18 with(fail)
   replace l:=zh (l.out.zgM (by omega));clear n z r A q1 q2;generalize Y.setCell _ _=w3 at l|-
   obtain⟨n,z,r,A⟩:=l.out.c0;have M:w3.cell? ⟨sb,2,none⟩=some (.int .i64 ((j:Int)+1)):=r;clear r
   go_wp2_with fail
   refine(qM (j+1) (by omega) l.out).mono ?_;rintro e w4 ⟨s4,rfl,N,a5,m⟩;replace l:=zh m;clear m n z M A;obtain⟨n,z,r,A⟩:=l.out.c0
   go_upto_region 19 with(fail)
   obtain⟨O,x⟩: ∃v:ByteArray,(⟨#[118]⟩:ByteArray)++s4=v:=⟨_,rfl⟩;have a2:O.size<=22:=by rw[<-x];simp only[B7,O8,D4,y6,y9];omega
   have b0:Hid (O=vT (j+1)):=zh (by rw[<-x,N.out];rfl);simp only[x];clear x;have f5:=l.out.s;have P:=zh (l.out.row.below ((x7 _ _).alloc (x6 _) (.cells #[.string O] 9)));have Q:Hid (q.length+1<=100):=zh (by have:=HL.out;omega);have D:=x9 w4 (.cells #[.string O] 9);have HB:=zh D;clear D;obtain⟨q1,q2⟩:=l.out.frz
   go_wp2_with(at_builtin;go_must(refine L6 zcD rfl _ _ rfl (sb+1) _ q.length (q.flatMap Q0.cells) rfl P.out.1 w4.heap.size 1 #[.string O] rfl HB.out rfl (by simp[Value.oneCell']) (by have:=Q.out;omega) (by simp;omega) ?_);intro g f6 w5 E R S f7;have y:=zh (And.intro E (And.intro R S));have qs:=zcd l.out y.out.2.1;clear E R S)
   go_ret;exact HR.out (.bind (T.out.mv2 a4.out) o.out b0.out) (l.out.U7 ((x7 _ _).alloc (x6 _) _) y.out.1 y.out.2.1 y.out.2.2 a2 Q.out)
 have hq:(k=0/\q.length=0)\/(k=2/\d=0)\/(k=3/\d=0)\/(((k:Int)==0)=false/\((k:Int)==1)=false/\((k:Int)==2)=false/\((k:Int)==3)=false/\((k:Int)==4)=false/\((k:Int)==5)=false):=by
  have hv:=HV.out
  by_cases h6:k<6
  ·omega
  ·refine .inr (.inr (.inr ⟨?_,?_,?_,?_,?_,?_⟩))<;>exact beq_eq_false_iff_ne.2 (by omega)
 clear hk HV L a0 a3 d1;have HQ:Hid (i<i1/\i1<=u\/i=u/\i1=u):=zh T.out.mv;have d2:(k=0/\q.length=0)\/(k=2/\d=0)\/(k=3/\d=0)\/5<k:=by
  rcases hq with h|h|h|h
  ·exact .inl h
  ·exact .inr (.inl h)
  ·exact .inr (.inr (.inl h))
  ·have:=h.1
   obtain⟨a,b,c,d,e,f⟩:=h;rw[y8]at a b c d e f;omega
 have g0:=zh d2;clear d2 hq
 go_upto_block 0 with(fail)
 go_cut[] (λW=>W=w1)
 case first=>
  rcases g0.out with⟨rfl,hn⟩|⟨rfl,rfl⟩|⟨rfl,rfl⟩|h5
  ·have i7:(q.length:Int)<=0:=by omega
   go_wp2_with fail
   go_meet
   case rel=>rfl
  ·go_wp2_with fail
   go_meet
   case rel=>rfl
  ·go_wp2_with fail
   go_meet
   case rel=>rfl
  ·have i8:(5:Int)<(k:Int):=by omega
   go_wp2_with fail
   go_meet
   case rel=>rfl
 case rest=>
  subst hcut
  skip
  ·skip
   replace l:=zh l.out.zQ;have c7:j<=900000:=by have:=HM.out;omega
   have a6:(j:Int)<=900000:=by omega
   go_wp2_with fail
   refine(HN.out l.out).mono ?_;rintro e Y ⟨s2,i2,rfl,B,o,m⟩;replace l:=zh m;clear m;obtain⟨n,z,r,A⟩:=l.out.c0;obtain⟨q1,q2⟩:=l.out.frz
   go_upto_region 18 with(fail)
   replace l:=zh (l.out.zgM (by omega));clear n z r A q1 q2;generalize Y.setCell _ _=w3 at l|-
   obtain⟨n,z,r,A⟩:=l.out.c0;have M:w3.cell? ⟨sb,2,none⟩=some (.int .i64 ((j:Int)+1)):=r;clear r
   go_wp2_with fail
   refine(qM (j+1) (by omega) l.out).mono ?_;rintro e w4 ⟨s4,rfl,N,a5,m⟩;replace l:=zh m;clear m n z M A;obtain⟨n,z,r,A⟩:=l.out.c0
   go_upto_region 19 with(fail)
   obtain⟨O,x⟩: ∃v:ByteArray,(⟨#[118]⟩:ByteArray)++s4=v:=⟨_,rfl⟩;have a2:O.size<=22:=by rw[<-x];simp only[B7,O8,D4,y6,y9];omega
   have b0:Hid (O=vT (j+1)):=zh (by rw[<-x,N.out];rfl);simp only[x];clear x;have f5:=l.out.s;have P:=zh (l.out.row.below ((x7 _ _).alloc (x6 _) (.cells #[.string O] 9)));have Q:Hid (q.length+1<=100):=zh (by have:=HL.out;omega);have D:=x9 w4 (.cells #[.string O] 9);have HB:=zh D;clear D;obtain⟨q1,q2⟩:=l.out.frz
   go_wp2_with(at_builtin;go_must(refine L6 zcD rfl _ _ rfl (sb+1) _ q.length (q.flatMap Q0.cells) rfl P.out.1 w4.heap.size 1 #[.string O] rfl HB.out rfl (by simp[Value.oneCell']) (by have:=Q.out;omega) (by simp;omega) ?_);intro g f6 w5 E R S f7;have y:=zh (And.intro E (And.intro R S));have qs:=zcd l.out y.out.2.1;clear E R S)
   go_ret;exact HR.out (.bind HQ.out o.out b0.out) (l.out.U7 ((x7 _ _).alloc (x6 _) _) y.out.1 y.out.2.1 y.out.2.2 a2 Q.out)
theorem jH.yK{E:xC ByteArray}{w:World}{base T a:Nat}{A:Option Addr}{c:Nat}{l:List ByteArray}(h:jH E w base T a (.slice A l.length c) l):(l.length:Int)<=(c:Int):=by
 rcases h.1.2 with⟨e,b⟩|⟨g,d,f,e,i,j,k,m,n,o⟩
 ·omega
 ·injection e with p b q
  omega
def zat(w0:World)(sb h:Nat)(i:Option Addr)(n0 c0:Nat)(ns:List ByteArray)(a low d j k:Nat)(t:ByteArray)(W:World):Prop:=
 ∃(b:List ByteArray)(f g:Nat)(c:Option Addr)(e:Nat),ZW n0 low d k ⟨ns,a,j⟩ t ⟨b,f,g⟩/\Sc w0 W W sb h i n0 c0 g c e b f low
theorem zat.bd{w0:World}{sb c:Nat}{e:Option Addr}{n0 c0:Nat}{ns:List ByteArray}{a low d f b:Nat}{t:ByteArray}{W:World}(h:zat w0 sb c e n0 c0 ns a low d f b t W)(g:b<=3)(i:d<=3)(j:xq ns)(p:a+QA d<=900000):t.size<=3885000:=by
 obtain⟨k,q,r,l,m,n,o⟩:=h;exact(n.bd g i o.l1 j (by simp only;omega)).2.2.1
theorem ZQ(d:Nat)(x:d<=3)(y:ZM d):yX d:=by
 intro w0 wv w sb z A B C i N O ns a k h hm m;have P:Hid (∀{w0 wv w:World}{sb z:Nat}{A:Option Addr}{B C i:Nat}{N:Option Addr}{O:Nat}{ns:List ByteArray}{a k:Nat},Sc w0 wv w sb z A B C i N O ns a k->a+mkS d<=900000->ns.length+1+3*d<=90->Calls prog 61 #[.pointer (some ⟨sb,0,none⟩),.int .i64 d] w (JG w0 sb z A B C ns a k d i)):=zh y;have D:=zh h;obtain⟨Q,c1,c2,c3⟩:=h.c0;have R:=h.l1;have n:=zh h.sz;have v:=zh hm;have HL:=zh m;clear h hm m y
 go_enter func31,ntmps31
 go_wp2_with fail
 refine(JX 4 (by decide) (by decide) D.out).mono ?_;rintro e w1 ⟨j,S,rfl,a8,T,f⟩;replace T:=zh T;replace D:=zh f.zQ;clear f Q c1 c2 c3
 go_wp2_with fail
 go_loopw[6,17] (λo c wr=> ∃(g:Nat)(t:ByteArray),o=.string t/\c=.int .i64 g/\g<=j/\Hid (zat w0 sb z A B C ns a k d S g t wr))
  (λ_ c _=>(4-intOf c).toNat)
 case atStart=>exact⟨0,⟨#[]⟩,rfl,rfl,C6 _,zh ⟨ns,a,S,N,O,.nil _,D.out⟩⟩
 case round=>
  obtain⟨g,t,rfl,rfl,a9,b⟩:=hrel
  by_cases U:g<j
  ·have a6:(g:Int)<(j:Int):=by omega
   have V:=b.out.bd (by omega) x n.out v.out;obtain⟨p,m',i',E,F,q,f⟩:=b.out;have W:=zh q;obtain⟨X,K,Y,Z,L,M⟩:=q.bd (show g<=3 by omega) x f.l1 n.out (by have:=v.out;simp only;omega);have HB:=zh (And.intro K (And.intro L M));have G:=zh f;clear q f X K Y Z L M b D
   go_wp2_with fail
   refine(P.out G.out (by
    have h1:=HB.out.1;have h2:=v.out;have h3:=zg0 d;have h4:g*mkS d<=2*mkS d:=F9 _ (by omega);omega) (by have:=HB.out.2.1;have:=HL.out;omega)).mono ?_
   rintro e w2 ⟨u,a0,m2,i2,a1,a2,rfl,b0,a3,a4,a5,f⟩;have r:=zh f;clear f a3 a4 G;have b:Hid (zat w0 sb z A B C ns a k d S (g+1) (t++u) w2):=zh ⟨a0,m2,i2,a1,a2,W.out.jB a5.out,r.out⟩
   go_wp2_with fail
   go_roundw
   case rel=>exact⟨g+1,t++u,rfl,by go_num,U,b⟩
   case measure=>simp[intOf];omega
  ·obtain rfl:g=j:=by omega
   obtain⟨p,m',i',E,F,q,f⟩:=b.out;have V:=b.out.bd (by omega) x n.out v.out;obtain⟨X,K,Y,Z,L,M⟩:=q.bd (show g<=3 by omega) x f.l1 n.out (by have:=v.out;simp only;omega);obtain⟨l,H⟩:=M;have m:ns.length<=p.length:=by simp only at H;rw[H];simp
   have I:p.take ns.length=ns:=by simp only at H;rw[H];simp
   have W:=zh q;have r:=zh (f.zi4 ns.length ns I m);obtain⟨d0,d1,d2,d3⟩:=f.c0;obtain⟨q1,q2⟩:=f.frz;have k0:(ns.length:Int)<=(p.length:Int):=by omega
   have k1:(0:Int)<=(ns.length:Int):=by omega
   have a7:=f.row.yK;clear q f X K Y Z L H I b D m
   go_wp2_with fail
   go_ret;have hb:=(ZW.J7 (s:=⟨ns,a,i⟩) T.out W.out);have J:=hb.bd x R n.out (by have:=v.out;simp only;omega);exact⟨t,m',i',E,F,rfl,J.2.2.1,J.2.1,zh hb,r.out⟩
def Zm(N j i:Nat)(t:ByteArray)(b c:Nat):Prop:= ∃a:List (GL×GE),t=jM 0 a/\jR N j i a b c
theorem Zm.jB{N j i c d e f i3:Nat}{t a b z:ByteArray}(h:Zm N j i t c d)(l:z=jo j)(m:JM N j 2 ⟨pq,c,d⟩ a ⟨pq,e,f⟩)(n:zk N pq j 2 f b i3):
 Zm N (j+1) i (t++(⟨#[102,117,110,32,102]⟩++z++⟨#[40,112,58,32,105,110,116,44,32,113,58,32,105,110,116,41,58,32,105,110,116,32,123,32]⟩++a++⟨#[114,101,116,117,114,110,32]⟩++b++⟨#[59,32,125,10]⟩)) e i3:=by
 obtain⟨q,rfl,k⟩:=h;obtain⟨g,rfl,o⟩:=m;obtain⟨x,rfl,p⟩:=n;subst l;refine⟨_,?_,.jB k o p⟩;rw[ZD,k.xy,Nat.zero_add];rfl
theorem Zm.zgO{N k c d e i f j:Nat}{t a b:ByteArray}(l:N<=60)(m:Nx N 3 0 k c)(h:Zm N k c t d e)(n:JM N k 3 ⟨[],d,e⟩ a ⟨[],i,f⟩)(o:zk N [] k 2 f b j):
 qV k N (t++⟨#[102,117,110,32,109,97,105,110,40,41,58,32,105,110,116,32,123,32]⟩++a++⟨#[114,101,116,117,114,110,32]⟩++b++⟨#[59,32,125]⟩):=by
 obtain⟨p,rfl,q⟩:=h;obtain⟨g,rfl,r⟩:=n;obtain⟨x,rfl,s⟩:=o;exact⟨p,g,x,c,d,e,i,f,j,l,m,q,r,s,rfl⟩
theorem zgk(A:Option Addr)(n c:Nat)(w:World):Calls prog 28 #[.slice A n c] w λe w'=>e=.returned (.pointer (some ⟨w.heap.size,0,none⟩))/\w'=w.alloc (.cells #[.slice A n c,.int .i64 0] 131):=by
 go_enter func28,ntmps28
 go_wp2_with fail
 go_ret;exact⟨rfl,rfl⟩
theorem Sc.start{w:World}{c:Option Addr}{n0 c0:Nat}(d:R8 w)(h: ∀j,j<n0-> ∃g b v,c=some ⟨g,b,none⟩/\g<w.heap.size/\w.cell? ⟨g,b+j,none⟩=some (.int .i64 v))(i:n0<=60):
 Sc w ((w.alloc (.cells #[.slice c n0 c0,.int .i64 0] 131)).alloc (.cells #[.pointer (some ⟨w.heap.size,0,none⟩),.slice none 0 0,.int .i64 0,.int .i64 0] 84))
  ((w.alloc (.cells #[.slice c n0 c0,.int .i64 0] 131)).alloc (.cells #[.pointer (some ⟨w.heap.size,0,none⟩),.slice none 0 0,.int .i64 0,.int .i64 0] 84)) (w.heap.size+1) w.heap.size c n0 c0 0 none 0 [] 0 0:=by
 have l: ∀k,k<w.heap.size->((w.alloc (.cells #[.slice c n0 c0,.int .i64 0] 131)).alloc (.cells #[.pointer (some ⟨w.heap.size,0,none⟩),.slice none 0 0,.int .i64 0,.int .i64 0] 84)).heap[k]?=w.heap[k]?:=λk m=>
  (B8 _ _ (by simp;omega)).trans (B8 w _ m)
 have e:=((x7 w.heap.size w).alloc (x6 _) (.cells #[.slice c n0 c0,.int .i64 0] 131)).alloc (by simp) (.cells #[.pointer (some ⟨w.heap.size,0,none⟩),.slice none 0 0,.int .i64 0,.int .i64 0] 84);refine⟨by simpa using x9 (w.alloc (.cells #[.slice c n0 c0,.int .i64 0] 131)) (.cells #[.pointer (some ⟨w.heap.size,0,none⟩),.slice none 0 0,.int .i64 0,.int .i64 0] 84),(B8 _ _ (by simp)).trans (x9 w _),λj n=>?_,jH.nil _ _ _ _ _,by intro s o;simp at o,by simp,C6 _,i,by omega,by omega,d.Qz,by omega,by simp,d.to e,e,J5 (x7 _ _) _⟩;obtain⟨g,b,v,p,f,q⟩:=h j n;exact⟨g,b,v,p,f,(E0 (a:=⟨g,b+j,none⟩) (l g f)).trans q⟩
theorem Sc.zi1{w0 u w:World}{sb m:Nat}{n:Option Addr}{n0 c0 i:Nat}{v:Option Addr}{cn:Nat}{ns:List ByteArray}{b low:Nat}(h:Sc w0 u w sb m n n0 c0 i v cn ns b low)(j:Nat)(x:j<=2){W:World}(y:W=((w.setCell ⟨sb,1,none⟩ (.slice (some ⟨w.heap.size,0,none⟩) 2 2)).setCell ⟨sb,3,none⟩ (.int .i64 j)).alloc (.cells #[.string ⟨#[112]⟩,.string ⟨#[113]⟩] 9)):
 Sc w0 W W sb m n n0 c0 i (some ⟨w.heap.size,0,none⟩) 2 pq b j:=by
 subst y;have z:=h.s;have A:=h.q;have d:=I7 w sb 1 (.slice (some ⟨w.heap.size,0,none⟩) 2 2);have o:=y4 w sb 1 _ _ (.slice (some ⟨w.heap.size,0,none⟩) 2 2) h.yr;have p:(w.setCell ⟨sb,1,none⟩ (.slice (some ⟨w.heap.size,0,none⟩) 2 2)).heap.size=w.heap.size:=by simp
 generalize w.setCell ⟨sb,1,none⟩ (.slice (some ⟨w.heap.size,0,none⟩) 2 2)=e at d o p|-
 have f:=I7 e sb 3 (.int .i64 j);have r:=y4 e sb 3 _ _ (.int .i64 j) o;have t:(e.setCell ⟨sb,3,none⟩ (.int .i64 j)).heap.size=e.heap.size:=by simp
 generalize e.setCell ⟨sb,3,none⟩ (.int .i64 j)=g at f r t|-
 have c:=(x7 g.heap.size g).alloc (x6 _) (.cells #[.string ⟨#[112]⟩,.string ⟨#[113]⟩] 9);have l:=x9 g (.cells #[.string ⟨#[112]⟩,.string ⟨#[113]⟩] 9);rw[t,p]at l;generalize g.alloc (.cells #[.string ⟨#[112]⟩,.string ⟨#[113]⟩] 9)=B at c l|-
 have C:=c.size;refine h.jC (by simpa[pq]using(c.block sb (by omega)).trans r) (λk D=>(c.block k (by omega)).trans ((f.block k (by omega) (by simp;omega)).trans (d.block k (by omega) (by simp;omega)))) (by omega) (c.os.trans (f.os.trans d.os)) (c.tape.trans (f.tape.trans d.tape)) (c.output.trans (f.output.trans d.output)) ?_ zeC (by decide) h.m1 x;exact⟨⟨rfl,.inr ⟨w.heap.size,2,_,rfl,by omega,l,by decide,by decide,rfl,rfl⟩⟩,λa _=>trivial⟩
theorem Sc.zi2{w0 n w:World}{sb e:Nat}{f:Option Addr}{n0 c0 i:Nat}{o:Option Addr}{cn:Nat}{ns:List ByteArray}{a low:Nat}(h:Sc w0 n w sb e f n0 c0 i o cn ns a low)(j:Nat)(p:j<=2){W:World}(r:W=(w.setCell ⟨sb,1,none⟩ (.slice none 0 0)).setCell ⟨sb,3,none⟩ (.int .i64 j)):
 Sc w0 W W sb e f n0 c0 i none 0 [] a j:=by
 subst r;have g:=h.s;have u:=h.q;have b:=I7 w sb 1 (.slice none 0 0);have l:=y4 w sb 1 _ _ (.slice none 0 0) h.yr;generalize w.setCell ⟨sb,1,none⟩ (.slice none 0 0)=d at b l|-
 have c:=I7 d sb 3 (.int .i64 j);have m:=y4 d sb 3 _ _ (.int .i64 j) l;generalize d.setCell ⟨sb,3,none⟩ (.int .i64 j)=v at c m|-
 have t:=b.size;exact h.jC (by simpa using m) (λk x=>(c.block k (by omega) (by simp;omega)).trans (b.block k (by omega) (by simp;omega))) (by have:=c.size;omega) (c.os.trans b.os) (c.tape.trans b.tape) (c.output.trans b.output) (jH.nil _ _ _ _ _) (by intro s g;simp at g) (by decide) h.m1 p
theorem Sc.zhZ{w0 b w:World}{sb c:Nat}{d:Option Addr}{n0 c0 i:Nat}{e:Option Addr}{cn:Nat}{ns:List ByteArray}{a low:Nat}(h:Sc w0 b w sb c d n0 c0 i e cn ns a low):w.frozen? ⟨sb,3,none⟩=false:=z6 h.yr 3
theorem zcS: ∀d:Nat,d<=3->ZM d/\yX d:=by
 intro d
 induction d with
 |zero=>
  intro h;have this:ZM 0:=QS 0 h (by omega);exact⟨this,ZQ 0 h this⟩
 |succ d a=>
  intro h;have this:ZM (d+1):=QS (d+1) h (λ_=>(a (by omega)).2);exact⟨this,ZQ (d+1) h this⟩
theorem QE(d:Nat)(h:d<=3):yX d:=(zcS d h).2
def zeN(w0:World)(sb g:Nat)(h:Option Addr)(n0 c0 i a:Nat)(t:ByteArray)(W:World):Prop:=
 ∃(j:List ByteArray)(b f:Nat)(c:Option Addr)(d e:Nat),Zm n0 a i t b f/\t.size<=a*3900000/\b<=a*129/\Sc w0 W W sb g h n0 c0 f c d j b e
theorem QC(A:Option Addr)(n c:Nat)(w:World)(hG:R8 w)(R:n<=c)(h: ∀j,j<n-> ∃g K v,A=some ⟨g,K,none⟩/\g<w.heap.size/\w.cell? ⟨g,K+j,none⟩=some (.int .i64 v)):
 Calls prog 7 #[.slice A n c] w λe w'=> ∃(t:ByteArray)(N k:Nat),e=.returned (.string t)/\t.size<=12000000/\Hid (qV k N t)/\zU w A n 0 3 k/\Below w.heap.size w w':=by
 obtain⟨N,hN⟩: ∃N,N=min n 60:=⟨_,rfl⟩;have y:N<=60:=by omega
 have S:N<=n:=by omega
 have L:=zh (Sc.start (c0:=c) (n0:=N) hG (λj hj=>h j (by omega)) y);have T:Hid (∀{w0 H w:World}{sb z:Nat}{B:Option Addr}{p r i:Nat}{I:Option Addr}{J:Nat}{q:List ByteArray}{a f:Nat},Sc w0 H w sb z B p r i I J q a f->a+QA 3<=900000->q.length+3*(3+1)<=90->Calls prog 31 #[.pointer (some ⟨sb,0,none⟩),.int .i64 3] w (xc w0 sb z B p r q a f 3 i)):=zh (QE 3 (by decide));have U:Hid (∀{w0 H w:World}{sb z:Nat}{B:Option Addr}{p r i:Nat}{I:Option Addr}{J:Nat}{q:List ByteArray}{a f:Nat},Sc w0 H w sb z B p r i I J q a f->a+QA 2<=900000->q.length+3*(2+1)<=90->Calls prog 31 #[.pointer (some ⟨sb,0,none⟩),.int .i64 2] w (xc w0 sb z B p r q a f 2 i)):=zh (QE 2 (by decide));have HN:Hid (∀{w0 H w:World}{sb z:Nat}{B:Option Addr}{p r i:Nat}{I:Option Addr}{J:Nat}{q:List ByteArray}{a f:Nat},Sc w0 H w sb z B p r i I J q a f->Calls prog 32 #[.pointer (some ⟨sb,0,none⟩),.int .i64 2] w (YH w0 H sb z B p r I J q a f 2 i)):=zh (yj 2 (by decide));have M:n<=60/\N=n\/60<n/\N=60:=by omega
 have V:=zh M;clear h hN M hG
 go_enter func7,ntmps7
 go_upto_region 1 with(fail)
 go_cut[3] (λv W=>v=.pointer (some ⟨w.heap.size+1,0,none⟩)/\Hid (Sc w W W (w.heap.size+1) w.heap.size A N c 0 none 0 [] 0 0))
 case first=>
  have X:Hid ((min (n:Int) 60).toNat=N):=zh (by have:=V.out;omega);have h2:(n:Int)<=(c:Int):=by omega
  have h3:(0:Int)<=(n:Int):=by omega
  have h4:(0:Int)<=min (n:Int) 60:=by omega
  have h5:min (n:Int) 60<=(c:Int):=by omega
  go_wp2_with(go_at_call 28;refine(zgk _ _ _ _).mono ?_;rintro e w' ⟨rfl,rfl⟩)
  go_meet
  case rel=>
   refine⟨rfl,?_⟩;rw[X.out];exact L
 case rest=>
  obtain⟨rfl,C⟩:=hcut;have Y:Hid (n=0↔N=0):=zh (by have:=V.out;omega);clear L V R S;have b1:10<w.heap.size:=C.out.b0;generalize b2:w.heap.size+1=sb at C;obtain⟨Z,c1,c2,c3⟩:=C.out.c0
  go_wp2_with fail
  refine(n_k 3 (by decide) (by decide) C.out).mono ?_;rintro e w1 ⟨k,i0,rfl,b3,HX,d,hD⟩;have HD:=zh (hD.zeo (n0:=n) C.out.N5 (x6 _) Y.out);clear hD;replace HX:=zh HX;replace C:=zh d.zQ;clear d Z c1 c2 c3;have a0:k<=2:=by omega
  go_wp2_with fail
  go_loopw[5,21] (λo j wr=> ∃(l:Nat)(t:ByteArray),o=.string t/\j=.int .i64 l/\l<=k/\Hid (zeN w sb w.heap.size A N c i0 l t wr))
   (λ_ j _=>(4-intOf j).toNat)
  case atStart=>exact⟨0,⟨#[]⟩,rfl,rfl,C6 _,zh ⟨[],0,i0,none,0,0,⟨[],rfl,.nil⟩,by simp[ByteArray.size],by simp,C.out⟩⟩
  case round=>
   obtain⟨l,t,rfl,rfl,b4,u⟩:=hrel;obtain⟨b5,m',i',b6,b7,a8,hA,D,E,d⟩:=u.out;have HA:=zh hA;have b:=zh d;clear hA d u C
   by_cases a1:l<k
   ·have a9:(l:Int)<(k:Int):=by omega
    have a2:t.size<=7800000:=by have:=F9 3900000 (show l<=2 by omega);omega
    have a3:m'<=258:=by have:=F9 129 (show l<=2 by omega);omega
    have O:=zh (And.intro D E);clear D E;obtain⟨d0,d1,d2,d3⟩:=b.out.c0;obtain⟨q1,q2⟩:=b.out.frz;have q3:=b.out.zhZ;have hs:=b.out.s
    go_upto_region 8 with(fail)
    have m:=zh (b.out.zi1 l (by omega) rfl);clear d0 d1 d2 d3 q1 q2 q3 hs b;generalize((wr.setCell _ _).setCell _ _).alloc _=w2 at m|-
    generalize wr.heap.size=gp at m|-
    go_wp2_with fail
    refine(qM l (by omega) m.out).mono ?_;rintro e w3 ⟨s3,rfl,a4,b8,d⟩;replace m:=zh d;clear d
    go_wp2_with fail
    refine(U.out m.out (by have:QA 2=129:=rfl;omega) (by decide)).mono ?_;rintro e w4 ⟨s4,m4,i4,P,Q,rfl,a5,x,F,d⟩;replace m:=zh d;have a6:=zh x;clear d x
    go_wp2_with fail
    refine(HN.out m.out).mono ?_;rintro e w5 ⟨s5,i5,rfl,a7,G,d⟩;replace m:=zh d.zQ;clear d
    have u:Hid (zeN w sb w.heap.size A N c i0 (l+1) (t++(⟨#[102,117,110,32,102]⟩++s3++⟨#[40,112,58,32,105,110,116,44,32,113,58,32,105,110,116,41,58,32,105,110,116,32,123,32]⟩++s4++⟨#[114,101,116,117,114,110,32]⟩++s5++⟨#[59,32,125,10]⟩)) w5):=
     zh ⟨pq,m4,i5,P,Q,l,HA.out.jB a4.out F.out G.out,by
      have:=O.out.1;simp only[B7,O8,D4,y6,y9];omega,by have:=O.out.2;have:=a6.out;have:QA 2=129:=rfl;omega,m.out⟩
    go_wp2_with fail
    go_roundw
    case rel=>exact⟨l+1,_,rfl,by go_num,a1,u⟩
    case measure=>simp[intOf];omega
   ·obtain rfl:l=k:=by omega
    have a2:t.size<=7800000:=by have:=F9 3900000 (show l<=2 by omega);omega
    have a3:m'<=258:=by have:=F9 129 (show l<=2 by omega);omega
    clear D E;obtain⟨d0,d1,d2,d3⟩:=b.out.c0;obtain⟨q1,q2⟩:=b.out.frz;have q3:=b.out.zhZ
    go_upto_region 11 with(fail)
    have m:=zh (b.out.zi2 l a0 rfl);clear d0 d1 d2 d3 q1 q2 q3 b;generalize(wr.setCell _ _).setCell _ _=w2 at m|-
    go_wp2_with fail
    refine(T.out m.out (by have:QA 3=777:=rfl;omega) (by decide)).mono ?_;rintro e w4 ⟨s4,m4,i4,P,Q,rfl,a5,x,F,d⟩;replace m:=zh d;clear d x
    go_wp2_with fail
    refine(HN.out m.out).mono ?_;rintro e w5 ⟨s5,i5,rfl,a7,G,d⟩;replace m:=zh d.zQ;clear d
    go_wp2_with fail
    go_ret;refine⟨_,N,_,rfl,?_,zh (Zm.zgO y HX.out HA.out F.out G.out),HD.out,m.out.N5⟩;simp only[B7,O8,D4,y6,y9];omega
theorem zfW(l:List Fn)(A:Option Addr)(c:Nat)(F:Nat->Prop)(w:World)(hA:P4 w F (.slice A l.length c) l)(hw: ∀f∈l,Fw f)(a3:l.length<=16)(hG:R8 w):
 Calls prog 71 #[.agg #[.slice A l.length c]] w λe w'=>e=.returned (.int .i64 0)/\Below w.heap.size w w':=by
 have HA:=zh hA;have HW:=zh hw;have P:=zh hG;have a4:(l.length:Int)<=16:=by omega
 have Q:=zh ((x7 w.heap.size w).alloc (x6 _) (.cells #[.slice A l.length c] 34));clear hA hw hG
 go_in
 go_wp2_with fail
 go_loopw[17] (λi wr=> ∃j:Nat,j<=l.length/\i=.int .i64 j/\Hid (Below w.heap.size w wr)) (λi _=>l.length-(intOf i).toNat)
 case atStart=>exact⟨0,C6 _,rfl,Q⟩
 case round=>
  obtain⟨j,hj,rfl,K⟩:=hrel
  by_cases R:j<l.length
  ·obtain⟨f,S⟩: ∃f,l[j]?=some f:=⟨_,x8 R⟩
   have B:=HW.out f (B0 S);obtain⟨g,T,U,V,W,X,L,M,rfl,hg,C,E,G,x⟩:=(HA.out.I5 (I3 K.out)).at j f S;have y:f.N2.length=f.I4.length:=by rw[B.N2,C0]
   rw[y,B.out]at x;have q0:wr.cell? ⟨g,T+j*6,none⟩=_:=x 0 _ rfl;have q1:=x 1 _ rfl;have q2:=x 2 _ rfl;have q3:=x 3 _ rfl;have q4:=x 4 _ rfl;have q5:=x 5 _ rfl;have h6:(f.I4.length:Int)<=6:=by have:=B.zbk;omega
   have H:=zh B;have d:=zh C;have h:=zh E;have k:=zh G;have a5:=zh y;clear B C E G y x S;have k0:(0:Int)<=(j:Int):=by omega
   have k1:(j:Int)<(l.length:Int):=by omega
   go_upto_region 7 with(fail)
   have r:=zh (K.out.alloc K.out.size (.cells #[.string f.K3,.slice U f.I4.length V,.slice W f.I4.length X,.int .i64 1,.slice L f.J0.length M,.int .i64 f.pos] 91));have s:=zh (x9 wr (.cells #[.string f.K3,.slice U f.I4.length V,.slice W f.I4.length X,.int .i64 1,.slice L f.J0.length M,.int .i64 f.pos] 91));have t:Below wr.heap.size wr (wr.alloc (.cells #[.string f.K3,.slice U f.I4.length V,.slice W f.I4.length X,.int .i64 1,.slice L f.J0.length M,.int .i64 f.pos] 91)):=(x7 _ _).alloc (x6 _) _;replace d:=zh (d.out.I5 (F':=F) (I3 t));replace h:=zh (h.out.I5 (F':=F) (I3 t));replace k:=zh (k.out.I5 (F':=F) (I3 t));clear q0 q1 q2 q3 q4 q5 t;generalize wr.alloc _=wa at r s d h k|-
   generalize wr.heap.size=N at s|-
   have D:=O1 s.out;have o:=I0 s.out
   go_wp2_with(first|(go_at_call 119;refine(xX f.K3 H.out.K3 _ (P.out.to r.out)).mono ?_;rintro e w7 ⟨rfl,a⟩;have D7:=O1 ((a.block N o).trans s.out))|(go_at_call 118;refine(zez _).mono ?_;rintro e w8 ⟨rfl,rfl⟩))
   have I:=zh (r.out.trans (a.mono r.out.size));replace s:=zh ((a.block N o).trans s.out);replace d:=zh (d.out.I5 (F':=F) (I3 a));replace h:=zh (h.out.I5 (F':=F) (I3 a));replace k:=zh (k.out.I5 (F':=F) (I3 a));clear D D7 o a
   go_loopw[6,46] (λu i wq=> ∃q:Nat,q<=f.I4.length/\u=.bool true/\i=.int .i64 q/\Hid (Below w7.heap.size w7 wq)) (λ_ i _=>f.I4.length-(intOf i).toNat)
   case atStart=>exact⟨0,C6 _,rfl,rfl,zh (x7 _ _)⟩
   case round=>
    obtain⟨q,hq,rfl,rfl,b⟩:=hrel;have Y:=(b.out.block N (I0 s.out)).trans s.out;have D:=O1 Y;have o:=I0 Y;have v:=zh (I.out.trans (b.out.mono I.out.size))
    by_cases Z:q<f.I4.length
    ·obtain⟨n,O⟩: ∃n,f.I4[q]?=some n:=⟨_,x8 Z⟩
     have J:=H.out.I4 n (B0 O);obtain⟨gn,on,rfl,-,kn⟩:=(d.out.I5 (F':=F) (I3 b.out)).at q n O;obtain⟨gt,ot,rfl,a0,kt⟩:=(h.out.I5 (F':=F) (I3 b.out)).at q 1 (by rw[H.out.N2,F6,O];rfl);have a1:=zh J;have m0:(0:Int)<=(q:Int):=by omega
     have m1:(q:Int)<(f.I4.length:Int):=by omega
     clear O J
     go_wp2_with(first|(go_at_call 119;refine(xX n a1.out _ (P.out.to v.out)).mono ?_;rintro e w8 ⟨rfl,m⟩;have D8:=O1 ((m.block N o).trans Y);have a6:=(m.cell (p:=⟨gt,ot+q,none⟩) a0).trans kt)|(go_at_call 118;refine(zez _).mono ?_;rintro e w9 ⟨rfl,rfl⟩))
     exact⟨⟨q+1,by omega,rfl,by go_num,zh (b.out.trans (m.mono b.out.size))⟩,by simp[intOf];omega⟩
    ·have k2:(f.I4.length:Int)<=(q:Int):=by omega
     go_wp2_with fail
     refine(sw false 40 40 rfl (by omega) f.J0 L M F _ (k.out.I5 (I3 b.out)) H.out.J0 H.out.zeu (P.out.to v.out)).mono ?_;rintro e w8 ⟨rfl,m⟩;have a2:=zh (v.out.trans (m.mono v.out.size));clear m D
     go_wp2_with fail
     exact⟨⟨j+1,by omega,by go_num,a2⟩,by simp[intOf];omega⟩
  ·have k1:(l.length:Int)<=(j:Int):=by omega
   go_wp2_with fail
   go_ret;exact⟨rfl,K.out⟩
theorem zgm(A:Option Addr)(n c:Nat)(w:World)(K:R8 w)(L:n<=c)(h: ∀j,j<n-> ∃g i v,A=some ⟨g,i,none⟩/\g<w.heap.size/\w.cell? ⟨g,i+j,none⟩=some (.int .i64 v)):
 Calls prog 9 #[.slice A n c] w λe w'=> ∃(k:Nat)(m:List Fn)(b:Option Addr)(d:Nat),e=.returned (.agg #[.slice b m.length d])/\P4 w' (λ_=>True) (.slice b m.length d) m/\Below w.heap.size w w'/\m.map Fn.sh=jq k/\zU w A n 0 3 k:=by
 have o:=(x7 w.heap.size w).alloc (x6 _) (.cells #[.slice none 0 0] 34);have f:=zh (x9 w (.cells #[.slice none 0 0] 34));have q:=zh o;have HG:=zh K;have M:Hid (∀k,zU (w.alloc (.cells #[.slice none 0 0] 34)) A n 0 3 k->zU w A n 0 3 k):=zh (λk hk=>hk.zeo o (x6 _) Iff.rfl);have O:=zh (QC A n c (w.alloc (.cells #[.slice none 0 0] 34)) (K.to o) L (λj hj=>by
  obtain⟨g,i,v,G,r,h3⟩:=h j hj;exact⟨g,i,v,G,y5 r o.size,(o.cell (p:=⟨g,i+j,none⟩) r).trans h3⟩))
 clear o K h
 go_enter func9,ntmps9
 go_upto_region 1 with(fail)
 generalize World.alloc _ _=w1 at f q M O|-
 generalize x:w.heap.size=l at f q|-
 have y:=zh x;clear x
 go_wp2_with fail
 refine O.out.mono ?_;rintro e w2 ⟨t,N,k,rfl,a0,Z,hD,P⟩;obtain⟨ws,m,s1,s2,s3,s4,Q,-,z⟩:=Z.out.X8;have R:=zh z;have S:=zh (M.out k hD);have T:t.size<=maxLen:=by unfold maxLen;omega
 have a:=I0 f.out;replace f:=zh ((P.block l a).trans f.out);replace q:Hid (Below l w w2):=zh (q.out.trans (P.mono (G3 a)));have B:R8 w2:=HG.out.to (by rw[y.out];exact q.out);have S2:=zh (za9 t w2 ws m T B s1 s2 s3 s4 λA n W ⟨F,H⟩ g=>zfW m A n F W H Q.fw Q.xy g);clear P O s1 s2 s3 s4 Q z hD Z a M
 go_wp2_with fail
 refine S2.out.mono ?_;rintro e u ⟨b,d,rfl,H,I,C⟩;have a:=I0 f.out;have o:=I.alloc I.size (.cells #[.slice b m.length d] 34);have U:=(x7 u.heap.size u).alloc (x6 _) (.cells #[.slice b m.length d] 34);replace f:=zh ((o.block l a).trans f.out);replace q:Hid (Below l w _):=zh (q.out.trans (o.mono (G3 a)));have D:Hid (P4 (u.alloc (.cells #[.slice b m.length d] 34)) (λg=>l<g) (.slice b m.length d) m):=zh (H.I5 λg G r=>⟨y5 a G,y5 r U.size,U.block g r⟩);have s:=zh (x9 u (.cells #[.slice b m.length d] 34));have V:Hid (l≠u.heap.size):=zh (by have:=I.size;omega);clear H I C a o U B S2
 go_upto_region 2 with(fail)
 generalize World.alloc _ _=J at f q D s|-
 generalize u.heap.size=b3 at s V|-
 have c0:=x5 s.out 0;have d0:=x5 f.out 0;have g0:=z6 f.out 0;have a:=I0 f.out;have X:=zh (y4 J l 0 _ _ (.slice b m.length d) f.out);have Y:=zh (K8 q.out (x6 _) 0 (.slice b m.length d));have E:Hid (P4 (J.setCell ⟨l,0,none⟩ (.slice b m.length d)) (λ_=>True) (.slice b m.length d) m):=zh (D.out.I5 λg G r=>⟨trivial,y5 r (I7 J l 0 _).size,(I7 J l 0 _).block g r (λe=>by injection e with e;omega)⟩)
 go_wp2_with fail
 refine E1 (E3 rfl _ _ l _ _ _ _ rfl X.out underlying34 rfl zbH) rfl ?_;exact⟨k,m,b,d,rfl,E.out,by rw[y.out];exact Y.out,R.out,S.out⟩
theorem zbW(a:Option Addr)(c:Nat)(w:World):Calls prog 35 #[.agg #[.slice a 0 c,.int .i64 0]] w λe w'=>e=.returned (.int .i64 16)/\Below w.heap.size w w':=by
 have d:=zh (x9 w (.cells #[.slice a 0 c,.int .i64 0] 26));have f:=zh ((x7 w.heap.size w).alloc (x6 _) (.cells #[.slice a 0 c,.int .i64 0] 26))
 go_enter func35,ntmps35
 go_upto_region 1 with(fail)
 generalize World.alloc _ _=h at d f|-
 generalize b:w.heap.size=j at d f|-
 have g:=zh b;clear b;have k:=x5 d.out 0;have l:=x5 d.out 1
 go_upto_region 4 with(fail)
 go_loopw[20] (λi wr=>i=.int .i64 0/\wr=h) (λ_ _=>0)
 case atStart=>exact⟨rfl,rfl⟩
 case round=>
  obtain⟨rfl,rfl⟩:=hrel
  go_wp2_with fail
  go_ret;exact⟨rfl,by rw[g.out];exact f.out⟩
theorem zdx(a:Option Addr)(c:Nat)(w:World):Calls prog 10 #[.agg #[.slice a 0 c,.int .i64 0]] w λe w'=>e=.returned (.slice none 0 0)/\Below w.heap.size w w':=by
 have b:=zh (x9 w (.cells #[.slice a 0 c,.int .i64 0] 26));have f:=zh ((x7 w.heap.size w).alloc (x6 _) (.cells #[.slice a 0 c,.int .i64 0] 26))
 go_enter func10,ntmps10
 go_upto_region 1 with(fail)
 generalize World.alloc _ _=j at b f|-
 generalize d:w.heap.size=k at b f|-
 have g:=zh d;clear d;have l:=x5 b.out 0;have m:=x5 b.out 1
 go_wp2_with fail
 refine(zbW a c j).mono ?_;rintro e n ⟨rfl,i⟩;have h:=zh (f.out.trans (i.mono (G3 (I0 b.out))));clear i
 go_wp2_with fail
 go_ret;exact⟨rfl,by rw[g.out];exact h.out⟩
end Go.Proofs.YtalgmjmibamdfaaGreatDoor
