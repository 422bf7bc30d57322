/- Merged. -/
import Derived.Test.YtmngofgminlloaaGreatDoorCT20
set_option linter.all false
set_option maxHeartbeats 16000000
set_option maxRecDepth 100000
namespace Go.Proofs.YtmngofgminlloaaGreatDoor
open Go.Proofs.Tryz
open Go.RowKit Tw
section
variable {wr W W':World}{rb b0 bf base:Nat}{v:Value}{ws:List Wd}{i en:Nat}{nm:ByteArray}{An:Option Addr}{cn:Nat}{ns:List ByteArray}{At:Option Addr}{ct:Nat}{ts:List Int}{out:Int}{vb:Value}{pos:Int}
theorem Qk.fbN(h:Qk wr W rb b0 bf base v ws i en nm An cn ns At ct ts out vb pos)(a:W.grownBy W' (Value.slice An ns.length cn).ownBlock):W'.heap[bf]?=some (.cells #[.string nm,.slice An ns.length cn,.slice At ts.length ct,.int .i64 out,vb,.int .i64 pos] 32 (0,0)):=by
 have b:=h.z2;have c:=h.z3;exact(a.block bf (by omega) (λe=>by have:=(h.rn.1.lt bf e.symm).1;omega)).trans h.fb
theorem Qk.fbT(h:Qk wr W rb b0 bf base v ws i en nm An cn ns At ct ts out vb pos)(a:W.grownBy W' (Value.slice At ts.length ct).ownBlock):W'.heap[bf]?=some (.cells #[.string nm,.slice An ns.length cn,.slice At ts.length ct,.int .i64 out,vb,.int .i64 pos] 32 (0,0)):=by
 have b:=h.z2;have c:=h.z3;exact(a.block bf (by omega) (λe=>by have:=(h.rt.1.lt bf e.symm).1;omega)).trans h.fb
end
theorem zkM(rb:Nat)(v ws)(en i:Nat)(hN:zV ws)(hr:10<rb):FnP rb v ws en i:=by
 intro r hd w h hG;have HR:=qh h;have HG:=qh hG;have HN:=qh hN;have HD:=qh hd;have a7:=h.lt;clear h hG hN hd
 go_enter func83,ntmps83
 go_wp2_with fail
 refine(zam (HR.out.K7 ((x8 _ _).alloc (x7 _) _))).mono ?_;rintro e w1 ⟨rfl,hb⟩;have o:Below w.heap.size w w1:=((x8 _ _).alloc (x7 _) _).trans (hb.mono (by simp));have H:=hb.size;have M:=(hb.block w.heap.size (by simp)).trans (A5 w (.cells #[.string ⟨#[]⟩,.slice none 0 0,.slice none 0 0,.int .i64 0,.slice none 0 0,.int .i64 0] 32));have I:Below w.heap.size w (w1.alloc (.cells #[.string ⟨#[]⟩,.slice none 0 0,.slice none 0 0,.int .i64 0,.slice none 0 0,.int .i64 (J4 ws i en)] 32)):=o.alloc o.size _
 have a:Hid (Qk w (w1.alloc (.cells #[.string ⟨#[]⟩,.slice none 0 0,.slice none 0 0,.int .i64 0,.slice none 0 0,.int .i64 (J4 ws i en)] 32)) rb w.heap.size w1.heap.size (w1.heap.size+1) v ws i en ⟨#[]⟩ none 0 [] none 0 [] 0 (.slice none 0 0) (J4 ws i en)):=
  qh ⟨HR.out.K7 I,A5 w1 _,(C4 w1 _ (by simp at H;omega)).trans M,I7 I _,HG.out.to I,O8.nil _ _ _ _ _,O8.nil _ _ _ _ _,λg e=>by simp[Value.ownBlock]at e,hr,a7,o.size,⟨x7 _,by simp at H;omega⟩,by omega,by simp⟩
 clear hb o M I H
 go_upto_region 2 with(fail)
 generalize w1.alloc _=W1 at a|-;generalize w1.heap.size+1=base at a;generalize w1.heap.size=bf at a|-;obtain⟨b0,o⟩: ∃b0,w.heap.size=b0:=⟨_,rfl⟩;rw[o]at a;simp only[o];have b7:=qh o;clear o;clear HR;have p:=zgX HD.out
 rcases p with⟨Z,rfl⟩|⟨Z,p⟩
 ·have U:=qh Z;clear Z
  go_wp2_with fail
  refine(jl Xg (R1 (by decide)) a.out.rd U.out).mono ?_;rintro e J ⟨rfl,b⟩;have d:=qh (I4 a.out.gr b);clear b;unfold Y3
  go_wp2_with fail
  exact⟨rfl,rfl,d.out⟩
 have U:=qh Z;have C:=qh p;clear Z p
 go_wp2_with fail
 refine(jH Xg (R1 (by decide)) a.out.rd U.out).mono ?_;rintro e w3 ⟨rfl,l,b⟩;replace a:=qh (a.out.L9 l b);clear l b U
 go_wp2_with fail
 rcases C.out with⟨c,rfl⟩|⟨c,p⟩
 ·have u:=qh c;clear c
  refine(ZX 2 a.out.rd u.out).mono ?_;rintro e J ⟨rfl,b⟩;have d:=qh (I4 a.out.gr b);clear b;unfold Y3
  go_wp2_with fail
  exact⟨rfl,rfl,d.out⟩
 have u:=qh c;replace C:=qh p;clear c p;refine(yU 2 (by decide) a.out.rd u.out).mono ?_;rintro e w4 ⟨rfl,l,b⟩;replace a:=qh (a.out.L9 l b);clear l b u;obtain⟨nm,N⟩: ∃s,L8 ws (i+1)=s:=⟨_,rfl⟩;simp only[N];have a8:=qh N;clear N;have c0:=(M6 a.out.fb).1.1;have f0:=(M6 a.out.fb).2.1
 go_wp2_with fail
 clear c0 f0;replace a:=qh (a.out.s0 nm);generalize w4.setCell ⟨bf,0,none⟩ _=W4 at a|-
 rcases C.out with⟨c,rfl⟩|⟨c,q,hq,a0,a1⟩
 ·have u:=qh c;clear c
  refine(jl O6 (R1 (by decide)) a.out.rd u.out).mono ?_;rintro e J ⟨rfl,b⟩;have d:=qh (I4 a.out.gr b);clear b;unfold Y3
  go_wp2_with fail
  exact⟨rfl,rfl,d.out⟩
 have u:=qh c;have HQ:=qh hq;have O:=qh a0;have a9:=qh a1;clear c hq a0 a1;refine(jH O6 (R1 (by decide)) a.out.rd u.out).mono ?_;rintro e w5 ⟨rfl,l,b⟩;replace a:=qh (a.out.L9 l b);clear l b u C
 go_wp2_with fail
 go_loopw[] (λwr=> ∃(An:Option Addr)(cn:Nat)(ns:List ByteArray)(At:Option Addr)(ct:Nat)(ts:List Int)(i':Nat)(q':Rp),Hid (Qk w wr rb b0 bf base v ws i' en nm An cn ns At ct ts 0 (.slice none 0 0) (J4 ws i en))/\Hid (i<i'/\ns.length<=i'/\ts.length=ns.length/\Dp ws en ns.length i' q'/\q=Jn ns ts q'))
  (λwr=>ws.length-jN wr rb)
 case atStart=>exact⟨none,0,[],none,0,[],i+3,q,a,qh ⟨by omega,by simp,rfl,HQ.out,(zfH q).symm⟩⟩
 case round=>
  clear a;obtain⟨An,cn,ns,At,ct,ts,i',q',a,D⟩:=hrel;have b1:=a.out.rd.yB;have a2:=a.out.rd.pos;have b6:=a.out.rd.X5;obtain⟨t,ht⟩: ∃t,J3 ws i' N4=t:=⟨_,rfl⟩;have T:=qh ht;clear ht
  go_wp2_with fail
  refine(Z5 N4 (R1 (by decide)) t a.out.rd T.out).mono ?_;rintro e w6 ⟨rfl,l,b⟩;replace a:=qh (a.out.L9 l b);clear l b;cases t with
  |true=>
   simp only[if_true]at a;have a3:=zh0 D.out.2.2.2.1 T.out;have K:=D.out.2.2.2.2;rw[a3]at K;simp only[Jn,List.append_nil]at K;have C:=qh (a9.out ns ts (i'+1) K);clear a3 K
   go_wp2_with fail
   rcases C.out with⟨k,c,rfl⟩|⟨V,c,p⟩
   ·have u:=qh c;clear c
    refine(zia a.out.rd u.out).mono ?_;rintro e J ⟨rfl,b⟩;have d:=qh (I4 a.out.gr b);clear b;unfold Y3
    go_wp2_with fail
    exact⟨rfl,rfl,d.out⟩
   have u:=qh c;replace C:=qh p;clear c p;refine(zk1 a.out.rd u.out).mono ?_;rintro e w7 ⟨rfl,l,b⟩;replace a:=qh (a.out.L9 l b);clear l b;have c3:=(M6 a.out.fb).1.2.2.2.1;have f3:=(M6 a.out.fb).2.2.2.2.1
   go_wp2_with fail
   clear c3 f3;replace a:=qh (a.out.s3 V);generalize w7.setCell ⟨bf,3,none⟩ _=W7 at a|-
   rcases C.out with⟨k,c,rfl⟩|⟨lb,k,c,rfl⟩
   ·have z:=qh c;clear c
    refine(zcy rb v ws en (i'+1+2) HN.out hr _ z.out W7 a.out.rd a.out.gl).mono ?_;rintro e J ⟨rfl,b⟩;have d:=qh (I4 a.out.gr b);clear b;unfold Y3
    go_wp2_with fail
    exact⟨rfl,rfl,d.out⟩
   have z:=qh c;clear c;refine(zcy rb v ws en (i'+1+2) HN.out hr _ z.out W7 a.out.rd a.out.gl).mono ?_;rintro e L ⟨Ab,cb,rfl,hB,l,b⟩;have b8:=a.out.z3;have b9:=a.out.z2;have H:=a.out.z1;have c6:=a.out.zb;have HB:Hid (K9 L (λg=>base<=g) (.slice Ab lb.length cb) lb):=qh (hB.K7 λg (h1:W7.heap.size<=g) h2=>⟨by omega,h2,rfl⟩);replace a:=qh (a.out.L9 l b);clear l b hB;have c4:=(M6 a.out.fb).1.2.2.2.2.1;have f4:=(M6 a.out.fb).2.2.2.2.2.1
   go_upto_region 12 with(fail)
   clear c4 f4;replace HB:=qh (HB.out.later (some bf) (I8 L bf 4 (.slice Ab lb.length cb)) (λg h=>by simp;omega) (λg h=>h));replace a:=qh (a.out.s4 (.slice Ab lb.length cb));generalize L.setCell ⟨bf,4,none⟩ _=W8 at a HB|-;obtain⟨⟨c0,X,c2,c3,c4,c5⟩,f0,f1,f2,f3,f4,f5⟩:=M6 a.out.fb;obtain⟨⟨d0,d1,d2,d3,d4,d5⟩,g0,g1,g2,g3,g4,g5⟩:=M6 a.out.zD;have HW:=qh (zpw (.string nm) (.slice An ns.length cn) (.slice At ts.length ct) (.int .i64 V) (.slice Ab lb.length cb) (.int .i64 (J4 ws i en)) a.out.zD)
   go_wp2_with fail
   (try simp only[Exit.inBlock,Exit.then])
   refine E9 (F2 rfl _ _ b0 _ _ _ _ rfl HW.out underlying32 rfl zmc) rfl ?_;have HZ:=qh (Qk.qi a.out HB.out);rw[a8.out];exact HZ.out
  |false=>
   simp only[C2,if_false]at a;have p:=zjZ D.out.2.2.2.1 T.out;have c7:ns.length<=4000:=by have:=D.out.2.1;omega
   have c8:ts.length<=4000:=by have:=D.out.2.2.1;omega
   have c9:=qh (show i'<=ws.length from a2)
   rcases p with⟨h0,hc,rfl⟩|⟨hc,p⟩
   ·have HC:=qh hc
    have e0:0<ns.length:=by omega
    have E:r=.J9 i':=O.out i' (by rw[D.out.2.2.2.2];rfl);subst E;have X:=(M6 a.out.fb).1.2.1;clear hc h0
    go_wp2_with fail
    refine(jl U0 (R1 (by decide)) a.out.rd HC.out).mono ?_;rintro e J ⟨rfl,b⟩;have d:=qh (I4 a.out.gr b);clear b;unfold Y3
    go_wp2_with fail
    exact⟨rfl,rfl,d.out⟩
   have HC:=qh hc;have C:=qh p;clear hc p;have X:=(M6 a.out.fb).1.2.1
   go_upto_if 20 with(fail)
   clear X
   go_cut[] (λW=>Hid (Qk w W rb b0 bf base v ws (V9 ns.length i') en nm An cn ns At ct ts 0 (.slice none 0 0) (J4 ws i en)))
   case first=>
    by_cases Y:ns.length=0
    ·have HP:Hid (V9 ns.length i'=i'):=qh (by unfold V9;rw[C8 Y])
     have HL:=qh Y;clear Y
     go_wp2_with fail
     ·exfalso;have:=HL.out;omega
     go_meet
     case rel=>rw[HP.out];exact a
    ·have HP:Hid (V9 ns.length i'=i'+1):=qh (by unfold V9;rw[B5 Y])
     have e0:0<ns.length:=by omega
     have U:=qh (HC.out Y);clear Y
     go_wp2_with fail
     refine(jH U0 (R1 (by decide)) a.out.rd U.out).mono ?_;rintro e w7 ⟨rfl,l,b⟩;replace a:=qh (a.out.L9 l b);clear l b
     go_wp2_with fail
     go_meet
     case rel=>rw[HP.out];exact a
   case rest=>
    clear a;obtain⟨wa,rfl⟩: ∃wo:World,wo=wc:=⟨_,rfl⟩;have a:=hcut;clear hcut;obtain⟨ip,P⟩: ∃j,V9 ns.length i'=j:=⟨_,rfl⟩;rw[P]at a C;have Q:Hid (i'<=ip):=qh (by rw[<-P];unfold V9;split<;>omega);clear P
    go_upto_region 8 with(fail)
    have X:=(M6 a.out.fb).1.2.1;have n:=qh (a.out.below (M2 _))
    rcases C.out with⟨c,x⟩|⟨c,p⟩
    ·have u:=qh c;clear c
     have E:r=.J9 ip:=O.out ip (by rw[D.out.2.2.2.2,x];rfl);subst E;clear x
     go_region_dies
     all_goals
      go_at_call 138
      refine(ZX 2 n.out.rd u.out).mono ?_;rintro e J ⟨rfl,b⟩;have d:=qh (I4 n.out.gr b);clear b;unfold Y3
      go_wp2_with fail
      exact⟨rfl,rfl,d.out⟩
    have u:=qh c;replace C:=qh p;clear c p
    go_cut[] (λW=> ∃(n2:ByteArray)(g9 y:Nat),Hid (Qk w W rb b0 bf base v ws (ip+1) en nm (some ⟨g9,0,none⟩) y (ns++[n2]) At ct ts 0 (.slice none 0 0) (J4 ws i en))/\Hid (n2=L8 ws ip))
    case first=>
     go_region_law(first|(go_simp;go_at_call 138;refine(yU 2 (by decide) n.out.rd u.out).mono ?_;rintro e L ⟨rfl,l,b⟩;have m:=qh (n.out.L9 l b);have d1:=(M6 m.out.fb).1.2.1;have a4:=I5 m.out.fb;clear l b)|(refine qt zbM (by rfl) _ _ (by rfl) base _ ns.length (ns.flatMap S1.cells) (by rfl) (m.out.rn.1.alloc _) L.heap.size 1 #[.string (L8 ws ip)] (by rfl) (A5 L _) rfl (by simp[Value.oneCell']) (by omega) (by have:=m.out.z3;simp;omega) ?_;intro g9 y J A f F a5;have G:=qh (m.out.below ((x8 _ _).alloc (x7 _) (.cells #[.string (L8 ws ip)] 9)));have B:=G.out.fbN f;have q1:=(M6 B).1.2.1;have q2:=(M6 B).2.2.1;clear B))
     all_goals
      go_wp2_with fail
      go_meet
      case rel=>exact⟨L8 ws ip,g9,y,qh (G.out.J2 A f F rfl),qh rfl⟩
    case rest=>
     clear a n X;obtain⟨n2,g9,y,a,b2⟩:=hcut;obtain⟨wb,rfl⟩: ∃wo:World,wo=wc:=⟨_,rfl⟩
     go_upto_region 9 with(fail)
     have X:=(M6 a.out.fb).1.2.2.1;have n:=qh (a.out.below (M2 _))
     rcases C.out with⟨k,c,x⟩|⟨V,q2,c,a6,x⟩
     ·have z:=qh c;clear c
      have E:r=.J9 k:=O.out k (by rw[D.out.2.2.2.2,x];rfl);subst E;clear x
      go_region_dies
      all_goals
       go_at_call 140
       refine(zia n.out.rd z.out).mono ?_;rintro e J ⟨rfl,b⟩;have d:=qh (I4 n.out.gr b);clear b;unfold Y3
       go_wp2_with fail
       exact⟨rfl,rfl,d.out⟩
     have z:=qh c;have b3:=qh a6;have b4:=qh x;clear c a6 x
     go_region_law(first|(go_simp;go_at_call 140;refine(zk1 n.out.rd z.out).mono ?_;rintro e L ⟨rfl,l,b⟩;have m:=qh (n.out.L9 l b);have d1:=(M6 m.out.fb).1.2.2.1;have a4:=I5 m.out.fb;clear l b)|(refine qt zbG (by rfl) _ _ (by rfl) base _ ts.length (ts.flatMap zm.cells) (by rfl) (m.out.rt.1.alloc _) L.heap.size 1 #[.int .i64 V] (by rfl) (A5 L _) rfl (by simp[Value.oneCell']) (by omega) (by have:=m.out.z3;simp;omega) ?_;intro b5 R J A f F a5;have G:=qh (m.out.below ((x8 _ _).alloc (x7 _) (.cells #[.int .i64 V] 3)));have B:=G.out.fbT f;have q1:=(M6 B).1.2.2.1;have d6:=(M6 B).2.2.2.1;clear B))
     all_goals
      have S:=qh (G.out.JN A f F rfl)
      go_wp2_with fail
      go_roundw
      case rel=>exact⟨some ⟨g9,0,none⟩,y,ns++[n2],some ⟨b5,0,none⟩,R,ts++[V],ip+3,q2,S,qh ⟨by have:=D.out.1;have:=Q.out;omega,by have:=D.out.2.1;have:=Q.out;simp;omega,by have:=D.out.2.2.1;simp;omega,by simpa using b3.out,by rw[D.out.2.2.2.2,b4.out,zd8,b2.out]⟩⟩
      case measure=>rw[S.out.rd.yB,b1];have:=S.out.rd.pos;have:=Q.out;omega
end Go.Proofs.YtmngofgminlloaaGreatDoor
namespace Go.Proofs.YtmngofgminlloaaGreatDoor
open Go.RowKit Tw
def Jw(l:List Fn):Ru->Ru
 |.xL m=>.xL (l++m)
 |r=>r
section
variable {ws:List Wd}{en i k:Nat}{q:Ru}
theorem zfM(r):Jw [] r=r:=by cases r<;>simp[Jw]
theorem zdZ(l m r):Jw l (Jw m r)=Jw (l++m) r:=by cases r<;>simp[Jw]
theorem zj5(h:Du ws en i q)(hi:ws.length<=i):q=.xL []:=by
 cases h with
 |done _=>rfl
 |qw g=>omega
 |xW g=>omega
 |xV g=>omega
theorem zjN(h:Du ws en i q)(hi:i<ws.length):(∃j,Df ws en i (.J9 j)/\q=.J9 j)\/ ∃f j q2,Df ws en i (.fn f j)/\Du ws en j q2/\q=Jw [f] q2:=by
 cases h with
 |done g=>omega
 |qw _ a b=>exact .inr ⟨_,_,_,a,b,rfl⟩
 |xW _ a b=>exact .inr ⟨_,_,_,a,b,rfl⟩
 |xV _ a=>exact .inl ⟨_,a,rfl⟩
def zmz(i:Nat):Rp->Prop
 |.ok _ _ j=>i<j
 |_=>True
theorem Dp.on{r}(h:Dp ws en k i r):zmz i r:=by
 induction h with
 |U4=>simp[zmz]
 |next _ _ _ _ _ a=>simp only[zmz]at*;unfold V9 at a;split at a<;>omega
 |_=>trivial
theorem Df.on{f}{j:Nat}(h:Df ws en i (.fn f j)):i<j:=by
 cases h with
 |fn _ _ _ c _ d=>
  have a:_<_:=Dp.on c;have b:_<_:=Ds.on d;omega
end
end Go.Proofs.YtmngofgminlloaaGreatDoor
namespace Go.Proofs.YtmngofgminlloaaGreatDoor
open Go.Proofs.Tryz
open Go.RowKit Tw
def YA(p q r:Addr)(w:World):
 CallsD prog 82 #[.pointer (some p),.pointer (some q),.pointer (some r)] .returning w λe a w'=>e=.returned (.tuple #[])/\a=.returning/\w'=w:=by
 refine callsD_of_wpS func82 rfl λb d c=>?_
 apply wpS_seq;apply wpS_region;simp[wpOpsS,go_sem,recoverD,c,ntmps82,Exit.thenS];apply wpS_seq;apply wpS_region;simp[wpOpsS,go_sem,Exit.thenS];refine wpS_cond (t:=false) (by simp[Act.eval,Array.replicate]) ?_;simp only[C2,if_false];refine wpS_of_wp (wp_skip ?_);cases b
 simp_all[bodyPostS,results,Tryz.results82]
def zfR(bu bp be:Nat)(s)(O P x:Int)(d:List PanicEntry)(w)(p:w.heap[bu]?=some (.cells #[s] 24 (0,0)))(q:w.heap[bp]?=some (.cells #[.int .i64 O] 3 (0,0)))(r:w.heap[be]?=some (.cells #[.int .i64 P] 25 (0,0)))(h1:bu<bp)(h2:bp<be):
 CallsD prog 82 #[.pointer (some ⟨bu,0,none⟩),.pointer (some ⟨bp,0,none⟩),.pointer (some ⟨be,0,none⟩)] (.panicking ({v:=.iface 159 (.agg #[.int .i64 x]),recovered:=false}::d)) w λe R w'=>
  e=.returned (.tuple #[])/\R=.panicking ({v:=.iface 159 (.agg #[.int .i64 x]),recovered:=true}::d)/\Below bu w w'/\w'.heap[bu]?=some (.cells #[.slice none 0 0] 24 (0,0))/\w'.heap[bp]?=some (.cells #[.int .i64 x] 3 (0,0))/\w'.heap[be]?=some (.cells #[.int .i64 15] 25 (0,0)):=by
 have g: ∀(v:Value)(w:World),(Instr.typeAssert (.iface 159 v) 20 159 true).run prog w=.ok (.tuple #[v,.bool true]) w:=λv w=>by
  simp[Instr.typeAssert,run_underlying underlying159]
 have H: ∀(a b c:Value),(#[a,b,c]++Array.replicate (Tryz.f82.ntmps-(#[a,b,c]:Array Value).size) undef)= #[a,b,c,undef,undef,undef,undef,undef,undef,undef,undef,undef,undef,undef,undef,undef,undef,undef,undef,undef]:=λa b c=>by
  rw[ntmps82];apply Array.ext';simp
 refine callsD_of_wpS func82 rfl λS cs l=>?_
 rw[H];apply wpS_seq;apply wpS_region;simp[wpOpsS,go_sem,recoverD,l,Exit.thenS];apply wpS_seq;apply wpS_region;simp[wpOpsS,go_sem,Exit.thenS];refine wpS_cond (t:=true) (by simp[Act.eval]) ?_;simp only[if_true];apply wpS_seq;apply wpS_region;simp[wpOpsS,go_sem,Exit.thenS,g];obtain⟨T,f⟩: ∃Q:Exit->Act->World->Prop,∀e y w',Q e y w'↔(e=.normal/\y.defers=[]/\Below bu w w'/\w'.heap[bu]?=some (.cells #[.slice none 0 0] 24 (0,0))/\w'.heap[bp]?=some (.cells #[.int .i64 x] 3 (0,0))/\w'.heap[be]?=some (.cells #[.int .i64 15] 25 (0,0))):=⟨_,λ_ _ _=>Iff.rfl⟩;refine wpS_of_wp (wp_mono (Q:=T) ?_ ?_)
 ·clear l g H
  have z:=qh f;clear f;have A:=I5 p;have B:=I5 q;have C:=I5 r;have U:=qh p;have X:=qh q;have Y:=qh r;clear p q r
  go_upto_region 5 with(fail)
  have I:=qh ((x8 bu w).alloc (by omega) (.cells #[.int .i64 x] 159));have m:=(C4 w (.cells #[.int .i64 x] 159) A).trans U.out;have n:=(C4 w (.cells #[.int .i64 x] 159) B).trans X.out;have o:=(C4 w (.cells #[.int .i64 x] 159) C).trans Y.out;have D:=A5 w (.cells #[.int .i64 x] 159);generalize w.alloc _=W at I m n o D|-;have Z:=x6 m 0;have fu:=B4 m 0;have cp:=x6 n 0;have fp:=B4 n 0;have ce:=x6 o 0;have fe:=B4 o 0;have cn:=x6 D 0;simp at Z cp ce cn;have J:bu≠bp:=by omega
  have K:bp≠be:=by omega
  have L:bu≠be:=by omega
  have n4:w.heap.size≠bu:=by omega
  have n5:w.heap.size≠bp:=by omega
  have n6:w.heap.size≠be:=by omega
  have E:=qh m;have F:=qh n;have G:=qh o;clear m n o D
  go_region
  all_goals
   have i: ∀(V:World)(k j:Nat)(u:Value),j≠k->(V.setCell ⟨k,0,none⟩ u).heap[j]?=V.heap[j]?:=λV k j u h=>F9 V ⟨k,0,none⟩ u j (by simpa using h)
   have M:=L6 (L6 (L6 I.out (x7 _) 0 (.slice none 0 0)) (show bu<=bp by omega) 0 (.int .i64 x)) (show bu<=be by omega) 0 (.int .i64 15);have hz:=M.size;refine(z.out _ _ _).2 ⟨rfl,rfl,M.trans ((M2 _).mono (by omega)),?_,?_,?_⟩
   ·show(((W.setCell ⟨bu,0,none⟩ (.slice none 0 0)).setCell ⟨bp,0,none⟩ (.int .i64 x)).setCell ⟨be,0,none⟩ (.int .i64 15)).heap[bu]?=_
    rw[i _ _ _ _ L,i _ _ _ _ J];simpa using A6 W bu 0 _ _ (.slice none 0 0) E.out
   ·show(((W.setCell ⟨bu,0,none⟩ (.slice none 0 0)).setCell ⟨bp,0,none⟩ (.int .i64 x)).setCell ⟨be,0,none⟩ (.int .i64 15)).heap[bp]?=_
    rw[i _ _ _ _ K];simpa using A6 _ bp 0 _ _ (.int .i64 x) ((i W bu bp (.slice none 0 0) J.symm).trans F.out)
   ·show(((W.setCell ⟨bu,0,none⟩ (.slice none 0 0)).setCell ⟨bp,0,none⟩ (.int .i64 x)).setCell ⟨be,0,none⟩ (.int .i64 15)).heap[be]?=_
    simpa using A6 _ be 0 _ _ (.int .i64 15) ((i _ bp be (.int .i64 x) K.symm).trans ((i W bu be (.slice none 0 0) L.symm).trans G.out))
 ·intro e y w' N
  obtain⟨rfl,hd,hb,g1,g2,g3⟩:=(f _ _ _).1 N;clear f N g;cases S
  simp_all[bodyPostS,results,Tryz.results82]
theorem zay(bu bp be:Nat)(A:Option Addr)(n c:Nat)(p e:Int)(a)(w:World)(g:a.getD 2 undef=.pointer (some ⟨bu,0,none⟩))(h:a.getD 3 undef=.pointer (some ⟨bp,0,none⟩))(j:a.getD 4 undef=.pointer (some ⟨be,0,none⟩))
 (k:w.heap[bu]?=some (.cells #[.slice A n c] 24 (0,0))) (m:w.heap[bp]?=some (.cells #[.int .i64 p] 3 (0,0))) (o:w.heap[be]?=some (.cells #[.int .i64 e] 25 (0,0))):
 (results Tryz.f22 a).run prog w=.ok (.tuple #[.agg #[.slice A n c],.int .i64 p,.int .i64 e]) w:=by
 have b:a[2]?.getD undef=.pointer (some ⟨bu,0,none⟩):=by simpa using g
 have d:a[3]?.getD undef=.pointer (some ⟨bp,0,none⟩):=by simpa using h
 have f:a[4]?.getD undef=.pointer (some ⟨be,0,none⟩):=by simpa using j
 have q:w.cell? ⟨bu,0,none⟩=some (.slice A n c):=x6 k 0;have r:w.cell? ⟨bp,0,none⟩=some (.int .i64 p):=x6 m 0;have s:w.cell? ⟨be,0,none⟩=some (.int .i64 e):=x6 o 0;simp[results,Tryz.results22,b,d,f,asAddr,go_sem,q,r,s]
theorem zcf{W o}{B bu:Nat}{v ws A}{n c T:Nat}(h:jZ W B v ws)(t:W.heap[bu]?=some (.cells #[.slice A n c] T (0,0)))(y:W.grownBy o (some bu)):jZ o B v ws:=by
 rcases h with⟨rfl,rfl⟩|⟨g,d,rfl,f,q⟩
 ·exact .inl ⟨rfl,rfl⟩
 ·refine .inr ⟨g,d,rfl,f,λj u r=>?_⟩
  have b:=q j u r;have k:g<W.heap.size:=by
   rcases E0 g W.heap.size with h|h
   ·exact h
   ·unfold World.cell? at b;rw[G6 h]at b;cases b
  have m:g≠bu:=by
   rintro rfl;cases ws with
   |nil=>simp[R6]at r
   |cons x ws=>
    have z:=q 0 (.int .i64 x.I9) (by simp[R6,Wd.cells]);have s:=x6 t 0;rw[z]at s;simp at s
  exact(E8 (a:=⟨g,j,none⟩) (y.block g k (by simp;exact m))).trans b
structure FrW(w W:World)(rb bu bp be base:Nat)(v:Value)(ws:List Wd)(i en:Nat)(A:Option Addr)(c:Nat)(l:List (Fn×Value×Value×Value))(p e:Int):Prop where
 rd:Rq W rb v ws i en
 un:W.heap[bu]?=some (.cells #[.slice A l.length c] 24 (0,0))
 pp:W.heap[bp]?=some (.cells #[.int .i64 p] 3 (0,0))
 ee:W.heap[be]?=some (.cells #[.int .i64 e] 25 (0,0))
 row:O8 Y7 W base 32 6 (.slice A l.length c) l
 M1:Below w.heap.size w W
 gl:O4 W
 r0:10<rb
 gb:10<bu
 z0:w.heap.size<=bu
 z1:bu<bp
 z2:bp<be
 z3:be<rb
 z4:rb<base
 z5:base<=W.heap.size
section
variable {w W W':World}{rb bu bp be base:Nat}{v:Value}{ws:List Wd}{i en:Nat}{A:Option Addr}{c:Nat}{l:List (Fn×Value×Value×Value)}{p e:Int}
theorem FrW.L9{b:Nat}(h:FrW w W rb bu bp be base v ws i en A c l p e)(d:Rq W' rb v ws b en)(a:W.grownBy W' (some rb)):FrW w W' rb bu bp be base v ws b en A c l p e:=by
 have f:=h.z0;have g:=h.z1;have j:=h.z2;have m:=h.z3;have n:=h.z4;have o:=h.z5;exact⟨d,(a.block bu (by omega) (by simp;omega)).trans h.un,(a.block bp (by omega) (by simp;omega)).trans h.pp,(a.block be (by omega) (by simp;omega)).trans h.ee,h.row.kept a (λk e=>.inl (by cases e;omega)),ZF h.M1 a (by omega) (by have:=h.M1.size;omega),h.gl.of a h.r0,h.r0,h.gb,f,g,j,m,n,C1 o a.size⟩
theorem FrW.below(h:FrW w W rb bu bp be base v ws i en A c l p e)(a:Below W.heap.size W W'):FrW w W' rb bu bp be base v ws i en A c l p e:=h.L9 (h.rd.K7 a) (I7 a _)
theorem FrW.zkB(h:FrW w W rb bu bp be base v ws i en A c l p e)(a:W.grownBy W' (some rb)):W'.heap[bu]?=some (.cells #[.slice A l.length c] 24 (0,0))/\W'.heap[bp]?=some (.cells #[.int .i64 p] 3 (0,0))/\W'.heap[be]?=some (.cells #[.int .i64 e] 25 (0,0))/\Below w.heap.size w W':=by
 have b:=h.z0;have d:=h.z1;have f:=h.z2;have g:=h.z3;have j:=h.z4;have k:=h.z5;exact⟨(a.block bu (by omega) (by simp;omega)).trans h.un,(a.block bp (by omega) (by simp;omega)).trans h.pp,(a.block be (by omega) (by simp;omega)).trans h.ee,ZF h.M1 a (by omega) (by have:=h.M1.size;omega)⟩
theorem FrW.Xs{o}(h:FrW w W rb bu bp be base v ws i en A c l p e)(a:(W.alloc o).grownBy W' (Value.slice A l.length c).ownBlock):W'.heap[bu]?=some (.cells #[.slice A l.length c] 24 (0,0)):=by
 have b:=h.z1;have d:=h.z2;have f:=h.z3;have g:=h.z4;have j:=h.z5;exact(a.block bu (by simp;omega) (λe=>by have:=(h.row.1.lt bu e.symm).1;omega)).trans ((C4 W o (by omega)).trans h.un)
theorem FrW.qv{a:Fn×Value×Value×Value}{r:Nat->Prop}{o:Obj}{g cap C:Nat}
 (h:FrW w W rb bu bp be base v ws i en A c l p e) (H:Y7.XD W r a) (s: ∀g,r g->base<=g/\(Value.slice A l.length c).ownBlock≠some g)
 (I:W'.ownsRow base 32 6 (.slice (some ⟨g,0,none⟩) (l.length+1) cap) (l.length+1) (l.flatMap Y7.cells++Y7.cells a)) (d:(W.alloc o).grownBy W' (Value.slice A l.length c).ownBlock) (t:(Value.slice A l.length c).ownBlock=some g\/g=(W.alloc o).heap.size) (u:C=l.length+1):
 FrW w (W'.setCell ⟨bu,0,none⟩ (.slice (some ⟨g,0,none⟩) C cap)) rb bu bp be base v ws i en (some ⟨g,0,none⟩) cap (l++[a]) p e:=by
 subst u;have J:=h.z0;have K:=h.z1;have L:=h.z2;have M:=h.z3;have N:=h.z4;have O:=h.z5;have P:=h.M1.size;have x:Below W.heap.size W (W.alloc o):=(x8 _ _).alloc (x7 _) _;have m:=h.L9 (h.rd.K7 x) (I7 x _);have y:=h.row.1.lt;have f: ∀k,(Value.slice A l.length c).ownBlock=some k->base<=k:=λk e=>(y k e).1
 have z:Y7.XD (W.alloc o) r a:=Y7.K7 (λq D E=>⟨D,by simp;omega,C4 W o E⟩) H;have Q:O8 Y7 W' base 32 6 (.slice (some ⟨g,0,none⟩) (l.length+1) cap) (l++[a]):=O8.qv m.row z s I d t;have b:=I8 W' bu 0 (.slice (some ⟨g,0,none⟩) (l.length+1) cap);have F:(l++[a]).length=l.length+1:=by simp
 have R:=x.size;have S:=d.size;have T:(W.alloc o).heap.size=W.heap.size+1:=by simp
 have j:Rq W' rb v ws i en:=zdC m.rd d (λk e=>by have:=f k e;omega);have B:Below w.heap.size w W':=⟨d.os.trans m.M1.os,d.tape.trans m.M1.tape,d.output.trans m.M1.output,C1 m.M1.size d.size,λk z=>(d.block k (by omega) (λe=>by have:=f k e.symm;omega)).trans (m.M1.block k z)⟩
 have n: ∀k,k<base->k≠bu->(W'.setCell ⟨bu,0,none⟩ (.slice (some ⟨g,0,none⟩) (l.length+1) cap)).heap[k]?=(W.alloc o).heap[k]?:=λk D E=>
  (b.block k (by omega) (by simp;omega)).trans (d.block k (by omega) (λe=>by have:=f k e.symm;omega))
 refine⟨⟨(b.block rb j.lt (by simp;omega)).trans j.P6,?_,j.X5,j.pos⟩,by rw[F];simpa using A6 W' bu 0 _ _ (.slice (some ⟨g,0,none⟩) (l.length+1) cap) (h.Xs d),
  (n bp (by omega) (by omega)).trans m.pp,(n be (by omega) (by omega)).trans m.ee,
  by rw[F];exact Q.kept b (λk e=>.inl (by cases e;omega)),L6 B (by omega) _ _,
  (m.gl.Z3 d.size (λq U=>d.block q (by have:=h.r0;omega) (λe=>by have:=f q e.symm;have:=h.r0;omega))).Z3 b.size (λq U=>?_),
  h.r0,h.gb,J,K,L,M,N,C1 O (C1 R (C1 d.size b.size))⟩
 ·exact zcf j.row (h.Xs d) b
 ·exact b.block q (by have:=h.r0;omega) (by simp;have G:=h.z0;have:=h.gb;omega)
end
def zpg(w:World)(a:ByteArray)(e:Ending)(w':World):Prop:=
 ∃(l:List Fn)(A:Option Addr)(c:Nat)(p b:Int),e=.returned (.tuple #[.agg #[.slice A l.length c],.int .i64 p,.int .i64 b])/\U2 w' (λg=>w.heap.size<=g) (.slice A l.length c) l/\Below w.heap.size w w'/\XJ a l p b
def zck(w:World)(a:ByteArray)(e:Ending)(w':World):Prop:=
 ∃(l:List Fn)(A:Option Addr)(c:Nat)(p b:Int),e=.returned (.tuple #[.agg #[.slice A l.length c],.int .i64 p,.int .i64 b])/\U2 w' (λg=>w.heap.size<=g) (.slice A l.length c) l/\Below w.heap.size w w'/\XJ a l p b/\l.length<=c
def zck.old{w w'}{a:ByteArray}{e}(h:zck w a e w'):zpg w a e w':=by
 obtain⟨l,A,c,p,b,d,f,g,i,-⟩:=h;exact⟨l,A,c,p,b,d,f,g,i⟩
def zcN{W k}{B b:Nat}{v ws}{n:Int}{T:Nat}(h:jZ W B v ws)(p:W.heap[b]?=some (.cells #[.int .i64 n] T (0,0)))(q:W.grownBy k (some b))(_:True->True):jZ k B v ws:=by
 rcases h with⟨rfl,rfl⟩|⟨g,d,rfl,e,l⟩
 ·exact .inl ⟨rfl,rfl⟩
 ·refine .inr ⟨g,d,rfl,e,λj u m=>?_⟩
  have c:=l j u m;have f:g<W.heap.size:=by
   rcases E0 g W.heap.size with h|h
   ·exact h
   ·unfold World.cell? at c;rw[G6 h]at c;cases c
  have i:g≠b:=by
   rintro rfl;cases ws with
   |nil=>simp[R6]at m
   |cons x ws=>
    have r:=l 1 (.string x.K0) (by simp[R6,Wd.cells]);have o:=x6 p 1;rw[r]at o;simp at o
  exact(E8 (a:=⟨g,j,none⟩) (q.block g f (by simp;exact i))).trans c
def zl5{B a b c:Nat}{w W e}{f i:Int}(l:Below B w W)(m:B<=a)(v:a<b)(z:b<c)(n:W.heap[a]?=some (.cells #[e] 24 (0,0)))(o:W.heap[b]?=some (.cells #[.int .i64 f] 3 (0,0)))(p:W.heap[c]?=some (.cells #[.int .i64 i] 25 (0,0)))(s:Value)(x y:Int):
 Below B w (((W.setCell ⟨a,0,none⟩ s).setCell ⟨b,0,none⟩ (.int .i64 x)).setCell ⟨c,0,none⟩ (.int .i64 y))/\(((W.setCell ⟨a,0,none⟩ s).setCell ⟨b,0,none⟩ (.int .i64 x)).setCell ⟨c,0,none⟩ (.int .i64 y)).heap[a]?=some (.cells #[s] 24 (0,0))/\
 (((W.setCell ⟨a,0,none⟩ s).setCell ⟨b,0,none⟩ (.int .i64 x)).setCell ⟨c,0,none⟩ (.int .i64 y)).heap[b]?=some (.cells #[.int .i64 x] 3 (0,0))/\(((W.setCell ⟨a,0,none⟩ s).setCell ⟨b,0,none⟩ (.int .i64 x)).setCell ⟨c,0,none⟩ (.int .i64 y)).heap[c]?=some (.cells #[.int .i64 y] 25 (0,0))/\
 (∀g,g≠a->g≠b->g≠c->(((W.setCell ⟨a,0,none⟩ s).setCell ⟨b,0,none⟩ (.int .i64 x)).setCell ⟨c,0,none⟩ (.int .i64 y)).heap[g]?=W.heap[g]?):=by
 have d: ∀(V:World)(k j:Nat)(u:Value),j≠k->(V.setCell ⟨k,0,none⟩ u).heap[j]?=V.heap[j]?:=λV k j u h=>F9 V ⟨k,0,none⟩ u j (by simpa using h)
 refine⟨L6 (L6 (L6 l m 0 _) (by omega) 0 _) (by omega) 0 _,?_,?_,?_,?_⟩
 ·rw[d _ _ _ _ (by omega),d _ _ _ _ (by omega)]
  simpa using A6 W a 0 _ _ s n
 ·rw[d _ _ _ _ (by omega)]
  simpa using A6 _ b 0 _ _ (.int .i64 x) ((d W a b s (by omega)).trans o)
 ·simpa using A6 _ c 0 _ _ (.int .i64 y) ((d _ b c (.int .i64 x) (by omega)).trans ((d W a c s (by omega)).trans p))
 ·intro g q r t
  rw[d _ _ _ _ t,d _ _ _ _ r,d _ _ _ _ q]
def Jf{w W:World}{b:ByteArray}{f h i:Nat}{a:Array Value}{l:List Fn}{A:Option Addr}{c:Nat}{p d:Int}{F:Nat->Prop}
 (o:a.getD 2 undef=.pointer (some ⟨f,0,none⟩)) (j:a.getD 3 undef=.pointer (some ⟨h,0,none⟩)) (k:a.getD 4 undef=.pointer (some ⟨i,0,none⟩))
 (q:W.heap[f]?=some (.cells #[.slice A l.length c] 24 (0,0))) (r:W.heap[h]?=some (.cells #[.int .i64 p] 3 (0,0))) (s:W.heap[i]?=some (.cells #[.int .i64 d] 25 (0,0)))
 (t:U2 W F (.slice A l.length c) l) (m: ∀g,F g->w.heap.size<=g) (u:Below w.heap.size w W) (hs:XJ b l p d) (n:l.length<=c):
 Leaves prog Tryz.f22 a (λe w'=>zck w b e w') [] .returning W:=
 ⟨_,zay f h i A l.length c p d a W o j k q r s,l,A,c,p,d,rfl,t.K7 (λg j k=>⟨m g j,k,rfl⟩),u,hs,n⟩
def zhn(d:ByteArray)(w)(hs:d.size<=maxLen)(hG:O4 w)(o t:Int)(ws)(hw:Zz d o t ws)(q)(Q:Du ws d.size 0 q):
 Calls prog 22 #[.string d] w λe w'=>zck w d e w':=by
 have HW:=qh hw;have HD:=qh Q;have a3:=hG.xM;have HG:=qh hG;have L:Below w.heap.size w (((w.alloc (.cells #[.slice none 0 0] 24)).alloc (.cells #[.int .i64 0] 3)).alloc (.cells #[.int .i64 0] 25)):=(((x8 _ _).alloc (x7 _) _).alloc (by simp) _).alloc (by simp;omega) _;have WC:=qh (zjb d _ o t ws hs (hG.to L) hw);have d4: ∀(fn:Go.Fn)(first a4:Array Value)(w:World),(Instr.makeFunc fn first a4).run prog w=.ok (.func fn first a4) w:=λ_ _ _ _=>rfl
 clear hw Q hG;unfold maxLen at hs
 go_enter_defers func22,ntmps22
 go_wp2_with fail
 refine WC.out.mono ?_;rintro e B ⟨⟨v,rfl,hv⟩,r⟩;have hu:B.heap[w.heap.size]?=some (.cells #[.slice none 0 0] 24 (0,0)):=(r.block _ (by simp;omega)).trans ((C4 _ _ (by simp;omega)).trans ((C4 _ _ (by simp)).trans (A5 w _)));have hp:B.heap[w.heap.size+1]?=some (.cells #[.int .i64 0] 3 (0,0)):=(r.block _ (by simp)).trans ((C4 _ _ (by simp)).trans (by simpa using A5 (w.alloc (.cells #[.slice none 0 0] 24)) (.cells #[.int .i64 0] 3)));have he:B.heap[w.heap.size+2]?=some (.cells #[.int .i64 0] 25 (0,0)):=(r.block _ (by simp)).trans (by simpa using A5 ((w.alloc (.cells #[.slice none 0 0] 24)).alloc (.cells #[.int .i64 0] 3)) (.cells #[.int .i64 0] 25));have a5:=qh (L.trans (r.mono L.size));have a6:=r.size;simp at a6;have HV:=qh hv;obtain⟨J,i,rfl,-⟩:=hv.jJ;have HU:=qh hu;have HP:=qh hp;have HE:=qh he;have cp:=x6 hp 0;have fp:=B4 hp 0;have ce:=x6 he 0;have fe:=B4 he 0;simp at cp ce;clear hv r hu hp he WC L
 go_upto_region 2 with(fail)
 clear cp fp ce fe
 have u:Hid (((B.setCell ⟨w.heap.size+1,0,none⟩ (.int .i64 o)).setCell ⟨w.heap.size+2,0,none⟩ (.int .i64 t)).heap[w.heap.size]?=some (.cells #[.slice none 0 0] 24 (0,0))):=
  qh ((F9 _ ⟨w.heap.size+2,0,none⟩ _ _ (by simp)).trans ((F9 _ ⟨w.heap.size+1,0,none⟩ _ _ (by simp)).trans HU.out))
 have x:Hid (((B.setCell ⟨w.heap.size+1,0,none⟩ (.int .i64 o)).setCell ⟨w.heap.size+2,0,none⟩ (.int .i64 t)).heap[w.heap.size+1]?=some (.cells #[.int .i64 o] 3 (0,0))):=
  qh ((F9 _ ⟨w.heap.size+2,0,none⟩ _ _ (by simp)).trans (by simpa using A6 B (w.heap.size+1) 0 _ _ (.int .i64 o) HP.out))
 have s:Hid (((B.setCell ⟨w.heap.size+1,0,none⟩ (.int .i64 o)).setCell ⟨w.heap.size+2,0,none⟩ (.int .i64 t)).heap[w.heap.size+2]?=some (.cells #[.int .i64 t] 25 (0,0))):=
  qh (by simpa using A6 _ (w.heap.size+2) 0 _ _ (.int .i64 t) ((F9 B ⟨w.heap.size+1,0,none⟩ (.int .i64 o) (w.heap.size+2) (by simp)).trans HE.out))
 have E:=qh (L6 (L6 a5.out (show w.heap.size<=w.heap.size+1 by omega) 0 (.int .i64 o)) (show w.heap.size<=w.heap.size+2 by omega) 0 (.int .i64 t));have V:((B.setCell ⟨w.heap.size+1,0,none⟩ (.int .i64 o)).setCell ⟨w.heap.size+2,0,none⟩ (.int .i64 t)).heap.size=B.heap.size:=by simp
 have W:Hid (jZ ((B.setCell ⟨w.heap.size+1,0,none⟩ (.int .i64 o)).setCell ⟨w.heap.size+2,0,none⟩ (.int .i64 t)) ((B.setCell ⟨w.heap.size+1,0,none⟩ (.int .i64 o)).setCell ⟨w.heap.size+2,0,none⟩ (.int .i64 t)).heap.size (.slice J ws.length i) ws):=
  qh (by rw[V];exact zcN (zcN HV.out HP.out (I8 _ _ _ _) (λh=>h)) ((F9 B ⟨w.heap.size+1,0,none⟩ (.int .i64 o) (w.heap.size+2) (by simp)).trans HE.out) (I8 _ _ _ _) (λh=>h))
 clear HU HP HE HV a5;generalize(B.setCell _ _).setCell _ _=p at u x s E W V|-;have b8:w.heap.size+3<=p.heap.size:=by omega
 clear V a6;obtain⟨bu,M⟩: ∃b,w.heap.size=b:=⟨_,rfl⟩;obtain⟨bp,X⟩: ∃b,w.heap.size+1=b:=⟨_,rfl⟩;obtain⟨be,a7⟩: ∃b,bp+1=b:=⟨_,rfl⟩;rw[X]at x;rw[show w.heap.size+2=be by omega]at s;rw[M]at u;simp only[X];simp only[a7];simp only[M];have n1:bu<bp:=by omega
 have n2:bp<be:=by omega
 have n3:be<p.heap.size:=by omega
 have n0:10<bu:=by omega
 have HN:=qh M;clear X a7 M b8 a3
 by_cases N:t=0
 ·subst N
  have R:zV ws:=HW.out.XN;have a8:=HW.out.zB;have a9:=qh R;have b0:=qh a8;clear R a8;have Y:Below w.heap.size w (p.alloc (.cells #[.slice J ws.length i,.int .i64 0,.int .i64 d.size] 157)):=E.out.alloc E.out.size _;have S:Below p.heap.size p (p.alloc (.cells #[.slice J ws.length i,.int .i64 0,.int .i64 d.size] 157)):=(x8 _ _).alloc (x7 _) _
  have a:Hid (FrW w (p.alloc (.cells #[.slice J ws.length i,.int .i64 0,.int .i64 d.size] 157)) p.heap.size bu bp be (p.heap.size+1) (.slice J ws.length i) ws 0 d.size none 0 [] o 0):=
   qh ⟨⟨A5 p _,W.out.Z3 λk hk=>S.block k hk,b0.out.1,D0 _⟩,(C4 p _ (by omega)).trans u.out,(C4 p _ (by omega)).trans x.out,(C4 p _ n3).trans s.out,O8.nil _ _ _ _ _,Y,HG.out.to Y,by omega,n0,by have:=HN.out;omega,n1,n2,n3,by omega,by simp⟩
  clear Y S;have ce:p.cell? ⟨be,0,none⟩=some (.int .i64 0):=x6 s.out 0
  go_upto_block 0 with(fail)
  clear ce u x s E W;generalize p.alloc _=w3 at a|-;generalize p.heap.size+1=m at a;generalize p.heap.size=T at a n3|-;have b1:=a.out.r0
  go_wp2_with fail
  go_loopw[] (λwr=> ∃(l:List (Fn×Value×Value×Value))(A:Option Addr)(c i':Nat)(q':Ru),Hid (FrW w wr T bu bp be m (.slice J ws.length i) ws i' d.size A c l o 0)/\Hid (l.length<=i'/\Du ws d.size i' q'/\q=Jw (l.map (·.1)) q'))
   (λwr=>ws.length-jN wr T)
  case atStart=>exact⟨[],none,0,0,q,a,qh ⟨D0 _,HD.out,(zfM q).symm⟩⟩
  case round=>
   clear a;obtain⟨l,A,c,i',q',a,U⟩:=hrel;have b9:=a.out.rd.yB;have c8:=a.out.rd.pos;have c9:=a.out.rd.X5;have c0:=a.out.rd.c0;have c1:=a.out.rd.c1
   by_cases c2:i'<ws.length
   ·have b2:(i':Int)<(ws.length:Int):=by omega
    go_upto_region 6 with(fail)
    go_quiet (fail)
    clear c0 c1;have G:Hid (∀n,FrW w (wr.drewN n) T bu bp be m (.slice J ws.length i) ws i' d.size A c l o 0):=qh (λn=>a.out.below (J6 (x8 _ _) n))
    go_upto_region 7 with(fail)
    generalize H:World.drewN wr _=K;have I:Hid (FrW w K T bu bp be m (.slice J ws.length i) ws i' d.size A c l o 0):=qh (H▸G.out _);clear H G a;have a:=I;clear I;have c3:l.length<=4000:=by have:=U.out.1;omega
    have cu:K.cell? ⟨bu,0,none⟩=some (.slice A l.length c):=x6 a.out.un 0;have y:=qh (a.out.below (M2 _));have hX:=zjN U.out.2.1 c2
    rcases hX with⟨j,hy,Q⟩|⟨f,j,q2,hy,hm,Q⟩
    ·have HY:=qh hy
     have Z:q=.J9 j:=by rw[U.out.2.2,Q];rfl
     subst Z;clear hy Q
     first|go_region_dies|fail
     all_goals
      go_at_call 83
      refine(zkM T _ ws d.size i' a9.out b1 _ HY.out _ y.out.rd y.out.gl).mono ?_;rintro e w9 ⟨rfl,hg⟩;have HK:=qh (y.out.zkB hg);clear hg;unfold Y3
      go_wp2_with fail
      refine leaves_cons (f:=82) (args:= #[.pointer (some ⟨bu,0,none⟩),.pointer (some ⟨bp,0,none⟩),.pointer (some ⟨be,0,none⟩)]) (by simp) (by simp[go_sem]) ?_;refine(zfR bu bp be _ o 0 _ [] w9 HK.out.1 HK.out.2.1 HK.out.2.2.1 n1 n2).mono ?_;rintro e u' w' ⟨rfl,rfl,r,g1,g2,g3⟩;simp only[settle,List.dropWhile_nil];exact Jf (l:=[]) (F:=λ_=>False) rfl rfl rfl g1 g2 g3 (.inl ⟨_,_,rfl,rfl⟩) (λg h=>h.elim) (HK.out.2.2.2.trans (r.mono (by have:=HN.out;omega))) ⟨o,0,ws,HW.out,.inr ⟨rfl,.inl ⟨j,HD.out,rfl,rfl,rfl⟩⟩⟩ (D0 _)
    ·have HY:=qh hy;have HM:=qh hm;have HQ:=qh Q;clear hy hm Q
     have d5:i'<j:=HY.out.on;have d0:=a.out.z5;have d2:=a.out.z4
     first|(go_region_law(first|(go_simp;go_at_call 83;refine(zkM T _ ws d.size i' a9.out b1 _ HY.out _ y.out.rd y.out.gl).mono ?_;rintro e w8 ⟨An,cn,At,ct,Ab,cb,rfl,hS,hT,hB,hR,hg⟩;have c4:Hid (Y7.XD w8 (λg=>K.heap.size<=g) (f,.slice An f.J1.length cn,.slice At f.K4.length ct,.slice Ab f.J0.length cb)):=qh ⟨hS,hT,hB⟩;have D:=qh (y.out.L9 hR hg);have d1:w8.cell? ⟨bu,0,none⟩=some (.slice A l.length c):=x6 D.out.un 0;have d6:=D.out.z5;have d7:=I5 D.out.un;have b3:=y.out.row.1.lt;clear hS hT hB hR hg)|(refine qt zgR (by rfl) _ _ (by rfl) m _ l.length (l.flatMap Y7.cells) (by rfl) (D.out.row.1.alloc _) w8.heap.size 1 #[.string f.J2,.slice An f.J1.length cn,.slice At f.K4.length ct,.int .i64 f.out,.slice Ab f.J0.length cb,.int .i64 f.pos] (by rfl) (A5 w8 _) rfl (by simp[Value.oneCell']) (by omega) (by simp;omega) ?_;intro g9 b4 w9 a0 C b5 d3;have a1:=D.out.Xs C;have q1:=x6 a1 0;have d8:=B4 a1 0;clear a1)))|fail
     all_goals
      have a2:=qh (D.out.qv c4.out (λg (hg:K.heap.size<=g)=>⟨by omega,λe=>by have:=(b3 g e).2;have h2:K.drew.heap.size=K.heap.size:=rfl;omega⟩) a0 C b5 rfl)
      go_wp2_with fail
      go_roundw
      case rel=>exact⟨l++[(f,.slice An f.J1.length cn,.slice At f.K4.length ct,.slice Ab f.J0.length cb)],some ⟨g9,0,none⟩,b4,j,q2,by simpa using a2,qh ⟨by have:=U.out.1;simp;omega,HM.out,by rw[U.out.2.2,HQ.out,zdZ];simp⟩⟩
      case measure=>rw[a2.out.rd.yB,b9];have:=a2.out.rd.pos;omega
   ·have b2:(ws.length:Int)<=(i':Int):=by omega
    have b6:ws.length<=i':=by omega
    have b7:=zj5 U.out.2.1 b6;have Z:q=.xL (l.map (·.1)):=by rw[U.out.2.2,b7];simp[Jw]
    have c3:l.length<=4000:=by have:=U.out.1;omega
    subst Z;clear b7 b6
    go_upto_region 6 with(fail)
    go_quiet (fail)
    clear c0 c1;have G:Hid (∀n,FrW w (wr.drewN n) T bu bp be m (.slice J ws.length i) ws i' d.size A c l o 0):=qh (λn=>a.out.below (J6 (x8 _ _) n))
    go_upto_region 8 with(fail)
    generalize H:World.drewN wr _=K;have I:Hid (FrW w K T bu bp be m (.slice J ws.length i) ws i' d.size A c l o 0):=qh (H▸G.out _);clear H G a;have a:=I;clear I;have cu:K.cell? ⟨bu,0,none⟩=some (.slice A l.length c):=x6 a.out.un 0;have O:=zfe (l.map (·.1)) A c (λg=>m<=g) K (by rw[C6];exact a.out.row.xL) ((HD.out.zB b0.out) _ rfl).2.2 (by rw[C6];omega);rw[C6]at O;obtain⟨z,hz⟩: ∃z,U6 (l.map (·.1))=z:=⟨_,rfl⟩;rw[hz]at O;have c5:=qh O;have HZ:=qh hz;clear O hz
    go_wp2_with fail
    clear cu;refine c5.out.mono ?_;rintro e wz ⟨rfl,r⟩;replace a:=qh (a.out.below r);clear r;have cu:wz.cell? ⟨bu,0,none⟩=some (.slice A l.length c):=x6 a.out.un 0;have fu:wz.frozen? ⟨bu,0,none⟩=false:=B4 a.out.un 0;have cp:wz.cell? ⟨bp,0,none⟩=some (.int .i64 o):=x6 a.out.pp 0;have fp:wz.frozen? ⟨bp,0,none⟩=false:=B4 a.out.pp 0;have ce:wz.cell? ⟨be,0,none⟩=some (.int .i64 0):=x6 a.out.ee 0;have fe:wz.frozen? ⟨be,0,none⟩=false:=B4 a.out.ee 0;have m1:bu≠bp:=by omega
    have m2:bp≠be:=by omega
    have m3:bu≠be:=by omega
    by_cases P:z=0
    ·subst P
     go_wp2_with fail
     refine leaves_cons (f:=82) (args:= #[.pointer (some ⟨bu,0,none⟩),.pointer (some ⟨bp,0,none⟩),.pointer (some ⟨be,0,none⟩)]) (by simp) (by simp[go_sem]) ?_;refine(YA _ _ _ _).mono ?_;rintro e u' w' ⟨rfl,rfl,rfl⟩;simp only[settle];obtain⟨r,g1,g2,g3,g4⟩:=zl5 a.out.M1 (by have:=HN.out;omega) n1 n2 a.out.un a.out.pp a.out.ee (.slice A l.length c) 0 0;refine Jf (l:=l.map (·.1)) (F:=λg=>m<=g) rfl rfl rfl (by rw[C6];exact g1) g2 g3 ?_ (λg (h:m<=g)=>by have:=a.out.z4;have:=HN.out;omega) r ⟨o,0,ws,HW.out,.inr ⟨rfl,.inr ⟨_,HD.out,rfl,HZ.out.symm,by rw[C8 HZ.out]⟩⟩⟩ (by rw[C6];exact ze2 a.out.row);rw[C6];exact a.out.row.xL.K7 λg (q1:m<=g) q2=>⟨q1,by simpa using q2,g4 g (by have:=a.out.z4;omega) (by have:=a.out.z4;omega) (by have:=a.out.z4;omega)⟩
    ·have e1:(z !=0)=true:=by simpa using P
     have c6:=qh P;clear P
     go_wp2_with fail
     refine leaves_cons (f:=82) (args:= #[.pointer (some ⟨bu,0,none⟩),.pointer (some ⟨bp,0,none⟩),.pointer (some ⟨be,0,none⟩)]) (by simp) (by simp[go_sem]) ?_;refine(YA _ _ _ _).mono ?_;rintro e u' w' ⟨rfl,rfl,rfl⟩;simp only[settle];obtain⟨r,g1,g2,g3,g4⟩:=zl5 a.out.M1 (by have:=HN.out;omega) n1 n2 a.out.un a.out.pp a.out.ee (.slice none 0 0) 0 z;exact Jf (l:=[]) (F:=λ_=>False) rfl rfl rfl g1 g2 g3 (.inl ⟨_,_,rfl,rfl⟩) (λg h=>h.elim) r ⟨o,0,ws,HW.out,.inr ⟨rfl,.inr ⟨_,HD.out,rfl,HZ.out.symm,by rw[B5 (by rw[HZ.out];exact c6.out)]⟩⟩⟩ (D0 _)
 ·have e1:(t !=0)=true:=by simpa using N
  have c7:=qh N;clear N;have cu:p.cell? ⟨bu,0,none⟩=some (.slice none 0 0):=x6 u.out 0;have fu:p.frozen? ⟨bu,0,none⟩=false:=B4 u.out 0;have cp:p.cell? ⟨bp,0,none⟩=some (.int .i64 o):=x6 x.out 0;have fp:p.frozen? ⟨bp,0,none⟩=false:=B4 x.out 0;have ce:p.cell? ⟨be,0,none⟩=some (.int .i64 t):=x6 s.out 0;have fe:p.frozen? ⟨be,0,none⟩=false:=B4 s.out 0;have m1:bu≠bp:=by omega
  have m2:bp≠be:=by omega
  have m3:bu≠be:=by omega
  go_upto_region 3 with(fail)
  go_region
  all_goals
   go_wp2_with fail
   obtain⟨r,g1,g2,g3,-⟩:=zl5 E.out (by have:=HN.out;omega) n1 n2 u.out x.out s.out (.slice none 0 0) o t;exact Jf (l:=[]) (F:=λ_=>False) rfl rfl rfl g1 g2 g3 (.inl ⟨_,_,rfl,rfl⟩) (λg h=>h.elim) (r.trans ((M2 _).mono r.size)) ⟨o,t,ws,HW.out,.inl ⟨c7.out,rfl,rfl,rfl⟩⟩ (D0 _)
def zjF{s:ByteArray}{k:Nat}{l r}(h:xG s k l r): ∀r',xG s k l r'->r=r':=by
 induction h with
 |done e=>intro r' a;exact(a.zbX (by omega)).symm
 |J9 e b=>intro r' a;exact(a.ZM e b).symm
 |skip e b _ c=>intro r' a;exact c _ (a.JE e b)
 |Y5 e b _ c=>intro r' a;exact c _ (a.xk e b)
def zcq{s:ByteArray}{p e p' c:Int}{ws ws'}(h:Zz s p e ws)(d:Zz s p' c ws'):p=p'/\e=c/\ws=ws':=by
 rcases h with⟨f,rfl,rfl,rfl⟩|⟨f,r,g,rfl,rfl,rfl⟩
 ·rcases d with⟨a,rfl,rfl,rfl⟩|⟨a,_⟩
  ·exact⟨rfl,rfl,rfl⟩
  ·omega
 ·rcases d with⟨a,_⟩|⟨a,i,b,rfl,rfl,rfl⟩
  ·omega
  ·obtain rfl:=zjF g _ b
   exact⟨rfl,rfl,rfl⟩
def ZJ{s:ByteArray}{l i}{p k p' er':Int}(h:XJ s l p k)(d:XJ s i p' er'):l=i/\p=p'/\k=er':=by
 obtain⟨t,u,v,n,h⟩:=h;obtain⟨w,x,o,g,d⟩:=d;obtain⟨rfl,rfl,rfl⟩:=zcq n g
 rcases h with⟨a,rfl,rfl,rfl⟩|⟨rfl,h⟩
 ·rcases d with⟨_,rfl,rfl,rfl⟩|⟨b,_⟩
  ·exact⟨rfl,rfl,rfl⟩
  ·exact H9 b a
 ·rcases d with⟨b,_⟩|⟨_,d⟩
  ·exact H9 rfl b
  ·rcases h with⟨j,f,rfl,rfl,rfl⟩|⟨m,f,rfl,rfl,rfl⟩
   ·rcases d with⟨q,c,rfl,rfl,rfl⟩|⟨r,c,_⟩
    ·have e:=f.js _ c;injection e with e;subst e;exact⟨rfl,rfl,rfl⟩
    ·have e:=f.js _ c;cases e
   ·rcases d with⟨q,c,_⟩|⟨r,c,rfl,rfl,rfl⟩
    ·have e:=f.js _ c;cases e
    ·have e:=f.js _ c;injection e with e;subst e;exact⟨rfl,rfl,rfl⟩
def zkk{s:ByteArray}{p e:Int}{ws}(f:Zz s p e ws)(w)(hs:s.size<=maxLen)(g:O4 w):e=0-> ∃q,Du ws s.size 0 q:=by
 intro i;obtain⟨x,n,-,h,-⟩:=zgL s w hs g [];obtain⟨l,A,c,o,r,-,-,-,t,u,k,b,h⟩:=h;obtain⟨rfl,rfl,rfl⟩:=zcq f b
 rcases h with⟨a,_⟩|⟨_,⟨j,d,_⟩|⟨m,d,_⟩⟩
 ·exact H9 i a
 ·exact⟨_,d⟩
 ·exact⟨_,d⟩
def zl4{s:ByteArray}{p e:Int}{ws}(c:Zz s p e ws)(w)(hs:s.size<=maxLen)(f:O4 w): ∃q,Du ws s.size 0 q:=by
 by_cases d:e=0
 ·exact zkk c w hs f d
 ·rcases c with⟨_,_,_,rfl⟩|⟨_,r,g,_,a,rfl⟩
  ·exact⟨_,.done (D0 _)⟩
  ·have i:r.2=[]:=by
    rcases r with⟨o,l⟩
    cases o with
    |none=>exact H9 a d
    |some k=>
     have: ∀{k:Nat}{l:List Wd}{r:Option Nat×List Wd},xG s k l r->r.1≠none->r.2=[]:=by
      intro k l r h
      induction h with
      |done _=>intro h;exact H9 rfl h
      |J9 _ _=>intro _;rfl
      |skip _ _ _ b=>exact b
      |Y5 _ _ _ b=>exact b
     exact this g (by simp)
   rw[i];exact⟨_,.done (D0 _)⟩
def zgN(a:ByteArray)(w)(hs:a.size<=maxLen)(b:O4 w):Calls prog 22 #[.string a] w λe w'=>zck w a e w':=by
 obtain⟨p,e,d,c⟩:=Zz.zfv a;obtain⟨q,f⟩:=zl4 c w hs b;exact zhn a w hs b p e d c q f
def QR{s:ByteArray}{l}{p b:Int}(h:XJ s l p b):(∀f∈l,FnZ f)/\l.length<=281474976710656:=by
 obtain⟨d,e,g,a,h⟩:=h
 rcases h with⟨_,rfl,_⟩|⟨_,⟨j,_,rfl,_⟩|⟨m,c,_,_,rfl⟩⟩
 ·exact⟨by simp,by simp⟩
 ·exact⟨by simp,by simp⟩
 ·split
  ·have:=(c.zB a.zB) _ rfl
   exact⟨this.2.2,by have i:=this.1;have k:=a.zB.1;omega⟩
  ·exact⟨by simp,by simp⟩
def Yj{s:ByteArray}{l}{p b:Int}(h:XJ s l p b): ∀f∈l,qL f.J0<=60000000:=by
 obtain⟨g,i,k,a,h⟩:=h
 rcases h with⟨_,rfl,_⟩|⟨_,⟨j,_,rfl,_⟩|⟨m,c,_,_,rfl⟩⟩
 ·simp
 ·simp
 ·split
  ·intro f d
   have n:=Du.L0 a.zB c m rfl (D0 _);have o:=a.zB.1;have e:=zcd d;unfold fnN at e;omega
  ·simp
def CpR(w:World)(g:ByteArray)(e:Ending)(w':World):Prop:=
 ∃(a:List Fn)(p d:Int),XJ g a p d/\ ∃(A:Option Addr)(n c:Nat)(m b:Int),e=.returned (.tuple #[.agg #[.slice A n c,.int .i64 m],.int .i64 b])/\Below w.heap.size w w'/\
  ((d≠0/\b=d/\n=0)\/(d=0/\(((S4 a).2≠0/\b=(S4 a).2/\n=0)\/((S4 a).2=0/\Jk a=none/\b=2/\n=0)\/((S4 a).2=0/\Jk a=some (a.map (xJ a))/\b=0/\n=a.length/\m=(zP a T0:Int)/\zF w' (.slice A n c) (a.map λf=>(xJ a f).pf)))))
def zoc{w:World}{b t:Nat}{d e}(a c:Value)(h:w.heap[b]?=some (.cells #[d,e] t (0,0))):
 ((w.setCell ⟨b,0,none⟩ a).setCell ⟨b,1,none⟩ c).heap[b]?=some (.cells #[a,c] t (0,0)):=by
 have f:=A6 _ b 0 _ _ a h;simpa using A6 _ b 1 _ _ c f
def Qb(d:ByteArray)(w)(hs:d.size<=maxLen)(H:O4 w):Calls prog 23 #[.string d] w (CpR w d):=by
 have f:=(x8 w.heap.size w).alloc (x7 _) (.cells #[.slice none 0 0,.int .i64 0] 55);have l:=qh (A5 w (.cells #[.slice none 0 0,.int .i64 0] 55));have i:=qh f;have I:=qh (zgN d (w.alloc (.cells #[.slice none 0 0,.int .i64 0] 55)) hs (H.to f));have n:=qh (H.to f);clear f H
 go_enter func23,ntmps23
 go_upto_region 1 with(fail)
 generalize w.alloc _=w1 at l i I n|-;generalize s:w.heap.size=o at l i|-;have t:=qh s
 go_wp2_with fail
 refine I.out.mono ?_;rintro e u ⟨j,A,c,p,z,rfl,P,B,Q,R⟩;have J:=(B.block o (I5 l.out)).trans l.out;have k:=B.alloc B.size (.cells #[.slice A j.length c] 24);have K:=qh (A5 u (.cells #[.slice A j.length c] 24));have q:Hid (Below o w (u.alloc (.cells #[.slice A j.length c] 24))):=qh (i.out.trans (k.mono (G9 (I5 l.out))));have a:=qh ((k.block o (I5 l.out)).trans l.out);have v:=qh (n.out.to k);have x:Hid (U2 (u.alloc (.cells #[.slice A j.length c] 24)) (λ_=>True) (.slice A j.length c) j):=qh (P.K7 (λg S L=>⟨trivial,by simp;omega,C4 u _ L⟩));have C:=qh Q;have Z:=qh R;clear P B Q R J k I n i l
 go_upto_region 2 with(fail)
 generalize World.alloc _ _=w3 at K q a v x|-;generalize u.heap.size=b4 at K|-;have T:=x6 a.out 0;have U:=x6 a.out 1;have V:=B4 a.out 0;have W:=B4 a.out 1
 by_cases D:z=0
 case neg=>
  have e1:(z !=0)=true:=by simpa using D
  have M:=qh D;clear D
  go_wp2_with fail
  refine E9 (qc rfl _ _ o _ _ _ _ rfl (zoc (.slice none 0 0) (.int .i64 0) a.out) underlying55 rfl YD) rfl ?_;exact⟨j,p,z,C.out,none,0,0,0,z,rfl,by rw[t.out];exact L6 (L6 q.out (x7 _) 0 _) (x7 _) 1 _,.inl ⟨M.out,rfl,rfl⟩⟩
 case pos=>
  subst D;have c4:=x6 K.out 0;have y:=qh (QR C.out);have X:=qh (znQ j A c (λ_=>True) w3 x.out y.out.1 (Yj C.out) y.out.2 Z.out v.out);clear s
  go_wp2_with fail
  refine X.out.mono ?_;rintro e w4 ⟨E,F,G,N,ec,rfl,r,Y⟩;have m:=I5 a.out;have b:=qh ((r.block o m).trans a.out);have O:=qh (q.out.trans (r.mono (G9 m)));have HO:=qh Y;clear T U V W r Y X c4;have T:=x6 b.out 0;have U:=x6 b.out 1;have V:=B4 b.out 0;have W:=B4 b.out 1
  go_wp2_with fail
  refine E9 (qc rfl _ _ o _ _ _ _ rfl (zoc (.slice E F G) (.int .i64 N) b.out) underlying55 rfl YD) rfl ?_;refine⟨j,p,0,C.out,E,F,G,N,ec,rfl,by rw[t.out];exact L6 (L6 O.out (x7 _) 0 _) (x7 _) 1 _,.inr ⟨rfl,?_⟩⟩
  rcases HO.out with h|h|⟨S,L,h3,h4,h5,h6⟩
  ·exact .inl h
  ·exact .inr (.inl h)
  ·exact .inr (.inr ⟨S,L,h3,h4,h5,(h6.K7 (jk.set b.out (by decide) (by decide) 0 (.slice E F G))).K7 (jk.set (A6 _ o 0 _ _ (.slice E F G) b.out) (by decide) (by decide) 1 (.int .i64 N))⟩)
def zey: ∀{l yd},yO yd l=none->(∀f∈l,f.J2∉yd)/\(l.map Fn.J2).Nodup
 |[],_,_=>⟨by simp,by simp⟩
 |f::l,yd,h=>by
  rw[yO]at h
  split at h
  ·cases h
  ·rename_i d
   obtain⟨c,i⟩:=zey h;have j:f.J2∉yd:=λa=>d (List.any_eq_true.2 ⟨f.J2,a,by simp⟩)
   refine⟨λg b=>?_,?_⟩
   ·rcases List.mem_cons.1 b with rfl|b
    ·exact j
    ·exact λa=>c g b (x5 _ a)
   ·rw[List.map_cons,List.nodup_cons]
    refine⟨λa=>?_,i⟩;obtain⟨g,b,e⟩:=List.mem_map.1 a;exact c g b (by rw[e];exact B2 ..)
def zbd{us}(h:(S4 us).2=0): ∃f,us[zP us T0]?=some f/\f.J2=T0/\f.J1.length=0:=by
 obtain⟨l,n,-⟩:=xP h;have d:yO [] us=none:=by
  cases d:yO [] us with
  |none=>rfl
  |some p=>rw[XS l d]at h;cases h
 obtain⟨-,o⟩:=zey d;obtain⟨f,q,b⟩:=List.any_eq_true.1 n;rw[Qi]at b;simp only[F3,F1]at b;have a:f.J2=T0:=b.1.1;obtain⟨j,c⟩:=List.getElem?_of_mem q;have:zP us T0=j:=QK c a λm g i r e=>by
  have k:=(List.getElem?_eq_some_iff.1 c).1;have:=List.pairwise_iff_getElem.1 o m j (by rw[C6];omega) (by rw[C6];exact k) i;rw[List.getElem_map,List.getElem_map,(List.getElem?_eq_some_iff.1 c).2,(List.getElem?_eq_some_iff.1 r).2]at this;exact this (e.trans a.symm)
 rw[this];exact⟨f,c,a,b.1.2⟩
def zh7{us}(h:(S4 us).2=0):zlN (us.map (xJ us)) (zP us T0):=by
 obtain⟨b,-,g⟩:=xP h;have d:=zA b;refine⟨λc i=>?_,?_⟩
 ·obtain⟨f,a,rfl⟩:=List.mem_map.1 i
  rw[List.map_map];exact zlJ d.1 (λf a=>(d.2 f a).1) (JQ us (by unfold U6 at b;rw[B5 (by have:=d.1;omega)]at b;exact b) f a) (g f a) (d.2 f a).1
 ·obtain⟨f,a,-,e⟩:=zbd h
  exact⟨xJ us f,by rw[G2,a];rfl,e⟩
def zdG(us)(U:(S4 us).2=0)(h4: ∀f∈us,(xJ us f).S0.length<=4000)(A r)(c s:Nat)(F:Nat->Prop)(w)(hF:zF w (.slice A us.length c) (us.map λf=>(xJ us f).pf))(hU:U2 w F (.slice r us.length s) us):
 Calls prog 24 #[.agg #[.slice A us.length c,.int .i64 (zP us T0:Int)],.agg #[.slice r us.length s]] w λe w'=>e=.returned (.bool true)/\Below w.heap.size w w':=by
 have a0:=(zA (xP U).1).1;have y:=zh7 U;obtain⟨fm,n,I,-⟩:=zbd U;have a1:zP us T0<us.length:=(List.getElem?_eq_some_iff.1 n).1;generalize zP us T0=m at y n a1|-;have b1:=(x8 w.heap.size w).alloc (x7 _) (.cells #[.slice A us.length c,.int .i64 (m:Int)] 55);have H:=b1.alloc b1.size (.cells #[.slice r us.length s] 24);have d:=qh (heap_alloc2_old w (.cells #[.slice A us.length c,.int .i64 (m:Int)] 55) (.cells #[.slice r us.length s] 24));have l:=qh (heap_alloc2_new w (.cells #[.slice A us.length c,.int .i64 (m:Int)] 55) (.cells #[.slice r us.length s] 24));have HF:=qh (hF.K7 (.of H));have HU:Hid (U2 ((w.alloc (.cells #[.slice A us.length c,.int .i64 (m:Int)] 55)).alloc (.cells #[.slice r us.length s] 24)) (λ_=>True) (.slice r us.length s) us):=qh (hU.K7 (λg h1 J=>⟨trivial,A7 J H.size,H.block g J⟩));have V:=qh H;have W:=qh (zh8 (us.map (xJ us)) m y (by rw[C6];exact a0) (λx hx=>by obtain⟨f,K,rfl⟩:=List.mem_map.1 hx;exact h4 f K) A c ((w.alloc (.cells #[.slice A us.length c,.int .i64 (m:Int)] 55)).alloc (.cells #[.slice r us.length s] 24)) (by rw[C6,List.map_map];exact hF.K7 (.of H)));rw[C6]at W;have a2:=qh n;have a3:=qh I;clear b1 H hF hU y n I h4 U
 go_enter func24,ntmps24
 go_upto_region 1 with(fail)
 generalize World.alloc _ _=w1 at d l HF HU V W|-;obtain⟨bu,B⟩: ∃b,w.heap.size+1=b:=⟨_,rfl⟩;rw[B]at l;simp only[B];clear B;obtain⟨bp,o⟩: ∃b,w.heap.size=b:=⟨_,rfl⟩;have b0:=qh o;rw[o]at d;simp only[o];clear o;have c0:=x6 d.out 0;have c1:=x6 d.out 1
 go_wp2_with fail
 refine W.out.mono ?_;rintro e X ⟨C,v,b3,rfl,-,-,-⟩;have t:=qh ((C.block bp (I5 d.out)).trans d.out);have h:=qh ((C.block bu (I5 l.out)).trans l.out);have a4:=qh (HF.out.K7 (.of C));have L:=qh (HU.out.K7 (F':=λ_=>True) (w':=X) (λg h1 J=>⟨trivial,A7 J C.size,C.block g J⟩));have M:=qh (V.out.trans (C.mono V.out.size));clear C c0 c1 d l HF HU V W;have c0:=x6 t.out 0;have c1:=x6 t.out 1;have Y:=x6 h.out 0;obtain⟨g,D,An,cn,At,ct,Ab,cb,rfl,hg,-,-,-,N⟩:=L.out.at m fm a2.out;have n0:X.cell? ⟨g,D+m*6,none⟩=some (.string ⟨#[109,97,105,110]⟩):=(N 0 _ rfl).trans (by rw[a3.out];rfl);have k0:(0:Int)<=(m:Int):=by omega
 have k1:(m:Int)<(us.length:Int):=by omega
 clear N hg
 go_upto_region 4 with(fail)
 clear n0 k0 k1 c1
 go_wp2_with fail
 clear c0 Y
 go_loopw[38] (λi wr=> ∃j:Nat,j<=us.length/\i=.int .i64 j/\Hid (Below X.heap.size X wr)) (λi _=>us.length-(intOf i).toNat)
 case atStart=>exact⟨0,D0 _,rfl,qh (x8 _ _)⟩
 case round=>
  obtain⟨j,hj,rfl,a⟩:=hrel
  by_cases a5:j<us.length
  ·obtain⟨f,K⟩: ∃f,us[j]?=some f:=⟨_,x9 a5⟩
   obtain⟨gf,cf,vo,hv,-,q,Z,u1,u2,u⟩:=a4.out.at (k:=j) (f:=(xJ us f).pf) (by rw[G2,K];rfl);injection hv with a6 a7 a8
   clear a7;subst a6 a8;obtain⟨go,co,rfl,-⟩:=u.at;obtain⟨g2,a9,An,cn,At,ct,Ab,cb,P,E,-,-,-,N⟩:=L.out.at j f K;injection P with P;injection P with P e3
   subst P e3;replace Z:=(a.out.cell (p:=⟨gf,j*3,none⟩) q).trans Z;replace u1:=(a.out.cell (p:=⟨gf,j*3+1,none⟩) q).trans u1;replace u2:=(a.out.cell (p:=⟨gf,j*3+2,none⟩) q).trans u2;have n1:=(a.out.cell (p:=⟨g,D+j*6+1,none⟩) E).trans (N 1 _ rfl);have ep:(xJ us f).pf.params=f.J1.length:=rfl;rw[ep]at Z;have Y:=(a.out.cell (p:=⟨bu,0,none⟩) (I5 h.out)).trans (x6 h.out 0);have k0:(0:Int)<=(j:Int):=by omega
   have k1:(j:Int)<(us.length:Int):=by omega
   obtain⟨nv,Q⟩: ∃z,(xJ us f).pf.vars=z:=⟨_,rfl⟩;obtain⟨O,hO⟩: ∃z,(xJ us f).pf.ops=z:=⟨_,rfl⟩;rw[Q]at u1;rw[hO]at u2;have ba:=(x8 wr.heap.size wr).alloc (x7 _) (.cells #[.int .i64 f.J1.length,.int .i64 nv,.slice (some ⟨go,0,none⟩) O.length co] 66);have G:=qh (A5 wr (.cells #[.int .i64 f.J1.length,.int .i64 nv,.slice (some ⟨go,0,none⟩) O.length co] 66));have R:=qh (a.out.trans (ba.mono a.out.size));have S:=(ba.cell (p:=⟨g,D+j*6+1,none⟩) (A7 E a.out.size)).trans n1;have T:=(ba.cell (p:=⟨bu,0,none⟩) (A7 (I5 h.out) a.out.size)).trans Y;clear ba K u N E q ep Q hO n1 Y
   go_upto_region 7 with(fail)
   clear Z u1 u2;generalize World.alloc _ _=wa at G R S T|-;generalize wr.heap.size=bf at G|-;have q0:=x6 G.out 0
   go_quiet (fail)
   clear q0 S T
   go_wp2_with fail
   go_roundw
   case rel=>exact⟨j+1,by omega,by go_num,qh (J6 R.out _)⟩
   case measure=>simp[intOf];omega
  ·obtain rfl:j=us.length:=by omega
   go_wp2_with fail
   go_ret;exact⟨rfl,M.out.trans (a.out.mono M.out.size)⟩
end Go.Proofs.YtmngofgminlloaaGreatDoor
namespace Go.Proofs.YtmngofgminlloaaGreatDoor
open Go.RowKit Tw
def xy:ByteArray:=⟨#[102,117,110,32,109,97,105,110,40,41,58,32,105,110,116,32,123,32,114,101,116,117,114,110,32,49,59,32,125]⟩
def T8:List Wd:=[⟨3,xy.extract 0 3,0⟩,⟨2,xy.extract 4 8,4⟩,⟨4,xy.extract 8 9,8⟩,⟨4,xy.extract 9 10,9⟩,⟨4,xy.extract 10 11,10⟩,⟨3,xy.extract 12 15,12⟩,⟨4,xy.extract 16 17,16⟩,⟨3,xy.extract 18 24,18⟩,⟨1,xy.extract 25 26,25⟩,⟨4,xy.extract 26 27,26⟩,⟨4,xy.extract 28 29,28⟩]
def zlQ:xG xy 0 [] (none,T8):=by
 refine .Y5 (k:=3) (n:=3) (by decide) (by rfl) ?_;refine .skip (n:=1) (by decide) (by rfl) ?_;refine .Y5 (k:=2) (n:=4) (by decide) (by rfl) ?_;refine .Y5 (k:=4) (n:=1) (by decide) (by rfl) ?_;refine .Y5 (k:=4) (n:=1) (by decide) (by rfl) ?_;refine .Y5 (k:=4) (n:=1) (by decide) (by rfl) ?_;refine .skip (n:=1) (by decide) (by rfl) ?_;refine .Y5 (k:=3) (n:=3) (by decide) (by rfl) ?_;refine .skip (n:=1) (by decide) (by rfl) ?_;refine .Y5 (k:=4) (n:=1) (by decide) (by rfl) ?_;refine .skip (n:=1) (by decide) (by rfl) ?_;refine .Y5 (k:=3) (n:=6) (by decide) (by rfl) ?_;refine .skip (n:=1) (by decide) (by rfl) ?_;refine .Y5 (k:=1) (n:=1) (by decide) (by rfl) ?_;refine .Y5 (k:=4) (n:=1) (by decide) (by rfl) ?_;refine .skip (n:=1) (by decide) (by rfl) ?_;refine .Y5 (k:=4) (n:=1) (by decide) (by rfl) ?_;exact .done (by decide)
def zkj:Zz xy 0 0 T8:=.inr ⟨by decide,_,zlQ,rfl,rfl,rfl⟩
def Qq:Ex:=.mk 1 (jv (L8 T8 8)) L1 [] (J4 T8 8 29)
def kFn:Fn:=⟨L8 T8 1,[],[],1,[.mk 5 L1 Qq [] [] (J4 T8 7 29)],J4 T8 0 29⟩
def zox:K8 T8 8=7:=by
 have h: ∀s,s∈[zU,jR,O6,xq,jm,yv]->J3 T8 8 s=false:=by intro s a;simp only[E7,List.mem_nil_iff,or_false]at a;rcases a with rfl|rfl|rfl|rfl|rfl|rfl<;>exact zX false (by decide)
 have b:L3 T8 8=1:=by rfl
 unfold K8;simp[h zU (by simp),h jR (by simp),h O6 (by simp),h xq (by simp),h jm (by simp),h yv (by simp),b]
def zgT:De T8 29 (.lvl 1 8) (.ex Qq 9):=by
 have a:De T8 29 (.lvl 5 8) (.ex Qq 9):=.lvl (by decide) (.lvl6 (.num zox)) (.stop (by decide));have b:De T8 29 (.lvl 4 8) (.ex Qq 9):=.lvl (by decide) a (.stop (by decide));exact .lvl (by decide) (.lvl (by decide) (.lvl (by decide) b (.stop (by decide))) (.stop (by decide))) (.stop (by decide))
def znW:L7 T8 7=5:=by
 unfold L7;rw[B5 (by rw[zX (s:=QY) false (by decide)];decide),B5 (by rw[zX (s:=Xq) false (by decide)];decide),B5 (by rw[zX (s:=ji) false (by decide)];decide),C8 (zX (s:=qr) true (by decide))]
def zhQ:Ds T8 29 (.zO 7) (.st (.mk 5 L1 Qq [] [] (J4 T8 7 29)) 10):=by
 have h:=znW;have a:X3 T8 7=8:=by unfold X3;rw[B5 (by omega),B5 (by omega),B5 (by omega)]
 have b:Z4 T8 7=L1:=by unfold Z4;rw[B5 (by omega),B5 (by omega)]
 have:=Ds.simp (ws:=T8) (en:=29) (i:=7) (j:=9) (x:=Qq) (by omega) (by omega) (λe=>by omega) (by rw[a];exact zgT) (zX true (by decide));rw[h,b]at this;exact this
def dfk:Df T8 29 0 (.fn kFn 11):=
 .fn (zX true (by decide)) (by rfl) (zX true (by decide)) (.U4 (zX true (by decide))) (by unfold jV;rw[C8 (zX true (by decide)),C8 (zX true (by decide))]) (.block (zX true (by decide)) (.qw (zX false (by decide)) zhQ (.done (zX true (by decide)))))
def duk:Du T8 29 0 (.xL [kFn]):=.qw (by decide) dfk (.done (by decide))
def zdU:U6 [kFn]=0:=by
 unfold U6;rw[B5 (by decide),ja];have a:zK Qq 39=0:=by
  unfold Qq;rw[zK];have:yo 1 (jv (L8 T8 8)) L1 ([]:List Ex).length 39=none:=by decide
  rw[this];rw[zx]
 have:QZ kFn=0:=by
  unfold QZ;rw[B5 (by decide),B5 (by decide)];show O0 [.mk 5 L1 Qq [] [] (J4 T8 7 29)] 40=0;rw[O0];have:xK (.mk 5 L1 Qq [] [] (J4 T8 7 29)) 40=0:=by
   rw[xK,B5 (by decide),B5 (by decide),B5 (by rw[a];decide),B5 (by simp),B5 (by decide)]
  rw[C8 this,O0]
 rw[C8 this,ja]
def zmE:S4 [kFn]=(0,0):=by
 refine zbs zdU rfl (by decide) ?_;have c: ∀a b,O2 a b Qq=.ok 1:=λa b=>by unfold Qq;rw[O2];rfl
 have d: ∀a,zS a 1 [.mk 5 L1 Qq [] [] (J4 T8 7 29)] [] 0=.ok (0,true):=λa=>by
  rw[zS,zC];simp[c];rw[zS]
 have f:JM [kFn] kFn=.ok ():=by
  unfold JM;have g:zy kFn.pos kFn.J1 kFn.K4 [] 0=.ok ([],0):=by
   show zy _ [] [] [] 0=_;rw[zy];simp
  rw[g];show(match zS [kFn] 1 [.mk 5 L1 Qq [] [] (J4 T8 7 29)] [] 0 with|.J9 q e=>.J9 q e|.ok (_,r)=>if r then .ok ()else .J9 kFn.pos 3)=X1.ok ();rw[d];rfl
 rw[xi,f];simp only;rw[xi]
def znx(us):(xJ us kFn).S0.length<=4000:=by
 have h:=xS (us:=us) kFn.J0 0 kFn.J1.length (jb 0 kFn.J1);have a:qL kFn.J0=2:=by
  show qL [.mk 5 L1 Qq [] [] (J4 T8 7 29)]=2;simp[qL,smN,Qq,Qn,jw]
 rw[a]at h;show((X9 us 0 (jb 0 kFn.J1) kFn.J1.length kFn.J0).1++[((1,0),0),((18,0),1)]).length<=4000;rw[A9];simp only[A8,B1];omega
def znV{l}{p a:Int}(h:XJ xy l p a):l=[kFn]/\p=0/\a=0:=
 ZJ h ⟨0,0,T8,zkj,.inr ⟨rfl,.inr ⟨[kFn],duk,rfl,zdU.symm,by rw[C8 zdU]⟩⟩⟩
end Go.Proofs.YtmngofgminlloaaGreatDoor
