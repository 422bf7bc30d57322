/- Merged. -/
import Derived.Test.YtalgmjmibamdfaaGreatDoorVS20c
set_option linter.all false
set_option maxHeartbeats 16000000
set_option maxRecDepth 100000
namespace Go.Proofs.YtalgmjmibamdfaaGreatDoor
open Go.Proofs.Tryz
open Go.RowKit Tw
theorem JO(A:Option Addr)(n c:Nat)(w:World):Calls prog 16 #[.slice A n c] w λe w'=>e=.returned (.func (.func 40) #[] #[.pointer (some ⟨w.heap.size,0,none⟩)])/\w'=w.alloc (.cells #[.slice A n c] 22):=by
 go_enter func16,ntmps16
 go_wp2_with fail
 go_ret;exact⟨rfl,rfl⟩
theorem Xj{L:List Cf}{main:Nat}(hP:Z3 L main){M:Mc}(h:qp L main M):(K9 M).length<=30000:=by
 have a:Qd (M.O2.map λf=>(f,undef,undef)):=h.sml hP (by rw[List.map_map];exact List.map_id M.O2);have e:(M.O2.map λf=>((f,undef,undef):Fm)).map Prod.fst=M.O2:=by rw[List.map_map];exact List.map_id M.O2
 have c:=Zx a (M.O2.map λf=>((f,undef,undef):Fm)).length;rw[E7]at c;have b:=Jn M.mode M.value (M.O2.map λf=>((f,undef,undef):Fm));rw[e]at b;rw[show M=⟨M.mode,M.value,M.O2⟩ from rfl,b,y7];have d:=a.1;simp only[y6,y9];omega
section
variable (L:List Cf)(main:Nat)(hP:Z3 L main)(h16:L.length<=16)(h4: ∀c∈L,c.I9.length<=4000)(A:Option Addr)(cp:Nat)
include hP h16 h4
theorem zfL{w:World}{b:Nat}{f:Option Addr}{cn:Nat}{c:List Int}(i:w.heap[b]?=some (.cells #[.slice f c.length cn] 22 (0,0)))(j:J8 w (λ_=>True) (.slice f c.length cn) c)(k:c.length<=4611686018427387904)(l:L4 w (.slice A L.length cp) (L.map Cf.pf)){M:Mc}(m:qp L main M){g:Option Addr}{h:Nat}(n:qG w g h (K9 M))(a:Nat)(d:a<=1000000):
 Calls prog 24 #[.agg #[.slice A L.length cp,.int .i64 main],.slice g (K9 M).length h,.int .i64 a,.func (.func 40) #[] #[.pointer (some ⟨b,0,none⟩)]] w λe w'=> ∃A' c',e=.returned (.tuple #[.slice A' (K9 (L5 L (K7 c) a M).1).length c',.int .i64 (L5 L (K7 c) a M).2,.int .i64 0])/\qG w' A' c' (K9 (L5 L (K7 c) a M).1)/\Below w.heap.size w w':=
 (zcV L main hP h16 h4 A cp (zbu (Z:=w.heap.size) (B:=w.heap.size) (x6 _) rfl (x6 _) j k) w (x6 _) l m n a d (t:=[]) ⟨x6 _,x7 _ _,x6 _,i⟩).mono λe w' ⟨A',c',o,p,q,_⟩=>⟨A',c',o,yb p,q.below⟩
theorem zcb(f: ∀c∈L,yJ c.I9){w:World}{b:Nat}{i:Option Addr}{cn:Nat}{d:List Int}(l:w.heap[b]?=some (.cells #[.slice i d.length cn] 22 (0,0)))(m:J8 w (λ_=>True) (.slice i d.length cn) d)(n:d.length<=4611686018427387904)(o:L4 w (.slice A L.length cp) (L.map Cf.pf)){M:Mc}(p:qp L main M)(g:McR M){j:Option Addr}{k:Nat}(q:qG w j k (K9 M))(a:Nat)(h:a<=1000000):
 Calls prog 15 #[.agg #[.slice A L.length cp,.int .i64 main],.slice j (K9 M).length k,.int .i64 a,.func (.func 40) #[] #[.pointer (some ⟨b,0,none⟩)]] w λe w'=> ∃A' c',e=.returned (.tuple #[.slice A' (K9 (L5 L (K7 d) a M).1).length c',.int .i64 (L5 L (K7 d) a M).2,.int .i64 0])/\qG w' A' c' (K9 (L5 L (K7 d) a M).1)/\Below w.heap.size w w':=
 (zfq L main hP h16 h4 f A cp (zbu (Z:=w.heap.size) (B:=w.heap.size) (x6 _) rfl (x6 _) m n) (XJ d) w (x6 _) o p g q a h (t:=[]) ⟨x6 _,x7 _ _,x6 _,l⟩).mono λe w' ⟨A',c',r,s,u,_⟩=>⟨A',c',r,yb s,u.below⟩
theorem zaK(a1: ∀c∈L,yJ c.I9)(w:World)(hF:L4 w (.slice A L.length cp) (L.map Cf.pf)){M:Mc}(hM:qp L main M)(a2:McR M){I:Option Addr}{J:Nat}(hl:qG w I J (K9 M))(f:Nat)(b6:f<5000){C:Option Addr}{cn:Nat}{g:List Int}(ha:J8 w (λ_=>True) (.slice C g.length cn) g)(hn:g.length<=4611686018427387904):
 Calls prog 13 #[.agg #[.slice A L.length cp,.int .i64 main],.slice I (K9 M).length J,.int .i64 f,.slice C g.length cn] w λe w'=>e=.returned (.bool true)/\Below w.heap.size w w':=by
 have a3:=(x7 w.heap.size w).alloc (x6 _) (.cells #[.slice A L.length cp,.int .i64 main] 26);have k:=zh (x9 w (.cells #[.slice A L.length cp,.int .i64 main] 26));have l:=zh a3;have R:=zh hP;have H4:=zh h4;have HM:=zh hM;have b0:=zh a2;have b1:=zh a1;have HN:=zh hn;have a4:Hid (f<=1000000):=zh (by omega);have HF:Hid (∀W,Below w.heap.size w W->L4 W (.slice A L.length cp) (L.map Cf.pf)):=zh (λW K=>hF.I5 (.of K));have HL:Hid (∀W,Below w.heap.size w W->qG W I J (K9 M)):=zh (λW K=>hl.low K);have HA:Hid (∀W,Below w.heap.size w W->J8 W (λ_=>True) (.slice C g.length cn) g):=zh (λW K=>ha.low K);have ef:IntKind.i64.wrap ((f:Int).tmod 5000)=(f:Int):=by
  rw[Int.tmod_eq_emod_of_nonneg (by omega),Int.emod_eq_of_lt (by omega) (by omega)];exact IntWalk.i64_in _ (by omega)
 have N:(f:Int).tmod 5000=(f:Int):=by
  rw[Int.tmod_eq_emod_of_nonneg (by omega),Int.emod_eq_of_lt (by omega) (by omega)]
 have b2:=zh (And.intro ef N);clear a3 hF hP h4 hM a2 a1 hn hl ha ef N
 go_enter func13,ntmps13
 go_upto_region 1 with(fail)
 generalize World.alloc _ _=w1 at k l|-
 generalize O:w.heap.size=o at k;rw[O]at l
 try simp only[O]
 have P:=zh O;clear O
 go_wp2_with fail
 refine(zal w1).mono ?_;rintro e w2 ⟨rfl,j⟩;have i:=I0 k.out;replace k:=zh ((j.block o i).trans k.out);replace l:Hid (Below o w w2):=zh (l.out.trans (j.mono (G3 i)));have c0:=x5 k.out 0;have c1:=x5 k.out 1;have HC:=zh (ZY L main R.out h16 H4.out A cp w2 (HF.out w2 (by rw[P.out];exact l.out)));clear j i
 go_wp2_with fail
 refine HC.out.mono ?_;rintro e w3 ⟨j,v,xm,rfl,a5,a6,a7⟩;have i:=I0 k.out;replace k:=zh ((j.block o i).trans k.out);replace l:Hid (Below o w w3):=zh (l.out.trans (j.mono (G3 i)));have s:Below w.heap.size w w3:=by rw[P.out];exact l.out
 have RC:=zh (zcA L main R.out H4.out A cp w3 (HF.out w3 s) a5 ⟨a6,a7⟩ HM.out (HL.out w3 s));clear j i c0 c1 HC a5 a6 a7 s;have c0:=x5 k.out 0;have c1:=x5 k.out 1
 go_wp2_with fail
 refine RC.out.mono ?_;rintro e w4 ⟨j,F,G,l',rfl,-,-⟩;have i:=I0 k.out;have ba:=j.alloc j.size (.cells #[.int .i64 M.mode,.int .i64 M.value,.slice F l'.length G] 45);replace k:=zh ((ba.block o i).trans k.out);replace l:Hid (Below o w _):=zh (l.out.trans (ba.mono (G3 i)));clear j ba i c0 c1 RC
 go_upto_region 7 with(fail)
 generalize World.alloc _ _=w5 at k l|-
 have c0:=x5 k.out 0;have c1:=x5 k.out 1;have s:Below w.heap.size w w5:=by rw[P.out];exact l.out
 have VC:=zh (zcj L main R.out h16 H4.out A cp w5 (HF.out w5 s) HM.out (HL.out w5 s));clear s
 go_wp2_with fail
 refine VC.out.mono ?_;rintro e B ⟨rfl,j⟩;have i:=I0 k.out;replace k:=zh ((j.block o i).trans k.out);replace l:Hid (Below o w B):=zh (l.out.trans (j.mono (G3 i)));clear j i c0 c1 VC;obtain⟨ef,N⟩:=b2.out;have m:Hid (Below w.heap.size w B):=zh (by rw[P.out];exact l.out);have S:B.cell? ⟨o,0,none⟩=some (.slice A L.length cp):=x5 k.out 0;have T:B.cell? ⟨o,1,none⟩=some (.int .i64 main):=x5 k.out 1;have Q:=I0 k.out;have V1:Hid (∀W b,Below B.heap.size B W->W.heap[b]?=some (.cells #[.slice C g.length cn] 22 (0,0))->Calls prog 24 #[.agg #[.slice A L.length cp,.int .i64 main],.slice I (K9 M).length J,.int .i64 f,.func (.func 40) #[] #[.pointer (some ⟨b,0,none⟩)]] W λe w'=> ∃F G,e=.returned (.tuple #[.slice F (K9 (L5 L (K7 g) f M).1).length G,.int .i64 (L5 L (K7 g) f M).2,.int .i64 0])/\J8 w' (λ_=>True) (.slice F (K9 (L5 L (K7 g) f M).1).length G) (K9 (L5 L (K7 g) f M).1)/\Below W.heap.size W w'):=zh (λW b K j=>by
  have U:=m.out.trans (K.mono m.out.size);exact(zfL L main R.out h16 H4.out A cp j (HA.out W U) HN.out (HF.out W U) HM.out (HL.out W U) f a4.out).mono λe w' ⟨F,G,t,hs,j⟩=>⟨F,G,t,hs.1,j⟩)
 go_upto_region 12 with(fail)
 clear ef N
 go_cut[14,15,16] (λa b c W=> ∃q r,a=.slice q (K9 (L5 L (K7 g) f M).1).length r/\b=.int .i64 (L5 L (K7 g) f M).2/\c=.int .i64 0/\Hid (J8 W (λ_=>True) (.slice q (K9 (L5 L (K7 g) f M).1).length r) (K9 (L5 L (K7 g) f M).1))/\Hid (Below B.heap.size B W))
 case first=>
  refine P5 (D:=Nat×Value×World) (by kernel_rfl) [(0,47),(1,48),(2,49),(3,50),(4,51),(5,52),(6,46),(7,53),(8,54),(9,55),(10,14),(11,15),(12,16)] [4,5] [[],[4],[4,5]] (λ_ d=>[(0,47,.agg #[.slice A L.length cp,.int .i64 main]),(1,48,.slice I (K9 M).length J),(2,49,.int .i64 f),(3,50,.slice C g.length cn),(4,51,.func (.func 40) #[] #[.pointer (some ⟨d.1,0,none⟩)]),(5,52,.tuple #[d.2.1,.int .i64 (L5 L (K7 g) f M).2,.int .i64 0]),(6,46,.tuple #[d.2.1,.int .i64 (L5 L (K7 g) f M).2,.int .i64 0]),(7,53,d.2.1),(8,54,.int .i64 (L5 L (K7 g) f M).2),(9,55,.int .i64 0),(10,14,d.2.1),(11,15,.int .i64 (L5 L (K7 g) f M).2),(12,16,.int .i64 0)]) (λ_ d=>d.2.2) (λj' d=>Below B.heap.size B d.2.2/\match j' with|0=>True|1=>d.2.2.heap[d.1]?=some (.cells #[.slice C g.length cn] 22 (0,0))|_=> ∃A c,d.2.1=.slice A (K9 (L5 L (K7 g) f M).1).length c/\J8 d.2.2 (λ_=>True) (.slice A (K9 (L5 L (K7 g) f M).1).length c) (K9 (L5 L (K7 g) f M).1)) [(0,0),(0,1),(1,0),(1,1),(2,0),(2,1),(3,0),(4,0),(5,1),(6,2),(7,2),(8,2),(9,2),(10,2),(11,2),(12,2)] (by kernel_rfl) (by kernel_rfl) (λ_ _=>rfl) (by rfl) (0,undef,B.drew) rfl ⟨I8 B,trivial⟩ rfl ?_ ?_
  ·repeat' (first|refine List.forall_mem_cons.2 ⟨?_,?_⟩|exact List.forall_mem_nil _)
   all_goals
    intro o' V;injection V with V
    subst V;rintro⟨b,rv,W⟩ ⟨j,u⟩;simp only at j u
   rotate_left 7
   ·refine .call 16 #[.slice C g.length cn] (by simp[J2,execOp,go_sem]) ((JO _ _ _ W).mono ?_)
    rintro e w9 ⟨rfl,rfl⟩;refine⟨_,1,(W.heap.size,rv,_),rfl,⟨by decide,⟨j.alloc j.size _,x9 W _⟩,rfl,λe t x X=>?_⟩,rfl,rfl⟩;simp only[D9,List.mem_nil_iff,or_false]at t|-
    rcases t with rfl|rfl|rfl|rfl|rfl|rfl|rfl|rfl|rfl|rfl|rfl|rfl|rfl
    all_goals first|(simp;done)|exact G5 rfl x|exact G5 (X.symm.trans (by kernel_rfl:_=true)) (by decide)
   ·refine .call 24 #[.agg #[.slice A L.length cp,.int .i64 main],.slice I (K9 M).length J,.int .i64 f,.func (.func 40) #[] #[.pointer (some ⟨b,0,none⟩)]] (by simp[J2,execOp,go_sem]) ((V1.out W b j u).mono ?_)
    rintro e w9 ⟨q,r,rfl,Y,z⟩;refine⟨_,2,(b,.slice q (K9 (L5 L (K7 g) f M).1).length r,w9),rfl,⟨by decide,⟨j.trans (z.mono j.size),q,r,rfl,Y⟩,rfl,λe t x X=>?_⟩,rfl,rfl⟩;simp only[D9,List.mem_nil_iff,or_false]at t|-
    rcases t with rfl|rfl|rfl|rfl|rfl|rfl|rfl|rfl|rfl|rfl|rfl|rfl|rfl
    all_goals first|(simp;done)|exact G5 rfl x|exact G5 (X.symm.trans (by kernel_rfl:_=true)) (by decide)
   all_goals exact .jd rfl (by simp[J2,Y7,execOp,go_sem,(j.cell (p:=⟨o,0,none⟩) Q).trans S,(j.cell (p:=⟨o,1,none⟩) Q).trans T])
  ·rintro jj ⟨b,rv,W⟩ ⟨j,u⟩ hd
   have hj:=hd 5 (by decide) (by decide)
   match jj,u,hj with
   |0,_,h=>cases h
   |1,_,h=>cases h
   |2,u,_=>
    obtain⟨q,r,x,Z⟩:=u;simp only at x j Z;subst x;have HI:=zh Z;have l:=zh j;clear hd j Z S T Q;simp only[J2,z9,B4,List.append_nil,List.foldl];go_simp
    go_wp2_with fail
    go_meet
    case rel=>exact⟨q,r,rfl,rfl,rfl,HI,l⟩
   |n+3,_,h=>cases h
 case rest=>
  rename World=>H
  obtain⟨q,r,rfl,rfl,rfl,b3,a0⟩:=hcut;clear V1 S T Q;have i:=I0 k.out;replace k:=zh ((a0.out.block o i).trans k.out);replace m:Hid (Below w.heap.size w H):=zh (m.out.trans (a0.out.mono m.out.size));clear a0 i l;have S:H.cell? ⟨o,0,none⟩=some (.slice A L.length cp):=x5 k.out 0;have T:H.cell? ⟨o,1,none⟩=some (.int .i64 main):=x5 k.out 1;have Q:=I0 k.out;have V2:Hid (∀W b,Below H.heap.size H W->W.heap[b]?=some (.cells #[.slice C g.length cn] 22 (0,0))->Calls prog 15 #[.agg #[.slice A L.length cp,.int .i64 main],.slice I (K9 M).length J,.int .i64 f,.func (.func 40) #[] #[.pointer (some ⟨b,0,none⟩)]] W λe w'=> ∃F G,e=.returned (.tuple #[.slice F (K9 (L5 L (K7 g) f M).1).length G,.int .i64 (L5 L (K7 g) f M).2,.int .i64 0])/\J8 w' (λ_=>True) (.slice F (K9 (L5 L (K7 g) f M).1).length G) (K9 (L5 L (K7 g) f M).1)/\Below W.heap.size W w'):=zh (λW b K j=>by
   have U:=m.out.trans (K.mono m.out.size);exact(zcb L main R.out h16 H4.out A cp b1.out j (HA.out W U) HN.out (HF.out W U) HM.out b0.out (HL.out W U) f a4.out).mono λe w' ⟨F,G,t,hs,j⟩=>⟨F,G,t,hs.1,j⟩)
  go_upto_region 13 with(fail)
  go_cut[17,18,19] (λa b c W=> ∃q r,a=.slice q (K9 (L5 L (K7 g) f M).1).length r/\b=.int .i64 (L5 L (K7 g) f M).2/\c=.int .i64 0/\Hid (J8 W (λ_=>True) (.slice q (K9 (L5 L (K7 g) f M).1).length r) (K9 (L5 L (K7 g) f M).1))/\Hid (Below H.heap.size H W))
  case first=>
   refine P5 (D:=Nat×Value×World) (by kernel_rfl) [(0,57),(1,58),(2,59),(3,60),(4,61),(5,62),(6,56),(7,63),(8,64),(9,65),(10,17),(11,18),(12,19)] [4,5] [[],[4],[4,5]] (λ_ d=>[(0,57,.agg #[.slice A L.length cp,.int .i64 main]),(1,58,.slice I (K9 M).length J),(2,59,.int .i64 f),(3,60,.slice C g.length cn),(4,61,.func (.func 40) #[] #[.pointer (some ⟨d.1,0,none⟩)]),(5,62,.tuple #[d.2.1,.int .i64 (L5 L (K7 g) f M).2,.int .i64 0]),(6,56,.tuple #[d.2.1,.int .i64 (L5 L (K7 g) f M).2,.int .i64 0]),(7,63,d.2.1),(8,64,.int .i64 (L5 L (K7 g) f M).2),(9,65,.int .i64 0),(10,17,d.2.1),(11,18,.int .i64 (L5 L (K7 g) f M).2),(12,19,.int .i64 0)]) (λ_ d=>d.2.2) (λj' d=>Below H.heap.size H d.2.2/\match j' with|0=>True|1=>d.2.2.heap[d.1]?=some (.cells #[.slice C g.length cn] 22 (0,0))|_=> ∃A c,d.2.1=.slice A (K9 (L5 L (K7 g) f M).1).length c/\J8 d.2.2 (λ_=>True) (.slice A (K9 (L5 L (K7 g) f M).1).length c) (K9 (L5 L (K7 g) f M).1)) [(0,0),(0,1),(1,0),(1,1),(2,0),(2,1),(3,0),(4,0),(5,1),(6,2),(7,2),(8,2),(9,2),(10,2),(11,2),(12,2)] (by kernel_rfl) (by kernel_rfl) (λ_ _=>rfl) (by rfl) (0,undef,H.drew) rfl ⟨I8 H,trivial⟩ rfl ?_ ?_
   ·repeat' (first|refine List.forall_mem_cons.2 ⟨?_,?_⟩|exact List.forall_mem_nil _)
    all_goals
     intro o' V;injection V with V
     subst V;rintro⟨b,rv,W⟩ ⟨j,u⟩;simp only at j u
    rotate_left 7
    ·refine .call 16 #[.slice C g.length cn] (by simp[J2,execOp,go_sem]) ((JO _ _ _ W).mono ?_)
     rintro e w9 ⟨rfl,rfl⟩;refine⟨_,1,(W.heap.size,rv,_),rfl,⟨by decide,⟨j.alloc j.size _,x9 W _⟩,rfl,λe t x X=>?_⟩,rfl,rfl⟩;simp only[D9,List.mem_nil_iff,or_false]at t|-
     rcases t with rfl|rfl|rfl|rfl|rfl|rfl|rfl|rfl|rfl|rfl|rfl|rfl|rfl
     all_goals first|(simp;done)|exact G5 rfl x|exact G5 (X.symm.trans (by kernel_rfl:_=true)) (by decide)
    ·refine .call 15 #[.agg #[.slice A L.length cp,.int .i64 main],.slice I (K9 M).length J,.int .i64 f,.func (.func 40) #[] #[.pointer (some ⟨b,0,none⟩)]] (by simp[J2,execOp,go_sem]) ((V2.out W b j u).mono ?_)
     rintro e w9 ⟨q,r,rfl,Y,z⟩;refine⟨_,2,(b,.slice q (K9 (L5 L (K7 g) f M).1).length r,w9),rfl,⟨by decide,⟨j.trans (z.mono j.size),q,r,rfl,Y⟩,rfl,λe t x X=>?_⟩,rfl,rfl⟩;simp only[D9,List.mem_nil_iff,or_false]at t|-
     rcases t with rfl|rfl|rfl|rfl|rfl|rfl|rfl|rfl|rfl|rfl|rfl|rfl|rfl
     all_goals first|(simp;done)|exact G5 rfl x|exact G5 (X.symm.trans (by kernel_rfl:_=true)) (by decide)
    all_goals exact .jd rfl (by simp[J2,Y7,execOp,go_sem,(j.cell (p:=⟨o,0,none⟩) Q).trans S,(j.cell (p:=⟨o,1,none⟩) Q).trans T])
   ·rintro jj ⟨b,rv,W⟩ ⟨j,u⟩ hd
    have hj:=hd 5 (by decide) (by decide)
    match jj,u,hj with
    |0,_,h=>cases h
    |1,_,h=>cases h
    |2,u,_=>
     obtain⟨q,r,x,Z⟩:=u;simp only at x j Z;subst x;have HI:=zh Z;have l:=zh j;clear hd j Z S T Q;simp only[J2,z9,B4,List.append_nil,List.foldl];go_simp
     go_wp2_with fail
     go_meet
     case rel=>exact⟨q,r,rfl,rfl,rfl,HI,l⟩
    |n+3,_,h=>cases h
  case rest=>
   rename World=>w8
   obtain⟨A8,c8,rfl,rfl,rfl,b4,a8⟩:=hcut;clear V2 S T Q;have HE:=zh (Js (K9 (L5 L (K7 g) f M).1) q A8 r c8 (λ_=>True) (λ_=>True) w8 (b3.out.low a8.out) b4.out (by have:=Xj R.out (Jx R.out (K7 g) f M HM.out);omega));have e1:((L5 L (K7 g) f M).2==(L5 L (K7 g) f M).2)=true:=beq_self_eq_true _;generalize(L5 L (K7 g) f M).2=y at e1|-
   generalize K9 (L5 L (K7 g) f M).1=E at HE|-
   have a9:Hid (Below w.heap.size w w8):=zh (m.out.trans (a8.out.mono m.out.size))
   go_wp2_with fail
   refine HE.out.mono ?_;rintro e w9 ⟨rfl,z⟩;have b5:=zh (a9.out.trans (z.mono a9.out.size));clear z HE
   go_wp2_with fail
   go_ret;exact⟨rfl,b5.out⟩
end
def apV(n:Nat):Option (Nat×Nat)->Value
 |none=>.slice none 0 0
 |some (g,c)=>.slice (some ⟨g,0,none⟩) (n+1) c
def OfW(w:World)(e f b:Nat)(A:Option Addr)(n c:Nat)(z:Int)(d:List (Pf×Value))(h:Option Addr)(cp:Nat)(x:Pf×Value)(i j:World):Bool->Bool->Bool->World->Option (Nat×Nat)->Prop
 |false,_,_,W,q=>q=none/\W=i
 |true,false,_,W,q=>q=none/\W=j
 |true,true,false,W,q=> ∃g a,q=some (g,a)/\W.heap[b]?=some (.cells #[.slice h d.length cp,.int .i64 z] 26 (0,0))/\FrO w (W.setCell ⟨b,0,none⟩ (.slice (some ⟨g,0,none⟩) (d.length+1) a)) e f b A n c z (d++[x]) (some ⟨g,0,none⟩) a
 |true,true,true,W,q=> ∃g a,q=some (g,a)/\FrO w W e f b A n c z (d++[x]) (some ⟨g,0,none⟩) a
end Go.Proofs.YtalgmjmibamdfaaGreatDoor
