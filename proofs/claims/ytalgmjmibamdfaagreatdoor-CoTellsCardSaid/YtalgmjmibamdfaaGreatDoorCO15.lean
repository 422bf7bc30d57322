/- Merged. -/
import Derived.Test.YtalgmjmibamdfaaGreatDoorCO14b
set_option linter.all false
set_option maxHeartbeats 16000000
set_option maxRecDepth 100000
namespace Go.Proofs.YtalgmjmibamdfaaGreatDoor
open Go.Proofs.Tryz
open Go.RowKit Tw
theorem QI{w:World}{F:Nat->Prop}{g o c:Nat}{l pre mid post:List Int}(h:K9 w F (.slice (some ⟨g,o,none⟩) l.length c) l)(e:l=pre++mid++post)(c':Nat):K9 w F (.slice (some ⟨g,o+pre.length,none⟩) mid.length c') mid:=by
 rcases h with⟨a,f,b,rfl⟩|⟨p,q,f,b,i,j,m⟩
 ·have:mid=[]:=by
   have:=I1 List.length e;simp at this;exact List.length_eq_zero_iff.1 (by omega)
  subst this;exact .inl ⟨_,_,rfl,rfl⟩
 ·injection b with b;injection b with b;injection b with b n
  subst b n;refine .inr ⟨g,o+pre.length,c',rfl,i,j,λk s d=>?_⟩;rw[Nat.add_assoc];refine m (pre.length+k) s ?_;rw[e,B9,List.getElem?_append_right (by omega),Nat.add_sub_cancel_left];rw[List.getElem?_append_left (List.getElem?_eq_some_iff.1 d).1];exact d
def yE(w:World)(A:Option Addr)(c:Nat)(l:List Int):Prop:=K9 w (λ_=>True) (.slice A l.length c) l/\l.length<=c
theorem yE.low{w w':World}{A:Option Addr}{c:Nat}{l:List Int}(h:yE w A c l)(a:Below w.heap.size w w'):yE w' A c l:=⟨h.1.low a,h.2⟩
theorem yE.tail{w:World}{g o c:Nat}{pre l:List Int}(h:yE w (some ⟨g,o,none⟩) c (pre++l)):yE w (some ⟨g,o+pre.length,none⟩) (c-pre.length) l:=by
 have a:=h.2;rw[z9]at a;exact⟨QI h.1 (pre:=pre) (mid:=l) (post:=[]) (by simp) _,by omega⟩
theorem yE.end{w:World}{g o c:Nat}{pre l:List Int}(h:yE w (some ⟨g,o,none⟩) c (pre++l))(b:c=pre.length)(A:Option Addr):l=[]/\yE w A 0 l:=by
 have a:=h.2;rw[z9]at a;have:l=[]:=List.length_eq_zero_iff.1 (by omega);subst this;exact⟨rfl,.inl ⟨_,_,rfl,rfl⟩,y6 _⟩
theorem zdV(L:List Cf)(main:Nat)(hP:zk L main)(h4: ∀c∈L,c.J6.length<=4000)(A:Option Addr)(cp:Nat)(w:World)(hF:M3 w (.slice A L.length cp) (L.map Cf.pf)){v:Value}{xE:List (List Int)}(hv:yI w v xE)(hh:YM L xE){M:Mc}(hM:jJ L main M){Al:Option Addr}{cl:Nat}(hl:yE w Al cl (K4 M)):
 Calls prog 48 #[.agg #[.slice A L.length cp,.int .i64 main],v,.slice Al (K4 M).length cl] w λe w'=>Below w.heap.size w w'/\ ∃H A' c' l',e=.returned (.tuple #[.pointer (some ⟨H,0,none⟩),.bool true])/\zA w' (bd w.heap.size) H A L.length cp main M.mode M.value A' c' l'/\l'.map Prod.fst=M.P0:=by
 have d6:=hM.yh hP;obtain⟨l,d,i⟩:=M;simp only at d6|-
 obtain⟨rest,a1⟩: ∃r,i.flatMap frE=r:=⟨_,rfl⟩;have k5:K4 ⟨l,d,i⟩=[l,d,(i.length:Int)]++rest:=by rw[<-a1];rfl
 rw[k5]at hl|-
 obtain⟨gl,ol,rfl,d7,s0⟩:=hl.1.at 0 l rfl;obtain⟨n4,n5,e,-,s1⟩:=hl.1.at 1 d rfl;injection e with e;injection e with e e';subst e e'
 obtain⟨n4,n5,e,-,s2⟩:=hl.1.at 2 (i.length:Int) rfl;injection e with e;injection e with e e';subst e e'
 rw[Nat.add_zero]at s0;obtain⟨n,hn⟩: ∃n,([l,d,(i.length:Int)]++rest).length=n:=⟨_,rfl⟩;have d8:n=rest.length+3:=by rw[<-hn];simp
 have n6:n<=cl:=by rw[<-hn];exact hl.2
 rw[hn];have HL:=zh hl;have HM:=zh hM;have HP:=zh hP;have H4:=zh h4;have HH:=zh hh;have h8:=zh a1;have HN:=zh d8;have n7:=zh d6.2;have s6:=d6.1;have b0: ¬(n=0):=by omega
 have b1: ¬((n:Int)<3):=by omega
 have b2:(2:Int)<(n:Int):=by omega
 have k6:(0:Int)<(n:Int):=by omega
 have f8:(1:Int)<(n:Int):=by omega
 have b3: ¬((i.length:Int)<0):=by omega
 have b4: ¬((32:Int)<(i.length:Int)):=by omega
 have b5:=(y7 w.heap.size w).alloc (y6 _) (.cells #[.slice A L.length cp,.int .i64 main] 26);have HX:=zh (y9 w (.cells #[.slice A L.length cp,.int .i64 main] 26));have HB:=zh b5;replace s0:=(b5.cell (p:=⟨gl,ol,none⟩) d7).trans s0;replace s1:=(b5.cell (p:=⟨gl,ol+1,none⟩) d7).trans s1;replace s2:=(b5.cell (p:=⟨gl,ol+2,none⟩) d7).trans s2;have HF:=zh (hF.J0 (.of b5));have HV:=zh hv;have k7:=zh hF;clear b5 hF hv hP h4 hM hh hl k5 a1 d8 hn d6
 go_enter func48,ntmps48
 go_upto_region 1 with(fail)
 generalize World.alloc _ _=w1 at HX HB HF s0 s1 s2|-
 generalize k8:w.heap.size=V at HX HB|-
 have b9:=zh k8;clear k8
 go_upto_region 3 with(fail)
 have p0:=y5 HX.out 0;have p1:=y5 HX.out 1;have g0:=I7 HX.out;refine L4 (by kernel_rfl) [(0,31,.agg #[.slice A L.length cp,.int .i64 main]),(1,32,.slice (some ⟨gl,ol,none⟩) n cl),(2,33,.pointer (some ⟨gl,ol,none⟩)),(3,34,.int .i64 l),(4,35,.slice (some ⟨gl,ol,none⟩) n cl),(5,36,.pointer (some ⟨gl,ol+1,none⟩)),(6,37,.int .i64 d),(7,38,.agg #[.slice A L.length cp,.int .i64 main,.int .i64 l,.int .i64 d,.slice none 0 0]),(8,39,.pointer (some ⟨w1.heap.size,0,none⟩)),(9,8,.pointer (some ⟨w1.heap.size,0,none⟩))] [] _ _ rfl rfl [8] (λz=>match z with|0=>w1.drew|_=>w1.drew.alloc (.cells #[.slice A L.length cp,.int .i64 main,.int .i64 l,.int .i64 d,.slice none 0 0] 98)) [(0,0),(1,0),(2,0),(3,0),(4,0),(5,0),(6,0),(7,0),(8,0),(9,1)] (by kernel_rfl) (by kernel_rfl) (by rfl) rfl ?_ ?_
 ·generalize hF:J8 _ _=F
  simp[J8]at hF;subst hF
  repeat' (first|refine List.forall_mem_cons.2 ⟨?_,?_⟩|exact List.forall_mem_nil _)
  all_goals
   intro o t;injection t with t
   subst t
  all_goals simp[X9,execOp,go_sem,p0,p1,s0,s1,b0,k6,f8]
 have ba:=((y7 w1.heap.size w1).alloc (y6 _) (.cells #[.slice A L.length cp,.int .i64 main,.int .i64 l,.int .i64 d,.slice none 0 0] 98)).drew;have d9:Hid ((w1.alloc (.cells #[.slice A L.length cp,.int .i64 main,.int .i64 l,.int .i64 d,.slice none 0 0] 98)).drew.heap[w1.heap.size]?=_):=zh (y9 w1 (.cells #[.slice A L.length cp,.int .i64 main,.int .i64 l,.int .i64 d,.slice none 0 0] 98));have k9:=HB.out.size;rw[b9.out]at k9;have e0:Hid (Below V w _):=zh (HB.out.trans (ba.mono (by omega)));have l0:=zh (HF.out.J0 (.of ba));have e4:=zh ((ba.block V g0).trans HX.out);have l5:=d7;rw[b9.out]at l5;have g1:gl<w1.heap.size:=by omega
 have l6:=(ba.cell (p:=⟨gl,ol+2,none⟩) g1).trans s2;clear s0 s1 s2 p0 p1 HX HB HF ba;simp only[J8,B6,C0,List.append_nil,List.foldl];go_simp;generalize(World.alloc _ _).drew=w2 at e0 l0 e4 d9 l6|-
 generalize w1.heap.size=H at d9 g1 g0 k9|-
 have B:Hid (zA w2 (bd V) H A L.length cp main l d none 0 []):=zh ⟨(show V<=H by omega),d9.out,Zc _ _ _ λ_ h=>h.elim⟩;have h9:=HL;clear d9 HL
 go_upto_region 5 with(fail)
 clear l6 b0 b1 b2 k6 f8 b3 b4
 go_cut[2] (λp W=>W=w2/\ ∃A3 c3,p=.slice A3 rest.length c3/\Hid (yE w A3 c3 rest))
 case first=>
  have e3:((rest.length+3:Nat):Int)=(rest.length:Int)+3:=by omega
  have d8:=HN.out;subst d8;have i1: ¬((rest.length:Int)+3<3):=by omega
  have i2:(3:Int)<=(rest.length:Int)+3:=by omega
  by_cases n8:cl=3
  ·have HE:=zh (h9.out.end n8 (some ⟨gl,ol,none⟩)).2
   have X:rest.length=0:=by omega
   go_wp2_with fail
   go_meet
   case rel=>exact⟨rfl,_,_,by simp[X],HE⟩
  ·have HE:=zh h9.out.tail
   go_wp2_with fail
   go_meet
   case rel=>exact⟨rfl,_,_,by simp,HE⟩
 case rest=>
  obtain⟨rfl,A3,c3,rfl,I⟩:=hcut;obtain⟨⟨c0,c1,q,n9,x⟩,f2,f3,f4⟩:=zv B.out;clear c0 c1 x f2 f3 f4 HN h9 n6
  rcases HM.out with⟨l7,fs,f,a2,hG⟩|⟨o2,a2⟩|⟨o3,l8,a2⟩
  case' inr.inl=>have hm:=o2
  case' inr.inr=>have hm:=o3
  case inr.inl|inr.inr=>
   simp only at hm a2;subst hm a2;have X:=h8.out;simp only[List.flatMap_nil]at X;subst X
   try(simp only at l8;have s9:(d !=0)=true:=bne_iff_ne.2 l8)
   go_wp2_with fail
   go_ret2;rw[b9.out];exact⟨e0.out,H,rfl,none,0,B.out⟩
  simp only at l7 a2;subst l7;have b6:=zh a2;have HG:=zh hG.jd;have p1:=y5 e4.out 1;clear a2 hG HM
  go_upto_region 9 with(fail)
  clear q n9 p1
  go_wp2_with fail
  go_loopw[2,10,82] (λlv wv iv wr=> ∃(j wn:Nat)(A3:Option Addr)(c3:Nat)(rj:List Int)(A':Option Addr)(c':Nat)(l':List Fm),j<=i.length/\lv=.slice A3 rj.length c3/\wv=.int .i64 wn/\iv=.int .i64 j/\Hid (∀g,i[j]?=some g->g.fn=wn)/\Hid ((i.drop j).flatMap frE=rj)/\Hid (zA wr (bd V) H A L.length cp main 0 d A' c' l')/\Hid (l'.map Prod.fst=i.take j)/\Hid (Below V w wr)/\Hid (yE w A3 c3 rj)/\Hid (wr.heap[V]?=some (.cells #[.slice A L.length cp,.int .i64 main] 26 (0,0)))) (λ_ _ iv _=>i.length-(intOf iv).toNat)
  case atStart=>exact⟨0,main,A3,c3,rest,none,0,[],E2 _,rfl,rfl,rfl,zh (by rw[b6.out];exact HG.out.1),h8,B,zh rfl,e0,I,e4⟩
  case round=>
   clear B e0 e4 I l0 h8;obtain⟨j,wn,A3,c3,rj,A',c',l',hj,rfl,rfl,rfl,c6,i0,B,e5,i3,I,e6⟩:=hrel
   by_cases c7:j<i.length
   ·obtain⟨g,hg⟩: ∃g,i[j]?=some g:=⟨_,y8 c7⟩
    obtain⟨K,o,c8,o4⟩:=HG.out.2 j g (by rw[<-b6.out];exact hg);obtain rfl:=c6.out g hg;have t0:=n7.out g (B7 hg);obtain⟨rn,i4⟩: ∃r,(i.drop (j+1)).flatMap frE=r:=⟨_,rfl⟩;have o5:rj=[(g.fn:Int),(g.pc:Int)]++g.vars++g.I8++rn:=by
     rw[<-i0.out,<-i4,F9 c7];have e:i[j]=g:=by rw[y8 c7]at hg;injection hg
     rw[e];simp[frE]
    have l9:=zh i4;have m0:=zh hg;have m:=zh o4;clear i4 hg c6 i0;subst o5;have d0:Below w.heap.size w wr:=by rw[b9.out];exact i3.out
    have o6:=I;replace I:=zh (I.out.low d0);obtain⟨gs,os,rfl,t1,s0⟩:=I.out.1.at 0 (g.fn:Int) rfl;obtain⟨t2,t3,e,-,s1⟩:=I.out.1.at 1 (g.pc:Int) rfl;injection e with e;injection e with e e';subst e e'
    rw[Nat.add_zero]at s0;obtain⟨gH,cH,gh,ch,rfl,m1,m2,u0,u1⟩:=zfT HV.out HH.out m.out.fn m.out.rch m.out.op;replace u0:=(d0.cell (p:=⟨gH,g.fn,none⟩) m1).trans u0;replace u1:=(d0.cell (p:=⟨gh,g.pc,none⟩) m2).trans u1;have o7:g.fn<L.length:=(List.getElem?_eq_some_iff.1 m.out.fn).1;have o8:g.pc<K.J6.length:=(List.getElem?_eq_some_iff.1 m.out.op).1;have t4:g.pc<=4000:=by have:=H4.out K (B7 m.out.fn);omega
    obtain⟨nr,d1⟩: ∃z,([(g.fn:Int),(g.pc:Int)]++g.vars++g.I8++rn).length=z:=⟨_,rfl⟩;have e7:Hid (nr=2+g.vars.length+g.I8.length+rn.length):=zh (by rw[<-d1];simp;omega);have t5:2<=nr:=by have:=e7.out;omega
    rw[d1];have q1: ¬((nr:Int)<2):=by omega
    have q2:(0:Int)<(nr:Int):=by omega
    have q3:(1:Int)<(nr:Int):=by omega
    have q4: ¬((g.pc:Int)<0):=by omega
    have q5: ¬((K.J6.length:Int)<=(g.pc:Int)):=by omega
    have q6:(0:Int)<=(g.fn:Int):=by omega
    have q7:(g.fn:Int)<(L.length:Int):=by omega
    have q8:((g.fn:Int) !=(g.fn:Int))=false:=by simp
    have q9:(j:Int)<(i.length:Int):=by omega
    have e8:=zh d0;clear d0 d1 o7 o8
    go_upto_region 12 with(fail)
    go_quiet (fail)
    have HD:=J9 (y7 wr.heap.size wr) nq;obtain⟨gf,o9,vo,hv,-,p2,f0,f1,f2,g2⟩:=(k7.out.J0 (.of e8.out)).at (zi m.out.fn);injection hv with a3 i5 i6
    clear i5;subst a3 i6;obtain⟨go,co,rfl,-,b7,m3⟩:=g2.at;obtain⟨o0,o1⟩:=m3 g.pc o (by show(K.J6.map Prod.fst)[g.pc]?=_;rw[G3,m.out.op];rfl);simp only[Cf.pf,D9]at f0 f1 f2 o0 o1;have m4:Hid (go<wr.heap.size/\wr.cell? ⟨go,g.pc*2,none⟩=some (.int .i64 o.1)/\wr.cell? ⟨go,g.pc*2+1,none⟩=some (.int .i64 o.2)):=zh ⟨b7,o0,o1⟩;clear o0 o1 b7;have a8:=I7 e6.out;have m5:gH<wr.heap.size:=z6 m1 e8.out.size;have m6:gh<wr.heap.size:=z6 m2 e8.out.size;have p0:=y5 e6.out 0;have m7: ∀a,(wr.drewN nq).cell? a=wr.cell? a:=λ_=>rfl;rw[<-m7]at s0 s1 u0 u1 f0 f1 f2 p0;have z0:(wr.drewN nq).heap.size=wr.heap.size:=rfl;clear m7 g2 m3 q1 q4 q5 q8;generalize World.drewN _ _=w3 at HD s0 s1 u0 u1 f0 f1 f2 p0 z0|-
    have ba:=(y7 w3.heap.size w3).alloc (y6 _) (.cells #[.int .i64 g.fn,.int .i64 g.pc,.slice none 0 0,.slice none 0 0] 95);have a4:=zh (y9 w3 (.cells #[.int .i64 g.fn,.int .i64 g.pc,.slice none 0 0,.slice none 0 0] 95))
    go_upto_region 15 with(fail)
    have Y:=zh (HD.trans (ba.mono (Nat.le_of_eq z0.symm)));rw[z0]at a4 ba;have oc: ∀b k,b<wr.heap.size->(w3.alloc (.cells #[.int .i64 g.fn,.int .i64 g.pc,.slice none 0 0,.slice none 0 0] 95)).cell? ⟨b,k,none⟩=w3.cell? ⟨b,k,none⟩:=λb k C=>ba.cell (p:=⟨b,k,none⟩) C;rw[<-oc _ _ (by assumption)]at u0 u1 f0 f1 f2 p0
    try simp only[z0]
    clear oc ba s0 s1 z0;generalize World.alloc _ _=N at Y a4 u0 u1 f0 f1 f2 p0|-
    generalize m8:wr.heap.size=D at a4|-
    have m9:=zh m8;clear m8;have k1:=y5 a4.out 1;have e9:D<N.heap.size:=I7 a4.out;have hA: ∀b k O,b<N.heap.size->(N.alloc O).cell? ⟨b,k,none⟩=N.cell? ⟨b,k,none⟩:=λb k O C=>((y7 N.heap.size N).alloc (y6 _) O).cell (p:=⟨b,k,none⟩) C;have l1:gH<N.heap.size:=z6 m5 Y.out.size;have l2:gh<N.heap.size:=z6 m6 Y.out.size;have l3:gf<N.heap.size:=z6 p2 Y.out.size;have l4:V<N.heap.size:=z6 a8 Y.out.size;refine L4 (by kernel_rfl) [(0,117,.pointer (some ⟨V,0,none⟩)),(1,118,.slice (some ⟨gf,0,none⟩) L.length cp),(2,119,.int .i64 g.fn),(3,120,.pointer (some ⟨gf,g.fn*3,none⟩)),(4,121,.agg #[.int .i64 K.params,.int .i64 K.vars,.slice (some ⟨go,0,none⟩) K.J6.length co]),(5,122,.slice (some ⟨gH,0,none⟩) L.length cH),(6,123,.int .i64 g.fn),(7,124,.pointer (some ⟨gH,g.fn,none⟩)),(8,125,.slice (some ⟨gh,0,none⟩) K.J6.length ch),(9,126,.pointer (some ⟨D,1,none⟩)),(10,127,.int .i64 g.pc),(11,128,.pointer (some ⟨gh,g.pc,none⟩)),(12,129,.int .i64 c8),(13,13,.pointer (some ⟨N.heap.size,0,none⟩)),(15,14,.int .i64 c8)] [] _ _ rfl rfl [13,14] (λz=>match z with|0=>N.drew|1=>N.drew.alloc (.cells #[.int .i64 0,.int .i64 0,.slice none 0 0] 40)|_=>N.drew.alloc (.cells #[.int .i64 K.params,.int .i64 K.vars,.slice (some ⟨go,0,none⟩) K.J6.length co] 40)) [(0,0),(0,1),(1,0),(1,1),(2,0),(2,1),(3,0),(3,1),(4,0),(4,1),(5,0),(5,1),(5,2),(6,0),(6,1),(6,2),(7,0),(7,1),(7,2),(8,0),(8,1),(8,2),(9,0),(9,1),(9,2),(10,0),(10,1),(10,2),(11,0),(11,1),(11,2),(12,0),(12,1),(12,2),(13,0),(14,1),(15,2)] (by kernel_rfl) (by kernel_rfl) (by rfl) rfl ?_ ?_
    ·generalize hF:J8 _ _=F
     simp[J8]at hF;subst hF;have r1:(0:Int)<=(g.pc:Int):=by omega
     have r2:(g.pc:Int)<(K.J6.length:Int):=by have:=(List.getElem?_eq_some_iff.1 m.out.op).1;omega
     repeat' (first|refine List.forall_mem_cons.2 ⟨?_,?_⟩|exact List.forall_mem_nil _)
     all_goals
      intro o' t;injection t with t
      subst t
     all_goals simp[X9,execOp,go_sem,hA,e9,l1,l2,l3,l4,p0,u0,u1,f0,f1,f2,k1,q6,q7,r1,r2]
    have ba:=((y7 N.heap.size N).alloc (y6 _) (.cells #[.int .i64 K.params,.int .i64 K.vars,.slice (some ⟨go,0,none⟩) K.J6.length co] 40)).drew;have s:Hid ((N.alloc (.cells #[.int .i64 K.params,.int .i64 K.vars,.slice (some ⟨go,0,none⟩) K.J6.length co] 40)).drew.heap[N.heap.size]?=_):=zh (y9 N (.cells #[.int .i64 K.params,.int .i64 K.vars,.slice (some ⟨go,0,none⟩) K.J6.length co] 40));have R:=zh (Y.out.trans (ba.mono Y.out.size));have Z:=zh ((ba.block D e9).trans a4.out);have p3:D<N.heap.size:=e9;clear ba hA l1 l2 l3 l4 p0 u0 u1 f0 f1 f2 k1 e9 a4 Y;simp only[J8,B6,C0,List.append_nil,List.foldl];go_simp;generalize(World.alloc _ _).drew=w5 at s R Z|-
    generalize N.heap.size=S at s p3|-
    have ef:wrap64 ((i.length:Int)-1)=(i.length:Int)-1:=IntWalk.wrap64_in _ (by omega);have p4:IntKind.i64.wrap ((i.length:Int)-1)=(i.length:Int)-1:=IntWalk.i64_in _ (by omega)
    go_upto_if 133 with(fail)
    go_cut[10,14] (λwv nv W=> ∃wn:Nat,wv=.int .i64 wn/\nv=.int .i64 g.I8.length/\Hid (∀u,i[j+1]?=some u->u.fn=wn)/\Hid (Below w5.heap.size w5 W))
    case first=>
     by_cases g3:j+1<i.length
     ·obtain⟨u,cg,hu,rfl,i7,p5⟩:=m.out.low (by rw[<-b6.out];exact g3)
      rw[<-b6.out]at hu;have HU:=zh hu;have hq:(j:Int)<(i.length:Int)-1:=by omega
      obtain⟨b7,y0,y1⟩:=m4.out;replace y0:=(R.out.cell (p:=⟨go,g.pc*2,none⟩) b7).trans y0;replace y1:=(R.out.cell (p:=⟨go,g.pc*2+1,none⟩) b7).trans y1;simp only at y0 y1;have x2:=y5 s.out 2;have k1:=y5 Z.out 1;have p0:=(R.out.cell (p:=⟨V,0,none⟩) a8).trans (y5 e6.out 0);obtain⟨t6,o9,vo,hv,-,g4,f0,-,-,-⟩:=((k7.out.J0 (.of e8.out)).J0 (.of R.out)).at (zi i7);injection hv with a3 i5 i6
      clear i5;injection a3 with a3;injection a3 with a3
      subst a3 i6;simp only[Cf.pf]at f0;have l1:=g4;have l2:V<w5.heap.size:=z6 a8 R.out.size;have r1:(0:Int)<=(g.pc:Int):=by omega
      have r2:(g.pc:Int)<(K.J6.length:Int):=by have:=(List.getElem?_eq_some_iff.1 m.out.op).1;omega
      have r3:(0:Int)<=(u.fn:Int):=by omega
      have r4:(u.fn:Int)<(L.length:Int):=by have:=(List.getElem?_eq_some_iff.1 i7).1;omega
      have r5: ¬((c8:Int)<0):=by omega
      have r6:IntKind.i64.wrap ((c8:Int)-(cg.params:Int))=(g.I8.length:Int):=by rw[show(c8:Int)-cg.params=g.I8.length by omega];exact IntWalk.i64_in _ (by omega)
      have p6:=zh ((y7 w5.heap.size w5).alloc (y6 _) (.cells #[.int .i64 17,.int .i64 u.fn] 74));clear hu p5 i7 b7 g4
      go_wp2_with fail
      go_meet
      case rel=>exact⟨u.fn,rfl,rfl,zh (λu' p7=>by have:=HU.out.symm.trans p7;injection this with this;rw[this]),p6⟩
     ·have hq: ¬((j:Int)<(i.length:Int)-1):=by omega
      have p8:=m.out.yd (by rw[<-b6.out];omega);subst p8
      go_wp2_with fail
      go_meet
      case rel=>exact⟨_,rfl,rfl,zh (λu hu=>I2 (List.getElem?_eq_some_iff.1 hu).1 g3),zh (y7 _ _)⟩
    case rest=>
     rename World=>w6
     obtain⟨wn,rfl,rfl,c6,f5⟩:=hcut;have J:Hid (Below wr.heap.size wr w6):=zh (R.out.trans (f5.out.mono R.out.size));have d2:=zh ((f5.out.block D (I7 Z.out)).trans Z.out);have a0:=zh ((f5.out.block S (I7 s.out)).trans s.out);have x1:w6.cell? ⟨S,1,none⟩=some (.int .i64 g.vars.length):=by rw[m.out.vars];exact y5 a0.out 1
     have n0:=zh (I.out.low J.out);clear f5 Z s R ef p4 m4;have e1:IntKind.i64.wrap (2+(g.vars.length:Int))=2+(g.vars.length:Int):=IntWalk.i64_in _ (by omega);have e2:IntKind.i64.wrap (2+(g.vars.length:Int)+(g.I8.length:Int))=2+(g.vars.length:Int)+(g.I8.length:Int):=IntWalk.i64_in _ (by omega);have d1:=e7.out;have p9:nr<=c3:=by have:=n0.out.2;simp at this;omega
     have i1: ¬((nr:Int)<2+(g.vars.length:Int)+(g.I8.length:Int)):=by omega
     have i2: ¬((g.I8.length:Int)<0):=by omega
     have t7:2+g.vars.length+g.I8.length<=c3:=by omega
     clear d1 p9;have d3:Hid (∀(d4 xs g5:List Int)(W:World)(A':Option Addr)(c':Nat),[(g.fn:Int),(g.pc:Int)]++g.vars++g.I8++rn=d4++xs++g5->xs.length<=600->Below wr.heap.size wr W->(A'=some ⟨gs,os+d4.length,none⟩\/A'=some ⟨gs,os,none⟩/\xs=[])->Calls prog 44 #[.slice A' xs.length c'] W λe w'=>Below W.heap.size W w'/\ ∃A' c',e=.returned (.slice A' xs.length c')/\w'.ownsRow W.heap.size 3 1 (.slice A' xs.length c') xs.length (iC xs)):=zh (λd4 xs g5 W A' c' e G hW hA=>by
      rcases hA with rfl|⟨rfl,h0⟩
      ·exact jo ((QI I.out.1 (pre:=d4) (mid:=xs) e c').low hW) (.inr ⟨_,_,rfl⟩) (by omega)
      ·rw[h0];exact jo (F:=λ_=>True) (.inl ⟨_,_,rfl,rfl⟩) (.inr ⟨_,_,rfl⟩) (by simp))
     go_upto_region 24 with(fail)
     go_cut[2] (λlv W=>lv=.slice (some ⟨gs,os,none⟩) nr c3/\ ∃y q,Hid (Below wr.heap.size wr W)/\Hid (W.heap[D]?=some (.cells #[.int .i64 g.fn,.int .i64 g.pc,.slice y g.vars.length q,.slice none 0 0] 95 (0,0)))/\Hid (W.heap[S]?=w6.heap[S]?)/\Hid (W.ownsRow wr.heap.size 3 1 (.slice y g.vars.length q) g.vars.length (iC g.vars)))
     case first=>
      have j1:(2:Int)<=2+(g.vars.length:Int):=by omega
      have j2:2+(g.vars.length:Int)<=(c3:Int):=by omega
      have j3:(2:Int)<=(c3:Int):=by omega
      have T: ∀(W:World)(y:Option Addr)(q:Nat),Below w6.heap.size w6 W->W.ownsRow w6.heap.size 3 1 (.slice y g.vars.length q) g.vars.length (iC g.vars)->W.heap[D]?=some (.cells #[.int .i64 g.fn,.int .i64 g.pc,.slice none 0 0,.slice none 0 0] 95 (0,0))/\Hid (∃A3 c3,Value.slice y g.vars.length q=.slice A3 g.vars.length c3/\Hid (Below wr.heap.size wr (W.setCell ⟨D,2,none⟩ (.slice y g.vars.length q)))/\Hid ((W.setCell ⟨D,2,none⟩ (.slice y g.vars.length q)).heap[D]?=some (.cells #[.int .i64 g.fn,.int .i64 g.pc,.slice A3 g.vars.length c3,.slice none 0 0] 95 (0,0)))/\Hid ((W.setCell ⟨D,2,none⟩ (.slice y g.vars.length q)).heap[S]?=w6.heap[S]?)/\Hid ((W.setCell ⟨D,2,none⟩ (.slice y g.vars.length q)).ownsRow wr.heap.size 3 1 (.slice A3 g.vars.length c3) g.vars.length (iC g.vars))):=λW y q C t=>by
       have G:=(C.block D (I7 d2.out)).trans d2.out;refine⟨G,zh ⟨y,q,rfl,zh (M2 (J.out.trans (C.mono J.out.size)) (Nat.le_of_eq m9.out) 2 _),zh ?_,zh ?_,zh ((X6 t G (by decide) 2 _).mono J.out.size)⟩⟩
       ·rw[z5 W D 2 _ _ _ G];rfl
       ·rw[(J2 W D 2 (.slice y g.vars.length q)).block S (z6 (I7 a0.out) C.size) (by simp;omega),C.block S (I7 a0.out)]
      by_cases a5:c3=2
      ·have H0:Hid (g.vars=[]):=zh (List.length_eq_zero_iff.1 (by omega))
       have CL:=zh (d3.out [(g.fn:Int),(g.pc:Int)] g.vars (g.I8++rn) w6 (some ⟨gs,os,none⟩) 0 (by simp) (by omega) J.out (.inr ⟨rfl,H0.out⟩));have FN:=zh T;clear T
       go_wp2_with fail
       refine CL.out.mono ?_;rintro e W ⟨C,y,q,rfl,t⟩;obtain⟨G,HR⟩:=FN.out W y q C t;have k2:=y5 G 2;have q0:=B4 G 2;clear C t G
       go_wp2_with fail
       go_meet
       case rel=>
        obtain⟨A3,c9,-,h1,h2,h3,h4⟩:=HR.out;exact⟨by first|rfl|rw[a5],A3,c9,h1,h2,h3,h4⟩
      ·have CL:=zh (d3.out [(g.fn:Int),(g.pc:Int)] g.vars (g.I8++rn) w6 (some ⟨gs,os+2,none⟩) (c3-2) (by simp) (by omega) J.out (.inl rfl))
       have FN:=zh T;clear T
       go_wp2_with fail
       refine CL.out.mono ?_;rintro e W ⟨C,y,q,rfl,t⟩;obtain⟨G,HR⟩:=FN.out W y q C t;have k2:=y5 G 2;have q0:=B4 G 2;clear C t G
       go_wp2_with fail
       go_meet
       case rel=>
        obtain⟨A3,c9,-,h1,h2,h3,h4⟩:=HR.out;exact⟨by first|rfl|rw[a5],A3,c9,h1,h2,h3,h4⟩
     case rest=>
      rename World=>w7
      obtain⟨rfl,y,q,P,d5,g6,i8⟩:=hcut;have s:Hid (w7.heap[S]?=_):=zh (g6.out.trans a0.out);have x1:w7.cell? ⟨S,1,none⟩=some (.int .i64 g.vars.length):=by rw[m.out.vars];exact y5 s.out 1
      clear g6 a0 d2 J n0
      go_upto_region 25 with(fail)
      have j2:2+(g.vars.length:Int)+(g.I8.length:Int)<=(c3:Int):=by omega
      have j3:2+(g.vars.length:Int)<=(c3:Int):=by omega
      have j4:(0:Int)<=2+(g.vars.length:Int):=by omega
      have j5:2+(g.vars.length:Int)<=2+(g.vars.length:Int)+(g.I8.length:Int):=by omega
      go_cut[2] (λlv W=>lv=.slice (some ⟨gs,os,none⟩) nr c3/\ ∃E x,Hid (Below wr.heap.size wr W)/\Hid (W.heap[D]?=some (.cells #[.int .i64 g.fn,.int .i64 g.pc,.slice y g.vars.length q,.slice E g.I8.length x] 95 (0,0)))/\Hid (W.heap[S]?=w7.heap[S]?)/\Hid (W.ownsRow wr.heap.size 3 1 (.slice y g.vars.length q) g.vars.length (iC g.vars))/\Hid (W.ownsRow wr.heap.size 3 1 (.slice E g.I8.length x) g.I8.length (iC g.I8))/\Hid (∀b,(Value.slice y g.vars.length q).ownBlock=some b->(Value.slice E g.I8.length x).ownBlock≠some b))
      case first=>
       have U: ∀(W:World)(E:Option Addr)(x:Nat),Below w7.heap.size w7 W->W.ownsRow w7.heap.size 3 1 (.slice E g.I8.length x) g.I8.length (iC g.I8)->W.heap[D]?=some (.cells #[.int .i64 g.fn,.int .i64 g.pc,.slice y g.vars.length q,.slice none 0 0] 95 (0,0))/\Hid (Hid (Below wr.heap.size wr (W.setCell ⟨D,3,none⟩ (.slice E g.I8.length x)))/\Hid ((W.setCell ⟨D,3,none⟩ (.slice E g.I8.length x)).heap[D]?=some (.cells #[.int .i64 g.fn,.int .i64 g.pc,.slice y g.vars.length q,.slice E g.I8.length x] 95 (0,0)))/\Hid ((W.setCell ⟨D,3,none⟩ (.slice E g.I8.length x)).heap[S]?=w7.heap[S]?)/\Hid ((W.setCell ⟨D,3,none⟩ (.slice E g.I8.length x)).ownsRow wr.heap.size 3 1 (.slice y g.vars.length q) g.vars.length (iC g.vars))/\Hid ((W.setCell ⟨D,3,none⟩ (.slice E g.I8.length x)).ownsRow wr.heap.size 3 1 (.slice E g.I8.length x) g.I8.length (iC g.I8))/\Hid (∀b,(Value.slice y g.vars.length q).ownBlock=some b->(Value.slice E g.I8.length x).ownBlock≠some b)):=λW E x C t=>by
        have G:=(C.block D (I7 d5.out)).trans d5.out;refine⟨G,zh ⟨zh (M2 (P.out.trans (C.mono P.out.size)) (Nat.le_of_eq m9.out) 3 _),zh ?_,zh ?_,zh (X6 (K6 i8.out C) G (by decide) 3 _),zh ((X6 t G (by decide) 3 _).mono P.out.size),zh λb e1 e2=>?_⟩⟩
        ·rw[z5 W D 3 _ _ _ G];rfl
        ·rw[(J2 W D 3 (.slice E g.I8.length x)).block S (z6 (I7 s.out) C.size) (by simp;omega),C.block S (I7 s.out)]
        ·have h1:=(i8.out.lt b e1).2;have h2:=(t.lt b e2).1;omega
       by_cases a5:c3=2+g.vars.length
       ·have H0:Hid (g.I8=[]):=zh (List.length_eq_zero_iff.1 (by omega))
        have CL:=zh (d3.out ([(g.fn:Int),(g.pc:Int)]++g.vars) g.I8 rn w7 (some ⟨gs,os,none⟩) 0 (by simp) (by omega) P.out (.inr ⟨rfl,H0.out⟩));have FN:=zh U;clear U
        go_wp2_with fail
        refine CL.out.mono ?_;rintro e W ⟨C,E,x,rfl,t⟩;obtain⟨G,HR⟩:=FN.out W E x C t;have k3:=y5 G 3;have r0:=B4 G 3;clear C t G
        go_wp2_with fail
        go_meet
        case rel=>
         obtain⟨h1,h2,h3,h4,h5,h6⟩:=HR.out;exact⟨by first|rfl|rw[a5],E,x,h1,h2,h3,h4,h5,h6⟩
       ·have CL:=zh (d3.out ([(g.fn:Int),(g.pc:Int)]++g.vars) g.I8 rn w7 (some ⟨gs,os+(2+g.vars.length),none⟩) (c3-(2+g.vars.length)) (by simp) (by omega) P.out (.inl (by simp<;>omega)))
        have FN:=zh U;clear U
        go_wp2_with fail
        refine CL.out.mono ?_;rintro e W ⟨C,E,x,rfl,t⟩;obtain⟨G,HR⟩:=FN.out W E x C t;have k3:=y5 G 3;have r0:=B4 G 3;clear C t G
        go_wp2_with fail
        go_meet
        case rel=>
         obtain⟨h1,h2,h3,h4,h5,h6⟩:=HR.out;exact⟨by first|rfl|rw[a5],E,x,h1,h2,h3,h4,h5,h6⟩
      case rest=>
       rename World=>w8
       obtain⟨rfl,E,x,Q,a9,g7,r7,r8,s3⟩:=hcut;replace s:=zh (g7.out.trans s.out);clear g7 d5 P i8 x1 d3
       go_upto_region 26 with(fail)
       have a6:zA w8.drew (bd V) H (some ⟨gf,0,none⟩) L.length cp main 0 d A' c' l':=B.out.below Q.out.drew;obtain⟨A5,c5,w9,r9,f9,v9,f6⟩:=XG Qq (by decide) (λ_=>by simp[xm]) a6.T9 B.out.T9.R9 (.below Q.out.drew) Q.out.drew.size (C4 B.out.lo (I0 (I7 B.out.K3))) g r7.out.drew r8.out.drew s3.out (by have:=I1 List.length e5.out;simp at this;omega);have i9:=y5 a6.K3 4;have g8:=I7 a6.K3;have n1:=(((y7 w8.heap.size w8).alloc (y6 _) (.cells #[.int .i64 g.fn,.int .i64 g.pc,.slice y g.vars.length q,.slice E g.I8.length x] 95)).cell (p:=⟨H,4,none⟩) g8).trans i9;have b8:=(f6 H _ _ _ a6.K3 (by decide)).trans a6.K3;have z4:=y5 b8 4;have n2:=B4 b8 4;have k0:=y5 a9.out 0;have k1:=y5 a9.out 1;have k2:=y5 a9.out 2;have k3:=y5 a9.out 3;have j0:Hid (zA (w9.setCell ⟨H,4,none⟩ (.slice A5 (l'.length+1) c5)) (bd V) H (some ⟨gf,0,none⟩) L.length cp main 0 d A5 c5 (l'++[(g,.slice y g.vars.length q,.slice E g.I8.length x)])):=zh ⟨a6.lo,by rw[z5 w9 H 4 _ _ _ b8];simp,f9.else b8 (by decide) (by decide) 4 _⟩;have j6:Hid (Below V w (w9.setCell ⟨H,4,none⟩ (.slice A5 (l'.length+1) c5))):=zh (M2 ((i3.out.trans (Q.out.drew.mono (C4 B.out.lo (I0 (I7 B.out.K3))))).trans v9.O7) B.out.lo 4 _);have j7:w8.drew.heap[V]?=some (.cells #[.slice (some ⟨gf,0,none⟩) L.length cp,.int .i64 main] 26 (0,0)):=(Q.out.drew.block V a8).trans e6.out;have j8:=(f6 V _ _ _ j7 (by decide)).trans j7;have j9:=zh (((J2 w9 H 4 (.slice A5 (l'.length+1) c5)).block V (I7 j8) (by simp;omega)).trans j8);have a7:=(f6 S _ _ _ s.out (by decide)).trans s.out;have g9:=zh (((J2 w9 H 4 (.slice A5 (l'.length+1) c5)).block S (I7 a7) (λe=>by injection e with e;subst e;rw[b8]at a7;injection a7 with a7;injection a7 with _ e;exact I2 e (by decide))).trans a7);clear a6 f9 v9 f6 b8 j7 j8 a7 Q;refine L4 (by kernel_rfl) [(0,188,.pointer (some ⟨H,0,none⟩)),(1,189,.pointer (some ⟨H,0,none⟩)),(2,190,.pointer (some ⟨H,0,none⟩)),(3,191,.pointer (some ⟨H,4,none⟩)),(4,192,.slice A' l'.length c'),(5,193,.agg #[.int .i64 g.fn,.int .i64 g.pc,.slice y g.vars.length q,.slice E g.I8.length x]),(6,194,.slice (some ⟨w8.drew.heap.size,0,none⟩) 1 1),(7,195,.slice A5 (l'.length+1) c5),(8,196,.pointer (some ⟨H,0,none⟩)),(9,197,.pointer (some ⟨H,4,none⟩))] [] _ _ rfl rfl [6,7,10] (λz=>match z with|0=>w8.drew|1=>w8.drew.alloc (.cells #[.int .i64 g.fn,.int .i64 g.pc,.slice y g.vars.length q,.slice E g.I8.length x] 95)|2=>w9|_=>w9.setCell ⟨H,4,none⟩ (.slice A5 (l'.length+1) c5)) [(0,0),(0,1),(0,2),(1,0),(1,1),(2,0),(2,1),(3,0),(3,1),(4,0),(4,1),(5,0),(6,0),(7,1),(8,2),(9,2),(10,2)] (by kernel_rfl) (by kernel_rfl) (by rfl) rfl ?_ ?_
       ·generalize hF:J8 _ _=F
        simp[J8]at hF;subst hF
        repeat' (first|refine List.forall_mem_cons.2 ⟨?_,?_⟩|exact List.forall_mem_nil _)
        all_goals
         intro o' t;injection t with t
         subst t
        rotate_left 13
        ·exact O4 rfl rfl rfl r9
        all_goals simp[X9,execOp,go_sem,i9,n1,z4,n2,k0,k1,k2,k3]
       clear i9 n1 z4 n2 k0 k1 k2 k3 r9 g8;simp only[J8,B6,C0,List.append_nil,List.foldl];go_simp;generalize World.setCell _ _ _=s4 at j0 j6 j9 g9|-
       have x1:s4.cell? ⟨S,1,none⟩=some (.int .i64 g.vars.length):=by rw[m.out.vars];exact y5 g9.out 1
       have f7:([(g.fn:Int),(g.pc:Int)]++g.vars++g.I8).length=2+g.vars.length+g.I8.length:=by simp;omega
       have n3:Hid (yE w (some ⟨gs,os,none⟩) c3 (([(g.fn:Int),(g.pc:Int)]++g.vars++g.I8)++rn)):=o6;have s7:2+(g.vars.length:Int)+(g.I8.length:Int)<=(nr:Int):=by have:=e7.out;omega
       have h7:Hid (nr-(2+g.vars.length+g.I8.length)=rn.length):=zh (by have:=e7.out;omega);clear I
       go_upto_region 27 with(fail)
       by_cases a5:c3=2+g.vars.length+g.I8.length
       ·have HE:=zh (n3.out.end (by rw[f7];exact a5) (some ⟨gs,os,none⟩)).2
        clear f7
        go_wp2_with fail
        go_roundw
        case rel=>
         refine⟨j+1,wn,_,_,rn,A5,c5,_,c7,by rw[h7.out,Nat.sub_self],rfl,by go_num,c6,l9,j0,zh ?_,j6,HE,j9⟩;rw[List.map_append,e5.out,List.take_add_one,m0.out];rfl
        case measure=>simp[intOf];omega
       ·have HE:=n3.out.tail
        rw[f7]at HE;replace HE:=zh HE;clear f7
        go_wp2_with fail
        go_roundw
        case rel=>
         refine⟨j+1,wn,_,_,rn,A5,c5,_,c7,by rw[h7.out],rfl,by go_num,c6,l9,j0,zh ?_,j6,HE,j9⟩;rw[List.map_append,e5.out,List.take_add_one,m0.out];rfl
        case measure=>simp[intOf];omega
   ·obtain rfl:j=i.length:=by omega
    have X:=i0.out;rw[List.drop_length]at X;simp only[List.flatMap_nil]at X;subst X;have k4:=e5.out;rw[F6]at k4;have s8:0<i.length:=by rw[b6.out];simp
    have s5:=zh k4;clear k4
    go_wp2_with fail
    go_ret2;rw[b9.out];exact⟨i3.out,H,A',c',l',rfl,B.out,s5.out⟩
theorem zeY(b:Bool)(w:World):Calls prog 122 #[.bool b] w λe w'=>e=.returned (.int .i64 (tr b))/\w'=w:=by
 go_enter func122,ntmps122
 cases b<;>(go_wp2;go_ret;exact⟨rfl,rfl⟩)
def rkM(d:Int)(xs:List Int):Option Int:=if d=5 then some (IntKind.i64.wrap (-(xs.getD 0 0)))else if d=6 then some (tr (decide (xs.getD 0 0=0)))else Zv d (xs.getD 0 0) (xs.getD 1 0)
theorem zcO{B:Bd}{x C D c E:Nat}{w:World}{F X:Option Addr}{main value:Int}{low:List Fm}{f:Fq}{v:Value}{Y:Nat}(h:zA w B x F C D main 0 value (some ⟨E,0,none⟩) c (low++[(f,v,.slice X f.I8.length Y)]))(hn:f.I8.length<=600)
 (d:Int) (k:5<=d) (Z:d<=14) (xs:List Int) (Aa:Option Addr) (ca:Nat) (hx:K9 w (λ_=>True) (.slice Aa xs.length ca) xs) (i:xs.length=if d=5\/d=6 then 1 else 2):
 Calls prog 83 #[.pointer (some ⟨x,0,none⟩),.pointer (some ⟨E,low.length*4,none⟩),.int .i64 d,.slice Aa xs.length ca] w λe w'=>e=.returned (.tuple #[])/\Vo B w w'/\
  match rkM d xs with
  |none=>zA w' B x F C D main 2 17 none 0 []
  |some y=> ∃s',zA w' B x F C D main 0 value (some ⟨E,0,none⟩) c (low++[({f with I8:=f.I8++[y]},v,s')]):=by
 obtain⟨a,z⟩: ∃a,xs[0]?=some a:=⟨_,y8 (by rw[i];split<;>decide)⟩;obtain⟨b,j⟩: ∃b,xs[xs.length-1]?=some b:=⟨_,y8 (by rw[i];split<;>decide)⟩;obtain⟨ga,oa,rfl,-,N⟩:=hx.at 0 a z;obtain⟨a1,a2,e,-,O⟩:=hx.at _ b j;injection e with e;injection e with e e'
 subst e e';have P:1<=xs.length/\xs.length<=2:=by rw[i];split<;>decide
 have n:xs.length=1/\b=a/\(d=5\/d=6)\/xs.length=2/\xs[1]?=some b/\ ¬(d=5\/d=6):=by
  split at i
  ·rename_i k;rw[i]at j;rw[z]at j;injection j with j;exact .inl ⟨i,j.symm,k⟩
  ·rename_i k;rw[i]at j;exact .inr ⟨i,j,k⟩
 have Q:xs.getD 0 0=a:=by rw[List.getD_eq_getElem?_getD,z];rfl
 obtain⟨r,g⟩: ∃r,rkM d xs=r:=⟨_,rfl⟩;rw[g];rw[Nat.add_zero]at N;obtain⟨m,R⟩: ∃m,xs.length-1=m:=⟨_,rfl⟩;rw[R]at O;have e1:IntKind.i64.wrap ((xs.length:Int)-1)=(m:Int):=by rw[show(xs.length:Int)-1=m by omega];exact IntWalk.i64_in _ (by omega)
 have i0:(0:Int)<(xs.length:Int):=by omega
 have i1:(0:Int)<=(m:Int):=by omega
 have i2:(m:Int)<(xs.length:Int):=by omega
 have H:=zh h;have HC:=zh n;have S:=zh g;have o:=zh Q;clear h n g z j i R Q hx
 go_enter func83,ntmps83
 go_upto_region 0 with(fail)
 go_quiet (fail)
 clear N O e1 i0 i1 i2;have G:=J9 (y7 w.heap.size w) nq;have hB:B<=w.heap.size:=C4 H.out.lo (I0 (I7 H.out.K3));replace H:=zh (H.out.below G);have I:=zh (Vo.of G hB);clear G;generalize World.drewN _ _=w1 at H I|-
 have T:d=5\/d=6\/d=7\/d=8\/d=9\/d=10\/d=11\/d=12\/d=13\/d=14:=by omega
 have A: ¬(d=5\/d=6)->xs.getD 1 0=b:=λk=>by
  rcases HC.out with⟨-,-,h⟩|⟨-,h,-⟩
  ·exact I2 h k
  ·rw[List.getD_eq_getElem?_getD,h];rfl
 by_cases l:(d=10\/d=11)/\b=0
 ·obtain⟨l,rfl⟩:=l
  have J:=A (by omega);have FC:=zh (zap H.out 17);clear A T
  rcases l with rfl|rfl
  all_goals
   have g:=S.out;simp[rkM,Zv,J]at g;subst g
   go_wp2_with fail
   refine FC.out.mono ?_;rintro e w2 ⟨rfl,U,V⟩;have HS:=zh U;have K:=zh (I.out.trans V);clear U V
   go_wp2_with fail
   (try simp only[Exit.inBlock,Exit.then]);refine F1 (results_none rfl _ _ _) rfl ?_
   exact⟨rfl,K.out,HS.out⟩
 ·have p:(d=10\/d=11)->(b==0)=false:=λh=>by simpa using λe=>l ⟨h,e⟩
  have q:(d=10\/d=11)->b≠0:=λh e=>l ⟨h,e⟩;clear l
  rcases T with rfl|rfl|rfl|rfl|rfl|rfl|rfl|rfl|rfl|rfl
  all_goals
   have g:=S.out
   first
    |(have J:=A (by decide);simp only[rkM,Zv,o.out,J]at g)
    |simp only[rkM,o.out]at g
   try(have a3:=p (by decide))
   try(have L:=q (by decide))
   clear p q A
   try simp[L]at g
   try simp at g
   obtain⟨y,rfl⟩: ∃y,r=some y:=⟨_,g.symm⟩;injection g with g
   try(have W:tr (a==0)=y:=g)
   try(have W:tr (a==b)=y:=g)
   go_upto_region 26 with(go_at_call 122;refine(zeY _ _).mono ?_;rintro e w' ⟨rfl,rfl⟩)
   clear g
   try clear W
   obtain⟨a4,Av,cv,a5,a6,s,-,-,d0,d1,d2,d3,z1,z3,-⟩:=Z5 H.out;injection s with s;injection s with s
   subst s;obtain⟨A',c',w4,r4,x3,y3,t,u⟩:=Xh H.out y (by omega);have HN:=zh t;have M:=zh (I.out.trans u);clear t u d0 d1 d2 z1 z3
   go_wp2_with(at_builtin;refine Lib.wpList_append_run _ rfl _ _ _ _ rfl _ _ rfl rfl _ _ r4 ?_)
   go_end0;exact⟨rfl,M.out,_,HN.out⟩
end Go.Proofs.YtalgmjmibamdfaaGreatDoor
