/- Merged. -/
import Derived.Test.YtalgmjmibamdfaaGreatDoorVS24
set_option linter.all false
set_option maxHeartbeats 16000000
set_option maxRecDepth 100000
namespace Go.Proofs.YtalgmjmibamdfaaGreatDoor
open Go.Proofs.Tryz
open Go.RowKit Tw
theorem zU.eq{w:World}{A:Option Addr}{n c k2:Nat}(d:zU w A n 0 3 c)(f:zU w A n 0 3 k2)(h: ∀j,j<n-> ∃g a v,A=some ⟨g,a,none⟩/\g<w.heap.size/\w.cell? ⟨g,a+j,none⟩=some (.int .i64 v)):c=k2:=by
 rcases Nat.eq_zero_or_pos n with b|b
 ·rw[d.2 (by omega),f.2 (by omega)]
 ·obtain⟨g,a,v,e,-,i⟩:=h 0 b
  have k:=d.1 b g a v e i;have l:=f.1 b g a v e i;omega
theorem JD(A:Option Addr)(n c:Nat)(An:Option Addr)(cn:Nat)(s:List Int)(C:Int)(w:World)(hG:R8 w)(c2:n<=c)(h: ∀j,j<n-> ∃g V v,A=some ⟨g,V,none⟩/\g<w.heap.size/\w.cell? ⟨g,V+j,none⟩=some (.int .i64 v))(ha:J8 w (λ_=>True) (.slice An s.length cn) s)(hn:s.length<=4611686018427387904):
 Calls prog 3 #[.slice A n c,.slice An s.length cn,.int .i64 C] w λe w'=>e=.returned (.bool true)/\Below w.heap.size w w':=by
 have HG:Hid (∀W,Below w.heap.size w W->R8 W):=zh (λW P=>hG.to P);have b0:Hid (∀W,Below w.heap.size w W-> ∀j,j<n-> ∃g V v,A=some ⟨g,V,none⟩/\g<W.heap.size/\W.cell? ⟨g,V+j,none⟩=some (.int .i64 v)):=zh (λW P j hj=>by
  obtain⟨g,V,v,J,S,h3⟩:=h j hj;exact⟨g,V,v,J,y5 S P.size,(P.cell (p:=⟨g,V+j,none⟩) S).trans h3⟩)
 have HA:Hid (∀W,Below w.heap.size w W->J8 W (λ_=>True) (.slice An s.length cn) s):=zh (λW P=>ha.low P);have HN:=zh hn;have HH:=zh h;have SC:Hid (∀W,Below w.heap.size w W->Calls prog 7 #[.slice A n c] W λe w'=> ∃(t:ByteArray)(N k:Nat),e=.returned (.string t)/\t.size<=12000000/\Hid (qV k N t)/\zU w A n 0 3 k/\Below W.heap.size W w'):=zh (λW P=>(QC A n c W (HG.out W P) c2 (b0.out W P)).mono λe w' ⟨t,N,k,a,b,c,d,f⟩=>⟨t,N,k,a,b,c,d.zeo P (x6 _) Iff.rfl,f⟩);have UK:Hid (∀W,Below w.heap.size w W->Calls prog 9 #[.slice A n c] W λe w'=> ∃(k:Nat)(m:List Fn)(Au:Option Addr)(cu:Nat),e=.returned (.agg #[.slice Au m.length cu])/\P4 w' (λ_=>True) (.slice Au m.length cu) m/\Below W.heap.size W w'/\m.map Fn.sh=jq k/\zU w A n 0 3 k):=zh (λW P=>(zgm A n c W (HG.out W P) c2 (b0.out W P)).mono λe w' ⟨k,m,Au,cu,a,b,c,d,f⟩=>⟨k,m,Au,cu,a,b,c,d,f.zeo P (x6 _) Iff.rfl⟩);clear hG h ha hn b0
 go_enter func3,ntmps3
 go_wp2_with fail
 refine(zal w).mono ?_;rintro e w1 ⟨rfl,r⟩;have u:=zh r;clear r
 go_wp2_with fail
 refine(SC.out w1 u.out).mono ?_;rintro e w2 ⟨t,N,k,rfl,e1,HT,hD,r⟩;obtain⟨ws,us,s1,s2,s3,s4,hT,h4,c3⟩:=HT.out.X8;replace u:=zh (u.out.trans (r.mono u.out.size));have a3:=zh hT;have H4:=zh (h4 us);have c4:=zh c3;have c5:=zh hD;have c7:t.size<=maxLen:=by unfold maxLen;omega
 have CC:=zh (za3 t ws us w2 c7 s1 s2 s3 s4 hT (h4 us) (HG.out w2 u.out));clear r SC s1 s2 s3 s4 hT h4 c3 hD HT e1
 go_wp2_with fail
 refine CC.out.mono ?_;rintro e w3 ⟨A1,H,rfl,r,hf⟩;clear CC;obtain⟨L,hL⟩: ∃L,us.map (jk us)=L:=⟨_,rfl⟩;obtain⟨o,T⟩: ∃m,ql us zK=m:=⟨_,rfl⟩;have a2:us.length=L.length:=by rw[<-hL,C0]
 have b1:(us.map λf=>(jk us f).pf)=L.map Cf.pf:=by rw[<-hL,List.map_map];rfl
 have HP:Hid (Z3 L o):=zh (by rw[<-hL,<-T];exact Xt a3.out);have b2:L.length<=16:=by rw[<-a2];exact a3.out.xy
 have b3:Hid (∀c∈L,c.I9.length<=4000):=zh (by rw[<-hL];intro x hx;obtain⟨f,hf,rfl⟩:=List.mem_map.1 hx;exact H4.out f hf);have b4:Hid (∀c∈L,yJ c.I9):=zh (by rw[<-hL];exact Jg a3.out.fw);have d0:L4 w3 (.slice A1 L.length H) (L.map Cf.pf):=by rw[<-a2,<-b1];exact hf
 have FT:Hid (∀(W:World)(k2:Nat)(m2:List Fn)(Au:Option Addr)(cu:Nat),L4 W (.slice A1 L.length H) (L.map Cf.pf)->P4 W (λ_=>True) (.slice Au m2.length cu) m2->m2.map Fn.sh=jq k2->zU w A n 0 3 k2->Calls prog 8 #[.agg #[.slice A1 L.length H,.int .i64 o],.agg #[.slice Au m2.length cu]] W λe w'=>e=.returned (.bool true)/\Below W.heap.size W w'):=zh (λW k2 m2 Au cu hf hu hs hd=>by
  have:=zfn us m2 (by rw[hs,c4.out,c5.out.eq hd HH.out]) a3.out H4.out A1 Au H cu (λ_=>True) W (by rw[a2,b1];exact hf) hu;rw[a2,T]at this;exact this)
 have d1:=r.alloc r.size (.cells #[.slice A1 L.length H,.int .i64 o] 26);have z:=zh (x9 w3 (.cells #[.slice A1 L.length H,.int .i64 o] 26));replace u:=zh (u.out.trans (d1.mono u.out.size));have I:Hid (L4 (w3.alloc (.cells #[.slice A1 L.length H,.int .i64 o] 26)) (.slice A1 L.length H) (L.map Cf.pf)):=zh (d0.I5 (.of ((x7 w3.heap.size w3).alloc (x6 _) _)));rw[a2,T];clear r hf d1 d0 a2 b1 T hL a3 H4 c4 c5 HH c7
 go_upto_region 4 with(fail)
 generalize World.alloc _ _=w4 at z u I|-
 generalize w3.heap.size=B at z|-
 have X:w4.cell? ⟨B,0,none⟩=some (.slice A1 L.length H):=x5 z.out 0;have Y:w4.cell? ⟨B,1,none⟩=some (.int .i64 o):=x5 z.out 1;have K:=I0 z.out
 go_cut[30] (λv W=>v=.bool false/\Hid (Below w4.heap.size w4 W))
 case first=>
  have e2:Hid (Below w.heap.size w w4.drew):=zh (u.out.trans ((I8 w4).mono u.out.size))
  go_region_law(first|(go_simp;go_at_call 9;refine(UK.out _ e2.out).mono ?_;rintro e w8 ⟨k8,m8,f6,f7,rfl,hu,d2,hs,hd⟩;have Q:Below w4.heap.size w4 w8:=(I8 w4).trans d2;have q0:w8.cell? ⟨B,0,none⟩=some (.slice A1 L.length H):=(Q.cell (p:=⟨B,0,none⟩) K).trans X;have q1:w8.cell? ⟨B,1,none⟩=some (.int .i64 o):=(Q.cell (p:=⟨B,1,none⟩) K).trans Y)|(go_simp;go_at_call 8;refine(FT.out _ _ _ _ _ (I.out.I5 (.of Q)) hu hs hd).mono ?_;rintro e w9 ⟨rfl,Z⟩))
  all_goals
   have a1:Hid (Below w4.heap.size w4 w9):=zh (Q.trans (Z.mono Q.size));clear Z Q d2 hu hs hd q0 q1 X Y K
   go_wp2_with fail
   go_meet
   case rel=>exact⟨rfl,a1⟩
 case rest=>
  rename World=>w5
  obtain⟨rfl,a6⟩:=hcut;replace z:=zh ((a6.out.block B K).trans z.out);replace u:Hid (Below w.heap.size w w5):=zh (u.out.trans (a6.out.mono u.out.size));replace I:=zh (I.out.I5 (.of a6.out));clear a6 X Y K FT UK;have X:w5.cell? ⟨B,0,none⟩=some (.slice A1 L.length H):=x5 z.out 0;have Y:w5.cell? ⟨B,1,none⟩=some (.int .i64 o):=x5 z.out 1;have K:=I0 z.out;have SC:=zh (zay L o HP.out b2 b3.out A1 H w5 I.out)
  go_wp2_with fail
  refine SC.out.mono ?_;rintro e w8 ⟨r,A6,c6,rfl,ho⟩;have a7:=zh (yb ho);replace z:=zh ((r.block B K).trans z.out);replace u:Hid (Below w.heap.size w w8):=zh (u.out.trans (r.mono u.out.size));replace I:=zh (I.out.I5 (.of r));clear r ho SC X Y K
  go_upto_region 7 with(fail)
  have X:w8.cell? ⟨B,0,none⟩=some (.slice A1 L.length H):=x5 z.out 0;have Y:w8.cell? ⟨B,1,none⟩=some (.int .i64 o):=x5 z.out 1;have K:=I0 z.out;obtain⟨cm,a4,e3⟩:=HP.out.main;have d3:=(HP.out.xQ cm (B0 a4)).vars.2;have e4:o<L.length:=(List.getElem?_eq_some_iff.1 a4).1;have a8:Hid (P1 L o=⟨0,0,[⟨o,0,List.replicate cm.vars 0,[]⟩]⟩):=zh (by simp[P1,a4]);obtain⟨gf,f8,vo,hv,-,b5,u0,u1,u2,-⟩:=I.out.at (X9 a4);injection hv with e5 e6 e7
  clear e6 e3 a4 u0 u2;subst e5 e7;simp only[Cf.pf]at u1;obtain⟨R,d4⟩: ∃n,cm.vars=n:=⟨_,rfl⟩;rw[d4]at u1 a8 d3;clear d4;have j0:(0:Int)<=(o:Int):=by omega
  have j1:(o:Int)<(L.length:Int):=by omega
  go_cut[10] (λv W=> ∃F G,v=.slice F (K9 (P1 L o)).length G/\Hid (qG W F G (K9 (P1 L o)))/\Hid (Below w8.heap.size w8 W))
  case first=>
   refine P5 (D:=Nat×Nat×Value×World) (by kernel_rfl) [(0,33),(1,34),(2,35),(3,36),(4,37),(5,38),(6,39),(7,40),(8,41),(9,42),(10,43),(11,44),(12,45),(13,46),(14,10)] [9,11,13] [[],[9],[9,11],[9,11,13]] (λ_ d=>[(0,33,.pointer (some ⟨B,1,none⟩)),(1,34,.int .i64 o),(2,35,.pointer (some ⟨B,0,none⟩)),(3,36,.slice (some ⟨gf,0,none⟩) L.length H),(4,37,.pointer (some ⟨B,1,none⟩)),(5,38,.int .i64 o),(6,39,.pointer (some ⟨gf,o*3,none⟩)),(7,40,.pointer (some ⟨gf,o*3+1,none⟩)),(8,41,.int .i64 R),(9,42,.slice (some ⟨d.1,0,none⟩) R R),(10,43,.agg #[.int .i64 o,.int .i64 0,.slice (some ⟨d.1,0,none⟩) R R,.slice none 0 0]),(11,44,.slice (some ⟨d.2.1,0,none⟩) 1 1),(12,45,.agg #[.int .i64 0,.int .i64 0,.slice (some ⟨d.2.1,0,none⟩) 1 1]),(13,46,d.2.2.1),(14,10,d.2.2.1)]) (λ_ d=>d.2.2.2) (λj' d=>Below w8.heap.size w8 d.2.2.2/\match j' with|0=>True|1=>d.2.2.2.heap[d.1]?=some (.cells (S5 (List.replicate R 0)) 3 (0,0))/\w8.heap.size<=d.1|2=>d.2.2.2.heap[d.1]?=some (.cells (S5 (List.replicate R 0)) 3 (0,0))/\w8.heap.size<=d.1/\d.2.2.2.ownsRow w8.heap.size 42 4 (.slice (some ⟨d.2.1,0,none⟩) 1 1) 1 [.int .i64 o,.int .i64 0,.slice (some ⟨d.1,0,none⟩) R R,.slice none 0 0]|_=> ∃A c,d.2.2.1=.slice A (K9 (P1 L o)).length c/\qG d.2.2.2 A c (K9 (P1 L o))) [(0,0),(0,1),(1,0),(1,1),(2,0),(3,0),(4,0),(5,0),(6,0),(7,0),(8,0),(9,0),(10,1),(11,1),(12,2),(13,2),(14,3)] (by kernel_rfl) (by kernel_rfl) (λ_ _=>rfl) (by rfl) (0,0,undef,w8.drew) rfl ⟨I8 w8,trivial⟩ rfl ?_ ?_
   ·repeat' (first|refine List.forall_mem_cons.2 ⟨?_,?_⟩|exact List.forall_mem_nil _)
    all_goals
     intro o' ho;injection ho with ho
     subst ho;rintro⟨gv,gb,rv,W⟩ ⟨r,U⟩;simp only at r U
    rotate_left 11
    ·obtain⟨wm,rm,e8,e9,-⟩:=JE W R (by omega)
     refine .jC 1 (W.heap.size,gb,rv,wm) ⟨by decide,⟨r.trans (e9.mono r.size),e8,r.size⟩,rfl,λe O J S=>?_⟩ (by simp[J2,Y7,execOp,go_sem,rm]);simp only[D9,List.mem_nil_iff,or_false]at O|-
     rcases O with rfl|rfl|rfl|rfl|rfl|rfl|rfl|rfl|rfl|rfl|rfl|rfl|rfl|rfl|rfl
     all_goals first|(simp;done)|exact G5 rfl J|exact G5 (S.symm.trans (by kernel_rfl:_=true)) (by decide)
    rotate_left 1
    ·refine .jC 2 (gv,W.heap.size,rv,W.alloc (.cells #[.int .i64 o,.int .i64 0,.slice (some ⟨gv,0,none⟩) R R,.slice none 0 0] 42)) ⟨by decide,⟨r.alloc r.size _,(B8 W _ (I0 U.1)).trans U.1,U.2,World.ownsRow_lit (base:=w8.heap.size) (e:=42) (size:=4) W #[.int .i64 o,.int .i64 0,.slice (some ⟨gv,0,none⟩) R R,.slice none 0 0] 1 r.size (by decide) rfl⟩,rfl,λe O J S=>?_⟩ (by simp[J2,Y7,execOp,go_sem])
     simp only[D9,List.mem_nil_iff,or_false]at O|-
     rcases O with rfl|rfl|rfl|rfl|rfl|rfl|rfl|rfl|rfl|rfl|rfl|rfl|rfl|rfl|rfl
     all_goals first|(simp;done)|exact G5 rfl J|exact G5 (S.symm.trans (by kernel_rfl:_=true)) (by decide)
    rotate_left 1
    ·obtain⟨hv,f0,ho⟩:=U
     have f1:Q8 W w8.heap.size 42 (some ⟨gb,0,none⟩) 1 [((⟨o,0,List.replicate R 0,[]⟩:Fq),Value.slice (some ⟨gv,0,none⟩) R R,Value.slice none 0 0)]:=⟨ho,(XE w8 w8.heap.size).zbf (y:=((⟨o,0,List.replicate R 0,[]⟩:Fq),Value.slice (some ⟨gv,0,none⟩) R R,Value.slice none 0 0)) (λg cs U=>r.block g (I0 U)) (by have:=ZF hv (base:=w8.heap.size) f0 (by simp;omega);simpa using this) (F8 _ _ _ _) (λg e=>by(have h9:gv=g:=(by simpa[Value.ownBlock]using e));omega) (λg e=>by cases e) (λg _ e=>by cases e)⟩;have f2:=ZE (mode:=0) (value:=0) f1 ⟨by simp,λx hx=>by rw[List.mem_singleton.1 hx];simp;omega⟩;refine .call 11 #[.agg #[.int .i64 0,.int .i64 0,.slice (some ⟨gb,0,none⟩) 1 1]] (by simp[J2,execOp,go_sem]) (f2.mono ?_);rintro e w9 ⟨Z,F,G,b6,b7⟩;replace b7:w9.ownsRow W.heap.size 3 1 (.slice F (K9 (P1 L o)).length G) (K9 (P1 L o)).length (iC (K9 (P1 L o))):=by rw[a8.out];exact b7
     replace b6:e=.returned (.slice F (K9 (P1 L o)).length G):=by rw[a8.out];exact b6
     subst b6;refine⟨_,3,(gv,gb,.slice F (K9 (P1 L o)).length G,w9),rfl,⟨by decide,⟨r.trans (Z.mono r.size),F,G,rfl,yb b7⟩,rfl,λe O J S=>?_⟩,rfl,rfl⟩;simp only[D9,List.mem_nil_iff,or_false]at O|-
     rcases O with rfl|rfl|rfl|rfl|rfl|rfl|rfl|rfl|rfl|rfl|rfl|rfl|rfl|rfl|rfl
     all_goals first|(simp;done)|exact G5 rfl J|exact G5 (S.symm.trans (by kernel_rfl:_=true)) (by decide)
    all_goals exact .jd rfl (by simp[J2,Y7,execOp,go_sem,(r.cell (p:=⟨B,0,none⟩) K).trans X,(r.cell (p:=⟨B,1,none⟩) K).trans Y,(r.cell (p:=⟨gf,o*3+1,none⟩) b5).trans u1,j0,j1])
   ·rintro jj ⟨gv,gb,rv,W⟩ ⟨r,U⟩ hd
    have hj:=hd 13 (by decide) (by decide)
    match jj,U,hj with
    |0,_,h|1,_,h|2,_,h=>cases h
    |3,U,_=>
     obtain⟨F,G,J,hi⟩:=U;simp only at J r hi;subst J;have HI:=zh hi;have u:=zh r;clear hd r hi X Y K u1 b5 j0 j1;simp only[J2,z9,B4,List.append_nil,List.foldl];go_simp
     go_wp2_with fail
     go_meet
     case rel=>exact⟨F,G,rfl,HI,u⟩
    |n+4,_,h=>cases h
  case rest=>
   rename World=>w9
   obtain⟨F,G,rfl,E,a1⟩:=hcut;obtain⟨b8,d6⟩:=Xd HP.out;replace z:=zh ((a1.out.block B (I0 z.out)).trans z.out);replace I:=zh (I.out.I5 (.of a1.out));replace a7:Hid (qG w9 A6 c6 (K9 (P1 L o))):=zh (a7.out.low a1.out);replace u:Hid (Below w.heap.size w w9):=zh (u.out.trans (a1.out.mono u.out.size));have HE:=zh (Js (K9 (P1 L o)) A6 F c6 G (λ_=>True) (λ_=>True) w9 a7.out.1 E.out.1 (by have:=Xj HP.out b8;omega));have HM:=zh b8;have a0:=zh d6;clear a1 X Y K u1 b5 j0 j1 b8 d6 a8 d3 e4 a7;generalize P1 L o=M at HE HM a0 E|-
   go_wp2_with fail
   refine HE.out.mono ?_;rintro e b9 ⟨rfl,r⟩;replace z:=zh ((r.block B (I0 z.out)).trans z.out);replace I:=zh (I.out.I5 (.of r));replace E:Hid (qG b9 F G (K9 M)):=zh (E.out.low r);replace u:Hid (Below w.heap.size w b9):=zh (u.out.trans (r.mono u.out.size));clear r HE
   go_wp2_with fail
   refine(zdx _ _ b9).mono ?_;rintro e d7 ⟨rfl,r⟩;replace z:=zh ((r.block B (I0 z.out)).trans z.out);replace I:=zh (I.out.I5 (.of r));replace E:Hid (qG d7 F G (K9 M)):=zh (E.out.low r);replace u:Hid (Below w.heap.size w d7):=zh (u.out.trans (r.mono u.out.size));clear r;obtain⟨q,hq⟩: ∃q:Nat,C%40=(q:Int):=⟨(C%40).toNat,by omega⟩;have HQ:Hid (q<40):=zh (by omega);have FB:Hid (∀W:World,Calls prog 14 #[.int .i64 C,.int .i64 40] W λe w'=>e=.returned (.int .i64 (q:Int))/\w'=W):=zh (λW=>by rw[<-hq];exact xU C 40 (by decide) (by decide) W);clear hq
   go_wp2_with fail
   go_loopw[10,57] (λl i wr=> ∃(j:Nat)(M:Mc)(F:Option Addr)(G:Nat),l=.slice F (K9 M).length G/\i=.int .i64 j/\j<=20/\Hid (qp L o M)/\Hid (McR M)/\Hid (qG wr F G (K9 M))/\Hid (Below w.heap.size w wr)/\Hid (L4 wr (.slice (some ⟨gf,0,none⟩) L.length H) (L.map Cf.pf))/\Hid (wr.heap[B]?=some (.cells #[.slice (some ⟨gf,0,none⟩) L.length H,.int .i64 o] 26 (0,0)))) (λ_ i _=>20-(intOf i).toNat)
   case atStart=>exact⟨0,M,F,G,rfl,rfl,by omega,HM,a0,E,u,I,z⟩
   case round=>
    clear HM a0 E u I z;obtain⟨j,M,F,G,rfl,rfl,hj,HM,a0,E,u,I,z⟩:=hrel
    by_cases f9:j<20
    ·go_upto_region 12 with(fail)
     rename World=>wr
     have X:wr.cell? ⟨B,0,none⟩=some (.slice (some ⟨gf,0,none⟩) L.length H):=x5 z.out 0;have Y:wr.cell? ⟨B,1,none⟩=some (.int .i64 o):=x5 z.out 1;have K:=I0 z.out;have VT:Hid (∀W,Below wr.heap.size wr W->Calls prog 13 #[.agg #[.slice (some ⟨gf,0,none⟩) L.length H,.int .i64 o],.slice F (K9 M).length G,.int .i64 (q:Int),.slice An s.length cn] W λe w'=>e=.returned (.bool true)/\Below W.heap.size W w'):=zh (λW P=>zaK L o HP.out b2 b3.out _ _ b4.out W (I.out.I5 (.of P)) HM.out a0.out (E.out.low P) q (by have:=HQ.out;omega) (HA.out W (u.out.trans (P.mono u.out.size))) HN.out)
     go_cut[65] (λv W=>v=.bool false/\Hid (Below wr.heap.size wr W))
     case first=>
      refine P5 (D:=World) (by kernel_rfl) [(0,59),(1,60),(2,61),(3,62),(4,63),(5,64),(6,65)] [3,5] [[],[3],[3,5]] (λ_ d=>[(0,59,.agg #[.slice (some ⟨gf,0,none⟩) L.length H,.int .i64 o]),(1,60,.slice F (K9 M).length G),(2,61,.int .i64 C),(3,62,.int .i64 (q:Int)),(4,63,.slice An s.length cn),(5,64,.bool true),(6,65,.bool false)]) (λ_ d=>d) (λ_ d=>Below wr.heap.size wr d) [(0,0),(0,1),(1,0),(1,1),(2,0),(3,0),(4,0),(4,1),(5,1),(6,2)] (by kernel_rfl) (by kernel_rfl) (λ_ _=>rfl) (by rfl) wr.drew rfl (I8 wr) rfl ?_ ?_
      ·repeat' (first|refine List.forall_mem_cons.2 ⟨?_,?_⟩|exact List.forall_mem_nil _)
       all_goals
        intro o' ho;injection ho with ho
        subst ho;rintro W r
       rotate_left 5
       ·refine .call 14 #[.int .i64 C,.int .i64 40] (by simp[J2,execOp,go_sem]) ((FB.out W).mono ?_)
        rintro e w9 ⟨rfl,rfl⟩;refine⟨_,1,_,rfl,⟨by decide,r,rfl,λe O J S=>?_⟩,rfl,rfl⟩;simp only[D9,List.mem_nil_iff,or_false]at O|-
        rcases O with rfl|rfl|rfl|rfl|rfl|rfl|rfl
        all_goals first|(simp;done)|exact G5 rfl J|exact G5 (S.symm.trans (by kernel_rfl:_=true)) (by decide)
       rotate_left 2
       ·refine .call 13 #[.agg #[.slice (some ⟨gf,0,none⟩) L.length H,.int .i64 o],.slice F (K9 M).length G,.int .i64 (q:Int),.slice An s.length cn] (by simp[J2,execOp,go_sem]) ((VT.out W r).mono ?_)
        rintro e w9 ⟨rfl,Z⟩;refine⟨_,2,w9,rfl,⟨by decide,r.trans (Z.mono r.size),rfl,λe O J S=>?_⟩,rfl,rfl⟩;simp only[D9,List.mem_nil_iff,or_false]at O|-
        rcases O with rfl|rfl|rfl|rfl|rfl|rfl|rfl
        all_goals first|(simp;done)|exact G5 rfl J|exact G5 (S.symm.trans (by kernel_rfl:_=true)) (by decide)
       all_goals exact .jd rfl (by simp[J2,Y7,execOp,go_sem,(r.cell (p:=⟨B,0,none⟩) K).trans X,(r.cell (p:=⟨B,1,none⟩) K).trans Y])
      ·rintro jj W r hd
       have hj:=hd 5 (by decide) (by decide)
       match jj,hj with
       |0,h|1,h=>cases h
       |2,_=>
        have c0:=zh r;clear hd r X Y K;simp only[J2,z9,B4,List.append_nil,List.foldl];go_simp
        go_wp2_with fail
        go_meet
        case rel=>exact⟨rfl,c0⟩
       |n+3,h=>cases h
     case rest=>
      rename World=>w7
      obtain⟨rfl,a5⟩:=hcut;replace z:=zh ((a5.out.block B (I0 z.out)).trans z.out);replace I:=zh (I.out.I5 (.of a5.out));replace E:Hid (qG w7 F G (K9 M)):=zh (E.out.low a5.out);replace u:Hid (Below w.heap.size w w7):=zh (u.out.trans (a5.out.mono u.out.size));clear a5 X Y K VT
      go_upto_region 14 with(fail)
      have X:w7.cell? ⟨B,0,none⟩=some (.slice (some ⟨gf,0,none⟩) L.length H):=x5 z.out 0;have Y:w7.cell? ⟨B,1,none⟩=some (.int .i64 o):=x5 z.out 1;have K:=I0 z.out;have V2:Hid (∀W b,Below w7.heap.size w7 W->W.heap[b]?=some (.cells #[.slice An s.length cn] 22 (0,0))->Calls prog 15 #[.agg #[.slice (some ⟨gf,0,none⟩) L.length H,.int .i64 o],.slice F (K9 M).length G,.int .i64 (q:Int),.func (.func 40) #[] #[.pointer (some ⟨b,0,none⟩)]] W λe w'=> ∃A' c',e=.returned (.tuple #[.slice A' (K9 (L5 L (K7 s) q M).1).length c',.int .i64 (L5 L (K7 s) q M).2,.int .i64 0])/\qG w' A' c' (K9 (L5 L (K7 s) q M).1)/\Below W.heap.size W w'):=zh (λW b P r=>zcb L o HP.out b2 b3.out _ _ b4.out r (HA.out W (u.out.trans (P.mono u.out.size))) HN.out (I.out.I5 (.of P)) HM.out a0.out (E.out.low P) q (by have:=HQ.out;omega))
      go_cut[11,12,13] (λa b c W=> ∃A8 c8,a=.slice A8 (K9 (L5 L (K7 s) q M).1).length c8/\b=.int .i64 (L5 L (K7 s) q M).2/\c=.int .i64 0/\Hid (qG W A8 c8 (K9 (L5 L (K7 s) q M).1))/\Hid (Below w7.heap.size w7 W))
      case first=>
       refine P5 (D:=Nat×Value×World) (by kernel_rfl) [(0,67),(1,68),(2,69),(3,70),(4,71),(5,72),(6,73),(7,66),(8,74),(9,75),(10,76),(11,11),(12,12),(13,13)] [3,5,6] [[],[3],[3,5],[3,5,6]] (λ_ d=>[(0,67,.agg #[.slice (some ⟨gf,0,none⟩) L.length H,.int .i64 o]),(1,68,.slice F (K9 M).length G),(2,69,.int .i64 C),(3,70,.int .i64 (q:Int)),(4,71,.slice An s.length cn),(5,72,.func (.func 40) #[] #[.pointer (some ⟨d.1,0,none⟩)]),(6,73,.tuple #[d.2.1,.int .i64 (L5 L (K7 s) q M).2,.int .i64 0]),(7,66,.tuple #[d.2.1,.int .i64 (L5 L (K7 s) q M).2,.int .i64 0]),(8,74,d.2.1),(9,75,.int .i64 (L5 L (K7 s) q M).2),(10,76,.int .i64 0),(11,11,d.2.1),(12,12,.int .i64 (L5 L (K7 s) q M).2),(13,13,.int .i64 0)]) (λ_ d=>d.2.2) (λj' d=>Below w7.heap.size w7 d.2.2/\match j' with|0=>True|1=>True|2=>d.2.2.heap[d.1]?=some (.cells #[.slice An s.length cn] 22 (0,0))|_=> ∃A c,d.2.1=.slice A (K9 (L5 L (K7 s) q M).1).length c/\qG d.2.2 A c (K9 (L5 L (K7 s) q M).1)) [(0,0),(0,1),(0,2),(1,0),(1,1),(1,2),(2,0),(3,0),(4,0),(4,1),(5,1),(6,2),(7,3),(8,3),(9,3),(10,3),(11,3),(12,3),(13,3)] (by kernel_rfl) (by kernel_rfl) (λ_ _=>rfl) (by rfl) (0,undef,w7.drew) rfl ⟨I8 w7,trivial⟩ rfl ?_ ?_
       ·repeat' (first|refine List.forall_mem_cons.2 ⟨?_,?_⟩|exact List.forall_mem_nil _)
        all_goals
         intro o' ho;injection ho with ho
         subst ho;rintro⟨b,rv,W⟩ ⟨r,U⟩;simp only at r U
        rotate_left 7
        ·refine .call 14 #[.int .i64 C,.int .i64 40] (by simp[J2,execOp,go_sem]) ((FB.out W).mono ?_)
         rintro e w9 ⟨rfl,rfl⟩;refine⟨_,1,(b,rv,_),rfl,⟨by decide,⟨r,trivial⟩,rfl,λe O J S=>?_⟩,rfl,rfl⟩;simp only[D9,List.mem_nil_iff,or_false]at O|-
         rcases O with rfl|rfl|rfl|rfl|rfl|rfl|rfl|rfl|rfl|rfl|rfl|rfl|rfl|rfl
         all_goals first|(simp;done)|exact G5 rfl J|exact G5 (S.symm.trans (by kernel_rfl:_=true)) (by decide)
        rotate_left 2
        ·refine .call 16 #[.slice An s.length cn] (by simp[J2,execOp,go_sem]) ((JO _ _ _ W).mono ?_)
         rintro e w9 ⟨rfl,rfl⟩;refine⟨_,2,(W.heap.size,rv,_),rfl,⟨by decide,⟨r.alloc r.size _,x9 W _⟩,rfl,λe O J S=>?_⟩,rfl,rfl⟩;simp only[D9,List.mem_nil_iff,or_false]at O|-
         rcases O with rfl|rfl|rfl|rfl|rfl|rfl|rfl|rfl|rfl|rfl|rfl|rfl|rfl|rfl
         all_goals first|(simp;done)|exact G5 rfl J|exact G5 (S.symm.trans (by kernel_rfl:_=true)) (by decide)
        ·refine .call 15 #[.agg #[.slice (some ⟨gf,0,none⟩) L.length H,.int .i64 o],.slice F (K9 M).length G,.int .i64 (q:Int),.func (.func 40) #[] #[.pointer (some ⟨b,0,none⟩)]] (by simp[J2,execOp,go_sem]) ((V2.out W b r U).mono ?_)
         rintro e w9 ⟨A8,c8,rfl,f4,Z⟩;refine⟨_,3,(b,.slice A8 (K9 (L5 L (K7 s) q M).1).length c8,w9),rfl,⟨by decide,⟨r.trans (Z.mono r.size),A8,c8,rfl,f4⟩,rfl,λe O J S=>?_⟩,rfl,rfl⟩;simp only[D9,List.mem_nil_iff,or_false]at O|-
         rcases O with rfl|rfl|rfl|rfl|rfl|rfl|rfl|rfl|rfl|rfl|rfl|rfl|rfl|rfl
         all_goals first|(simp;done)|exact G5 rfl J|exact G5 (S.symm.trans (by kernel_rfl:_=true)) (by decide)
        all_goals exact .jd rfl (by simp[J2,Y7,execOp,go_sem,(r.cell (p:=⟨B,0,none⟩) K).trans X,(r.cell (p:=⟨B,1,none⟩) K).trans Y])
       ·rintro jj ⟨b,rv,W⟩ ⟨r,U⟩ hd
        have hj:=hd 6 (by decide) (by decide)
        match jj,U,hj with
        |0,_,h|1,_,h|2,_,h=>cases h
        |3,U,_=>
         obtain⟨A8,c8,J,hi⟩:=U;simp only at J r hi;subst J;have HI:=zh hi;have c0:=zh r;clear hd r hi X Y K;simp only[J2,z9,B4,List.append_nil,List.foldl];go_simp
         go_wp2_with fail
         go_meet
         case rel=>exact⟨A8,c8,rfl,rfl,rfl,HI,c0⟩
        |n+4,_,h=>cases h
      case rest=>
       rename World=>w8
       obtain⟨A8,c8,rfl,rfl,rfl,d8,a9⟩:=hcut;have d9:=zh (Jx HP.out (K7 s) q M HM.out);have e0:=zh (zaf b4.out (XJ s) q M a0.out);replace z:=zh ((a9.out.block B (I0 z.out)).trans z.out);replace I:=zh (I.out.I5 (.of a9.out));replace u:Hid (Below w.heap.size w w8):=zh (u.out.trans (a9.out.mono u.out.size));clear a9 X Y K V2 E HM a0;generalize(L5 L (K7 s) q M).1=M8 at d8 d9 e0|-
       generalize(L5 L (K7 s) q M).2=y
       by_cases S:y=2
       ·go_wp2_with fail
        go_ret;exact⟨rfl,u.out⟩
       ·go_wp2_with fail
        go_roundw
        case rel=>exact⟨j+1,M8,A8,c8,rfl,by go_num,by omega,d9,e0,d8,u,I,z⟩
        case measure=>simp[intOf];omega
    ·go_wp2_with fail
     go_ret;exact⟨rfl,u.out⟩
end Go.Proofs.YtalgmjmibamdfaaGreatDoor
