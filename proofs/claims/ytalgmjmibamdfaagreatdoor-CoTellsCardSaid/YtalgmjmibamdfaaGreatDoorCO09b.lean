/- Merged. -/
import Derived.Test.YtalgmjmibamdfaaGreatDoorCO09
set_option linter.all false
set_option maxHeartbeats 16000000
set_option maxRecDepth 100000
namespace Go.Proofs.YtalgmjmibamdfaaGreatDoor
open Go.Proofs.Tryz
open Go.RowKit Tw
theorem zea(us:List Fn)(left:Nat)(ih:CmE us left):CmE us (left+1):=by
 intro x A c F w E A0 c0 V d b a h c4 ty hx hv e8 e9 hA c1 hF;cases hx with
 | @mk _ k n t v p σ _ hs _ f0=>
 obtain⟨f1,c5,f2,h6,h3,h7,h8⟩:=hs.jd;have IH:=zh ih;have HV:=zh hv;have a5:=zh f0;have f3:=zh f1;have c6:=zh f2;have a6:=zh e9;have a7:=zh e8;clear ih hv f0 hs e9 e8 f1 f2;simp only[Ex.N4,Ex.n,Ex.O9,Ex.args,Ex.pos]at hA|-
 by_cases a8:k=6/\(t.data.toList=[38,38]\/t.data.toList=[124,124])
 ·obtain⟨rfl,e0⟩:=a8
  clear h3 h7 h8 h6 c5;obtain⟨P,S,rfl⟩: ∃P S,v=[P,S]:=by
   match v,c6.out rfl with
   |[P,S],_=>exact⟨P,S,rfl⟩
  have c7:=zh (a5.out P (by simp));have h4:=zh (a5.out S (by simp));obtain⟨Z,zc,hZ⟩: ∃(Z:List S3)(zc:Int),(t.data.toList=[38,38]/\Z=[]/\zc=0)\/(t.data.toList=[124,124]/\Z=[(6,0)]/\zc=1):=by
   rcases e0 with e0|e0
   ·exact⟨_,_,.inl ⟨e0,rfl,rfl⟩⟩
   ·exact⟨_,_,.inr ⟨e0,rfl,rfl⟩⟩
  obtain⟨M,hM⟩: ∃M,(O3 us d a.length h P).map Prod.fst++Z=M:=⟨_,rfl⟩;obtain⟨L2,a9⟩: ∃L2,(O3 us d (a.length+M.length+1) h S).map Prod.fst=L2:=⟨_,rfl⟩;have c8:(O3 us d (a.length+M.length+1) h S).length=L2.length:=by rw[<-a9,D9]
  have hN:(O3 us d a.length h (.mk 6 n t [P,S] p)).map Prod.fst=M++(16,((a.length+M.length+L2.length+2:Nat):Int))::(L2++[(15,((a.length+M.length+L2.length+3:Nat):Int)),(1,zc)]):=by
   rw[<-c8,<-a9,<-hM]
   rcases hZ with⟨e,rfl,rfl⟩|⟨e,rfl,rfl⟩
   all_goals
    rw[O3,E1 (by rw[e];decide)];simp[QE,hdC,sdC,e,show lv ([38,38]:Bs)=2 from by decide,show lv ([124,124]:Bs)=1 from by decide,Nat.add_assoc]
  have HN:=zh hN;have f4:=I1 List.length hN;simp only[D9,z9,z7,B1]at f4;have h5:(O3 us d a.length h P).length<=M.length/\M.length<=(O3 us d a.length h P).length+1:=by
   have:=I1 List.length hM;rw[z9,D9]at this
   rcases hZ with⟨-,rfl,-⟩|⟨-,rfl,-⟩<;>simp at this<;>omega
  have H:Hid (a.length+M.length+L2.length+3<=400000/\a.length+(O3 us d a.length h P).length<=400000/\(O3 us d (a.length+M.length+1) h S).length=L2.length):=zh ⟨by omega,by omega,c8⟩;have b5:=zh hM;have h9:=zh a9;clear hN hM a9 c8 h5 f4 c1 a5 c6 f3 e0;have HA:=zh hA;simp only[z7,B1,Nat.zero_add,Nat.reduceAdd]at HA|-
  have I:=zh (y9 w (.cells #[.int .i64 6,.int .i64 n,.string t,.slice A 2 c,.int .i64 p] 172));have HF:=zh (hF.al (.cells #[.int .i64 6,.int .i64 n,.string t,.slice A 2 c,.int .i64 p] 172));have T:=(y7 w.heap.size w).alloc (y6 _) (.cells #[.int .i64 6,.int .i64 n,.string t,.slice A 2 c,.int .i64 p] 172);obtain⟨g,q,Ba,da,rfl,b6,hg,Y,q0,q1,q2,q3,q4⟩:=O2.at (l:=[P,S]) HA.out 0 P rfl;obtain⟨g2,off2,Bb,db,e2,-,-,f5,r0,r1,r2,r3,r4⟩:=O2.at (l:=[P,S]) HA.out 1 S rfl;obtain⟨rfl,rfl⟩:g=g2/\q=off2:=by injection e2 with e2;injection e2 with e2 e3;exact⟨e2,e3⟩
  simp only[Nat.zero_mul,Nat.one_mul,Nat.add_zero]at q0 q1 q2 q3 q4 r0 r1 r2 r3 r4;have B:=hF.fb g b6;have c9:=zh Y;have i0:=zh f5;have b0:=(T.cell (p:=⟨g,q,none⟩) hg).trans q0;have b1:=(T.cell (p:=⟨g,q+1,none⟩) hg).trans q1;have b2:=(T.cell (p:=⟨g,q+2,none⟩) hg).trans q2;have b3:=(T.cell (p:=⟨g,q+3,none⟩) hg).trans q3;have b4:=(T.cell (p:=⟨g,q+4,none⟩) hg).trans q4;clear hA hF T Y f5 e2 q0 q1 q2 q3 q4
  rcases hZ with⟨e0,rfl,rfl⟩|⟨e0,rfl,rfl⟩
  all_goals
   have e:=zbk e0;subst e;clear e0
   go_enter func130,ntmps130
   go_upto_region 1 with(fail)
   generalize w.alloc _=wa at I HF b0 b1 b2 b3 b4|-
   generalize w.heap.size=nb at I|-
   have C:=N6 I.out
   go_wp2_with fail
   refine(IH.out P Ba da F wa E A0 c0 V d b a h c4 _ c7.out HV.out a7.out a6.out (HF.out.zen c9.out) H.out.2.1 HF.out.qy).mono ?_;rintro e w1 ⟨rfl,V1,d0⟩;have U:=zh (d0.jO I.out (by decide) (by decide) (by decide) (by decide));have d1:=zh (HF.out.next d0);clear d0 C;have C:=N6 U.out;clear b0 b1 b2 b3 b4
   go_wp2_with fail
   first
    |(have d2:=zh (d1.out.JS (ops':=a++M) (by rw[<-b5.out,List.append_nil]))
      have d3:=U;obtain⟨V2,rfl⟩: ∃V2,V2=V1:=⟨_,rfl⟩)
    |(refine(zj 6 0 F _ E _ V1 d b _ us (by have:=H.out.2.1;rw[z9,D9];omega) d1.out.qy).mono ?_
      rintro e w2 ⟨rfl,V2,d4⟩;have d3:=zh (d4.jO U.out (by decide) (by decide) (by decide) (by decide));have d2:=zh ((d1.out.next d4).JS (ops':=a++M) (by rw[<-b5.out];simp));clear d4 C;have C:=N6 d3.out
      go_wp2_with fail)
   refine(zj 16 0 F _ E _ V2 d b _ us (by have:=H.out;simp only[z9,z7,B1];omega) d2.out.qy).mono ?_;rintro e w3 ⟨rfl,V3,d5⟩;have f6:=zh (d5.jO d3.out (by decide) (by decide) (by decide) (by decide));have J:=zh (d2.out.next d5);clear d5 C;have C:=N6 f6.out;have b0:=(J.out.O7.cell (p:=⟨g,q+5,none⟩) B).trans r0;have b1:=(J.out.O7.cell (p:=⟨g,q+5+1,none⟩) B).trans r1;have b2:=(J.out.O7.cell (p:=⟨g,q+5+2,none⟩) B).trans r2;have b3:=(J.out.O7.cell (p:=⟨g,q+5+3,none⟩) B).trans r3;have b4:=(J.out.O7.cell (p:=⟨g,q+5+4,none⟩) B).trans r4;have j3:Hid ((a++M).length=a.length+M.length):=zh (z9 ..)
   first
    |(rw[show(a++(O3 us d a.length h P).map Prod.fst++[(6,0)]:List S3)=a++M from by rw[<-b5.out];simp])
    |(try rw[show(a++(O3 us d a.length h P).map Prod.fst:List S3)=a++M from by rw[<-b5.out];simp])
   obtain⟨nP,b7⟩: ∃nP:Nat,(a++M).length=nP:=⟨_,rfl⟩;have f7:=zh b7;rw[b7];have j4:Hid (nP=a.length+M.length):=zh (by rw[<-b7,z9]);clear b7
   go_wp2_with fail
   refine(IH.out S Bb db F w3 E A0 c0 V3 d b _ h c4 _ h4.out HV.out a7.out a6.out (J.out.zen i0.out) (by have:=H.out;simp only[z9,z7,B1,Nat.zero_add];omega) J.out.qy).mono ?_;rintro e w4 ⟨rfl,V4,K⟩;rw[show(a++M++[(16,0)]:List S3).length=a.length+M.length+1 from by simp only[z9,z7,B1]<;>omega,h9.out]at K;have b8:=zh (K.jO f6.out (by decide) (by decide) (by decide) (by decide));have f8:=zh (J.out.next K);clear K C;have C:=N6 b8.out;clear b0 b1 b2 b3 b4
   go_wp2_with fail
   refine(zj 15 0 F _ E _ V4 d b _ us (by have:=H.out;simp only[z9,z7,B1];omega) f8.out.qy).mono ?_;rintro e w5 ⟨rfl,V5,d6⟩;have f9:=zh (d6.jO b8.out (by decide) (by decide) (by decide) (by decide));have i1:=zh (f8.out.next d6);clear d6 C;have C:=N6 f9.out;obtain⟨nQ,d7⟩: ∃nQ:Nat,(a++M++[(16,0)]++L2).length=nQ:=⟨_,rfl⟩;have d8:Hid (nQ=a.length+M.length+1+L2.length):=zh (by rw[<-d7];simp only[z9,z7,B1]<;>omega);rw[d7];clear d7;have c2:=zh (i1.out.JS (ops':=(a++M)++(16,0)::(L2++[(15,0)])) (by simp))
   go_wp2_with fail
   refine(Zk nP 16 0 F _ E _ V5 d b _ us (by rw[<-f7.out];simp) (by have:=H.out;simp only[z9,z7,B1];omega) c2.out.qy).mono ?_;rintro e w6 ⟨rfl,b9⟩;rw[<-f7.out,xU]at b9;have g0:=zh (b9.jO f9.out (by decide) (by decide) (by decide) (by decide));have g1:=zh (c2.out.next b9);clear b9 C;have C:=N6 g0.out
   go_wp2_with fail
   refine(zj 1 _ F _ E _ V5 d b _ us (by have:=H.out;simp only[z9,z7,B1];omega) g1.out.qy).mono ?_;rintro e w7 ⟨rfl,V7,d9⟩;have i2:=zh (d9.jO g0.out (by decide) (by decide) (by decide) (by decide));have g3:=zh (g1.out.next d9);clear d9 C;have C:=N6 i2.out;obtain⟨t1,e4⟩: ∃t1:Nat,((a++M)++(16,0)::(L2++[(15,0)]):List S3).length=t1:=⟨_,rfl⟩;have i3:Hid (t1=nQ+1):=zh (by rw[<-e4,d8.out];simp only[z9,z7,B1]<;>omega);rw[e4]at g3;clear e4;have c3:=zh (g3.out.JS (ops':=((a++M)++(16,(t1:Int))::L2)++(15,0)::[(1,_)]) (by rw[B9,B9,B9];simp;rfl));have g4:Hid (((a++M)++(16,(t1:Int))::L2:List S3).length=nQ):=zh (by rw[d8.out];simp only[z9,z7,B1]<;>omega)
   go_wp2_with fail
   refine(Zk nQ 15 0 F _ E _ V7 d b _ us (by rw[<-g4.out];simp) (by have:=H.out;simp only[z9,z7,B1];omega) c3.out.qy).mono ?_;rintro e w8 ⟨rfl,a1⟩;rw[<-g4.out,xU]at a1
   go_wp2_with fail
   (try simp only[Exit.inBlock,Exit.then]);refine F1 (results_none rfl _ _ _) rfl ?_
   refine⟨rfl,V7,(c3.out.next a1).JS ?_⟩;rw[HN.out];have e1:(t1:Int)=((a.length+M.length+L2.length+2:Nat):Int):=by rw[i3.out,d8.out];omega
   rw[e1];simp only[B9,B6,C0,z9,z7,B1]
   first|(congr 6<;>omega)|(congr 7<;>omega)|(congr 8<;>omega)|(congr 9<;>omega)|(congr 10<;>omega)
 have Q: ¬(k=6/\t.data.toList=[38,38]):=λe=>a8 ⟨e.1,.inl e.2⟩;have a2: ¬(k=6/\t.data.toList=[124,124]):=λe=>a8 ⟨e.1,.inr e.2⟩;clear a8;have hl: ¬(k=6/\lv t.data.toList<=2):=by
  rintro⟨rfl,h2⟩
  rcases h6 rfl with e|e|e
  ·exact Q ⟨rfl,e⟩
  ·exact a2 ⟨rfl,e⟩
  ·omega
 have hN:(O3 us d a.length h (.mk k n t v p)).map Prod.fst=(R2 us d a.length h v).map Prod.fst++Jj us d k n t v.length:=zbY hl;have HN:=zh hN;have g5:Hid (k=6->3<=lv t.data.toList):=zh (λe=>Decidable.byContradiction λh=>hl ⟨e,by omega⟩);have H3:=zh h3;have H7:=zh h7;have H8:=zh h8;have i4:=zh Q;have i5:=zh a2;have j5:v.length<=2:=c5;have HL:Hid (a.length+(R2 us d a.length h v).length+(Jj us d k n t v.length).length<=400000):=zh (by have:=I1 List.length hN;simp only[D9,z9]at this;omega);have j6:a.length<=400000:=by have:=HL.out;omega
 clear hN hl h3 h7 h8 Q a2 h6 c5 c1 c6;have HA:=zh hA;have I:=zh (y9 w (.cells #[.int .i64 k,.int .i64 n,.string t,.slice A v.length c,.int .i64 p] 172));have HF:=zh (hF.al (.cells #[.int .i64 k,.int .i64 n,.string t,.slice A v.length c,.int .i64 p] 172));clear hA hF
 go_enter func130,ntmps130
 go_upto_region 1 with(fail)
 generalize w.alloc _=wa at I HF|-
 generalize w.heap.size=nb at I|-
 go_cut[21] (λu W=>u=.bool false/\W=wa)
 case first=>
  have C:=N6 I.out
  by_cases a3:k=6
  ·have e1:(t.toList==[38,38])=false:=by rw[B0,E0];exact λe=>i4.out ⟨a3,e⟩
   have e2:(t.toList==[124,124])=false:=by rw[B0,E0];exact λe=>i5.out ⟨a3,e⟩
   subst a3
   go_wp2_with fail
   all_goals
    go_meet
    case rel=>exact⟨rfl,rfl⟩
  ·have e6:(k==6)=false:=beq_eq_false_iff_ne.2 a3
   clear a3
   go_wp2_with fail
   all_goals
    go_meet
    case rel=>exact⟨rfl,rfl⟩
 case rest=>
  obtain⟨rfl,hw⟩:=hcut;subst hw;have C:=N6 I.out;have g6:Hid (W6 w wc E (.slice A0 us.length c0) V d b (a++(R2 us d a.length h (v.take 0)).map Prod.fst) us F):=zh (HF.out.JS (by simp[R2]))
  go_wp2_with fail
  clear C HF
  go_loopw[58] (λi wr=> ∃(j:Nat)(X:Mv),j<=v.length/\i=.int .i64 j/\Hid (W6 w wr E (.slice A0 us.length c0) X d b (a++(R2 us d a.length h (v.take j)).map Prod.fst) us F)/\Hid (wr.heap[nb]?=some (.cells #[.int .i64 k,.int .i64 n,.string t,.slice A v.length c,.int .i64 p] 172 (0,0)))) (λi _=>v.length-(intOf i).toNat)
  case atStart=>exact⟨0,V,E2 _,rfl,g6,I⟩
  case round=>
   clear g6 I;obtain⟨j,X,hj,rfl,HR,I⟩:=hrel
   by_cases i6:j<v.length
   ·obtain⟨y,hy⟩: ∃y,v[j]?=some y:=⟨_,y8 i6⟩
    obtain⟨g,q,A',c',rfl,b6,hg,Y,q0,q1,q2,q3,q4⟩:=HA.out.at j y hy;have B:=HR.out.fb g b6;have b0:=(HR.out.O7.cell (p:=⟨g,q+j*5,none⟩) B).trans q0;have b1:=(HR.out.O7.cell (p:=⟨g,q+j*5+1,none⟩) B).trans q1;have b2:=(HR.out.O7.cell (p:=⟨g,q+j*5+2,none⟩) B).trans q2;have b3:=(HR.out.O7.cell (p:=⟨g,q+j*5+3,none⟩) B).trans q3;have b4:=(HR.out.O7.cell (p:=⟨g,q+j*5+4,none⟩) B).trans q4;have c7:=zh (a5.out y (B7 hy));have c9:=zh Y;have e5:=zfx (us:=us) (vs:=d) (n:=a.length) (h:=h) hy;have i7:Hid ((a++(R2 us d a.length h (v.take j)).map Prod.fst).length+(O3 us d (a++(R2 us d a.length h (v.take j)).map Prod.fst).length (h+j) y).length<=400000):=zh (by
     have h1:=HL.out;have h2:=zfd (us:=us) (vs:=d) (n:=a.length) (h:=h) v (j+1);rw[e5,z9]at h2;rw[z9,D9];omega)
    have i8:=zh e5;clear hy Y q0 q1 q2 q3 q4 b6 B e5;have k0:(0:Int)<=(j:Int):=by omega
    have k1:(j:Int)<(v.length:Int):=by omega
    go_upto_region 17 with(fail)
    clear b0 b1 b2 b3 b4;have e7:=zh (y9 wr (.cells #[.int .i64 y.N4,.int .i64 y.n,.string y.O9,.slice A' y.args.length c',.int .i64 y.pos] 172));have U:=zh ((D4 wr (.cells #[.int .i64 y.N4,.int .i64 y.n,.string y.O9,.slice A' y.args.length c',.int .i64 y.pos] 172) (I7 I.out)).trans I.out);have m:=zh (HR.out.al (.cells #[.int .i64 y.N4,.int .i64 y.n,.string y.O9,.slice A' y.args.length c',.int .i64 y.pos] 172));clear HR I;generalize wr.alloc _=wb at e7 U m|-
    generalize wr.heap.size=ny at e7|-
    have D:=N6 e7.out
    go_wp2_with fail
    refine(IH.out y A' c' F wb E A0 c0 X d b _ (h+j) c4 _ c7.out HV.out a7.out a6.out (m.out.zen c9.out) i7.out m.out.qy).mono ?_;rintro e w4 ⟨rfl,V4,K⟩;have b8:=zh (K.jO U.out (by decide) (by decide) (by decide) (by decide));have i9:Hid (W6 w w4 E (.slice A0 us.length c0) V4 d b (a++(R2 us d a.length h (v.take (j+1))).map Prod.fst) us F):=zh ((m.out.next K).JS (by
     rw[i8.out,List.map_append,B9,z9,D9]))
    clear K D
    go_wp2_with fail
    go_roundw
    case rel=>exact⟨j+1,V4,by omega,by go_num,i9,b8⟩
    case measure=>simp[intOf];omega
   ·have g7:j=v.length:=by omega
    have m:=zh (show W6 w wr E (.slice A0 us.length c0) X d b (a++(R2 us d a.length h v).map Prod.fst) us F by have:=HR.out;rwa [g7,F6]at this);have G:Hid ((a++(R2 us d a.length h v).map Prod.fst).length+2<=400000000):=zh (by
     have h1:=HL.out;rw[z9,D9];omega)
    clear HR g7;obtain⟨L,hL⟩: ∃L,a++(R2 us d a.length h v).map Prod.fst=L:=⟨_,rfl⟩;have O:Hid (a++(O3 us d a.length h (.mk k n t v p)).map Prod.fst=L++Jj us d k n t v.length):=zh (by rw[HN.out,<-hL,B9]);rw[hL]at m G;clear hL HN;have C:=N6 I.out;have hk:=f3.out
    go_upto_region 19 with(fail)
    rcases hk with rfl|rfl|rfl|rfl|rfl|rfl|rfl|rfl
    ·go_wp2_with fail
     refine(zj 1 n F _ E _ X d b _ us (by have:=G.out;omega) m.out.qy).mono ?_;rintro e w9 ⟨rfl,R,r⟩
     go_wp2_with fail
     go_end0;exact⟨rfl,R,(m.out.next r).JS (by rw[O.out];rfl)⟩
    ·go_wp2_with fail
     refine(zj 1 n F _ E _ X d b _ us (by have:=G.out;omega) m.out.qy).mono ?_;rintro e w9 ⟨rfl,R,r⟩
     go_wp2_with fail
     go_end0;exact⟨rfl,R,(m.out.next r).JS (by rw[O.out];rfl)⟩
    ·have hs:t∈d.map Prod.fst:=HV.out t (H3.out rfl)
     have j0:=zh hs;clear hs
     go_wp2_with fail
     refine(zc8 t F _ E _ X d b _ us j0.out a7.out m.out.qy).mono ?_;rintro e w8 ⟨rfl,a1⟩;have a4:=zh (m.out.next a1);clear a1 C
     go_wp2_with fail
     refine(zj 2 (qB d t) F _ E _ X d b _ us (by have:=G.out;omega) a4.out.qy).mono ?_;rintro e w9 ⟨rfl,R,r⟩
     go_wp2_with fail
     go_end0;exact⟨rfl,R,(a4.out.next r).JS (by rw[O.out];rfl)⟩
    ·go_wp2_with fail
     refine(zj 5 0 F _ E _ X d b _ us (by have:=G.out;omega) m.out.qy).mono ?_;rintro e w9 ⟨rfl,R,r⟩
     go_wp2_with fail
     go_end0;exact⟨rfl,R,(m.out.next r).JS (by rw[O.out];rfl)⟩
    ·go_wp2_with fail
     refine(zj 6 0 F _ E _ X d b _ us (by have:=G.out;omega) m.out.qy).mono ?_;rintro e w9 ⟨rfl,R,r⟩
     go_wp2_with fail
     go_end0;exact⟨rfl,R,(m.out.next r).JS (by rw[O.out];rfl)⟩
    ·go_wp2_with fail
     refine(ziP t F _ E _ X d b _ us (by first|exact g5.out rfl|exact g5.out trivial) (by have:=G.out;omega) m.out.qy).mono ?_;rintro e w9 ⟨rfl,R,r⟩
     go_wp2_with fail
     go_end0;exact⟨rfl,R,(m.out.next r).JS (by rw[O.out];rfl)⟩
    ·have j7: ∀(fn:Go.Fn)(first g8:Array Value)(w:World),(Instr.makeFunc fn first g8).run prog w=.ok (.func fn first g8) w:=λ_ _ _ _=>rfl
     have m0:=(qa m.out.st).1.1;have j1:=zh (H7.out rfl);have j2:=zh (zd6 (N:=161) (o:=2) (s:=t) (by simp) (I7 I.out) (by rw[C.1];rfl))
     go_wp2_with fail
     refine(za9 (c:=c0) m.out.yF j2.out a6.out).mono ?_;rintro e w8 ⟨z,rfl,hz,g9⟩;obtain⟨f,hf,h0⟩:=j1.out;obtain rfl:=hz.fn hf h0;clear hf h0;have a4:=zh (m.out.below g9);clear hz g9 C m0
     go_wp2_with fail
     refine(zj 17 (qS us t:Int) F _ E _ X d b _ us (by have:=G.out;omega) a4.out.qy).mono ?_;rintro e w9 ⟨rfl,R,r⟩
     go_wp2_with fail
     go_end0;exact⟨rfl,R,(a4.out.next r).JS (by rw[O.out];rfl)⟩
    ·obtain⟨j8,j9⟩:=H8.out rfl
     go_wp2_with fail
     refine(zj 20 (n*8+(v.length:Int)) F _ E _ X d b _ us (by have:=G.out;omega) m.out.qy).mono ?_;rintro e w9 ⟨rfl,R,r⟩
     go_wp2_with fail
     go_end0;exact⟨rfl,R,(m.out.next r).JS (by rw[O.out];rfl)⟩
theorem zfP(us:List Fn): ∀left,CmE us left
 |0=>λ_ _ _ _ _ _ _ _ _ _ _ _ _ _ _ hx=>nomatch hx
 |left+1=>zea us left (zfP us left)
def P4(us:List Fn):Nat->O5->Nat->List Sm->T5×O5×Nat
 |_,vs,m,[]=>([],vs,m)
 |n,vs,m,s::l=>((S4 us n vs m s).1++(P4 us (n+(S4 us n vs m s).1.length) (S4 us n vs m s).2.1 (S4 us n vs m s).2.2 l).1,(P4 us (n+(S4 us n vs m s).1.length) (S4 us n vs m s).2.1 (S4 us n vs m s).2.2 l).2)
theorem Xu(us:List Fn): ∀(l:List Sm)(n:Nat)(vs:O5)(m:Nat),U3 us n vs m l=((P4 us n vs m l).1,(P4 us n vs m l).2.2)
 |[],n,vs,m=>by rw[U3,P4]
 |s::l,n,vs,m=>by rw[U3,P4,Xu us l]
theorem JD(us:List Fn)(s:Sm): ∀(l:List Sm)(n:Nat)(vs:O5)(m:Nat),P4 us n vs m (l++[s])=((P4 us n vs m l).1++(S4 us (n+(P4 us n vs m l).1.length) (P4 us n vs m l).2.1 (P4 us n vs m l).2.2 s).1,(S4 us (n+(P4 us n vs m l).1.length) (P4 us n vs m l).2.1 (P4 us n vs m l).2.2 s).2)
 |[],n,vs,m=>by simp[P4]
 |a::l,n,vs,m=>by
  rw[B6,P4,JD us s l,P4];simp only[z9,B9,Nat.add_assoc]
theorem zeA(us:List Fn)(s:Sm)(n:Nat)(vs:O5)(m:Nat): ∃pre,(S4 us n vs m s).2.1=vs++pre:=by
 cases s with|mk k b a J7 Q7 p=>
 rw[S4]
 repeat' split
 all_goals first|exact⟨_,rfl⟩|exact⟨[],by simp⟩
theorem YS(us:List Fn): ∀(l:List Sm)(n:Nat)(vs:O5)(m:Nat),∃pre,(P4 us n vs m l).2.1=vs++pre
 |[],n,vs,m=>⟨[],by simp[P4]⟩
 |s::l,n,vs,m=>by
  obtain⟨a,b⟩:=zeA us s n vs m;obtain⟨c,d⟩:=YS us l (n+(S4 us n vs m s).1.length) (S4 us n vs m s).2.1 (S4 us n vs m s).2.2;exact⟨a++c,by rw[P4];simp only;rw[d,b,B9]⟩
theorem za5(us:List Fn): ∀(l:List Sm)(j n:Nat)(vs:O5)(m:Nat),(P4 us n vs m (l.take j)).1.length<=(P4 us n vs m l).1.length
 |[],j,n,vs,m=>by simp
 |s::l,0,n,vs,m=>by simp[P4]
 |s::l,j+1,n,vs,m=>by
  rw[List.take_succ_cons,P4,P4,z9,z9];exact Nat.add_le_add_left (za5 us l j _ _ _) _
theorem ze0{us:List Fn}(g:(us.map Fn.L6).Nodup){d:Nat}{s:Sm}{e j:W9}{m i:Nat}{r:Bool}(h:Sx us (Bx us d) d s e m j i r)(n:Nat)(vs:O5):(S4 us n vs m s).2.2=i/\(zD e vs m->zD j (S4 us n vs m s).2.1 i):=by
 have:=zcT (ps:=us.map λf=>f.J3.length) (nv:=0) (C:=[]) rfl g (λl e m j i r h n vs=>by
  obtain⟨a,b,c⟩:=Xl (ps:=us.map λf=>f.J3.length) (nv:=0) (C:=[]) rfl g h n vs;exact⟨a,b,λp q t=>c p q (by omega)⟩) h n vs
 exact⟨this.1,this.2.2.1⟩
theorem N9{w:World}{base e size n c:Nat}{A:Option Addr}{xs:List Value}(h:w.ownsRow base e size (.slice A n c) n xs):n<=c/\(A=none\/ ∃g,A=some ⟨g,0,none⟩):=by
 rcases h.2 with⟨a,f⟩|⟨g,i,j,a,f,m,k,o,p,q⟩
 ·injection a with b l d;exact⟨by omega,.inl b⟩
 ·injection a with b l d;subst d;exact⟨k,.inr ⟨g,b⟩⟩
theorem W6.cut{w0 w:World}{a:Nat}{U:Value}{V:Mv}{vs pre:O5}{c:Nat}{ops:List S3}{us:List Fn}{F:Nat->Prop}(h:W6 w0 w a U V (vs++pre) c ops us F):
 W6 w0 ((w.setCell ⟨a,1,none⟩ (.slice V.An vs.length V.cn)).setCell ⟨a,2,none⟩ (.slice V.Aa vs.length V.ca)) a U V vs c ops us F:=by
 have g:=zZ h.st.rn vs.length (by simp);have i:=zZ h.st.ra vs.length (by simp);have o:=h.st.ro;have p:(ze (vs++pre)).take (vs.length*1)=ze vs:=by simp[ze]
 have q:(Z9 (vs++pre)).take (vs.length*1)=Z9 vs:=by simp[Z9]
 rw[p]at g;rw[q]at i;have d:=h.st.K3;have f:=z5 w a 1 _ _ (.slice V.An vs.length V.cn) d;have r:=z5 _ a 2 _ _ (.slice V.Aa vs.length V.ca) f;have b: ∀{e n j:Nat}{v:Value}{xs:List Value},w.ownsRow a e j v n xs->e≠127->((w.setCell ⟨a,1,none⟩ (.slice V.An vs.length V.cn)).setCell ⟨a,2,none⟩ (.slice V.Aa vs.length V.ca)).ownsRow a e j v n xs:=λk l=>by
  have m:=k.kept (J2 w a 1 (.slice V.An vs.length V.cn)) (.inr (L9 k d l));exact m.kept (J2 _ a 2 _) (.inr (L9 m f l))
 refine h.JQ ⟨by simpa using r,b g (by decide),b i (by decide),b o (by decide)⟩ (M2 (M2 (y7 a w) (y6 _) 1 _) (y6 _) 2 _) ((Kp.set d (by simp)).trans (Kp.set f (by simp)))
theorem W6.zky{w0 w:World}{a:Nat}{U:Value}{V:Mv}{vs pre:O5}{c:Nat}{ops:List S3}{us:List Fn}{F:Nat->Prop}(h:W6 w0 w a U V (vs++pre) c ops us F):
 W6 w0 ((w.setCell ⟨a,2,none⟩ (.slice V.Aa vs.length V.ca)).setCell ⟨a,1,none⟩ (.slice V.An vs.length V.cn)) a U V vs c ops us F:=by
 have g:=zZ h.st.rn vs.length (by simp);have i:=zZ h.st.ra vs.length (by simp);have o:=h.st.ro;have p:(ze (vs++pre)).take (vs.length*1)=ze vs:=by simp[ze]
 have q:(Z9 (vs++pre)).take (vs.length*1)=Z9 vs:=by simp[Z9]
 rw[p]at g;rw[q]at i;have d:=h.st.K3;have f:=z5 w a 2 _ _ (.slice V.Aa vs.length V.ca) d;have r:=z5 _ a 1 _ _ (.slice V.An vs.length V.cn) f;have b: ∀{e n j:Nat}{v:Value}{xs:List Value},w.ownsRow a e j v n xs->e≠127->((w.setCell ⟨a,2,none⟩ (.slice V.Aa vs.length V.ca)).setCell ⟨a,1,none⟩ (.slice V.An vs.length V.cn)).ownsRow a e j v n xs:=λk l=>by
  have m:=k.kept (J2 w a 2 (.slice V.Aa vs.length V.ca)) (.inr (L9 k d l));exact m.kept (J2 _ a 1 _) (.inr (L9 m f l))
 refine h.JQ ⟨by simpa using r,b g (by decide),b i (by decide),b o (by decide)⟩ (M2 (M2 (y7 a w) (y6 _) 2 _) (y6 _) 1 _) ((Kp.set d (by simp)).trans (Kp.set f (by simp)))
structure OkM(env:W9)(vs:O5)(m:Nat):Prop where
 m64:m<=64
 el:env.length<=m
 ok:zD env vs m
def CmS(us:List Fn)(left:Nat):Prop:=
 ∀(s:Sm)(i j k:Option Addr)(l m o:Nat)(F:Nat->Prop)(w:World)(h:Nat)(p:Option Addr)(q:Nat)(V:Mv)(d:O5)(b:Nat)(c:List S3)(f g:W9)(t:Nat)(r:Bool),Sx us (Bx us left) left s f b g t r->OkM f d b->zdA us->O2 w F (.slice i s.a.args.length l) s.a.args->N0 w F (.slice j s.J7.length m) s.J7->N0 w F (.slice k s.Q7.length o) s.Q7->c.length+(S4 us c.length d b s).1.length<=400000->W6 w w h (.slice p us.length q) V d b c us F->
  Calls prog 102 #[.pointer (some ⟨h,0,none⟩),.agg #[.int .i64 s.N4,.string s.L6,.int .i64 s.a.N4,.int .i64 s.a.n,.string s.a.O9,.slice i s.a.args.length l,.int .i64 s.a.pos,.slice j s.J7.length m,.slice k s.Q7.length o,.int .i64 s.pos]] w λe u=>e=.returned (.tuple #[])/\ ∃v,W6 w u h (.slice p us.length q) v (S4 us c.length d b s).2.1 (S4 us c.length d b s).2.2 (c++(S4 us c.length d b s).1.map Prod.fst) us F
def CmB(us:List Fn)(left:Nat):Prop:=
 ∀(l:List Sm)(B:Option Addr)(d:Nat)(F:Nat->Prop)(w:World)(h:Nat)(i:Option Addr)(j:Nat)(V:Mv)(c:O5)(a:Nat)(b:List S3)(f g:W9)(k:Nat)(r:Bool),Bx us left l f a g k r->OkM f c a->zdA us->l.length<=281474976710656->N0 w F (.slice B l.length d) l->b.length+(U3 us b.length c a l).1.length<=400000->W6 w w h (.slice i us.length j) V c a b us F->
  Calls prog 58 #[.pointer (some ⟨h,0,none⟩),.slice B l.length d] w λe m=>e=.returned (.tuple #[])/\ ∃n,W6 w m h (.slice i us.length j) n c (U3 us b.length c a l).2 (b++(U3 us b.length c a l).1.map Prod.fst) us F
end Go.Proofs.YtalgmjmibamdfaaGreatDoor
namespace Go.Proofs.YtalgmjmibamdfaaGreatDoor
open Go.RowKit Tw
structure Pf where
 params:Nat
 vars:Nat
 ops:List S3
def Cf.pf(f:Cf):Pf:=⟨f.params,f.vars,f.J6.map Prod.fst⟩
def qo(w:World)(v:Value)(l:List S3):Prop:=
 ∃g c a b,v=.slice (some ⟨g,0,none⟩) l.length c/\l.length<=c/\w.heap[g]?=some (.cells a 74 b)/\ ∀k o,l[k]?=some o->w.cell? ⟨g,k*2,none⟩=some (.int .i64 o.1)/\w.cell? ⟨g,k*2+1,none⟩=some (.int .i64 o.2)
def M3(w:World)(v:Value)(l:List Pf):Prop:=
 (l=[]/\ ∃a c,v=.slice a 0 c)\/ ∃g c d e,v=.slice (some ⟨g,0,none⟩) l.length c/\l.length<=c/\w.heap[g]?=some (.cells d 40 e)/\
  ∀k f,l[k]?=some f-> ∃b,w.cell? ⟨g,k*3,none⟩=some (.int .i64 f.params)/\w.cell? ⟨g,k*3+1,none⟩=some (.int .i64 f.vars)/\w.cell? ⟨g,k*3+2,none⟩=some b/\qo w b f.ops
section
variable {w w':World}{v:Value}{row:Option Nat}
structure Y2(w w':World):Prop where
 K3: ∀(g:Nat)(cs:Array Value)(t:Nat)(fr:Nat×Nat),w.heap[g]?=some (.cells cs t fr)->t=74\/t=40->w'.heap[g]?=w.heap[g]?
theorem Y2.of(a:Below w.heap.size w w'):Y2 w w':=⟨λg _ _ _ h _=>a.block g (I7 h)⟩
theorem Y2.trans{w2:World}(h:Y2 w w')(e:Y2 w' w2):Y2 w w2:=⟨λg a t b c d=>(e.K3 g a t b ((h.K3 g a t b c d).trans c) d).trans (h.K3 g a t b c d)⟩
theorem Y2.set{b t:Nat}{h:Array Value}{i:Nat×Nat}(k:w.heap[b]?=some (.cells h t i))(l:t≠74)(m:t≠40)(j:Nat)(u:Value):Y2 w (w.setCell ⟨b,j,none⟩ u):=
 ⟨λg n p o d a=>(J2 w b j u).block g (I7 d) λe=>by
  have e:g=b:=by simpa using e
  subst e;have c:=k.symm.trans d;injection c with c;injection c with _ f
  rcases a with a|a
  ·exact l (f.trans a)
  ·exact m (f.trans a)⟩
theorem qo.J0{l:List S3}(h:qo w v l)(j:Y2 w w'):qo w' v l:=by
 obtain⟨g,c,m,n,e,p,d,f⟩:=h;have b:=j.K3 g _ _ _ d (.inl rfl);exact⟨g,c,m,n,e,p,b.trans d,λk o i=>⟨(E9 (a:=⟨g,k*2,none⟩) b).trans (f k o i).1,(E9 (a:=⟨g,k*2+1,none⟩) b).trans (f k o i).2⟩⟩
theorem M3.J0{l:List Pf}(h:M3 w v l)(d:Y2 w w'):M3 w' v l:=by
 rcases h with h|⟨g,c,j,m,e,n,i,o⟩
 ·exact .inl h
 ·have b:=d.K3 g _ _ _ i (.inr rfl)
  refine .inr ⟨g,c,j,m,e,n,b.trans i,λk f p=>?_⟩;obtain⟨q,r,s,t,u⟩:=o k f p;exact⟨q,(E9 (a:=⟨g,k*3,none⟩) b).trans r,(E9 (a:=⟨g,k*3+1,none⟩) b).trans s,(E9 (a:=⟨g,k*3+2,none⟩) b).trans t,u.J0 d⟩
theorem qo.at{l:List S3}(h:qo w v l): ∃g c,v=.slice (some ⟨g,0,none⟩) l.length c/\l.length<=c/\g<w.heap.size/\ ∀k o,l[k]?=some o->w.cell? ⟨g,k*2,none⟩=some (.int .i64 o.1)/\w.cell? ⟨g,k*2+1,none⟩=some (.int .i64 o.2):=by
 obtain⟨g,c,f,i,e,a,b,d⟩:=h;exact⟨g,c,e,a,I7 b,d⟩
theorem M3.at{l:List Pf}(h:M3 w v l){k:Nat}{f:Pf}(hf:l[k]?=some f): ∃g c a,v=.slice (some ⟨g,0,none⟩) l.length c/\l.length<=c/\g<w.heap.size/\w.cell? ⟨g,k*3,none⟩=some (.int .i64 f.params)/\w.cell? ⟨g,k*3+1,none⟩=some (.int .i64 f.vars)/\w.cell? ⟨g,k*3+2,none⟩=some a/\qo w a f.ops:=by
 rcases h with⟨rfl,-⟩|⟨g,c,p,q,e,b,d,i⟩
 ·cases hf
 ·obtain⟨a,j,m,n,o⟩:=i k f hf
  exact⟨g,c,a,e,b,I7 d,j,m,n,o⟩
theorem M3.slice{l:List Pf}(h:M3 w v l): ∃a c,v=.slice a l.length c:=by
 rcases h with⟨rfl,a,c,rfl⟩|h
 ·exact⟨a,c,rfl⟩
 ·obtain⟨g,c,b,d,e,-⟩:=h
  exact⟨_,_,e⟩
theorem Xi{base e size n c g:Nat}{xs:List Value}(h:w.ownsRow base e size (.slice (some ⟨g,0,none⟩) n c) n xs): ∃d f,w.heap[g]?=some (.cells d e f):=by
 rcases h.2 with⟨b,_⟩|⟨l,i,j,b,m,k,_⟩
 ·cases b
 ·injection b with a;injection a with a;injection a with a;subst a;exact⟨_,_,k⟩
theorem qo.ql{base c:Nat}{A:Option Addr}{l:List S3}(h:w.ownsRow base 74 2 (.slice A l.length c) l.length (zb l))(d:0<l.length):qo w (.slice A l.length c) l:=by
 obtain⟨g,rfl⟩:=qA h d;obtain⟨e,f,i⟩:=Xi h;refine⟨g,c,e,f,rfl,(N9 h).1,i,λk o a=>?_⟩;have j:k<l.length:=(List.getElem?_eq_some_iff.1 a).1;refine⟨?_,?_⟩
 ·have b:=h.cellAt (k*2) (by omega)
  exact b.trans (Q6 yy 2 (λ_=>rfl) l k o a 0 _ rfl)
 ·have b:=h.cellAt (k*2+1) (by omega)
  exact b.trans (Q6 yy 2 (λ_=>rfl) l k o a 1 _ rfl)
end
def xy(b:Pf×Value):List Value:=[.int .i64 b.1.params,.int .i64 b.1.vars,b.2]
theorem M3.ql{w:World}{base c:Nat}{A:Option Addr}{l:List (Pf×Value)}(h:w.ownsRow base 40 3 (.slice A l.length c) l.length (l.flatMap xy))(d: ∀b∈l,qo w b.2 b.1.ops):M3 w (.slice A l.length c) (l.map Prod.fst):=by
 rcases Nat.eq_zero_or_pos l.length with e|e
 ·have:l=[]:=List.length_eq_zero_iff.1 e
  subst this;exact .inl ⟨rfl,A,c,rfl⟩
 ·obtain⟨g,rfl⟩:=qA h e
  obtain⟨j,m,n⟩:=Xi h;refine .inr ⟨g,c,j,m,by rw[D9],by rw[D9];exact(N9 h).1,n,λk f i=>?_⟩;rw[G3]at i;obtain⟨b,a,rfl⟩:=Option.map_eq_some_iff.1 i;have o:k<l.length:=(List.getElem?_eq_some_iff.1 a).1;refine⟨b.2,?_,?_,?_,d b (B7 a)⟩
  ·exact(h.cellAt (k*3) (by omega)).trans (Q6 xy 3 (λ_=>rfl) l k b a 0 _ rfl)
  ·exact(h.cellAt (k*3+1) (by omega)).trans (Q6 xy 3 (λ_=>rfl) l k b a 1 _ rfl)
  ·exact(h.cellAt (k*3+2) (by omega)).trans (Q6 xy 3 (λ_=>rfl) l k b a 2 _ rfl)
end Go.Proofs.YtalgmjmibamdfaaGreatDoor
namespace Go.Proofs.YtalgmjmibamdfaaGreatDoor
open Go.Proofs.Tryz
open Go.RowKit Tw
section
open Go.Maps
theorem jY{fn:Func}{t u v x:Tmp}(h:fn.results= #[.tmp t,.tmp u,.tmp v,.tmp x])(a:Array Value)(P:Program)(w:World):
 (results fn a).run P w=.ok (.tuple #[a.getD t undef,a.getD u undef,a.getD v undef,a.getD x undef]) w:=by
 simp[results,h]
theorem zks{x:Int}(a:0<=x)(b:x<128):bits BinOp.and IntKind.i64 x 7=x%8:=by
 obtain⟨n,rfl⟩: ∃n:Nat,x=n:=⟨x.toNat,by omega⟩;have h: ∀n:Fin 128,bits BinOp.and IntKind.i64 ((n:Nat):Int) 7=((n:Nat):Int)%8:=by decide
 exact h ⟨n,by omega⟩
theorem zjb(P:List Pf)(r:Option Addr)(s:Nat)(main v:Int)(nv no:Nat)(y:Option Addr)(co:Nat)(d x:Int)(w:World)
 (hf:jb P.length nv no (d,x)) (hF:M3 w (.slice r P.length s) P):
 Calls prog 62 #[.agg #[.slice r P.length s,.int .i64 main],.agg #[.int .i64 v,.int .i64 nv,.slice y no co],.agg #[.int .i64 d,.int .i64 x]] w λe w'=>
  e=.returned (.tuple #[.int .i64 (J4 (P.map Pf.params) (d,x)),.int .i64 (L3 (d,x)),.int .i64 (Y1 P.length nv no d),.bool true])/\Below w.heap.size w w':=by
 obtain⟨i,l,U,t⟩:=hf;simp only at i l U t;have V:=(y7 w.heap.size w).alloc (y6 _) (.cells #[.slice r P.length s,.int .i64 main] 26);have X:=V.alloc V.size (.cells #[.int .i64 v,.int .i64 nv,.slice y no co] 40);have b3:=X.alloc X.size (.cells #[.int .i64 d,.int .i64 x] 74);have x1:=y9 w (.cells #[.slice r P.length s,.int .i64 main] 26);have x2:=y9 (w.alloc (.cells #[.slice r P.length s,.int .i64 main] 26)) (.cells #[.int .i64 v,.int .i64 nv,.slice y no co] 40);have x3:=y9 ((w.alloc (.cells #[.slice r P.length s,.int .i64 main] 26)).alloc (.cells #[.int .i64 v,.int .i64 nv,.slice y no co] 40)) (.cells #[.int .i64 d,.int .i64 x] 74);obtain⟨w1,w2,w3,w4,w5,w6,w7,w8,w9,a7,a8,m,r1,r2,r3,r4,r5,r6,r7,r8,r9,D,E,F,n,G⟩:=zew (((w.alloc (.cells #[.slice r P.length s,.int .i64 main] 26)).alloc (.cells #[.int .i64 v,.int .i64 nv,.slice y no co] 40)).alloc (.cells #[.int .i64 d,.int .i64 x] 74));have H:(w.alloc (.cells #[.slice r P.length s,.int .i64 main] 26)).heap.size=w.heap.size+1:=by simp
 have I:((w.alloc (.cells #[.slice r P.length s,.int .i64 main] 26)).alloc (.cells #[.int .i64 v,.int .i64 nv,.slice y no co] 40)).heap.size=w.heap.size+2:=by simp
 have C:(((w.alloc (.cells #[.slice r P.length s,.int .i64 main] 26)).alloc (.cells #[.int .i64 v,.int .i64 nv,.slice y no co] 40)).alloc (.cells #[.int .i64 d,.int .i64 x] 74)).heap.size=w.heap.size+3:=by simp
 have R:=(G.block w.heap.size (by rw[C];omega)).trans ((D4 _ _ (by rw[I];omega)).trans ((D4 _ _ (by rw[H];omega)).trans x1));have S:=(G.block _ (by rw[C,H];omega)).trans ((D4 _ _ (by rw[I,H];omega)).trans x2);have J:=(G.block _ (by rw[C,I];omega)).trans x3;rw[C]at r1 r2 r3 r4 r5 r6 r7 r8 r9 D E F n;rw[H]at S;rw[I]at J;have hB:=(b3.trans (G.mono (by rw[C];omega)));have K:(Lit.int .i64 d).wf=true:=by
  have Y:IntKind.i64.min= -9223372036854775808:=rfl;have Z:IntKind.i64.max=9223372036854775807:=rfl;simp only[Lit.wf,Y,Z,F4,F2];omega
 obtain⟨ta,tb,tc,tk,h⟩: ∃a b c k,opT d=(a,b,c,k):=⟨_,_,_,_,rfl⟩;have lk:=zi0 n d ta tb tc tk K (by rw[(ziz i l).1,h]) (by rw[(ziz i l).2,h]);have q2:=y9 m (.cells #[.int .i64 ta,.int .i64 tb,.int .i64 tc] 178);have L:=(y7 m.heap.size m).alloc (y6 _) (.cells #[.int .i64 ta,.int .i64 tb,.int .i64 tc] 178);have d0:m.cell? ⟨w.heap.size+2,0,none⟩=some (.int .i64 d):=y5 J 0;have M:=zh ((L.block _ (I7 R)).trans R);have z:=zh ((L.block _ (I7 S)).trans S);have A:=zh ((L.block _ (I7 J)).trans J);have o:=zh q2;have q:=zh (hB.trans (L.mono (C4 (by omega) (I0 (I7 R)))));have HX:=zh U;have HF:=zh hF;have a3:=zh h;have a4:= @run_makeMap prog;clear U hF h V X b3 x1 x2 x3 R S J H I C n G hB L q2 K
 go_enter func62,ntmps62
 go_upto_region 3 with(fail)
 clear r1 r2 r3 r4 r5 r6 r7 r8 r9 D E F lk d0 a4;generalize World.alloc _ _=W at M z A o q|-
 generalize m.heap.size=nb at o|-
 have p0:=y5 M.out 0;have f1:=y5 z.out 1;have f2:=y5 z.out 2;have o0:=y5 A.out 0;have o1:=y5 A.out 1;have a0:=y5 o.out 0;have a1:=y5 o.out 1;have a2:=y5 o.out 2;have h:=a3.out
 by_cases N:d=17
 ·subst N
  obtain⟨T,O⟩:=HX.out (by decide);obtain⟨j,rfl⟩: ∃j:Nat,x=j:=⟨x.toNat,by omega⟩;have hj:j<P.length:=by simp[Y1]at O;omega
  obtain⟨f,hf⟩: ∃f,P[j]?=some f:=⟨_,y8 hj⟩;obtain⟨g,c,vo,hv,-,hg,u0,-⟩:=HF.out.at hf;injection hv with Y _ Z
  subst Y Z;have v0:=(q.out.cell (p:=⟨g,j*3,none⟩) hg).trans u0;have a5:Hid (J4 (P.map Pf.params) (17,(j:Int))=f.params):=zh (by simp[J4,hf]);have i0:(0:Int)<=(j:Int):=by omega
  have i1:(j:Int)<(P.length:Int):=by omega
  simp[opT]at h;obtain⟨rfl,rfl,rfl,rfl⟩:=h;clear hf hg u0 T O t i l
  go_wp2_with fail
  go_quiet (fail)
  go_wp2_with fail
  (try simp only[Exit.inBlock,Exit.then]);refine F1 (jY rfl _ _ _) rfl ?_
  exact⟨by rw[a5.out];simp[L3,Y1],J9 q.out _⟩
 by_cases u:d=20
 ·subst u
  obtain⟨T,O⟩:=HX.out (by decide);have Q:x<128:=by simpa[Y1]using O
  simp[opT]at h;obtain⟨rfl,rfl,rfl,rfl⟩:=h;have a6:=zh (zks T Q);clear T O t i l Q
  go_wp2_with fail
  go_quiet (fail)
  go_wp2_with fail
  (try simp only[Exit.inBlock,Exit.then]);refine F1 (jY rfl _ _ _) rfl ?_
  exact⟨by simp[J4,L3,Y1];rw[a6.out];omega,J9 q.out _⟩
 have B:d=1\/d=2\/d=3\/d=4\/d=5\/d=6\/d=15\/d=16\/d=18\/d=19\/d=7\/d=8\/d=9\/d=10\/d=11\/d=12\/d=13\/d=14:=by omega
 clear N u i l t
 rcases B with rfl|rfl|rfl|rfl|rfl|rfl|rfl|rfl|rfl|rfl|rfl|rfl|rfl|rfl|rfl|rfl|rfl|rfl
 all_goals
  simp[opT]at h;obtain⟨rfl,rfl,rfl,rfl⟩:=h
  go_wp2_with fail
  go_quiet (fail)
  go_wp2_with fail
  (try simp only[Exit.inBlock,Exit.then]);refine F1 (jY rfl _ _ _) rfl ?_
  exact⟨by simp[J4,L3,Y1],J9 q.out _⟩
end
end Go.Proofs.YtalgmjmibamdfaaGreatDoor
namespace Go.Proofs.YtalgmjmibamdfaaGreatDoor
open Go.RowKit Tw
def OkH(C:T5)(hs:List Int):Prop:=hs.length=C.length/\ ∀(k:Nat)(v:Int),hs[k]?=some v->v= -1\/ ∃o h,C[k]?=some (o,h)/\v=(h:Nat)
def yg(hs:List Int)(k:Nat):Prop:= ∃v:Int,hs[k]?=some v/\v≠ -1
structure Hxt(C:T5)(hs hs':List Int):Prop where
 old: ∀(j:Nat)(v:Int),hs[j]?=some v->v≠ -1->hs'[j]?=some v
 jt: ∀(j:Nat)(o:S3)(h:Nat),C[j]?=some (o,h)-> ¬yg hs j->yg hs' j-> ∀i∈L5 j o,yg hs' i
 cnt:hs'.count (-1)<=hs.count (-1)
section
variable {C:T5}{hs hs1 hs':List Int}
theorem Hxt.refl:Hxt C hs hs:=⟨λ_ _ h _=>h,λ_ _ _ _ h a=>I2 a h,y6 _⟩
theorem Hxt.mk'(h:Hxt C hs hs'){i:Nat}(hi:yg hs i):yg hs' i:=by
 obtain⟨v,b,a⟩:=hi;exact⟨v,h.old i v b a,a⟩
theorem Hxt.trans(h:Hxt C hs hs1)(a:Hxt C hs1 hs'):Hxt C hs hs':=by
 refine⟨λj v c b=>a.old j v (h.old j v c b) b,λj o x d c b=>?_,C4 a.cnt h.cnt⟩
 by_cases e:yg hs1 j
 ·exact λi g=>a.mk' (h.jt j o x d c e i g)
 ·exact a.jt j o x d e b
theorem OkH.set(h:OkH C hs){k n:Nat}{o:S3}(b:C[k]?=some (o,n)):OkH C (hs.set k (n:Int)):=by
 refine⟨by rw[List.length_set];exact h.1,λj v a=>?_⟩;rw[List.getElem?_set]at a
 split at a
 ·rename_i e;subst e
  split at a
  ·injection a with a;exact .inr ⟨o,n,b,a.symm⟩
  ·cases a
 ·exact h.2 j v a
theorem xS{k n:Nat}(b:hs[k]?=some (-1)):(hs.set k (n:Int)).count (-1)+1=hs.count (-1):=by
 induction hs generalizing k with
 |nil=>simp at b
 |cons a l c=>
  cases k with
  |zero=>
   simp at b;subst b;have: ¬((n:Int)== -1)=true:=by simp
   rw[List.set_cons_zero,List.count_cons,List.count_cons,B5 this];simp
  |succ k=>
   have:=c (k:=k) (by simpa using b);rw[List.set_cons_succ,List.count_cons,List.count_cons];omega
theorem Hxt.zbE{k n:Nat}{o:S3}(p:C[k]?=some (o,n))(d:hs[k]?=some (-1))(h:Hxt C (hs.set k (n:Int)) hs')(hs1: ∀i∈L5 k o,yg hs' i):Hxt C hs hs'/\yg hs' k:=by
 have g:k<hs.length:=(List.getElem?_eq_some_iff.1 d).1;have l:yg (hs.set k (n:Int)) k:=⟨n,List.getElem?_set_self g,by omega⟩;refine⟨⟨λj v b c=>?_,λj q x a b c=>?_,?_⟩,h.mk' l⟩
 ·refine h.old j v ?_ c
  by_cases e:k=j
  ·subst e;rw[d]at b;injection b with b;exact I2 b.symm c
  ·rw[List.getElem?_set_ne e];exact b
 ·by_cases e:k=j
  ·subst e;rw[p]at a;injection a with a;injection a with r t;subst r;exact hs1
  ·refine h.jt j q x a (λl=>b ?_) c
   obtain⟨v,m,s⟩:=l;rw[List.getElem?_set_ne e]at m;exact⟨v,m,s⟩
 ·have:=xS (n:=n) d
  have:=h.cnt;omega
end
structure yQ(C:T5)(hs:List Int):Prop where
 ok:OkH C hs
 start:yg hs 0
 zab: ∀(j:Nat)(o:S3)(h:Nat),C[j]?=some (o,h)->yg hs j-> ∀i∈L5 j o,yg hs i
structure Hv where
 bb:Nat
 bf:Nat
 bh:Nat
 bp:Nat
 bw:Nat
 gh:Nat
def U5(hs:List Int):Array Value:=(hs.map (Value.int .i64)).toArray
structure HtS(w:World)(B:Hv)(P:List Pf)(Af:Option Addr)(cf:Nat)(main:Int)(f:Pf)(Ao:Option Addr)(co:Nat)(hs:List Int):Prop where
 yH:w.heap[B.bb]?=some (.cells #[.bool false] 4 (0,0))
 fn:w.heap[B.bf]?=some (.cells #[.int .i64 f.params,.int .i64 f.vars,.slice Ao f.ops.length co] 40 (0,0))
 hv:w.heap[B.bh]?=some (.cells #[.slice (some ⟨B.gh,0,none⟩) f.ops.length f.ops.length] 22 (0,0))
 pg:w.heap[B.bp]?=some (.cells #[.slice Af P.length cf,.int .i64 main] 26 (0,0))
 wk:w.heap[B.bw]?=some (.cells #[.func (.func 107) #[] #[.pointer (some ⟨B.bb,0,none⟩),.pointer (some ⟨B.bf,0,none⟩),.pointer (some ⟨B.bh,0,none⟩),.pointer (some ⟨B.bp,0,none⟩),.pointer (some ⟨B.bw,0,none⟩)]] 182 (0,0))
 row:w.heap[B.gh]?=some (.cells (U5 hs) 3 (0,0))
 zfB:M3 w (.slice Af P.length cf) P
 ops:qo w (.slice Ao f.ops.length co) f.ops
section
variable {w w':World}{B:Hv}{P:List Pf}{Af:Option Addr}{cf:Nat}{main:Int}{f:Pf}{Ao:Option Addr}{co:Nat}{hs:List Int}
theorem HtS.later(h:HtS w B P Af cf main f Ao co hs)(a:Below w.heap.size w w'):HtS w' B P Af cf main f Ao co hs:=
 ⟨(a.block _ (I7 h.yH)).trans h.yH,(a.block _ (I7 h.fn)).trans h.fn,(a.block _ (I7 h.hv)).trans h.hv,(a.block _ (I7 h.pg)).trans h.pg,(a.block _ (I7 h.wk)).trans h.wk,(a.block _ (I7 h.row)).trans h.row,h.zfB.J0 (.of a),h.ops.J0 (.of a)⟩
theorem qY{w:World}{a b t i:Nat}{j d:Array Value}{k g:Nat×Nat}(l:w.heap[a]?=some (.cells j t k))(c:w.heap[b]?=some (.cells d i g))(h:t≠i):a≠b:=by
 rintro rfl;rw[l]at c;injection c with c;injection c with _ e
 exact h e
theorem HtS.set(h:HtS w B P Af cf main f Ao co hs)(k:Nat)(v:Int):HtS (w.setCell ⟨B.gh,k,none⟩ (.int .i64 v)) B P Af cf main f Ao co (hs.set k v):=by
 have hs':=J2 w B.gh k (.int .i64 v)
 have e: ∀{b:Nat}{c:Array Value}{t:Nat}{d:Nat×Nat},w.heap[b]?=some (.cells c t d)->t≠3->(w.setCell ⟨B.gh,k,none⟩ (.int .i64 v)).heap[b]?=some (.cells c t d):=λa g=>
  (hs'.block _ (I7 a) (by simpa using qY a h.row g)).trans a
 have q:Y2 w (w.setCell ⟨B.gh,k,none⟩ (.int .i64 v)):=.set h.row (by decide) (by decide) k _;refine⟨e h.yH (by decide),e h.fn (by decide),e h.hv (by decide),e h.pg (by decide),e h.wk (by decide),?_,h.zfB.J0 q,h.ops.J0 q⟩;have:=z5 w B.gh k _ _ (.int .i64 v) h.row;rw[this]
 congr 2
 unfold U5;simp[List.map_set]
theorem HtS.zh5(h:HtS w B P Af cf main f Ao co hs):HtS (w.setCell ⟨B.bb,0,none⟩ (.bool false)) B P Af cf main f Ao co hs:=by
 have hs':=J2 w B.bb 0 (.bool false)
 have e: ∀{b:Nat}{c:Array Value}{t:Nat}{d:Nat×Nat},w.heap[b]?=some (.cells c t d)->t≠4->(w.setCell ⟨B.bb,0,none⟩ (.bool false)).heap[b]?=some (.cells c t d):=λa g=>
  (hs'.block _ (I7 a) (by simpa using qY a h.yH g)).trans a
 have q:Y2 w (w.setCell ⟨B.bb,0,none⟩ (.bool false)):=.set h.yH (by decide) (by decide) 0 _;exact⟨by simpa using z5 w B.bb 0 _ _ (.bool false) h.yH,e h.fn (by decide),e h.hv (by decide),e h.pg (by decide),e h.wk (by decide),e h.row (by decide),h.zfB.J0 q,h.ops.J0 q⟩
end
end Go.Proofs.YtalgmjmibamdfaaGreatDoor
