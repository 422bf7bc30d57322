/- Merged. -/
import Derived.Test.YtalgmjmibamdfaaGreatDoorCO18
set_option linter.all false
set_option maxHeartbeats 16000000
set_option maxRecDepth 100000
namespace Go.Proofs.YtalgmjmibamdfaaGreatDoor
open Go.Proofs.Tryz
open Go.RowKit Tw
def apV(n:Nat):Option (Nat×Nat)->Value
 |none=>.slice none 0 0
 |some (g,c)=>.slice (some ⟨g,0,none⟩) (n+1) c
def OfW(w:World)(d e a:Nat)(A:Option Addr)(n c:Nat)(z:Int)(b:List (Pf×Value))(f:Option Addr)(cp:Nat)(x:Pf×Value)(h i:World):Bool->Bool->Bool->World->Option (Nat×Nat)->Prop
 |false,_,_,W,q=>q=none/\W=h
 |true,false,_,W,q=>q=none/\W=i
 |true,true,false,W,q=> ∃g cap,q=some (g,cap)/\W.heap[a]?=some (.cells #[.slice f b.length cp,.int .i64 z] 26 (0,0))/\FrO w (W.setCell ⟨a,0,none⟩ (.slice (some ⟨g,0,none⟩) (b.length+1) cap)) d e a A n c z (b++[x]) (some ⟨g,0,none⟩) cap
 |true,true,true,W,q=> ∃g cap,q=some (g,cap)/\FrO w W d e a A n c z (b++[x]) (some ⟨g,0,none⟩) cap
theorem zkh(us:List Fn)(A:Option Addr)(c:Nat)(F0:Nat->Prop)(w:World)(hU:R0 w F0 (.slice A us.length c) us)(hR:Uw us)(h4: ∀f∈us,(jM us f).J6.length<=4000)(c9:us.length<=c)(hG:U2 w):
 Calls prog 27 #[.agg #[.slice A us.length c]] w (OfR w us):=by
 have a2:=(y7 w.heap.size w).alloc (y6 _) (.cells #[.slice A us.length c] 34);have a3:=a2.alloc a2.size (.cells #[.slice none 0 0,.int .i64 0] 26)
 have M:Hid (FrA w ((w.alloc (.cells #[.slice A us.length c] 34)).alloc (.cells #[.slice none 0 0,.int .i64 0] 26)) w.heap.size (w.heap.size+1) A us.length c):=
  zh ⟨heap_alloc2_old w _ _,heap_alloc2_new w _ _,a3,hG.to a3,y6 _,by omega,hG.Jv⟩
 have HU:Hid (∀W,Below w.heap.size w W-> ∀F:Nat->Prop,(∀g,g<w.heap.size->F g)->R0 W F (.slice A us.length c) us):=zh (λW hb F hF=>hU.J0 (λg h1 h2=>⟨hF g h2,z6 h2 hb.size,hb.block g h2⟩));have HR:=zh hR;have H4:=zh h4;have HC:=zh c9;have j2:=hR.len;clear hU hR h4 hG a2 a3 c9
 go_enter func27,ntmps27
 go_upto_region 1 with(fail)
 generalize World.alloc _ _=w0 at M|-
 obtain⟨b2,a3⟩: ∃b,w.heap.size+1=b:=⟨_,rfl⟩;rw[a3]at M;simp only[a3];obtain⟨b1,a2⟩: ∃b,w.heap.size=b:=⟨_,rfl⟩;rw[a2]at M;simp only[a2];clear a2 a3;have c1:=y5 M.out.un 0
 go_wp2_with fail
 refine(zdF us A c (λ_=>True) w0 (HU.out _ M.out.O7 _ (λ_ _=>trivial)) HR.out HC.out M.out.gl).mono ?_;rintro e w1 ⟨rfl,hb⟩;have b9:=zh (M.out.later hb);clear c1 hb M;have c1:=y5 b9.out.un 0
 go_wp2_with fail
 refine(za9 (c:=c) (HU.out _ b9.out.O7 _ (λ_ _=>trivial)) (zd8 w1) j2).mono ?_;rintro e w2 ⟨z,rfl,hz,hb⟩;obtain⟨fm,e5,e7,-⟩:=HR.out.main;obtain rfl:=hz.fn e5 e7;clear e5 e7;have b0:=zh (b9.out.later hb);clear c1 hz hb b9;have b3:Hid (FrO w (w2.alloc (.cells #[.slice none 0 0,.int .i64 (qS us qp:Int)] 26)) b1 b2 w2.heap.size A us.length c (qS us qp:Int) [] none 0):=zh ⟨b0.out.later ((y7 w2.heap.size w2).alloc (y6 _) _),y9 w2 _,⟨rfl,.inl ⟨rfl,rfl⟩⟩,λ_ h=>(by cases h),I7 b0.out.rs⟩;have c1:=y5 b0.out.un 0;have d0:=I7 b0.out.un
 go_upto_region 5 with(fail)
 clear c1 b0 d0;generalize World.alloc _ _=w3 at b3|-
 generalize w2.heap.size=b6 at b3|-
 have c1:=y5 b3.out.a.un 0
 go_wp2_with fail
 clear c1
 go_loopw[28] (λi wr=> ∃(j:Nat)(Q:List (Pf×Value))(Ap:Option Addr)(cp:Nat),j<=us.length/\i=.int .i64 j/\Hid (Q.map Prod.fst=(us.take j).map λf=>(jM us f).pf)/\Hid (FrO w wr b1 b2 b6 A us.length c (qS us qp:Int) Q Ap cp)) (λi _=>us.length-(intOf i).toNat)
 case atStart=>exact⟨0,[],none,0,E2 _,rfl,zh rfl,b3⟩
 case round=>
  clear b3;obtain⟨j,Q,Ap,cp,hj,rfl,b4,K⟩:=hrel
  by_cases f0:j<us.length
  ·obtain⟨f,hf⟩: ∃f,us[j]?=some f:=⟨_,y8 f0⟩
   obtain⟨g,I,T,U,At,ct,Ab,J,rfl,hg,f1,j3,f2,hc⟩:=(HU.out wr K.out.a.O7 (λg=>g<wr.heap.size) (λg hg=>by have:=K.out.a.O7.size;omega)).at j f hf;have q0:=(y7 wr.heap.size wr).cell (p:=⟨g,I+j*6,none⟩) hg|>.trans (hc 0 _ rfl)
   have q1:=(y7 wr.heap.size wr).cell (p:=⟨g,I+j*6+1,none⟩) hg|>.trans (hc 1 _ rfl)
   have q2:=(y7 wr.heap.size wr).cell (p:=⟨g,I+j*6+2,none⟩) hg|>.trans (hc 2 _ rfl)
   have q3:=(y7 wr.heap.size wr).cell (p:=⟨g,I+j*6+3,none⟩) hg|>.trans (hc 3 _ rfl)
   have q4:=(y7 wr.heap.size wr).cell (p:=⟨g,I+j*6+4,none⟩) hg|>.trans (hc 4 _ rfl)
   have q5:=(y7 wr.heap.size wr).cell (p:=⟨g,I+j*6+5,none⟩) hg|>.trans (hc 5 _ rfl)
   have c0:=B7 hf;have HS:=zh hf;have j4:=zh f1;have f3:=zh c0;obtain⟨j5,m',r3,r4⟩:=zcR HR.out c0;have d3:=HR.out.fw f c0;have r1:=d3.zcj;have j6:=zh r3;have j7:=zh r4;have j8:=zh d3.zfK;have m0:Q.length<=16:=by have:=I1 List.length b4.out;simp only[D9,I5]at this;omega
   have bf:=(y7 wr.heap.size wr).alloc (y6 _) (.cells #[.string f.L6,.slice T f.J3.length U,.slice At f.O6.length ct,.int .i64 f.out,.slice Ab f.J7.length J,.int .i64 f.pos] 91);have xf:=y9 wr (.cells #[.string f.L6,.slice T f.J3.length U,.slice At f.O6.length ct,.int .i64 f.out,.slice Ab f.J7.length J,.int .i64 f.pos] 91);have bm:=(y7 (wr.alloc (.cells #[.string f.L6,.slice T f.J3.length U,.slice At f.O6.length ct,.int .i64 f.out,.slice Ab f.J7.length J,.int .i64 f.pos] 91)).heap.size (wr.alloc (.cells #[.string f.L6,.slice T f.J3.length U,.slice At f.O6.length ct,.int .i64 f.out,.slice Ab f.J7.length J,.int .i64 f.pos] 91))).alloc (y6 _) (.cells #[.slice (some ⟨g,I,none⟩) us.length c,.slice none 0 0,.slice none 0 0,.int .i64 0,.slice none 0 0] 127);have HX:=zh ((bm.block _ (I7 xf)).trans xf);have a4:=zh (bf.trans (bm.mono (by simp)))
   have HM:Hid (W6 ((wr.alloc (.cells #[.string f.L6,.slice T f.J3.length U,.slice At f.O6.length ct,.int .i64 f.out,.slice Ab f.J7.length J,.int .i64 f.pos] 91)).alloc (.cells #[.slice (some ⟨g,I,none⟩) us.length c,.slice none 0 0,.slice none 0 0,.int .i64 0,.slice none 0 0] 127)) ((wr.alloc (.cells #[.string f.L6,.slice T f.J3.length U,.slice At f.O6.length ct,.int .i64 f.out,.slice Ab f.J7.length J,.int .i64 f.pos] 91)).alloc (.cells #[.slice (some ⟨g,I,none⟩) us.length c,.slice none 0 0,.slice none 0 0,.int .i64 0,.slice none 0 0] 127)) (wr.alloc (.cells #[.string f.L6,.slice T f.J3.length U,.slice At f.O6.length ct,.int .i64 f.out,.slice Ab f.J7.length J,.int .i64 f.pos] 91)).heap.size (.slice (some ⟨g,I,none⟩) us.length c) ⟨none,0,none,0,none,0⟩ [] 0 [] us (λk=>k<(wr.alloc (.cells #[.string f.L6,.slice T f.J3.length U,.slice At f.O6.length ct,.int .i64 f.out,.slice Ab f.J7.length J,.int .i64 f.pos] 91)).heap.size)):=
    zh ⟨Mk.jt,HU.out _ (K.out.a.O7.trans (a4.out.mono K.out.a.O7.size)) _ (λk hk=>by have:=K.out.a.O7.size;simp;omega),y7 _ _,Kp.refl _,K.out.a.gl.to a4.out,λk hk=>hk,by have:=K.out.a.gl.Jv;simp;omega⟩
   have c2:Hid (N0 ((wr.alloc (.cells #[.string f.L6,.slice T f.J3.length U,.slice At f.O6.length ct,.int .i64 f.out,.slice Ab f.J7.length J,.int .i64 f.pos] 91)).alloc (.cells #[.slice (some ⟨g,I,none⟩) us.length c,.slice none 0 0,.slice none 0 0,.int .i64 0,.slice none 0 0] 127)) (λk=>k<(wr.alloc (.cells #[.string f.L6,.slice T f.J3.length U,.slice At f.O6.length ct,.int .i64 f.out,.slice Ab f.J7.length J,.int .i64 f.pos] 91)).heap.size) (.slice Ab f.J7.length J) f.J7):=zh (f2.J0 (λk h1 h2=>⟨by simp;omega,z6 h2 a4.out.size,a4.out.block k h2⟩));have f4:(wr.alloc (.cells #[.string f.L6,.slice T f.J3.length U,.slice At f.O6.length ct,.int .i64 f.out,.slice Ab f.J7.length J,.int .i64 f.pos] 91)).heap.size=wr.heap.size+1:=by simp
   rw[f4]at HM c2;clear f4;have c1:=y5 K.out.a.un 0;have d0:=I7 K.out.a.un;have k0:(0:Int)<=(j:Int):=by omega
   have k1:(j:Int)<(us.length:Int):=by omega
   clear hf f1 j3 f2 hc c0 d3 r3 r4 bf bm xf
   go_upto_region 9 with(fail)
   clear q0 q1 q2 q3 q4 q5 c1;generalize World.alloc _ _=wm at HX a4 HM c2|-
   obtain⟨mb,b5⟩: ∃b,wr.heap.size+1=b:=⟨_,rfl⟩;have j9:wr.heap.size<mb:=by omega
   rw[b5]at HM c2;simp only[b5];clear b5;generalize d1:wr.heap.size=bf at HX j9|-
   have f5:=zh d1;clear d1;have D:=N6 HX.out
   go_wp2_with fail
   clear D;have f7:=HM;obtain⟨wx,rfl⟩: ∃wo:World,wo=wr:=⟨_,rfl⟩
   go_loopw[38] (λi wr=> ∃(k:Nat)(V:Mv),k<=f.J3.length/\i=.int .i64 k/\Hid (W6 wm wr mb (.slice (some ⟨g,I,none⟩) us.length c) V (qG 0 (f.J3.take k)) k [] us (λk=>k<mb))) (λi _=>f.J3.length-(intOf i).toNat)
   case atStart=>exact⟨0,_,E2 _,rfl,f7⟩
   case round=>
    clear f7;obtain⟨k,V,hk,rfl,X⟩:=hrel
    by_cases k2:k<f.J3.length
    ·obtain⟨n,hn⟩: ∃n,f.J3[k]?=some n:=⟨_,y8 k2⟩
     obtain⟨gn,on,rfl,h0,h5⟩:=j4.out.at k n hn;have kn:=(((a4.out.trans (X.out.O7.mono (by have:=f5.out;omega))).cell (p:=⟨gn,on+k,none⟩) h0)).trans h5;have k3:=zh (ze7 hn);have h6:=zh (zfQ n _ wr mb _ V _ k [] us (by rw[Yj,I5];omega) (by omega) X.out.qy);have i0:(0:Int)<=(k:Int):=by omega
     have i1:(k:Int)<(f.J3.length:Int):=by omega
     clear hn h5 h0
     go_wp2_with fail
     refine h6.out.mono ?_;rintro e w8 ⟨rfl,V8,hM⟩;have h7:=zh (X.out.next hM);rw[<-k3.out]at h7;clear hM kn h6
     go_wp2_with fail
     go_roundw
     case rel=>exact⟨k+1,V8,by omega,by go_num,h7⟩
     case measure=>simp[intOf];omega
    ·obtain rfl:k=f.J3.length:=by omega
     rw[F6]at X;have k4:=zh ((X.out.O7.block bf (by omega)).trans HX.out);have D:=N6 k4.out;have c5:=zh (zfY us 40 f.J7 Ab J _ wr mb _ c V _ _ [] _ j5 m' true j6.out j7.out ⟨HR.out.len,HR.out.Zd,HR.out.fw⟩ j8.out (X.out.zjB c2.out) (by have:=H4.out f f3.out;simp only[jM,z9,z7,B1]at this|-;omega) X.out.qy);have a7:=H4.out f f3.out;simp only[jM,z9,z7,B1]at a7;obtain⟨L,hL⟩: ∃L,(U3 us ([]:List S3).length (qG 0 f.J3) f.J3.length f.J7).1.map Prod.fst=L:=⟨_,rfl⟩;obtain⟨R,d4⟩: ∃m,(U3 us ([]:List S3).length (qG 0 f.J3) f.J3.length f.J7).2=m:=⟨_,rfl⟩;have m1:L.length+2<=4000:=by rw[<-hL,D9];exact a7
     have h8:Hid ((jM us f).pf=⟨f.J3.length,R,L++[(1,0)]++[(18,0)]⟩/\(jM us f).J6.length=L.length+2):=zh (by
      subst hL d4;exact⟨by simp[Cf.pf,jM],by simp[jM]⟩)
     simp only[C0]at c5;rw[hL,d4]at c5;clear a7 hL d4
     go_wp2_with fail
     refine c5.out.mono ?_;rintro e w5 ⟨rfl,V5,hM⟩;have d5:=zh (X.out.next hM);clear hM c5 D
     go_wp2_with fail
     refine(zj 1 0 _ _ mb _ V5 _ _ _ us (by omega) d5.out.qy).mono ?_;rintro e w6 ⟨rfl,V6,hM⟩;have d6:=zh (d5.out.next hM);clear hM d5
     go_wp2_with fail
     refine(zj 18 0 _ _ mb _ V6 _ _ _ us (by simp;omega) d6.out.qy).mono ?_;rintro e S ⟨rfl,C,hM⟩;have a8:=zh (d6.out.next hM);clear hM d6;obtain⟨O,hO⟩: ∃O,L++[(1,0)]++[(18,0)]=O:=⟨_,rfl⟩;have h9:O.length=L.length+2:=by rw[<-hO];simp
     rw[hO]at a8 h8;have k5:=zh h9;have m2:O.length<=4000:=by omega
     clear hO h9;have d7:=zh (K.out.later (a4.out.trans (a8.out.O7.mono (by have:=f5.out;omega))));have d8:=zh ((a8.out.O7.block bf (by omega)).trans HX.out);obtain⟨⟨-,-,-,c3,c4⟩,-⟩:=qa a8.out.st;have e1: ¬(4000:Int)<(O.length:Int):=by omega
     have D:=N6 d8.out;have p0:=y5 d7.out.pg 0;have i2:=zh (d7.out.later (J5 S));have k6:=zh (qo.ql a8.out.st.ro (by rw[k5.out];omega));have d9:=zh (i2.out.later ((y7 S.drew.heap.size S.drew).alloc (y6 _) (.cells #[.int .i64 f.J3.length,.int .i64 R,.slice C.Ao O.length C.co] 40)));have k7:=zh (k6.out.J0 (Y2.of ((J5 S).trans ((y7 S.drew.heap.size S.drew).alloc (y6 _) (.cells #[.int .i64 f.J3.length,.int .i64 R,.slice C.Ao O.length C.co] 40)))));have k8:=I7 d7.out.pg;have i3:=I7 d8.out;have i4:=a8.out.lt
     go_upto_region 19 with(fail)
     have q1:S.drew.cell? ⟨bf,1,none⟩=some (.slice T f.J3.length U):=y5 d8.out 1;generalize Y:Act.mk _ _=a0;have e6:a0.tmps[6]?=some (.pointer (some ⟨b6,0,none⟩)):=by rw[<-Y];rfl
     have e8:a0.tmps[8]?=some (.pointer (some ⟨bf,0,none⟩)):=by rw[<-Y];rfl
     have e9:a0.tmps[9]?=some (.pointer (some ⟨mb,0,none⟩)):=by rw[<-Y];rfl
     have ez:a0.tmps.size=80:=by rw[<-Y];rfl
     have M:=zh Y;clear Y;generalize a5:S.heap.size=nb at k8 i3 i4;have m3:=zh a5;have hX:=(y9 S.drew (.cells #[.int .i64 f.J3.length,.int .i64 R,.slice C.Ao O.length C.co] 40));have i5:S.drew.heap.size=nb:=a5;rw[i5]at hX;obtain⟨H,d⟩: ∃H:Option (Nat×Nat)->je,H=λq=>[(0,61,.pointer (some ⟨b6,0,none⟩)),(1,62,.slice Ap Q.length cp),(2,63,.pointer (some ⟨bf,1,none⟩)),(3,64,.slice T f.J3.length U),(4,65,.int .i64 f.J3.length),(5,66,.pointer (some ⟨mb,0,none⟩)),(6,67,.pointer (some ⟨mb,0,none⟩)),(7,68,.pointer (some ⟨mb,3,none⟩)),(8,69,.int .i64 R),(9,70,.pointer (some ⟨mb,0,none⟩)),(10,71,.pointer (some ⟨mb,0,none⟩)),(11,72,.pointer (some ⟨mb,4,none⟩)),(12,73,.slice C.Ao O.length C.co),(13,74,.agg #[.int .i64 f.J3.length,.int .i64 R,.slice C.Ao O.length C.co]),(14,75,.slice (some ⟨nb,0,none⟩) 1 1),(15,76,apV Q.length q),(16,77,.pointer (some ⟨b6,0,none⟩))]:=⟨_,rfl⟩;have o: ∀q,(H q).map (·.1)=[0,1,2,3,4,5,6,7,8,9,10,11,12,13,14,15,16]:=by subst d;intro q;rfl
     have l: ∀q,(H q).map (·.2.1)=[61,62,63,64,65,66,67,68,69,70,71,72,73,74,75,76,77]:=by subst d;intro q;rfl
     have s: ∀q,∀e∈H q,61<=e.2.1/\e.2.1<=77:=λq e r=>by
      have h:e.2.1∈(H q).map (·.2.1):=G8 r;rw[l]at h;have: ∀k∈[61,62,63,64,65,66,67,68,69,70,71,72,73,74,75,76,77],61<=k/\k<=77:=by decide
      exact this _ h
     refine ja (by kernel_rfl) 18 rfl (λL a W=> ∃q,S9 (H q) a0 L a/\OfW w b1 b2 b6 (some ⟨g,I,none⟩) us.length c (qS us qp:Int) Q Ap cp (⟨f.J3.length,R,O⟩,.slice C.Ao O.length C.co) S.drew (S.drew.alloc (.cells #[.int .i64 f.J3.length,.int .i64 R,.slice C.Ao O.length C.co] 40)) (L.getD 14 false) (L.getD 15 false) (L.getD 17 false) W q) ?_ ?_ (by kernel_rfl) ?_
     ·refine⟨none,S9.start _ _ _,?_⟩
      rw[W3,W3,W3];exact⟨rfl,rfl⟩
     ·rintro L a W i hz hC ⟨q,u,B⟩ N
      have f0:i<18:=(zN N).1;have P:=xz N (by omega);have f6:=(u.un 6 λe r=>by have:=s q e r;omega).trans e6;have f8:=(u.un 8 λe r=>by have:=s q e r;omega).trans e8;have f9:=(u.un 9 λe r=>by have:=s q e r;omega).trans e9;have k9:i=0\/i=1\/i=2\/i=3\/i=4\/i=5\/i=6\/i=7\/i=8\/i=9\/i=10\/i=11\/i=12\/i=13\/i=14\/i=15\/i=16\/i=17:=by omega
      rcases k9 with rfl|rfl|rfl|rfl|rfl|rfl|rfl|rfl|rfl|rfl|rfl|rfl|rfl|rfl|rfl|rfl|rfl|rfl
      ·have E:=K5 N rfl
       refine K0 61 (w':=W) (v:=.pointer (some ⟨b6,0,none⟩)) rfl rfl rfl (by simp[execOp,go_sem,f6];try rfl) ?_;exact⟨q,u.put (by rw[o];decide) (by rw[l];decide) (λe r=>by have:=s _ e r;omega) (0,61,.pointer (some ⟨b6,0,none⟩)) (by subst d;simp),by rw[I9 (by decide),I9 (by decide),I9 (by decide)];exact B⟩
      ·have E:=K5 N rfl
       have g0:L.getD 0 false=true:=E ⟨0,.data⟩ (by simp) (by decide);have v0:=u.tb (0,61,.pointer (some ⟨b6,0,none⟩)) (by subst d;simp) g0;simp only at v0;have c6:L.getD 15 false=false:=by
        cases e0:L.getD 15 false with
        |false=>rfl
        |true=>have h1:=hC 15 _ rfl e0 ⟨1,.data⟩ (by simp) (by decide);rw[P]at h1;cases h1
       rw[c6]at B;have px:W.cell? ⟨b6,0,none⟩=some (.slice Ap Q.length cp):=by
        cases Z:L.getD 14 false with
        |false=>rw[Z]at B;obtain⟨-,rfl⟩:=B;exact y5 i2.out.pg 0
        |true=>rw[Z]at B;obtain⟨-,rfl⟩:=B;exact y5 d9.out.pg 0
       refine K0 62 (w':=W) (v:=.slice Ap Q.length cp) rfl rfl rfl (by simp[execOp,go_sem,v0,px];try rfl) ?_;exact⟨q,u.put (by rw[o];decide) (by rw[l];decide) (λe r=>by have:=s _ e r;omega) (1,62,.slice Ap Q.length cp) (by subst d;simp),by rw[I9 (by decide),I9 (by decide),I9 (by decide),c6];exact B⟩
      ·have E:=K5 N rfl
       refine K0 63 (w':=W) (v:=.pointer (some ⟨bf,1,none⟩)) rfl rfl rfl (by simp[execOp,go_sem,f8];try rfl) ?_;exact⟨q,u.put (by rw[o];decide) (by rw[l];decide) (λe r=>by have:=s _ e r;omega) (2,63,.pointer (some ⟨bf,1,none⟩)) (by subst d;simp),by rw[I9 (by decide),I9 (by decide),I9 (by decide)];exact B⟩
      ·have E:=K5 N rfl
       have g2:L.getD 2 false=true:=E ⟨2,.data⟩ (by simp) (by decide);have v2:=u.tb (2,63,.pointer (some ⟨bf,1,none⟩)) (by subst d;simp) g2;simp only at v2;have a1:L.getD 14 false=false:=by
        cases Z:L.getD 14 false with
        |false=>rfl
        |true=>have h1:=hC 14 _ rfl Z ⟨13,.data⟩ (by simp) (by decide);have h2:=hC 13 _ rfl h1 ⟨4,.data⟩ (by simp) (by decide);have h3:=hC 4 _ rfl h2 ⟨3,.data⟩ (by simp) (by decide);rw[P]at h3;cases h3
       rw[a1]at B;obtain⟨hq,b7⟩:=B;subst b7;refine K0 64 (w':=S.drew) (v:=.slice T f.J3.length U) rfl rfl rfl (by simp[execOp,go_sem,v2,show S.drew.cell? ⟨bf,1,none⟩=some (.slice T f.J3.length U) from q1];try rfl) ?_;exact⟨q,u.put (by rw[o];decide) (by rw[l];decide) (λe r=>by have:=s _ e r;omega) (3,64,.slice T f.J3.length U) (by subst d;simp),by rw[I9 (by decide),I9 (by decide),I9 (by decide),a1];exact⟨hq,rfl⟩⟩
      ·have E:=K5 N rfl
       have g3:L.getD 3 false=true:=E ⟨3,.data⟩ (by simp) (by decide);have v3:=u.tb (3,64,.slice T f.J3.length U) (by subst d;simp) g3;simp only at v3;refine K0 65 (w':=W) (v:=.int .i64 f.J3.length) rfl rfl rfl (by simp[execOp,go_sem,v3];try rfl) ?_;exact⟨q,u.put (by rw[o];decide) (by rw[l];decide) (λe r=>by have:=s _ e r;omega) (4,65,.int .i64 f.J3.length) (by subst d;simp),by rw[I9 (by decide),I9 (by decide),I9 (by decide)];exact B⟩
      ·have E:=K5 N rfl
       refine K0 66 (w':=W) (v:=.pointer (some ⟨mb,0,none⟩)) rfl rfl rfl (by simp[execOp,go_sem,f9];try rfl) ?_;exact⟨q,u.put (by rw[o];decide) (by rw[l];decide) (λe r=>by have:=s _ e r;omega) (5,66,.pointer (some ⟨mb,0,none⟩)) (by subst d;simp),by rw[I9 (by decide),I9 (by decide),I9 (by decide)];exact B⟩
      ·have E:=K5 N rfl
       have g5:L.getD 5 false=true:=E ⟨5,.data⟩ (by simp) (by decide);have v5:=u.tb (5,66,.pointer (some ⟨mb,0,none⟩)) (by subst d;simp) g5;simp only at v5;refine K0 67 (w':=W) (v:=.pointer (some ⟨mb,0,none⟩)) rfl rfl rfl (by simp[execOp,go_sem,v5];try rfl) ?_;exact⟨q,u.put (by rw[o];decide) (by rw[l];decide) (λe r=>by have:=s _ e r;omega) (6,67,.pointer (some ⟨mb,0,none⟩)) (by subst d;simp),by rw[I9 (by decide),I9 (by decide),I9 (by decide)];exact B⟩
      ·have E:=K5 N rfl
       have g6:L.getD 6 false=true:=E ⟨6,.data⟩ (by simp) (by decide);have v6:=u.tb (6,67,.pointer (some ⟨mb,0,none⟩)) (by subst d;simp) g6;simp only at v6;refine K0 68 (w':=W) (v:=.pointer (some ⟨mb,3,none⟩)) rfl rfl rfl (by simp[execOp,go_sem,v6];try rfl) ?_;exact⟨q,u.put (by rw[o];decide) (by rw[l];decide) (λe r=>by have:=s _ e r;omega) (7,68,.pointer (some ⟨mb,3,none⟩)) (by subst d;simp),by rw[I9 (by decide),I9 (by decide),I9 (by decide)];exact B⟩
      ·have E:=K5 N rfl
       have g7:L.getD 7 false=true:=E ⟨7,.data⟩ (by simp) (by decide);have v7:=u.tb (7,68,.pointer (some ⟨mb,3,none⟩)) (by subst d;simp) g7;simp only at v7;have a1:L.getD 14 false=false:=by
        cases Z:L.getD 14 false with
        |false=>rfl
        |true=>have h1:=hC 14 _ rfl Z ⟨13,.data⟩ (by simp) (by decide);have h2:=hC 13 _ rfl h1 ⟨8,.data⟩ (by simp) (by decide);rw[P]at h2;cases h2
       rw[a1]at B;obtain⟨hq,b7⟩:=B;subst b7;refine K0 69 (w':=S.drew) (v:=.int .i64 R) rfl rfl rfl (by simp[execOp,go_sem,v7,show S.drew.cell? ⟨mb,3,none⟩=some (.int .i64 R) from c3];try rfl) ?_;exact⟨q,u.put (by rw[o];decide) (by rw[l];decide) (λe r=>by have:=s _ e r;omega) (8,69,.int .i64 R) (by subst d;simp),by rw[I9 (by decide),I9 (by decide),I9 (by decide),a1];exact⟨hq,rfl⟩⟩
      ·have E:=K5 N rfl
       refine K0 70 (w':=W) (v:=.pointer (some ⟨mb,0,none⟩)) rfl rfl rfl (by simp[execOp,go_sem,f9];try rfl) ?_;exact⟨q,u.put (by rw[o];decide) (by rw[l];decide) (λe r=>by have:=s _ e r;omega) (9,70,.pointer (some ⟨mb,0,none⟩)) (by subst d;simp),by rw[I9 (by decide),I9 (by decide),I9 (by decide)];exact B⟩
      ·have E:=K5 N rfl
       have g9:L.getD 9 false=true:=E ⟨9,.data⟩ (by simp) (by decide);have v9:=u.tb (9,70,.pointer (some ⟨mb,0,none⟩)) (by subst d;simp) g9;simp only at v9;refine K0 71 (w':=W) (v:=.pointer (some ⟨mb,0,none⟩)) rfl rfl rfl (by simp[execOp,go_sem,v9];try rfl) ?_;exact⟨q,u.put (by rw[o];decide) (by rw[l];decide) (λe r=>by have:=s _ e r;omega) (10,71,.pointer (some ⟨mb,0,none⟩)) (by subst d;simp),by rw[I9 (by decide),I9 (by decide),I9 (by decide)];exact B⟩
      ·have E:=K5 N rfl
       have l0:L.getD 10 false=true:=E ⟨10,.data⟩ (by simp) (by decide);have i6:=u.tb (10,71,.pointer (some ⟨mb,0,none⟩)) (by subst d;simp) l0;simp only at i6;refine K0 72 (w':=W) (v:=.pointer (some ⟨mb,4,none⟩)) rfl rfl rfl (by simp[execOp,go_sem,i6];try rfl) ?_;exact⟨q,u.put (by rw[o];decide) (by rw[l];decide) (λe r=>by have:=s _ e r;omega) (11,72,.pointer (some ⟨mb,4,none⟩)) (by subst d;simp),by rw[I9 (by decide),I9 (by decide),I9 (by decide)];exact B⟩
      ·have E:=K5 N rfl
       have l1:L.getD 11 false=true:=E ⟨11,.data⟩ (by simp) (by decide);have i7:=u.tb (11,72,.pointer (some ⟨mb,4,none⟩)) (by subst d;simp) l1;simp only at i7;have a1:L.getD 14 false=false:=by
        cases Z:L.getD 14 false with
        |false=>rfl
        |true=>have h1:=hC 14 _ rfl Z ⟨13,.data⟩ (by simp) (by decide);have h2:=hC 13 _ rfl h1 ⟨12,.data⟩ (by simp) (by decide);rw[P]at h2;cases h2
       rw[a1]at B;obtain⟨hq,b7⟩:=B;subst b7;refine K0 73 (w':=S.drew) (v:=.slice C.Ao O.length C.co) rfl rfl rfl (by simp[execOp,go_sem,i7,show S.drew.cell? ⟨mb,4,none⟩=some (.slice C.Ao O.length C.co) from c4];try rfl) ?_;exact⟨q,u.put (by rw[o];decide) (by rw[l];decide) (λe r=>by have:=s _ e r;omega) (12,73,.slice C.Ao O.length C.co) (by subst d;simp),by rw[I9 (by decide),I9 (by decide),I9 (by decide),a1];exact⟨hq,rfl⟩⟩
      ·have E:=K5 N rfl
       have g4:L.getD 4 false=true:=E ⟨4,.data⟩ (by simp) (by decide);have v4:=u.tb (4,65,.int .i64 f.J3.length) (by subst d;simp) g4;simp only at v4;have g8:L.getD 8 false=true:=E ⟨8,.data⟩ (by simp) (by decide);have v8:=u.tb (8,69,.int .i64 R) (by subst d;simp) g8;simp only at v8;have l2:L.getD 12 false=true:=E ⟨12,.data⟩ (by simp) (by decide);have i8:=u.tb (12,73,.slice C.Ao O.length C.co) (by subst d;simp) l2;simp only at i8;refine K0 74 (w':=W) (v:=.agg #[.int .i64 f.J3.length,.int .i64 R,.slice C.Ao O.length C.co]) rfl rfl rfl (by simp[execOp,go_sem,v4,v8,i8];try rfl) ?_;exact⟨q,u.put (by rw[o];decide) (by rw[l];decide) (λe r=>by have:=s _ e r;omega) (13,74,.agg #[.int .i64 f.J3.length,.int .i64 R,.slice C.Ao O.length C.co]) (by subst d;simp),by rw[I9 (by decide),I9 (by decide),I9 (by decide)];exact B⟩
      ·have E:=K5 N rfl
       have l3:L.getD 13 false=true:=E ⟨13,.data⟩ (by simp) (by decide);have i9:=u.tb (13,74,.agg #[.int .i64 f.J3.length,.int .i64 R,.slice C.Ao O.length C.co]) (by subst d;simp) l3;simp only at i9;rw[P]at B;obtain⟨rfl,rfl⟩:=B;have c6:L.getD 15 false=false:=by
        cases e0:L.getD 15 false with
        |false=>rfl
        |true=>have h1:=hC 15 _ rfl e0 ⟨14,.data⟩ (by simp) (by decide);rw[P]at h1;cases h1
       refine K0 75 (w':=S.drew.alloc (.cells #[.int .i64 f.J3.length,.int .i64 R,.slice C.Ao O.length C.co] 40)) (v:=.slice (some ⟨nb,0,none⟩) 1 1) rfl rfl rfl (by simp[execOp,go_sem,i9,a5];try rfl) ?_;refine⟨none,u.put (by rw[o];decide) (by rw[l];decide) (λe r=>by have:=s _ e r;omega) (14,75,.slice (some ⟨nb,0,none⟩) 1 1) (by subst d;simp),?_⟩;rw[M9 (by omega),I9 (by decide),I9 (by decide),c6];exact⟨rfl,rfl⟩
      ·have E:=K5 N rfl
       have g1:L.getD 1 false=true:=E ⟨1,.data⟩ (by simp) (by decide);have v1:=u.tb (1,62,.slice Ap Q.length cp) (by subst d;simp) g1;simp only at v1;have a9:L.getD 14 false=true:=E ⟨14,.data⟩ (by simp) (by decide);have j0:=u.tb (14,75,.slice (some ⟨nb,0,none⟩) 1 1) (by subst d;simp) a9;simp only at j0;rw[a9,P]at B;obtain⟨rfl,rfl⟩:=B;have l4:L.getD 17 false=false:=by
        cases l5:L.getD 17 false with
        |false=>rfl
        |true=>have h1:=hC 17 _ rfl l5 ⟨15,.data⟩ (by simp) (by decide);rw[P]at h1;cases h1
       refine Xt rfl (jz zhh rfl (.tmp 62) (.tmp 75) rfl (b6+1) _ Q.length (Q.flatMap xy) (jK v1) d9.out.row nb 1 #[.int .i64 f.J3.length,.int .i64 R,.slice C.Ao O.length C.co] (jK j0) hX rfl (by simp[Value.oneCell']) (by omega) (by simp[a5];omega) ?_);intro g9 G w9 e2 c7 _ _;have b8:=d9.out.W8 (x:=⟨f.J3.length,R,O⟩) e2 c7 k7.out;refine⟨some (g9,G),(u.change (T':=H (some (g9,G))) (λe r hl=>?_) (by rw[l,l])).put (by rw[o];decide) (by rw[l];decide) (λe r=>by have:=s _ e r;omega) (15,76,apV Q.length (some (g9,G))) (by subst d;simp),?_⟩
       ·subst d
        simp only[E7,List.mem_nil_iff,or_false]at r|-
        rcases r with rfl|rfl|rfl|rfl|rfl|rfl|rfl|rfl|rfl|rfl|rfl|rfl|rfl|rfl|rfl|rfl|rfl
        all_goals first|(simp;done)|(exfalso;simp only at hl;rw[P]at hl;cases hl)
       ·rw[I9 (by decide),M9 (by omega),I9 (by decide),a9,l4];exact⟨g9,G,rfl,b8⟩
      ·have E:=K5 N rfl
       refine K0 77 (w':=W) (v:=.pointer (some ⟨b6,0,none⟩)) rfl rfl rfl (by simp[execOp,go_sem,f6];try rfl) ?_;exact⟨q,u.put (by rw[o];decide) (by rw[l];decide) (λe r=>by have:=s _ e r;omega) (16,77,.pointer (some ⟨b6,0,none⟩)) (by subst d;simp),by rw[I9 (by decide),I9 (by decide),I9 (by decide)];exact B⟩
      ·have E:=K5 N rfl
       have l6:L.getD 16 false=true:=E ⟨16,.data⟩ (by simp) (by decide);have j1:=u.tb (16,77,.pointer (some ⟨b6,0,none⟩)) (by subst d;simp) l6;simp only at j1;have c8:L.getD 15 false=true:=E ⟨15,.data⟩ (by simp) (by decide);have e3:=u.tb (15,76,apV Q.length q) (by subst d;simp) c8;simp only at e3;have a9:L.getD 14 false=true:=hC 15 _ rfl c8 ⟨14,.data⟩ (by simp) (by decide);rw[a9,c8,P]at B;obtain⟨g9,G,rfl,b8⟩:=B;have p1:=y5 b8.1 0;have p2:=B4 b8.1 0;simp only[apV]at e3;refine zO (w':=W.setCell ⟨b6,0,none⟩ (.slice (some ⟨g9,0,none⟩) (Q.length+1) G)) rfl rfl rfl (by simp[execOp,go_sem,j1,e3,p1,p2];try rfl) ?_;refine⟨some (g9,G),u.skip 17 (λe r hh=>by have h:e.1∈(H (some (g9,G))).map (·.1):=G8 r;rw[o,hh]at h;revert h;decide),?_⟩;rw[I9 (by decide),I9 (by decide),M9 (by omega),a9,c8];exact⟨g9,G,rfl,b8.2⟩
     ·rintro L a W a6 ⟨q,u,B⟩
      rw[a6 14 (by decide),a6 15 (by decide),a6 17 (by decide)]at B;obtain⟨g9,G,rfl,B⟩:=B;have l7:=zh B;have d2:=za8 (lo:=61) (hi:=77) u.df u.az (λk hk=>u.un k λe r=>by have:=s _ e r;omega);obtain⟨y,hy⟩: ∃y:Nat->Value,a=⟨(List.range' 61 17).foldl (λt k=>t.setIfInBounds k (y k)) a0.tmps,a0.defers⟩:=⟨_,d2⟩;clear d2 u a6 B e6 e8 e9 ez s l o d hX i5 p0 D c3 c4;subst hy;have Y:=M.out;clear M;subst Y;simp only[List.range',List.foldl];go_simp;have l8:Hid ((Q++[((⟨f.J3.length,R,O⟩:Pf),Value.slice C.Ao O.length C.co)]).map Prod.fst=(us.take (j+1)).map λf=>(jM us f).pf):=zh (by
       rw[List.map_append,b4.out,Zb HS.out,List.map_append];simp[h8.out.1])
      go_wp2_with fail
      go_roundw
      case rel=>exact⟨j+1,_,_,_,by omega,by go_num,l8,l7⟩
      case measure=>simp[intOf];omega
  ·obtain rfl:j=us.length:=by omega
   rw[F6]at b4;have a7:Q.length=us.length:=by have:=I1 List.length b4.out;simpa using this
   have r0:=y5 K.out.a.rs 0;have r1:=y5 K.out.a.rs 1;have g0:=B4 K.out.a.rs 0;have g1:=B4 K.out.a.rs 1;have p0:=y5 K.out.pg 0;have p1:=y5 K.out.pg 1;have l9:=zh a7;clear a7
   go_wp2_with fail
   have s0:=z5 _ _ 0 _ _ (.slice Ap Q.length cp) K.out.a.rs;have s1:=z5 _ _ 1 _ _ (.int .i64 (qS us qp:Int)) s0;refine F1 (zV rfl _ _ b2 _ _ _ _ rfl s1 underlying26 rfl zde) rfl ?_;have e4:=((M3.ql K.out.row K.out.ins).J0 (Y2.set K.out.a.rs (by decide) (by decide) 0 (.slice Ap Q.length cp))).J0 (Y2.set s0 (by decide) (by decide) 1 (.int .i64 (qS us qp:Int)));rw[b4.out]at e4;rw[l9.out]at e4|-
   exact⟨Ap,cp,rfl,M2 (M2 K.out.a.O7 (by have:=K.out.a.lo;have:=K.out.a.h12;omega) 0 _) (by have:=K.out.a.lo;have:=K.out.a.h12;omega) 1 _,e4⟩
theorem zkk{w:World}{b t:Nat}{d e:Value}(a c:Value)(h:w.heap[b]?=some (.cells #[d,e] t (0,0))):
 ((w.setCell ⟨b,0,none⟩ a).setCell ⟨b,1,none⟩ c).heap[b]?=some (.cells #[a,c] t (0,0)):=by
 have f:=z5 _ b 0 _ _ a h;simpa using z5 _ b 1 _ _ c f
theorem zbL(d:ByteArray)(ws:List Wd)(us:List Fn)(w:World)(hs:d.size<=maxLen)(K:Qp d 0 0 ws)(L:ws.length<=4000)(M:qd ws)(N:Du ws d.size 0 us)(v:Uw us)(O: ∀f∈us,(jM us f).J6.length<=4000)(C:U2 w):
 Calls prog 6 #[.string d] w λe w'=> ∃(A:Option Addr)(c:Nat),e=.returned (.tuple #[.agg #[.slice A us.length c,.int .i64 (qS us qp:Int)],.int .i64 0])/\Below w.heap.size w w'/\M3 w' (.slice A us.length c) (us.map λf=>(jM us f).pf):=by
 have h:=(y7 w.heap.size w).alloc (y6 _) (.cells #[.slice none 0 0,.int .i64 0] 26);have k:=zh (y9 w (.cells #[.slice none 0 0,.int .i64 0] 26));have i:=zh h;have D:=zh (zcY d (w.alloc (.cells #[.slice none 0 0,.int .i64 0] 26)) ws us hs (C.to h) K L M N λA n W ⟨F,x⟩ X=>zc9 us A n F W x v.fw v.len X);have m:=zh (C.to h);clear h C
 go_enter func6,ntmps6
 go_upto_region 1 with(fail)
 generalize w.alloc _=w1 at k i D m|-
 generalize q:w.heap.size=p at k i|-
 have E:=zh q
 go_wp2_with fail
 refine D.out.mono ?_;rintro e r ⟨A,c,rfl,x,y,P⟩;have G:=(y.block p (I7 k.out)).trans k.out;have j:=y.alloc y.size (.cells #[.slice A us.length c] 34);have H:=zh (y9 r (.cells #[.slice A us.length c] 34));have s:Hid (Below p w (r.alloc (.cells #[.slice A us.length c] 34))):=zh (i.out.trans (j.mono (I0 (I7 k.out))));have a:=zh ((j.block p (I7 k.out)).trans k.out);have t:=zh (m.out.to j);have u:Hid (R0 (r.alloc (.cells #[.slice A us.length c] 34)) (λ_=>True) (.slice A us.length c) us):=zh (x.J0 (λg h1 Y=>⟨trivial,by simp;omega,D4 r _ Y⟩));have Z:=zh P;have I:=zh v;have H4:=zh O;clear x y P K L M N v O G j D m i k
 go_upto_region 2 with(fail)
 generalize World.alloc _ _=w3 at H s a t u|-
 generalize r.heap.size=b4 at H|-
 have Q:=y5 a.out 0;have R:=y5 a.out 1;have S:=B4 a.out 0;have T:=B4 a.out 1;have c4:=y5 H.out 0;have U:=zh (zkh us A c (λ_=>True) w3 u.out I.out H4.out Z.out t.out);clear q
 go_wp2_with fail
 refine U.out.mono ?_;rintro e w4 ⟨z,B,rfl,o,V⟩;have l:=I7 a.out;have b:=zh ((o.block p l).trans a.out);have J:=zh (s.out.trans (o.mono (I0 l)));have HO:=zh V;clear Q R S T o V U c4;have Q:=y5 b.out 0;have R:=y5 b.out 1;have S:=B4 b.out 0;have T:=B4 b.out 1
 go_wp2_with fail
 refine F1 (zV rfl _ _ p _ _ _ _ rfl (zkk (.slice z us.length B) (.int .i64 (qS us qp:Int)) b.out) underlying26 rfl zde) rfl ?_;exact⟨z,B,rfl,by rw[E.out];exact M2 (M2 J.out (y6 _) 0 _) (y6 _) 1 _,(HO.out.J0 (Y2.set b.out (by decide) (by decide) 0 (.slice z us.length B))).J0 (Y2.set (z5 _ p 0 _ _ (.slice z us.length B) b.out) (by decide) (by decide) 1 (.int .i64 (qS us qp:Int)))⟩
end Go.Proofs.YtalgmjmibamdfaaGreatDoor
namespace Go.Proofs.YtalgmjmibamdfaaGreatDoor
open Go.RowKit Tw
inductive Jg:Bs->Nat->List Wd->Prop
 |nil {k:Nat}:Jg [] k []
 |sp {c:UInt8} {l:Bs} {k:Nat} {ws:List Wd}:qD c=true->Jg l (k+1) ws->Jg (c::l) k ws
 |zq {w l:Bs} {k c:Nat} {ws:List Wd}:Tw.xZ (w++l)=.zq c w.length->0<w.length->Jg l (k+w.length) ws->Jg (w++l) k (⟨c,⟨w.toArray⟩,k⟩::ws)
theorem zcM{s:ByteArray}{k n:Nat}{w l:Bs}(h:s.data.toList.drop k=w++l)(a:w.length=n):s.extract k (k+n)=⟨w.toArray⟩:=by
 apply ByteArray.ext;rw[ByteArray.data_extract];apply Array.toList_inj.1;rw[Array.toList_extract];simp only[List.extract_eq_take_drop];rw[h,show k+n-k=n by omega,<-a,List.take_left]
theorem Jg.lex{s:ByteArray}{l:Bs}{k:Nat}{ws:List Wd}(h:Jg l k ws):s.data.toList.drop k=l->k<=s.size-> ∀a,xa s k a (none,a++ws):=by
 have j:s.data.toList.length=s.size:=by rw[Array.length_toList];rfl
 induction h with
 |nil=>
  intro b g a;rw[List.append_nil];have:s.data.toList.length<=_:=List.drop_eq_nil_iff.1 b;exact .done (by omega)
 | @sp c l k ws m _ f=>
   intro b g a;have d:k<s.size:=by
    rcases E5 k s.size with h|h
    ·exact h
    ·rw[List.drop_eq_nil_iff.2 (by omega)]at b;cases b
   refine .skip d (n:=1) (by rw[b];simp[Tw.xZ,m]) (f ?_ (by omega) a);rw[<-List.drop_drop,b];rfl
 | @zq w l k c ws o p _ f=>
   intro b g a;have e:(s.data.toList.drop k).length=w.length+l.length:=by rw[b,z9]
   rw[I6]at e;have d:k<s.size:=by omega
   have i:=f (by rw[<-List.drop_drop,b,List.drop_left]) (by omega) (a++[⟨c,⟨w.toArray⟩,k⟩]);rw[B9]at i;refine .zq d (n:=w.length) (k:=c) (by rw[b];exact o) ?_;rw[zcM b rfl];exact i
theorem Jg.zjF{s:ByteArray}{ws:List Wd}(h:Jg s.data.toList 0 ws):xa s 0 [] (none,ws):=by
 have:=h.lex (s:=s) rfl (E2 _) [];simpa using this
def Jq(l:Bs):Prop:= ∀c,l.head?=some c->T0 c=false
theorem QU{w l:Bs}(a: ∀c∈w,T0 c=true)(b:Jq l):L1 T0 (w++l)=w.length:=by
 unfold L1;rw[List.takeWhile_append_of_pos a];cases l with
 |nil=>simp
 |cons c l=>have:=b c rfl;simp[this]
theorem Zm{w l:Bs}:(w++l).take w.length=w:=List.take_left
theorem Zo{c:UInt8}(h:T0 c=true):qD c=false/\(c==35)=false:=by
 simp only[T0,qm,xY,qD,Bool.or_eq_true,F4,F2]at h|-
 refine⟨?_,beq_eq_false_iff_ne.2 ?_⟩
 ·simp;omega
 ·intro e;subst e;revert h;decide
theorem zdW{w l:Bs}(h:N3 w=true)(f:Jq l):Tw.xZ (w++l)=.zq 2 w.length:=by
 simp only[N3,F4,F2,Bool.not_eq_true',G1]at h;obtain⟨⟨⟨⟨g,p⟩,i⟩,j⟩,a⟩:=h;cases w with
 |nil=>simp at g
 |cons c w=>
  have k:=a c (B2 ..);obtain⟨m,n⟩:=Zo k;have b:xY c=true:=i;have o:qm c=false:=by
   simp only[xY,qm,Bool.or_eq_true,F4,F2]at b|-
   simp;omega
  have d:=QU a f;have e:=Zm (w:=c::w) (l:=l);unfold Tw.xZ;simp only[B6,List.headD_cons]at d e|-
  simp only[m,n,o,b,d,e,j,C6,if_false,if_true];rw[B5 (by simp only[F2];omega)]
theorem zfh{w l:Bs}(h:w∈zt)(i:Jq l):Tw.xZ (w++l)=.zq 3 w.length:=by
 have a: ∀c∈w,T0 c=true:=by
  have:zt.all (λw=>w.all T0)=true:=by decide
  exact λc d=>List.all_eq_true.1 (List.all_eq_true.1 this w h) c d
 have b:w≠[]/\xY (w.headD 0)=true:=by
  have:zt.all (λw=>!w.isEmpty&&xY (w.headD 0))=true:=by decide
  have:=List.all_eq_true.1 this w h;simp at this;exact⟨this.1,by simpa using this.2⟩
 have j:zX w=true:=by unfold zX;exact List.contains_iff_mem.2 h
 cases w with
 |nil=>exact I2 rfl b.1
 |cons c w=>
  have d:=a c (B2 ..);obtain⟨k,m⟩:=Zo d;have e:xY c=true:=b.2;have n:qm c=false:=by
   simp only[xY,qm,Bool.or_eq_true,F4,F2]at e|-
   simp;omega
  have f:=QU a i;have g:=Zm (w:=c::w) (l:=l);unfold Tw.xZ;simp only[B6,List.headD_cons]at f g|-
  simp only[k,m,n,e,f,g,j,C6,if_false,if_true]
theorem YI{w l:Bs}(h:U4 w=true)(g:w≠[])(i:Jq l):Tw.xZ (w++l)=.zq 1 w.length:=by
 have d: ∀c∈w,qm c=true:=by
  simp only[U4,F4,G1]at h;exact h.2
 have a: ∀c∈w,T0 c=true:=λc b=>by simp[T0,d c b]
 cases w with
 |nil=>exact I2 rfl g
 |cons c w=>
  have b:=a c (B2 ..);obtain⟨j,k⟩:=Zo b;have m:=d c (B2 ..);have e:=QU a i;have f:=Zm (w:=c::w) (l:=l);unfold Tw.xZ;simp only[B6,List.headD_cons]at e f|-
  simp only[j,k,m,e,f,h,C6,if_false,if_true]
theorem ze1{c:UInt8}{l:Bs}(h:c∈([40,41,123,125,44,59,58,64,43,45,42,47,37]:Bs)):Tw.xZ (c::l)=.zq 4 1:=by
 have a: ∀c∈([40,41,123,125,44,59,58,64,43,45,42,47,37]:Bs),qD c=false/\(c==35)=false/\qm c=false/\xY c=false/\yZ.contains c=true/\(W7.all λw=>w.headD 0 !=c)=true:=by decide
 obtain⟨b,d,e,f,g,i⟩:=a c h;have j:W7.contains ((c::l).take 2)=false:=by
  rw[<-Bool.not_eq_true,List.contains_iff_mem];intro k;have:=List.all_eq_true.1 i _ k;simp at this
 have m:O0 (c::l)=1:=by
  unfold O0;rw[j];simp only[List.headD_cons,g,z7];simp
 unfold Tw.xZ;simp only[List.headD_cons,b,d,e,f,m,C6,if_false]
theorem zfc{w l:Bs}(h:w∈W7):Tw.xZ (w++l)=.zq 4 2:=by
 have d: ∀w∈W7,qD (w.headD 0)=false/\(w.headD 0==35)=false/\qm (w.headD 0)=false/\xY (w.headD 0)=false/\w.length=2:=by decide
 obtain⟨f,g,i,j,a⟩:=d w h;have b:w≠[]:=by intro e;rw[e]at a;cases a
 have k:(w++l).headD 0=w.headD 0:=by cases w with|nil=>exact I2 rfl b|cons c w=>rfl
 have m:O0 (w++l)=2:=by
  unfold O0;have:(w++l).take 2=w:=by rw[<-a];exact List.take_left
  rw[this,List.contains_iff_mem.2 h];rfl
 unfold Tw.xZ;simp only[k,f,g,i,j,m,C6,if_false]
theorem zbn{c d:UInt8}{l:Bs}(h:c∈([60,62,61,33]:Bs))(b:d=32\/d=40):Tw.xZ (c::d::l)=.zq 4 1:=by
 have e: ∀c∈([60,62,61,33]:Bs),qD c=false/\(c==35)=false/\qm c=false/\xY c=false/\yZ.contains c=true/\W7.contains [c,32]=false/\W7.contains [c,40]=false:=by decide
 obtain⟨f,g,i,j,a,k,m⟩:=e c h;have n:O0 (c::d::l)=1:=by
  unfold O0;have:(c::d::l).take 2=[c,d]:=rfl;rw[this]
  rcases b with rfl|rfl
  ·rw[k];simp only[List.headD_cons,a,z7];simp
  ·rw[m];simp only[List.headD_cons,a,z7];simp
 unfold Tw.xZ;simp only[List.headD_cons,f,g,i,j,n,C6,if_false]
inductive Pc where
 |sp (c:UInt8)|w (k:Nat) (t:Bs)
def Pc.P8:Pc->Bs
 |.sp c=>[c]
 |.w _ t=>t
def zG(l:List Pc):Bs:=l.flatMap Pc.P8
def Jk:List Pc->Nat->List Wd
 |[],_=>[]
 |.sp _::l,k=>Jk l (k+1)
 |.w c t::l,k=>⟨c,⟨t.toArray⟩,k⟩::Jk l (k+t.length)
def Q4:List Pc->Prop
 |[]=>True
 |.sp c::l=>qD c=true/\Q4 l
 |.w c t::l=>Tw.xZ (t++zG l)=.zq c t.length/\0<t.length/\Q4 l
end Go.Proofs.YtalgmjmibamdfaaGreatDoor
