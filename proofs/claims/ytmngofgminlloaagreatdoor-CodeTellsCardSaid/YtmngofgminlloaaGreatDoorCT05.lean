/- Merged. -/
import Derived.Test.YtmngofgminlloaaGreatDoorCT04
set_option linter.all false
set_option maxHeartbeats 16000000
set_option maxRecDepth 100000
namespace Go.Proofs.YtmngofgminlloaaGreatDoor
open Go.Proofs.Tryz
open Go.RowKit Tw
def zj9(m:Nat)(v ws)(en i n:Nat)(b2:1<=n)(b9:n<=5)(hr:10<m)(p:JW m v ws en (n+1) i)(s: ∀j,i<j->JW m v ws en (n+1) j):JW m v ws en n i:=by
 intro w b h hG;have H1:=qh p;have H2:=qh s;have HR:=qh h;have HG:=qh hG;have e2:=h.lt;have e6:((n:Int)==6)=false:=by simp;omega
 clear p s h hG
 go_enter func163,ntmps163
 go_wp2_with fail
 refine(H1.out _ b (HR.out.K7 ((x8 _ _).alloc (x7 _) _)) (HG.out.to ((x8 _ _).alloc (x7 _) _))).mono ?_;rintro e w1 ⟨x,A,c,i1,b1,rfl,hA,c2,hO,Y⟩
 have h0:w1.heap[w.heap.size]?=some (.cells #[.int .i64 0,.int .i64 0,.string ⟨#[]⟩,.slice none 0 0,.int .i64 0] 186 (0,0)):=
  (Y.block _ (by simp) (by simp;omega)).trans (A5 w _)
 have O:w.heap.size<w1.heap.size:=by have:=Y.size;simp at this;omega
 have E:=qh hA;have HO:=qh hO;have a3:=qh (za6 ((x8 _ _).alloc (x7 _) _) Y);have d:=qh (Za.start c2 (HG.out.of a3.out hr) hr a3.out e2 (x7 _) O h0 (.int .i64 x.I9) (.int .i64 x.n) (.string x.K0) (.slice A x.args.length c) (.int .i64 x.pos));clear hA c2 hO Y h0
 go_wp2_with fail
 have P:Hid (J7 (w1.alloc (.cells #[.int .i64 x.I9,.int .i64 x.n,.string x.K0,.slice A x.args.length c,.int .i64 x.pos] 186)) (λg=>w.heap.size<=g/\g≠w.heap.size/\g≠w1.heap.size) (.slice A x.args.length c) x.args):=
  qh (E.out.K7 λg Q hl=>⟨⟨by simp at Q;omega,by simp at Q;omega,by omega⟩,by simp;omega,C4 w1 _ hl⟩)
 generalize w1.alloc _=W1 at d P|-;generalize w1.heap.size=F at d P|-;obtain⟨b4,a4⟩: ∃b4,w.heap.size=b4:=⟨_,rfl⟩;have R:=a4;rw[R]at d P;simp only[R];clear R E a3 O w1;have a5:=qh a4;clear a4
 go_loopw[] (λwr=> ∃(a:Ex)(A:Option Addr)(c i':Nat)(b':Bool),Hid (Za w wr m b4 F v ws i' en b' (.int .i64 a.I9) (.int .i64 a.n) (.string a.K0) (.slice A a.args.length c) (.int .i64 a.pos))/\
  Hid (J7 wr (λg=>b4<=g/\g≠b4/\g≠F) (.slice A a.args.length c) a.args)/\Hid (QF ws en n i b a i' b')) (λwr=>yN ws wr m)
 case atStart=>exact⟨x,A,c,i1,b1,d,P,qh (QF.start (by omega) HO.out)⟩
 case round=>
  obtain⟨a,A1,c1,i',b',d,E,HL⟩:=hrel;have c4:=d
  go_upto_region 4 with(fail)
  go_cut[48] (λu W=> ∃t:Bool,u=.bool t/\Hid (t=true->b'=false/\O5 ws i'=n)/\Hid (t=false->b'=true\/O5 ws i'≠n)/\Hid (Below wr.heap.size wr W))
  case first=>
   have r0:=d.out.rd.c0;have r1:=d.out.rd.c1;have r3:=d.out.rd.c3;have hn:=d.out.rd.X5;have hp:=d.out.rd.pos;obtain⟨A0,C,rfl,f⟩:=d.out.rd.row.jJ;have a6:=qh f;clear f;cases b' with
   |true=>
    go_quiet (fail)
    go_wp2_with fail
    go_meet
    case rel=>exact⟨false,rfl,qh (by simp),qh (by simp),qh (J6 (x8 _ _) _)⟩
   |false=>
    by_cases G:i'<ws.length
    ·obtain⟨y,S⟩: ∃y,ws[i']?=some y:=⟨_,x9 G⟩
     obtain⟨g,rfl,Q,-,d1,-⟩:=a6.out i' y S;obtain⟨t,ht⟩: ∃t,(lv y.K0.data.toList==n)=t:=⟨_,rfl⟩;have k0:(0:Int)<=(i':Int):=by omega
     have k1:(i':Int)<(ws.length:Int):=by omega
     have HY:Hid (O5 ws i'=lv y.K0.data.toList):=qh (by unfold O5;rw[S]);have I:=qh ht;have O:=d.out.z1;have c5:=d.out.z2;have c6:=d.out.z3;have c8:=d.out.z0;have a7:=qh d.out.gl;have J:m<wr.heap.size:=by omega
     have q2:g<wr.heap.size:=by omega
     clear S ht
     go_region_held3 (λW=>W.cell? ⟨m,0,none⟩=some (.slice (some ⟨g,0,none⟩) ws.length C)/\W.cell? ⟨m,1,none⟩=some (.int .i64 i')/\W.cell? ⟨m,3,none⟩=some (.bool false)/\W.cell? ⟨g,i'*3+1,none⟩=some (.string y.K0)/\Below wr.heap.size wr W)
      (first|(with_reducible exact YJ r0 r1 r3 d1)|(with_reducible assumption)|(with_reducible exact XW (by assumption) (by assumption) J J J q2))
      (first|(go_at_call 202;refine(zbx n b2 b9 _ (zeW a7.out (by assumption))).mono ?_;rintro e w5 ⟨⟨g5,rfl,a8⟩,e4⟩)|(go_at_call 201;refine(QQ n b2 b9 g5 y.K0 _ a8 t I.out).mono ?_;rintro e w6 ⟨rfl,rfl⟩))
     rename_i T;have K:=qh T.2.2.2.2;clear T
     go_wp2_with fail
     go_meet
     case rel=>exact⟨t,rfl,qh (λe=>⟨by simp,by rw[HY.out];have:=I.out;rw[e]at this;simpa using this⟩),qh (λe=>.inr (by rw[HY.out];have:=I.out;rw[e]at this;simpa using this)),K⟩
    ·have HX:Hid (O5 ws i'=0):=qh (by unfold O5;rw[C5 (by omega)])
     go_quiet (fail)
     go_wp2_with fail
     go_meet
     case rel=>exact⟨false,rfl,qh (by simp),qh (λ_=>.inr (by rw[HX.out];omega)),qh (J6 (x8 _ _) _)⟩
  case rest=>
   obtain⟨t,rfl,I,c9,o⟩:=hcut;replace d:=qh (d.out.below o.out);replace E:=qh (J7.K7 (F':=λg=>b4<=g/\g≠b4/\g≠F) (λg p s=>⟨p,A7 s o.out.size,o.out.block g s⟩) E.out);have e7:=qh o.out.size;clear o;cases t with
   |false=>
    obtain⟨⟨z0,z1,z2,z3,z4⟩,q0,J,q2,q3,q4⟩:=K6 d.out.ex;obtain⟨⟨d0,d1,d2,d3,d4⟩,g0,g1,g2,g3,g4⟩:=K6 d.out.zD;have HW:=qh (yT (.int .i64 a.I9) (.int .i64 a.n) (.string a.K0) (.slice A1 a.args.length c1) (.int .i64 a.pos) d.out.zD)
    go_wp2_with fail
    (try simp only[Exit.inBlock,Exit.then])
    refine E9 (F2 rfl _ _ b4 _ _ _ _ rfl HW.out underlying186 rfl zT) rfl ?_;exact d.out.qi E.out (λg h=>⟨by rw[a5.out];exact h.1,h.2.1⟩) (by cases b' with|true=>exact HL.out.fail|false=>exact HL.out.stop ((c9.out (by simp)).resolve_left (by simp)))
   |true=>
    obtain⟨rfl,d5⟩:=I.out rfl;have U:=qh d5;clear d5
    go_wp2_with fail
    clear I c9 HR P HO;obtain⟨q,rfl⟩: ∃wo:World,wo=wc:=⟨_,rfl⟩
    go_cut[6] (λu W=> ∃r:Nat,u=.pointer (some ⟨r,0,none⟩)/\q.heap.size<=r/\Hid (W.heap[r]?=some (.cells #[.int .i64 6,.int .i64 0,.string (L8 ws i'),.slice none 0 0,.int .i64 (J4 ws i' en)] 186 (0,0)))/\Hid (Below q.heap.size q W))
    case first=>
     have G:i'<ws.length:=by
      rcases E0 i' ws.length with h|h
      ·exact h
      ·have:=U.out;unfold O5 at this;rw[C5 h]at this;simp at this;omega
     have r0:=d.out.rd.c0;have r1:=d.out.rd.c1;have r3:=d.out.rd.c3;have hn:=d.out.rd.X5;have hp:=d.out.rd.pos;obtain⟨A0,C,rfl,f⟩:=d.out.rd.row.jJ;obtain⟨y,S⟩: ∃y,ws[i']?=some y:=⟨_,x9 G⟩;obtain⟨g,rfl,Q,-,d1,-⟩:=f i' y S;have HY:Hid (L8 ws i'=y.K0):=qh (by unfold L8;rw[S]);have k0:(0:Int)<=(i':Int):=by omega
     have k1:(i':Int)<(ws.length:Int):=by omega
     have O:=d.out.z1;have c5:=d.out.z2;have c6:=d.out.z3;have c8:=d.out.z0;have L:m<q.heap.size:=by omega
     have k6:g<q.heap.size:=by omega
     clear f S
     go_region_held3 (λW=>W.cell? ⟨m,0,none⟩=some (.slice (some ⟨g,0,none⟩) ws.length C)/\W.cell? ⟨m,1,none⟩=some (.int .i64 i')/\W.cell? ⟨m,3,none⟩=some (.bool false)/\W.cell? ⟨g,i'*3+1,none⟩=some (.string y.K0)/\Below q.heap.size q W)
      (first|(with_reducible exact YJ r0 r1 r3 d1)|(with_reducible assumption)|(with_reducible exact zg8 (by assumption) (x7 _) L L L k6)|(with_reducible exact zec (by assumption) k8 L L L k6)|(with_reducible exact XW (by assumption) (by assumption) L L L k6)|(with_reducible exact XW (by assumption) ((x8 _ _).alloc (x7 _) _) L L L k6))
      (first|(go_at_call 51;refine(zg6 (znC d.out.rd (by assumption))).mono ?_;rintro e w6 ⟨rfl,H⟩;have k8:=zod (by assumption) H;have n0:=zge q H;have n1:=zb9 q H))
     ·rename_i T
      have K:=qh T.2.2.2.2;have B:=qh (A5 w6 (.cells #[.int .i64 6,.int .i64 0,.string y.K0,.slice none 0 0,.int .i64 (J4 ws i' en)] 186));clear T n0 n1 H
      go_wp2_with fail
      go_meet
      case rel=>exact⟨w6.heap.size,rfl,k8,by rw[HY.out];exact B,K⟩
     ·rename_i T
      have K:=qh T.2.2.2.2;have B:=qh (yT (.int .i64 6) (.int .i64 0) (.string y.K0) (.slice none 0 0) (.int .i64 (J4 ws i' en)) ((H.block q.heap.size (zan q _)).trans (A5 q _)));clear T n0 n1 H
      go_wp2_with fail
      go_meet
      case rel=>exact⟨q.heap.size,rfl,x7 _,by rw[HY.out];exact B,K⟩
    case rest=>
     obtain⟨r,rfl,H,B,K⟩:=hcut;have O:=d.out.z1;have c5:=d.out.z2;have c6:=d.out.z3;have c8:=d.out.z0;have G:i'<ws.length:=by
      rcases E0 i' ws.length with h|h
      ·exact h
      ·have:=U.out;unfold O5 at this;rw[C5 h]at this;simp at this;omega
     have hi:i<=i':=HL.out.1;replace d:=qh (d.out.below K.out);replace E:=qh (J7.K7 (F':=λg=>b4<=g/\g≠b4/\g≠F/\g<r) (λg p s=>⟨⟨p.1,p.2.1,p.2.2,by omega⟩,A7 s K.out.size,K.out.block g s⟩) E.out);clear K;have r1:=d.out.rd.c1;have rf:=d.out.rd.fz 1;have e8:=d.out.rd.X5
     go_wp2_with fail
     clear r1 rf;have HS:=qh (I8 wc m 1 (.int .i64 ((i':Int)+1)));have d6:=qh (d.out.rd.zb4 (i'+1) G);replace d:=qh (d.out.L9 (by exact d6.out) HS.out);replace E:=qh (J7.later E.out (some m) HS.out (λg h=>by simp;omega) (λg h=>h));replace B:=qh ((HS.out.block r (I5 B.out) (by simp;omega)).trans B.out);clear HS d6;generalize wc.setCell ⟨m,1,none⟩ _=w2 at d E B|-;refine(H2.out (i'+1) (by omega) w2 false d.out.rd d.out.gl).mono ?_;rintro e X ⟨y,M,N,i3,b3,rfl,hA,hR,hO,Q⟩;have d7:=qh hA;have Z:=qh hO;replace d:=qh (d.out.L9 hR Q);replace E:=qh (J7.later E.out (some m) Q (λg h=>by simp;omega) (λg h=>h));have d8:=I5 B.out;replace B:=qh ((Q.block r d8 (by simp;omega)).trans B.out);have hs7:=Q.size;clear hA hR hO Q
     go_upto_region 8 with(fail)
     have d9:r<X.heap.size:=by omega
     have HM:=qh (A5 X (.cells #[.int .i64 y.I9,.int .i64 y.n,.string y.K0,.slice M y.args.length N,.int .i64 y.pos] 186))
     have V:Hid (J7 (X.alloc (.cells #[.int .i64 y.I9,.int .i64 y.n,.string y.K0,.slice M y.args.length N,.int .i64 y.pos] 186)) (λg=>b4<=g/\g≠b4/\g≠F/\g≠r) (.slice M y.args.length N) y.args):=
      qh (d7.out.K7 λg (p:w2.heap.size<=g) s=>⟨⟨by omega,by omega,by omega,by omega⟩,by simp;omega,C4 X _ s⟩)
     have a9:Hid (J7 (X.alloc (.cells #[.int .i64 y.I9,.int .i64 y.n,.string y.K0,.slice M y.args.length N,.int .i64 y.pos] 186)) (λg=>b4<=g/\g≠b4/\g≠F/\g≠r) (.slice A1 a.args.length c1) a.args):=
      qh (E.out.K7 λg p s=>⟨⟨p.1,p.2.1,p.2.2.1,by omega⟩,by simp;omega,C4 X _ s⟩)
     replace d:=qh (d.out.below (w':=X.alloc (.cells #[.int .i64 y.I9,.int .i64 y.n,.string y.K0,.slice M y.args.length N,.int .i64 y.pos] 186)) ((x8 _ _).alloc (x7 _) _));replace B:=qh ((C4 X (.cells #[.int .i64 y.I9,.int .i64 y.n,.string y.K0,.slice M y.args.length N,.int .i64 y.pos] 186) d9).trans B.out);clear E d7;generalize X.alloc _=D at d B HM a9 V|-;generalize X.heap.size=b7 at HM d9|-;obtain⟨⟨x0,x1,x2,x3,x4⟩,-⟩:=K6 d.out.ex;obtain⟨⟨m0,m1,m2,m3,m4⟩,-⟩:=K6 HM.out;obtain⟨⟨z0,z1,z2,z3,z4⟩,q0,J,q2,q3,q4⟩:=K6 B.out;have a2:=I5 B.out
     go_upto_region 9 with(fail)
     clear x0 x1 x2 x3 x4 m0 m1 m2 m3 m4 z0 z1 z2 z3 z4 q0 J q2 q3 q4;have a0:=qh (I4 (I8 D r 3 (.slice (some ⟨D.heap.size,0,none⟩) 2 2)) (I7 ((x8 _ _).alloc (x7 _) (.cells #[.int .i64 a.I9,.int .i64 a.n,.string a.K0,.slice A1 a.args.length c1,.int .i64 a.pos,.int .i64 y.I9,.int .i64 y.n,.string y.K0,.slice M y.args.length N,.int .i64 y.pos] 186)) (some r)))
     have a1:Hid (((D.setCell ⟨r,3,none⟩ (.slice (some ⟨D.heap.size,0,none⟩) 2 2)).alloc (.cells #[.int .i64 a.I9,.int .i64 a.n,.string a.K0,.slice A1 a.args.length c1,.int .i64 a.pos,.int .i64 y.I9,.int .i64 y.n,.string y.K0,.slice M y.args.length N,.int .i64 y.pos] 186)).heap[r]?=some (.cells #[.int .i64 6,.int .i64 0,.string (L8 ws i'),(.slice (some ⟨D.heap.size,0,none⟩) 2 2),.int .i64 (J4 ws i' en)] 186 (0,0))):=
      qh ((C4 _ _ (by simpa using a2)).trans (by simpa using A6 D r 3 _ _ (.slice (some ⟨D.heap.size,0,none⟩) 2 2) B.out))
     have e0:Hid (((D.setCell ⟨r,3,none⟩ (.slice (some ⟨D.heap.size,0,none⟩) 2 2)).alloc (.cells #[.int .i64 a.I9,.int .i64 a.n,.string a.K0,.slice A1 a.args.length c1,.int .i64 a.pos,.int .i64 y.I9,.int .i64 y.n,.string y.K0,.slice M y.args.length N,.int .i64 y.pos] 186)).heap[D.heap.size]?=some (.cells #[.int .i64 a.I9,.int .i64 a.n,.string a.K0,.slice A1 a.args.length c1,.int .i64 a.pos,.int .i64 y.I9,.int .i64 y.n,.string y.K0,.slice M y.args.length N,.int .i64 y.pos] 186)):=qh (by simpa using A5 (D.setCell ⟨r,3,none⟩ (.slice (some ⟨D.heap.size,0,none⟩) 2 2)) (.cells #[.int .i64 a.I9,.int .i64 a.n,.string a.K0,.slice A1 a.args.length c1,.int .i64 a.pos,.int .i64 y.I9,.int .i64 y.n,.string y.K0,.slice M y.args.length N,.int .i64 y.pos] 186));replace d:=qh (d.out.Zf (k:=r) (by omega) a0.out)
     have l:Hid (J7 ((D.setCell ⟨r,3,none⟩ (.slice (some ⟨D.heap.size,0,none⟩) 2 2)).alloc (.cells #[.int .i64 a.I9,.int .i64 a.n,.string a.K0,.slice A1 a.args.length c1,.int .i64 a.pos,.int .i64 y.I9,.int .i64 y.n,.string y.K0,.slice M y.args.length N,.int .i64 y.pos] 186)) (λg=>b4<=g/\g≠b4/\g≠F) (.slice (some ⟨D.heap.size,0,none⟩) 2 2) [a,y]):=
      qh (zcF a9.out V.out (λg p s=>⟨⟨p.1,p.2.1,p.2.2.1⟩,A7 s a0.out.size,a0.out.block g s (by simp;exact p.2.2.2)⟩) e0.out ⟨by omega,by omega,by omega⟩)
     clear a9 V a0 e0 HM B;generalize((D.setCell ⟨r,3,none⟩ _).alloc _)=w9 at d a1 l|-;generalize D.heap.size=b8 at d a1 l a2|-;obtain⟨⟨z0,z1,z2,z3,z4⟩,-⟩:=K6 a1.out;obtain⟨⟨x0,x1,x2,x3,x4⟩,y0,y1,y2,y3,y4⟩:=K6 d.out.ex
     go_upto_region 10 with(fail)
     clear x0 x1 x2 x3 x4 y0 y1 y2 y3 y4 z0 z1 z2 z3 z4;have e1:=qh (xB w9 F (.int .i64 6) (.int .i64 0) (.string (L8 ws i')) (.slice (some ⟨b8,0,none⟩) 2 2) (.int .i64 (J4 ws i' en)));replace d:=qh (((((d.out.s0 (.int .i64 6)).s1 (.int .i64 0)).s2 (.string (L8 ws i'))).s3 (.slice (some ⟨b8,0,none⟩) 2 2)).s4 (.int .i64 (J4 ws i' en)));replace l:=qh (l.out.later (some F) e1.out (λg h=>by simp;omega) (λg h=>h));clear e1 a1;generalize(((((w9.setCell ⟨F,0,none⟩ _).setCell ⟨F,1,none⟩ _).setCell ⟨F,2,none⟩ _).setCell ⟨F,3,none⟩ _).setCell ⟨F,4,none⟩ _)=wx at d l|-;have e9:i'+1<=i3:=Z.out.1
     by_cases b0:n=3
     ·subst b0
      go_wp2_with fail
      clear c4;obtain⟨q,rfl⟩: ∃wo:World,wo=wx:=⟨_,rfl⟩
      go_cut[105] (λu W=> ∃t:Bool,u=.bool t/\Hid ((O5 ws i3==3)=t)/\Hid (Below q.heap.size q W))
      case first=>
       have r0:=d.out.rd.c0;have r1:=d.out.rd.c1;have r3:=d.out.rd.c3;have hn:=d.out.rd.X5;have hp:=d.out.rd.pos;obtain⟨A0,C,rfl,f⟩:=d.out.rd.row.jJ;have a6:=qh f;clear f
       by_cases G:i3<ws.length
       ·obtain⟨z,S⟩: ∃y,ws[i3]?=some y:=⟨_,x9 G⟩
        obtain⟨g,rfl,Q,-,d1,-⟩:=a6.out i3 z S;obtain⟨t,ht⟩: ∃t,(lv z.K0.data.toList==3)=t:=⟨_,rfl⟩;have k0:(0:Int)<=(i3:Int):=by omega
        have k1:(i3:Int)<(ws.length:Int):=by omega
        have HY:Hid (O5 ws i3=lv z.K0.data.toList):=qh (by unfold O5;rw[S]);have I:=qh ht;have a7:=qh d.out.gl;have J:m<q.heap.size:=d.out.rd.lt;have q2:g<q.heap.size:=by omega
        clear S ht
        go_region_held3 (λW=>W.cell? ⟨m,0,none⟩=some (.slice (some ⟨g,0,none⟩) ws.length C)/\W.cell? ⟨m,1,none⟩=some (.int .i64 i3)/\W.cell? ⟨m,3,none⟩=some (.bool b3)/\W.cell? ⟨g,i3*3+1,none⟩=some (.string z.K0)/\Below q.heap.size q W)
         (first|(with_reducible exact YJ r0 r1 r3 d1)|(with_reducible assumption)|(with_reducible exact XW (by assumption) (by assumption) J J J q2))
         (first|(go_at_call 202;refine(zbx 3 (by decide) (by decide) _ (zeW a7.out (by assumption))).mono ?_;rintro e w5 ⟨⟨g5,rfl,a8⟩,e4⟩)|(go_at_call 201;refine(QQ 3 (by decide) (by decide) g5 z.K0 _ a8 t I.out).mono ?_;rintro e w6 ⟨rfl,rfl⟩))
        rename_i T;have K:=qh T.2.2.2.2;clear T
        go_wp2_with fail
        go_meet
        case rel=>exact⟨t,rfl,qh (by rw[HY.out];exact I.out),K⟩
       ·have HX:Hid (O5 ws i3=0):=qh (by unfold O5;rw[C5 (by omega)])
        go_quiet (fail)
        go_wp2_with fail
        go_meet
        case rel=>exact⟨false,rfl,qh (by rw[HX.out];decide),qh (J6 (x8 _ _) _)⟩
      case rest=>
       obtain⟨t,rfl,I,o⟩:=hcut;replace d:=qh (d.out.below o.out);replace l:=qh (J7.K7 (F':=λg=>b4<=g/\g≠b4/\g≠F) (λg p s=>⟨p,A7 s o.out.size,o.out.block g s⟩) l.out);clear o;cases t with
       |false=>
        obtain⟨⟨z0,z1,z2,z3,z4⟩,q0,J,q2,q3,q4⟩:=K6 d.out.ex;obtain⟨⟨d0,d1,d2,d3,d4⟩,g0,g1,g2,g3,g4⟩:=K6 d.out.zD;have HW:=qh (yT (.int .i64 6) (.int .i64 0) (.string (L8 ws i')) (.slice (some ⟨b8,0,none⟩) 2 2) (.int .i64 (J4 ws i' en)) d.out.zD)
        go_wp2_with fail
        (try simp only[Exit.inBlock,Exit.then])
        refine E9 (F2 rfl _ _ b4 _ _ _ _ rfl HW.out underlying186 rfl zT) rfl ?_;exact Za.qi (x:=Y9 ws en i' a y) d.out l.out (λg h=>⟨by rw[a5.out];exact h.1,h.2.1⟩) (HL.out.zoU U.out Z.out _ (by rw[I.out];simp))
       |true=>
        have r3:=d.out.rd.c3;have rf:=d.out.rd.fz 3
        go_upto_region 13 with(fail)
        clear r3 rf;have HS:=qh (I8 wc m 3 (.bool true));replace d:=qh (d.out.L9 d.out.rd.zgj HS.out);replace l:=qh (l.out.later (some m) HS.out (λg h=>by simp;omega) (λg h=>h));clear HS;generalize wc.setCell ⟨m,3,none⟩ _=wd at d l|-;obtain⟨⟨z0,z1,z2,z3,z4⟩,q0,J,q2,q3,q4⟩:=K6 d.out.ex;obtain⟨⟨d0,d1,d2,d3,d4⟩,g0,g1,g2,g3,g4⟩:=K6 d.out.zD;have HW:=qh (yT (.int .i64 6) (.int .i64 0) (.string (L8 ws i')) (.slice (some ⟨b8,0,none⟩) 2 2) (.int .i64 (J4 ws i' en)) d.out.zD)
        go_wp2_with fail
        (try simp only[Exit.inBlock,Exit.then])
        refine E9 (F2 rfl _ _ b4 _ _ _ _ rfl HW.out underlying186 rfl zT) rfl ?_;exact Za.qi (x:=Y9 ws en i' a y) d.out l.out (λg h=>⟨by rw[a5.out];exact h.1,h.2.1⟩) (HL.out.zoU U.out Z.out _ (by rw[I.out];simp))
     ·have e3:((n:Int)==3)=false:=by simp;omega
      have e5:=qh b0;clear b0
      go_wp2_with fail
      go_roundw
      case rel=>exact⟨Y9 ws en i' a y,some ⟨b8,0,none⟩,2,i3,b3,d,l,qh (HL.out.next e5.out U.out Z.out)⟩
      case measure=>exact c4.out.rd.ziC d.out.rd (by omega) (λ_=>by omega)
end Go.Proofs.YtmngofgminlloaaGreatDoor
namespace Go.Proofs.YtmngofgminlloaaGreatDoor
open Go.RowKit Tw
def De.js{ws}{en:Nat}{q r}(h:De ws en q r): ∀r',De ws en q r'->r=r':=by
 induction h with
 |lvl6 _ l=>intro r' c;cases c<;>first|(apply l;assumption)|contradiction
 |lvl s _ _ a j=>
  intro r' c;cases c with
  |lvl6=>contradiction
  |lvl _ b m=>have e:=a _ b;injection e with d f;subst d;subst f;exact j _ m
  |ziI _ b=>have e:=a _ b;cases e
 |ziI s _ a=>
  intro r' c;cases c with
  |lvl6=>contradiction
  |lvl _ b m=>have e:=a _ b;cases e
  |ziI _ b=>exact a _ b
 |stop k=>intro r' c;cases c<;>first|rfl|contradiction
 |go u k _ _ a j=>
  intro r' c;cases c with
  |stop o=>contradiction
  |go _ _ b m=>have e:=a _ b;injection e with d f;subst d;subst f;exact j _ m
  |goB _ b=>have e:=a _ b;cases e
  |jx=>contradiction
  |JG=>contradiction
 |goB k _ a=>
  intro r' c;cases c with
  |stop o=>contradiction
  |go _ _ b m=>have e:=a _ b;cases e
  |goB _ b=>exact a _ b
  |jx _ b=>have e:=a _ b;cases e
  |JG _ b=>have e:=a _ b;cases e
 |jx k _ t a=>
  intro r' c;cases c with
  |stop o=>contradiction
  |go o=>contradiction
  |goB _ b=>have e:=a _ b;cases e
  |jx _ b=>have e:=a _ b;injection e with d f;subst d;subst f;rfl
  |JG _ b=>have e:=a _ b;injection e with d f;subst d;subst f;contradiction
 |JG k _ t a=>
  intro r' c;cases c with
  |stop o=>contradiction
  |go o=>contradiction
  |goB _ b=>have e:=a _ b;cases e
  |jx _ b=>have e:=a _ b;injection e with d f;subst d;subst f;contradiction
  |JG _ b=>have e:=a _ b;injection e with d f;subst d;subst f;rfl
 |neg k _ l|not k _ l=>
  intro r' c
  cases c<;>first
   |(exfalso;omega)
   |(rename_i b;have e:=l _ b;first|(cases e;done)|(injection e with d f;subst d;subst f;rfl))
 |zgm k _ l|zgo k _ l|zep k _ l=>
  intro r' c
  cases c<;>first
   |(exfalso;omega)
   |(rename_i b;have e:=l _ b;first|(cases e;done)|(injection e with d;subst d;rfl))
   |(rename_i b _;have e:=l _ b;first|(cases e;done)|(injection e with d;subst d;rfl))
 |par k _ i l|zeo k _ i l=>
  intro r' c;cases c with
  |zep _ b=>have e:=l _ b;cases e
  |par _ b g|zeo _ b g=>have e:=l _ b;injection e with d f;subst d;subst f;first|rfl|(rw[i]at g;cases g)
  |_=>exfalso;omega
 |tru k|fls k|num k|QX k=>intro r' c;cases c<;>first|rfl|(exfalso;omega)
 |X0 k p i _ l|XB k p i _ l=>
  intro r' c
  cases c<;>first
   |(exfalso;omega)
   |contradiction
   |(rename_i g _;rw[i]at g;cases g;done)
   |(rename_i g;rw[i]at g;cases g;done)
   |(rename_i b;have e:=l _ b;first|(cases e;done)|(injection e with d f;subst d;subst f;rfl)|(injection e with d;subst d;rfl))
 |Xz k p i=>
  intro r' c
  cases c<;>first
   |rfl
   |(exfalso;omega)
   |contradiction
   |(rename_i g _;rw[i]at g;cases g;done)
 |XA k p=>intro r' c;cases c<;>first|rfl|(exfalso;omega)|contradiction
 |qE k i=>
  intro r' c
  cases c<;>first
   |rfl
   |(exfalso;omega)
   |(rename_i g _;rw[i]at g;cases g;done)
 |call k i _ l|JH k i _ l=>
  intro r' c
  cases c<;>first
   |(exfalso;omega)
   |(rename_i g;rw[i]at g;cases g;done)
   |(rename_i b;have e:=l _ b;first|(cases e;done)|(injection e with d f;subst d;subst f;rfl)|(injection e with d;subst d;rfl))
 |U4 i=>
  intro r' c;cases c<;>first|rfl|(rename_i g _ _;rw[i]at g;cases g;done)|(rename_i g _;rw[i]at g;cases g;done)|(rename_i g _ _ _;rw[i]at g;cases g;done)
 |first i _ _ a j|yY i _ _ a j=>
  intro r' c;cases c with
  |U4 g=>rw[i]at g;cases g
  |first _ b m=>have e:=a _ b;injection e with d f;subst d;subst f;have e:=j _ m;first|(cases e;done)|(injection e with d f;subst d;subst f;rfl)
  |yY _ b m=>have e:=a _ b;injection e with d f;subst d;subst f;have e:=j _ m;first|(cases e;done)|(injection e with d;subst d;rfl)
  |yZ _ b=>have e:=a _ b;cases e
 |yZ i _ a=>
  intro r' c;cases c with
  |U4 g=>rw[i]at g;cases g
  |first _ b m=>have e:=a _ b;cases e
  |yY _ b m=>have e:=a _ b;cases e
  |yZ _ b=>exact a _ b
 |next i n _ _ a j|qY i n _ _ a j=>
  intro r' c;cases c with
  |U4 g=>rw[i]at g;cases g
  |next _ _ b m=>have e:=a _ b;injection e with d f;subst d;subst f;have e:=j _ m;first|(cases e;done)|(injection e with d f;subst d;subst f;rfl)
  |qY _ _ b m=>have e:=a _ b;injection e with d f;subst d;subst f;have e:=j _ m;first|(cases e;done)|(injection e with d;subst d;rfl)
  |Qz _ _ b=>have e:=a _ b;cases e
  |QA _ g=>rw[n]at g;cases g
 |Qz i n _ a=>
  intro r' c;cases c with
  |U4 g=>rw[i]at g;cases g
  |next _ _ b m=>have e:=a _ b;cases e
  |qY _ _ b m=>have e:=a _ b;cases e
  |Qz _ _ b=>exact a _ b
  |QA _ g=>rw[n]at g;cases g
 |QA i n=>
  intro r' c;cases c with
  |U4 g=>rw[i]at g;cases g
  |next _ g=>rw[n]at g;cases g
  |qY _ g=>rw[n]at g;cases g
  |Qz _ g=>rw[n]at g;cases g
  |QA=>rfl
def QY:ByteArray:=⟨#[108,101,116]⟩
def Xq:ByteArray:=⟨#[105,102]⟩
def ji:ByteArray:=⟨#[119,104,105,108,101]⟩
def qr:ByteArray:=⟨#[114,101,116,117,114,110]⟩
def xw:ByteArray:=⟨#[121,105,101,108,100]⟩
def xu:ByteArray:=⟨#[101,108,115,101]⟩
def Xg:ByteArray:=⟨#[102,117,110]⟩
def zaf:ByteArray:=⟨#[105,110,116]⟩
def Xt:ByteArray:=⟨#[98,111,111,108]⟩
def yW:ByteArray:=⟨#[61]⟩
def Qu:ByteArray:=⟨#[59]⟩
def jX:ByteArray:=⟨#[58]⟩
def zbv:ByteArray:=⟨#[123]⟩
def zac:ByteArray:=⟨#[125]⟩
def L7(ws:List Wd)(i:Nat):Nat:=
 if J3 ws i QY then 1 else if J3 ws i Xq then 3 else if J3 ws i ji then 4 else if J3 ws i qr then 5 else if J3 ws i xw then 6
 else if L3 ws i=2/\J3 ws (i+1) yW=true then 2 else 7
def X3(ws:List Wd)(i:Nat):Nat:=
 if L7 ws i=1 then i+3 else if L7 ws i=2 then i+2 else if L7 ws i=7 then i else i+1
def Z4(ws:List Wd)(i:Nat):ByteArray:=
 if L7 ws i=1 then L8 ws (i+1)else if L7 ws i=2 then L8 ws i else L1
inductive Qs where
 |zO (i:Nat)|block (i:Nat)|qj (i:Nat)
inductive Rs where
 |st (s:Sm) (j:Nat)|Zn (l:List Sm) (j:Nat)|J9 (j:Nat)
def Qs.at:Qs->Nat
 |.zO i=>i|.block i=>i|.qj i=>i
inductive Ds(ws:List Wd)(en:Nat):Qs->Rs->Prop
 |zdr {i:Nat}:L7 ws i=1->L3 ws (i+1)≠2->Ds ws en (.zO i) (.J9 (i+1))
 |zdt {i:Nat}:L7 ws i=1->L3 ws (i+1)=2->J3 ws (i+2) yW=false->Ds ws en (.zO i) (.J9 (i+2))
 |XE {i j:Nat}:L7 ws i≠3->L7 ws i≠4->(L7 ws i=1->L3 ws (i+1)=2/\J3 ws (i+2) yW=true)->De ws en (.lvl 1 (X3 ws i)) (.J9 j)->Ds ws en (.zO i) (.J9 j)
 |XF {i j:Nat} {x:Ex}:L7 ws i≠3->L7 ws i≠4->(L7 ws i=1->L3 ws (i+1)=2/\J3 ws (i+2) yW=true)->De ws en (.lvl 1 (X3 ws i)) (.ex x j)->J3 ws j Qu=false->Ds ws en (.zO i) (.J9 j)
 |simp{i j:Nat} {x:Ex}:L7 ws i≠3->L7 ws i≠4->(L7 ws i=1->L3 ws (i+1)=2/\J3 ws (i+2) yW=true)->De ws en (.lvl 1 (X3 ws i)) (.ex x j)->J3 ws j Qu=true->Ds ws en (.zO i) (.st (.mk (L7 ws i) (Z4 ws i) x [] [] (J4 ws i en)) (j+1))
 |Qy {i j:Nat}:L7 ws i=3\/L7 ws i=4->De ws en (.lvl 1 (i+1)) (.J9 j)->Ds ws en (.zO i) (.J9 j)
 |QB {i j j':Nat} {x:Ex}:L7 ws i=3\/L7 ws i=4->De ws en (.lvl 1 (i+1)) (.ex x j)->Ds ws en (.block j) (.J9 j')->Ds ws en (.zO i) (.J9 j')
 |whil {i j j':Nat} {x:Ex} {l:List Sm}:L7 ws i=4->De ws en (.lvl 1 (i+1)) (.ex x j)->Ds ws en (.block j) (.Zn l j')->Ds ws en (.zO i) (.st (.mk 4 L1 x l [] (J4 ws i en)) j')
 |if0 {i j j':Nat} {x:Ex} {l:List Sm}:L7 ws i=3->De ws en (.lvl 1 (i+1)) (.ex x j)->Ds ws en (.block j) (.Zn l j')->J3 ws j' xu=false->Ds ws en (.zO i) (.st (.mk 3 L1 x l [] (J4 ws i en)) j')
 |ifE {i j j' k:Nat} {x:Ex} {l m:List Sm}:L7 ws i=3->De ws en (.lvl 1 (i+1)) (.ex x j)->Ds ws en (.block j) (.Zn l j')->J3 ws j' xu=true->J3 ws (j'+1) Xq=false->Ds ws en (.block (j'+1)) (.Zn m k)->Ds ws en (.zO i) (.st (.mk 3 L1 x l m (J4 ws i en)) k)
 |zes {i j j' k:Nat} {x:Ex} {l:List Sm}:L7 ws i=3->De ws en (.lvl 1 (i+1)) (.ex x j)->Ds ws en (.block j) (.Zn l j')->J3 ws j' xu=true->J3 ws (j'+1) Xq=false->Ds ws en (.block (j'+1)) (.J9 k)->Ds ws en (.zO i) (.J9 k)
 |ifI {i j j' k:Nat} {x:Ex} {l:List Sm} {s:Sm}:L7 ws i=3->De ws en (.lvl 1 (i+1)) (.ex x j)->Ds ws en (.block j) (.Zn l j')->J3 ws j' xu=true->J3 ws (j'+1) Xq=true->Ds ws en (.zO (j'+1)) (.st s k)->Ds ws en (.zO i) (.st (.mk 3 L1 x l [s] (J4 ws i en)) k)
 |zek {i j j' k:Nat} {x:Ex} {l:List Sm}:L7 ws i=3->De ws en (.lvl 1 (i+1)) (.ex x j)->Ds ws en (.block j) (.Zn l j')->J3 ws j' xu=true->J3 ws (j'+1) Xq=true->Ds ws en (.zO (j'+1)) (.J9 k)->Ds ws en (.zO i) (.J9 k)
 |zb0 {i:Nat}:J3 ws i zbv=false->Ds ws en (.block i) (.J9 i)
 |block {i:Nat} {r:Rs}:J3 ws i zbv=true->Ds ws en (.qj (i+1)) r->Ds ws en (.block i) r
 |done {i:Nat}:J3 ws i zac=true->Ds ws en (.qj i) (.Zn [] (i+1))
 |qw {i j j':Nat} {s:Sm} {l:List Sm}:J3 ws i zac=false->Ds ws en (.zO i) (.st s j)->Ds ws en (.qj j) (.Zn l j')->Ds ws en (.qj i) (.Zn (s::l) j')
 |xW {i j j':Nat} {s:Sm}:J3 ws i zac=false->Ds ws en (.zO i) (.st s j)->Ds ws en (.qj j) (.J9 j')->Ds ws en (.qj i) (.J9 j')
 |xV {i j:Nat}:J3 ws i zac=false->Ds ws en (.zO i) (.J9 j)->Ds ws en (.qj i) (.J9 j)
inductive Rt where
 |ok (t:Int)|J9 (j:Nat)
def jV(ws:List Wd)(i:Nat):Rt:=
 if J3 ws i jX then(if J3 ws (i+1) zaf then .ok 1 else if J3 ws (i+1) Xt then .ok 2 else .J9 (i+1))else .J9 i
inductive Rp where
 |ok (J1:List ByteArray) (K4:List Int) (j:Nat)|J9 (j:Nat)
def V9(k i:Nat):Nat:=if k=0 then i else i+1
inductive Dp(ws:List Wd)(en:Nat):Nat->Nat->Rp->Prop
 |U4 {k i:Nat}:J3 ws i N4=true->Dp ws en k i (.ok [] [] (i+1))
 |ZO {k i:Nat}:J3 ws i N4=false->k≠0->J3 ws i U0=false->Dp ws en k i (.J9 i)
 |J2 {k i:Nat}:J3 ws i N4=false->(k≠0->J3 ws i U0=true)->L3 ws (V9 k i)≠2->Dp ws en k i (.J9 (V9 k i))
 |JN {k i j:Nat}:J3 ws i N4=false->(k≠0->J3 ws i U0=true)->L3 ws (V9 k i)=2->jV ws (V9 k i+1)=.J9 j->Dp ws en k i (.J9 j)
 |next {k i j:Nat} {t:Int} {ns:List ByteArray} {ts:List Int}:J3 ws i N4=false->(k≠0->J3 ws i U0=true)->L3 ws (V9 k i)=2->jV ws (V9 k i+1)=.ok t->Dp ws en (k+1) (V9 k i+3) (.ok ns ts j)->Dp ws en k i (.ok (L8 ws (V9 k i)::ns) (t::ts) j)
 |qY {k i j:Nat} {t:Int}:J3 ws i N4=false->(k≠0->J3 ws i U0=true)->L3 ws (V9 k i)=2->jV ws (V9 k i+1)=.ok t->Dp ws en (k+1) (V9 k i+3) (.J9 j)->Dp ws en k i (.J9 j)
inductive Rf where
 |fn (f:Fn) (j:Nat)|J9 (j:Nat)
inductive Df(ws:List Wd)(en:Nat):Nat->Rf->Prop
 |zad {i:Nat}:J3 ws i Xg=false->Df ws en i (.J9 i)
 |QU {i:Nat}:J3 ws i Xg=true->L3 ws (i+1)≠2->Df ws en i (.J9 (i+1))
 |QV {i:Nat}:J3 ws i Xg=true->L3 ws (i+1)=2->J3 ws (i+2) O6=false->Df ws en i (.J9 (i+2))
 |par {i j:Nat}:J3 ws i Xg=true->L3 ws (i+1)=2->J3 ws (i+2) O6=true->Dp ws en 0 (i+3) (.J9 j)->Df ws en i (.J9 j)
 |JN {i j k:Nat} {ns:List ByteArray} {ts:List Int}:J3 ws i Xg=true->L3 ws (i+1)=2->J3 ws (i+2) O6=true->Dp ws en 0 (i+3) (.ok ns ts j)->jV ws j=.J9 k->Df ws en i (.J9 k)
 |J0 {i j k:Nat} {t:Int} {ns:List ByteArray} {ts:List Int}:J3 ws i Xg=true->L3 ws (i+1)=2->J3 ws (i+2) O6=true->Dp ws en 0 (i+3) (.ok ns ts j)->jV ws j=.ok t->Ds ws en (.block (j+2)) (.J9 k)->Df ws en i (.J9 k)
 |fn {i j k:Nat} {t:Int} {ns:List ByteArray} {ts:List Int} {l:List Sm}:J3 ws i Xg=true->L3 ws (i+1)=2->J3 ws (i+2) O6=true->Dp ws en 0 (i+3) (.ok ns ts j)->jV ws j=.ok t->Ds ws en (.block (j+2)) (.Zn l k)->
  Df ws en i (.fn {J2:=L8 ws (i+1),J1:=ns,K4:=ts,out:=t,J0:=l,pos:=J4 ws i en} k)
inductive Ru where
 |xL (l:List Fn)|J9 (j:Nat)
inductive Du(ws:List Wd)(en:Nat):Nat->Ru->Prop
 |done {i:Nat}:ws.length<=i->Du ws en i (.xL [])
 |qw {i j:Nat} {f:Fn} {l:List Fn}:i<ws.length->Df ws en i (.fn f j)->Du ws en j (.xL l)->Du ws en i (.xL (f::l))
 |xW {i j k:Nat} {f:Fn}:i<ws.length->Df ws en i (.fn f j)->Du ws en j (.J9 k)->Du ws en i (.J9 k)
 |xV {i j:Nat}:i<ws.length->Df ws en i (.J9 j)->Du ws en i (.J9 j)
end Go.Proofs.YtmngofgminlloaaGreatDoor
namespace Go.Proofs.YtmngofgminlloaaGreatDoor
open Go.Proofs.Tryz
open Go.RowKit Tw
theorem J5{w:World}{b t:Nat}{u0 u1 u2 u3 u4 u5 u6 u7 u8 u9}(h:w.heap[b]?=some (.cells #[u0,u1,u2,u3,u4,u5,u6,u7,u8,u9] t (0,0))):
 (w.cell? ⟨b,0,none⟩=some u0/\w.cell? ⟨b,1,none⟩=some u1/\w.cell? ⟨b,2,none⟩=some u2/\w.cell? ⟨b,3,none⟩=some u3/\w.cell? ⟨b,4,none⟩=some u4/\w.cell? ⟨b,5,none⟩=some u5/\w.cell? ⟨b,6,none⟩=some u6/\w.cell? ⟨b,7,none⟩=some u7/\w.cell? ⟨b,8,none⟩=some u8/\w.cell? ⟨b,9,none⟩=some u9)/\
 w.frozen? ⟨b,0,none⟩=false/\w.frozen? ⟨b,1,none⟩=false/\w.frozen? ⟨b,2,none⟩=false/\w.frozen? ⟨b,3,none⟩=false/\w.frozen? ⟨b,4,none⟩=false/\w.frozen? ⟨b,5,none⟩=false/\w.frozen? ⟨b,6,none⟩=false/\w.frozen? ⟨b,7,none⟩=false/\w.frozen? ⟨b,8,none⟩=false/\w.frozen? ⟨b,9,none⟩=false:=
 ⟨⟨x6 h 0,x6 h 1,x6 h 2,x6 h 3,x6 h 4,x6 h 5,x6 h 6,x6 h 7,x6 h 8,x6 h 9⟩,B4 h 0,B4 h 1,B4 h 2,B4 h 3,B4 h 4,B4 h 5,B4 h 6,B4 h 7,B4 h 8,B4 h 9⟩
theorem Zr{w:World}{b t:Nat}{u0 u1 u2 u3 u4 u5 u6 u7 u8 u9}(a c d e f g j k l m:Value)(h:w.heap[b]?=some (.cells #[u0,u1,u2,u3,u4,u5,u6,u7,u8,u9] t (0,0))):
 ((((((((((w.setCell ⟨b,0,none⟩ a).setCell ⟨b,1,none⟩ c).setCell ⟨b,2,none⟩ d).setCell ⟨b,3,none⟩ e).setCell ⟨b,4,none⟩ f).setCell ⟨b,5,none⟩ g).setCell ⟨b,6,none⟩ j).setCell ⟨b,7,none⟩ k).setCell ⟨b,8,none⟩ l).setCell ⟨b,9,none⟩ m).heap[b]?=some (.cells #[a,c,d,e,f,g,j,k,l,m] t (0,0)):=by
 have n:=A6 _ b 0 _ _ a h;have o:=A6 _ b 1 _ _ c n;have p:=A6 _ b 2 _ _ d o;have q:=A6 _ b 3 _ _ e p;have r:=A6 _ b 4 _ _ f q;have s:=A6 _ b 5 _ _ g r;have u:=A6 _ b 6 _ _ j s;have x:=A6 _ b 7 _ _ k u;have y:=A6 _ b 8 _ _ l x;have z:=A6 _ b 9 _ _ m y;simpa using z
theorem ze9(w:World)(b:Nat)(a c d e f g h j k l):w.grownBy ((((((((((w.setCell ⟨b,0,none⟩ a).setCell ⟨b,1,none⟩ c).setCell ⟨b,2,none⟩ d).setCell ⟨b,3,none⟩ e).setCell ⟨b,4,none⟩ f).setCell ⟨b,5,none⟩ g).setCell ⟨b,6,none⟩ h).setCell ⟨b,7,none⟩ j).setCell ⟨b,8,none⟩ k).setCell ⟨b,9,none⟩ l) (some b):=
 I4 (I4 (I4 (I4 (I4 (I4 (I4 (I4 (I4 (I8 _ _ _ _) (I8 _ _ _ _)) (I8 _ _ _ _)) (I8 _ _ _ _)) (I8 _ _ _ _)) (I8 _ _ _ _)) (I8 _ _ _ _)) (I8 _ _ _ _)) (I8 _ _ _ _)) (I8 _ _ _ _)
theorem xA:(Tryz.prog.info? 188).map (·.size)=some 10:=by kernel_rfl
structure jW(w0 w:World)(rb b0 b1:Nat)(v:Value)(ws:List Wd)(i en:Nat)(b:Bool)(u0 u1 u2 u3 u4 u5 u6 u7 u8 u9:Value):Prop where
 rd:Rd w rb v ws i en b
 zD:w.heap[b0]?=some (.cells #[.int .i64 0,.string ⟨#[]⟩,.int .i64 0,.int .i64 0,.string ⟨#[]⟩,.slice none 0 0,.int .i64 0,.slice none 0 0,.slice none 0 0,.int .i64 0] 188 (0,0))
 ex:w.heap[b1]?=some (.cells #[u0,u1,u2,u3,u4,u5,u6,u7,u8,u9] 188 (0,0))
 gr:w0.grownBy w (some rb)
 gl:O4 w
 r0:10<rb
 z0:rb<w0.heap.size
 z1:w0.heap.size<=b0
 z2:b0<b1
 z3:b1<w.heap.size
section
variable {w0 w w':World}{rb b0 b1:Nat}{v:Value}{ws:List Wd}{i en:Nat}{b:Bool}{u0 u1 u2 u3 u4 u5 u6 u7 u8 u9:Value}
theorem jW.L9{c:Nat}{d:Bool}(h:jW w0 w rb b0 b1 v ws i en b u0 u1 u2 u3 u4 u5 u6 u7 u8 u9)(f:Rd w' rb v ws c en d)(a:w.grownBy w' (some rb)):jW w0 w' rb b0 b1 v ws c en d u0 u1 u2 u3 u4 u5 u6 u7 u8 u9:=by
 have g:=h.z0;have j:=h.z1;have k:=h.z2;have e:=h.z3;exact⟨f,(a.block b0 (by omega) (by simp;omega)).trans h.zD,(a.block b1 e (by simp;omega)).trans h.ex,I4 h.gr a,h.gl.of a h.r0,h.r0,g,j,k,A7 e a.size⟩
theorem jW.below(h:jW w0 w rb b0 b1 v ws i en b u0 u1 u2 u3 u4 u5 u6 u7 u8 u9)(a:Below w.heap.size w w'):jW w0 w' rb b0 b1 v ws i en b u0 u1 u2 u3 u4 u5 u6 u7 u8 u9:=
 h.L9 (h.rd.K7 a) (I7 a _)
theorem jW.set{c d e f j k l m n v9}(h:jW w0 w rb b0 b1 v ws i en b u0 u1 u2 u3 u4 u5 u6 u7 u8 u9)(a:w.grownBy w' (some b1))(o:w'.heap[b1]?=some (.cells #[c,d,e,f,j,k,l,m,n,v9] 188 (0,0))):jW w0 w' rb b0 b1 v ws i en b c d e f j k l m n v9:=by
 have p:=h.z0;have q:=h.z1;have r:=h.z2;have s:=h.z3;have u:=h.gr.size;exact⟨h.rd.grown a (by omega),(a.block b0 (by omega) (by simp;omega)).trans h.zD,o,P5 h.gr a (by omega),h.gl.Z3 a.size (λg t=>a.block g (by have:=h.r0;omega) (by simp;have:=h.r0;omega)),h.r0,p,q,r,A7 s a.size⟩
theorem jW.s0(h:jW w0 w rb b0 b1 v ws i en b u0 u1 u2 u3 u4 u5 u6 u7 u8 u9)(x):jW w0 (w.setCell ⟨b1,0,none⟩ x) rb b0 b1 v ws i en b x u1 u2 u3 u4 u5 u6 u7 u8 u9:=h.set (I8 _ _ _ _) (by simpa using A6 w b1 0 _ _ x h.ex)
theorem jW.s1(h:jW w0 w rb b0 b1 v ws i en b u0 u1 u2 u3 u4 u5 u6 u7 u8 u9)(x):jW w0 (w.setCell ⟨b1,1,none⟩ x) rb b0 b1 v ws i en b u0 x u2 u3 u4 u5 u6 u7 u8 u9:=h.set (I8 _ _ _ _) (by simpa using A6 w b1 1 _ _ x h.ex)
theorem jW.s2(h:jW w0 w rb b0 b1 v ws i en b u0 u1 u2 u3 u4 u5 u6 u7 u8 u9)(x):jW w0 (w.setCell ⟨b1,2,none⟩ x) rb b0 b1 v ws i en b u0 u1 x u3 u4 u5 u6 u7 u8 u9:=h.set (I8 _ _ _ _) (by simpa using A6 w b1 2 _ _ x h.ex)
theorem jW.s3(h:jW w0 w rb b0 b1 v ws i en b u0 u1 u2 u3 u4 u5 u6 u7 u8 u9)(x):jW w0 (w.setCell ⟨b1,3,none⟩ x) rb b0 b1 v ws i en b u0 u1 u2 x u4 u5 u6 u7 u8 u9:=h.set (I8 _ _ _ _) (by simpa using A6 w b1 3 _ _ x h.ex)
theorem jW.s4(h:jW w0 w rb b0 b1 v ws i en b u0 u1 u2 u3 u4 u5 u6 u7 u8 u9)(x):jW w0 (w.setCell ⟨b1,4,none⟩ x) rb b0 b1 v ws i en b u0 u1 u2 u3 x u5 u6 u7 u8 u9:=h.set (I8 _ _ _ _) (by simpa using A6 w b1 4 _ _ x h.ex)
theorem jW.s5(h:jW w0 w rb b0 b1 v ws i en b u0 u1 u2 u3 u4 u5 u6 u7 u8 u9)(x):jW w0 (w.setCell ⟨b1,5,none⟩ x) rb b0 b1 v ws i en b u0 u1 u2 u3 u4 x u6 u7 u8 u9:=h.set (I8 _ _ _ _) (by simpa using A6 w b1 5 _ _ x h.ex)
theorem jW.s6(h:jW w0 w rb b0 b1 v ws i en b u0 u1 u2 u3 u4 u5 u6 u7 u8 u9)(x):jW w0 (w.setCell ⟨b1,6,none⟩ x) rb b0 b1 v ws i en b u0 u1 u2 u3 u4 u5 x u7 u8 u9:=h.set (I8 _ _ _ _) (by simpa using A6 w b1 6 _ _ x h.ex)
theorem jW.s7(h:jW w0 w rb b0 b1 v ws i en b u0 u1 u2 u3 u4 u5 u6 u7 u8 u9)(x):jW w0 (w.setCell ⟨b1,7,none⟩ x) rb b0 b1 v ws i en b u0 u1 u2 u3 u4 u5 u6 x u8 u9:=h.set (I8 _ _ _ _) (by simpa using A6 w b1 7 _ _ x h.ex)
theorem jW.s8(h:jW w0 w rb b0 b1 v ws i en b u0 u1 u2 u3 u4 u5 u6 u7 u8 u9)(x):jW w0 (w.setCell ⟨b1,8,none⟩ x) rb b0 b1 v ws i en b u0 u1 u2 u3 u4 u5 u6 u7 x u9:=h.set (I8 _ _ _ _) (by simpa using A6 w b1 8 _ _ x h.ex)
theorem jW.start(c:Rd w rb v ws i en b)(d:O4 w)(e:10<rb)(f:w0.grownBy w (some rb))(g:rb<w0.heap.size)(h:w0.heap.size<=b0)(a:b0<w.heap.size)
 (j:w.heap[b0]?=some (.cells #[.int .i64 0,.string ⟨#[]⟩,.int .i64 0,.int .i64 0,.string ⟨#[]⟩,.slice none 0 0,.int .i64 0,.slice none 0 0,.slice none 0 0,.int .i64 0] 188 (0,0))) (u0 u1 u2 u3 u4 u5 u6 u7 u8 u9:Value):
 jW w0 (w.alloc (.cells #[u0,u1,u2,u3,u4,u5,u6,u7,u8,u9] 188)) rb b0 w.heap.size v ws i en b u0 u1 u2 u3 u4 u5 u6 u7 u8 u9:=
 ⟨c.K7 ((x8 _ _).alloc (x7 _) _),(C4 w _ a).trans j,A5 w _,I4 f (I7 ((x8 _ _).alloc (x7 _) _) _),d.to ((x8 _ _).alloc (x7 _) _),e,g,h,a,by simp⟩
end
def zaC(ws:List Wd)(en i:Nat)(b:Bool)(s:Sm)(a:Nat)(c:Bool):Prop:=
 i<=a/\(b=true->c=true/\a=i)/\(b=false->c=false->i<a/\Ds ws en (.zO i) (.st s a))/\(b=false->c=true->Ds ws en (.zO i) (.J9 a))
def zaw(ws:List Wd)(en i:Nat)(b:Bool)(l:List Sm)(a:Nat)(c:Bool):Prop:=
 i<=a/\(b=true->c=true/\a=i)/\(b=false->c=false->i<a/\Ds ws en (.block i) (.Zn l a))/\(b=false->c=true->Ds ws en (.block i) (.J9 a))
def zoB(w:World)(rb:Nat)(v:Value)(ws:List Wd)(en i:Nat)(b:Bool)(e:Ending)(w':World):Prop:=
 ∃s c d f h j k l m,e=.returned (.agg #[.int .i64 s.I9,.string s.J2,.int .i64 s.a.I9,.int .i64 s.a.n,.string s.a.K0,.slice c s.a.args.length d,.int .i64 s.a.pos,.slice f s.J0.length h,.slice j s.M9.length k,.int .i64 s.pos])/\J7 w' (λg=>w.heap.size<=g) (.slice c s.a.args.length d) s.a.args/\K9 w' (λg=>w.heap.size<=g) (.slice f s.J0.length h) s.J0/\K9 w' (λg=>w.heap.size<=g) (.slice j s.M9.length k) s.M9/\
  Rd w' rb v ws l en m/\zaC ws en i b s l m/\w.grownBy w' (some rb)
def zcg(rb:Nat)(v:Value)(ws:List Wd)(en i:Nat):Prop:=
 ∀(w:World)(b:Bool),Rd w rb v ws i en b->O4 w->Calls prog 108 #[.pointer (some ⟨rb,0,none⟩)] w λe w'=>zoB w rb v ws en i b e w'
def YI(rb:Nat)(v:Value)(ws:List Wd)(en i:Nat):Prop:=
 ∀(w:World)(b:Bool),Rd w rb v ws i en b->O4 w->Calls prog 56 #[.pointer (some ⟨rb,0,none⟩)] w λe w'=>
  ∃l A c a d,e=.returned (.slice A l.length c)/\K9 w' (λg=>w.heap.size<=g) (.slice A l.length c) l/\Rd w' rb v ws a en d/\w.grownBy w' (some rb)/\zaw ws en i b l a d
theorem K9.later{w w'}{F F':Nat->Prop}{v l}(h:K9 w F v l)(row)(a:w.grownBy w' row)(f: ∀g,F g->row≠some g)(j: ∀g,F g->F' g):K9 w' F' v l:=
 h.K7 λg c d=>⟨j g c,A7 d a.size,a.block g d (λe=>f g c e.symm)⟩
theorem jW.qi{w0 w:World}{rb b0 b1:Nat}{v:Value}{ws:List Wd}{i m en:Nat}{b o:Bool}{s:Sm}{Aa c d:Option Addr}{ca f j:Nat}{F:Nat->Prop}
 (h:jW w0 w rb b0 b1 v ws m en o (.int .i64 s.I9) (.string s.J2) (.int .i64 s.a.I9) (.int .i64 s.a.n) (.string s.a.K0) (.slice Aa s.a.args.length ca) (.int .i64 s.a.pos) (.slice c s.J0.length f) (.slice d s.M9.length j) (.int .i64 s.pos)) (p:J7 w F (.slice Aa s.a.args.length ca) s.a.args) (q:K9 w F (.slice c s.J0.length f) s.J0) (r:K9 w F (.slice d s.M9.length j) s.M9) (k: ∀g,F g->w0.heap.size<=g/\g≠b0) (t:zaC ws en i b s m o):
 zoB w0 rb v ws en i b (.returned (.agg #[.int .i64 s.I9,.string s.J2,.int .i64 s.a.I9,.int .i64 s.a.n,.string s.a.K0,.slice Aa s.a.args.length ca,.int .i64 s.a.pos,.slice c s.J0.length f,.slice d s.M9.length j,.int .i64 s.pos]))
  ((((((((((w.setCell ⟨b0,0,none⟩ (.int .i64 s.I9)).setCell ⟨b0,1,none⟩ (.string s.J2)).setCell ⟨b0,2,none⟩ (.int .i64 s.a.I9)).setCell ⟨b0,3,none⟩ (.int .i64 s.a.n)).setCell ⟨b0,4,none⟩ (.string s.a.K0)).setCell ⟨b0,5,none⟩ (.slice Aa s.a.args.length ca)).setCell ⟨b0,6,none⟩ (.int .i64 s.a.pos)).setCell ⟨b0,7,none⟩ (.slice c s.J0.length f)).setCell ⟨b0,8,none⟩ (.slice d s.M9.length j)).setCell ⟨b0,9,none⟩ (.int .i64 s.pos)):=by
 have l:=ze9 w b0 (.int .i64 s.I9) (.string s.J2) (.int .i64 s.a.I9) (.int .i64 s.a.n) (.string s.a.K0) (.slice Aa s.a.args.length ca) (.int .i64 s.a.pos) (.slice c s.J0.length f) (.slice d s.M9.length j) (.int .i64 s.pos);have x:=h.z0;have u:=h.z1;exact⟨s,Aa,ca,c,f,d,j,m,o,rfl,p.later _ l (λg h=>by simp;exact λe=>(k g h).2 e.symm) (λg h=>(k g h).1),q.later _ l (λg h=>by simp;exact λe=>(k g h).2 e.symm) (λg h=>(k g h).1),r.later _ l (λg h=>by simp;exact λe=>(k g h).2 e.symm) (λg h=>(k g h).1),h.rd.grown l (by omega),t,P5 h.gr l u⟩
end Go.Proofs.YtmngofgminlloaaGreatDoor
namespace Go.Proofs.YtmngofgminlloaaGreatDoor
open Go.RowKit Tw
def zgD(ws:List Wd)(i:Nat)(b:Bool)(kd a:Nat):Prop:=
 (b=false->kd=L7 ws i)/\(b=true->kd=2\/kd=7)/\a=(if kd=2\/kd=7 then i else i+1)
def ziq(ws:List Wd)(kd a:Nat)(b:Bool)(nm:ByteArray)(i3:Nat)(b3:Bool):Prop:=
 (kd<=2/\ ∃c d,yl ws (2:Nat) a b nm c d/\Ze ws yW c d i3 b3)\/(2<kd/\nm=L1/\i3=a/\b3=b)
structure zhq(ws:List Wd)(en i:Nat)(b:Bool)(kd:Nat)(nm:ByteArray)(i3:Nat)(b3:Bool):Prop where
 le:i<=i3
 bt:b=true->b3=true/\i3=i
 ok:b=false->b3=false->kd=L7 ws i/\i3=X3 ws i/\nm=Z4 ws i/\(L7 ws i=1->L3 ws (i+1)=2/\J3 ws (i+2) yW=true)
 J9:b=false->b3=true->Ds ws en (.zO i) (.J9 i3)
section
variable {ws:List Wd}{en i:Nat}{b:Bool}
theorem zit(ws)(i:Nat):1<=L7 ws i/\L7 ws i<=7:=by
 unfold L7;repeat' (first|(constructor<;>omega)|split)
theorem zfI(h:L7 ws i=2):L3 ws i=2/\J3 ws (i+1) yW=true:=by
 unfold L7 at h
 repeat' (first|(exfalso;omega)|(split at h))
 assumption
theorem zgD.J2{kd j i3:Nat}{b3:Bool}{nm:ByteArray}(a:zgD ws i b kd j)(n:ziq ws kd j b nm i3 b3):zhq ws en i b kd nm i3 b3:=by
 obtain⟨q,r,c⟩:=a;cases b with
 |true=>
  rcases r rfl with rfl|rfl
  ·simp at c;subst c
   rcases n with⟨_,t,u,k,g⟩|⟨h,_⟩
   ·rcases Y8 (by decide) k with⟨e,_⟩|⟨e,_⟩|⟨_,rfl,rfl,rfl⟩
    ·cases e
    ·cases e
    ·rcases O9 g with⟨e,_⟩|⟨e,_⟩|⟨_,rfl,rfl⟩
     ·cases e
     ·cases e
     ·exact⟨x7 _,λ_=>⟨rfl,rfl⟩,by simp,by simp⟩
   ·omega
  ·simp at c;subst c
   rcases n with⟨h,_⟩|⟨_,rfl,rfl,rfl⟩
   ·omega
   ·exact⟨x7 _,λ_=>⟨rfl,rfl⟩,by simp,by simp⟩
 |false=>
  have v:=q rfl;have w:=zit ws i
  rcases n with⟨h,t,u,k,g⟩|⟨h,rfl,rfl,rfl⟩
  ·obtain y|z:kd=1\/kd=2:=by omega
   ·have d:L7 ws i=1:=by omega
    have o:j=i+1:=by rw[c,y];simp
    subst o
    rcases Y8 (by decide) k with⟨_,a,rfl,rfl,rfl⟩|⟨_,a,rfl,rfl,rfl⟩|⟨e,_⟩
    ·rcases O9 g with⟨_,f,rfl,rfl⟩|⟨_,f,rfl,rfl⟩|⟨e,_⟩
     ·exact⟨by omega,by simp,λ_ _=>⟨by omega,by unfold X3;rw[C8 d],by unfold Z4;rw[C8 d],λ_=>⟨a,f⟩⟩,by simp⟩
     ·exact⟨by omega,by simp,by simp,λ_ _=>.zdt d a f⟩
     ·cases e
    ·rcases O9 g with⟨e,_⟩|⟨e,_⟩|⟨_,rfl,rfl⟩
     ·cases e
     ·cases e
     ·exact⟨by omega,by simp,by simp,λ_ _=>.zdr d a⟩
    ·cases e
   ·have d:L7 ws i=2:=by omega
    obtain⟨A,B⟩:=zfI d;have o:j=i:=by rw[c,z];simp
    subst o
    rcases Y8 (by decide) k with⟨_,a,rfl,rfl,rfl⟩|⟨_,a,_⟩|⟨e,_⟩
    ·rcases O9 g with⟨_,f,rfl,rfl⟩|⟨_,f,_⟩|⟨e,_⟩
     ·exact⟨by omega,by simp,λ_ _=>⟨by omega,by unfold X3;rw[B5 (by omega),C8 d],by unfold Z4;rw[B5 (by omega),C8 d],λe=>by omega⟩,by simp⟩
     ·rw[B]at f;cases f
     ·cases e
    ·exact H9 A a
    ·cases e
  ·refine⟨?_,by simp,λ_ _=>⟨v,?_,?_,λe=>by omega⟩,by simp⟩
   ·rw[c];split<;>omega
   ·unfold X3
    rw[B5 (by omega),B5 (by omega),c]
    by_cases p:L7 ws i=7
    ·rw[C8 p,C8 (by omega)]
    ·rw[B5 p,B5 (by omega)]
   ·unfold Z4;rw[B5 (by omega),B5 (by omega)]
variable {kd i3 i4 i5 i6:Nat}{nm:ByteArray}{b3 b4 b5 b6:Bool}{x:Ex}{l m:List Sm}{s:Sm}
theorem zfA(c:zhq ws en i b kd nm i3 b3)(f:kd≠3)(g:kd≠4)(a:jn ws en (.lvl 1 i3) b3 x i4 b4)(d:Ze ws Qu i4 b4 i5 b5):zaC ws en i b (.mk kd nm x [] [] (J4 ws i en)) i5 b5:=by
 have j:=c.le;have p:=a.1;simp only[Qe.at]at p;cases b with
 |true=>
  obtain⟨rfl,rfl⟩:=c.bt rfl;obtain⟨rfl,h⟩:=a.2.1 rfl;simp only[Qe.at]at h;subst h
  rcases O9 d with⟨e,_⟩|⟨e,_⟩|⟨_,rfl,rfl⟩
  ·cases e
  ·cases e
  ·exact⟨x7 _,λ_=>⟨rfl,rfl⟩,by simp,by simp⟩
 |false=>
  cases b3 with
  |true=>
   obtain⟨rfl,h⟩:=a.2.1 rfl;simp only[Qe.at]at h;subst h
   rcases O9 d with⟨e,_⟩|⟨e,_⟩|⟨_,rfl,rfl⟩
   ·cases e
   ·cases e
   ·exact⟨j,by simp,by simp,λ_ _=>c.J9 rfl rfl⟩
  |false=>
   obtain⟨rfl,rfl,rfl,k⟩:=c.ok rfl rfl;cases b4 with
   |true=>
    rcases O9 d with⟨e,_⟩|⟨e,_⟩|⟨_,rfl,rfl⟩
    ·cases e
    ·cases e
    ·exact⟨by omega,by simp,by simp,λ_ _=>.XE f g k (a.2.2.2 rfl rfl)⟩
   |false=>
    have o:=(a.2.2.1 rfl rfl).2
    rcases O9 d with⟨_,n,rfl,rfl⟩|⟨_,n,rfl,rfl⟩|⟨e,_⟩
    ·exact⟨by omega,by simp,λ_ _=>⟨by omega,.simp f g k o n⟩,by simp⟩
    ·exact⟨by omega,by simp,by simp,λ_ _=>.XF f g k o n⟩
    ·cases e
theorem zjd(c:zhq ws en i false kd nm i3 b3)(h:ziq ws kd (i+1) false nm i3 b3)(d:kd=3\/kd=4):L7 ws i=kd/\i3=i+1/\b3=false/\nm=L1:=by
 rcases h with⟨h,_⟩|⟨_,e,f,a⟩
 ·omega
 ·exact⟨(c.ok rfl a).1.symm,f,a,e⟩
theorem ZT(a:L7 ws i=3\/L7 ws i=4)(d:jn ws en (.lvl 1 (i+1)) false x i4 b4)(c:zaw ws en i4 b4 l i5 b5):
 (b5=true->zaC ws en i false s i5 true)/\(b5=false->b4=false/\De ws en (.lvl 1 (i+1)) (.ex x i4)/\Ds ws en (.block i4) (.Zn l i5)/\i<i5):=by
 have g:=d.1;simp only[Qe.at]at g;have h:=c.1;cases b4 with
 |true=>
  obtain⟨rfl,rfl⟩:=c.2.1 rfl;exact⟨λ_=>⟨by omega,by simp,by simp,λ_ _=>.Qy a (d.2.2.2 rfl rfl)⟩,by simp⟩
 |false=>
  have f:=(d.2.2.1 rfl rfl).2;exact⟨λe=>⟨by omega,by simp,by simp,λ_ _=>.QB a f (c.2.2.2 rfl e)⟩,λe=>⟨rfl,f,(c.2.2.1 rfl e).2,by omega⟩⟩
theorem zdY(a:L7 ws i=4)(c:jn ws en (.lvl 1 (i+1)) false x i4 b4)(d:zaw ws en i4 b4 l i5 b5):zaC ws en i false (.mk 4 L1 x l [] (J4 ws i en)) i5 b5:=by
 obtain⟨e,f⟩:=ZT (s:=.mk 4 L1 x l [] (J4 ws i en)) (.inr a) c d;cases b5 with
 |true=>exact e rfl
 |false=>
  obtain⟨_,g,h,j⟩:=f rfl;exact⟨by omega,by simp,λ_ _=>⟨j,.whil a g h⟩,by simp⟩
theorem zgI(a:L7 ws i=3)(c:jn ws en (.lvl 1 (i+1)) false x i4 b4)(d:zaw ws en i4 b4 l i5 b5)(e:U8 ws i5 b5 xu=false):zaC ws en i false (.mk 3 L1 x l [] (J4 ws i en)) i5 b5:=by
 obtain⟨f,g⟩:=ZT (s:=.mk 3 L1 x l [] (J4 ws i en)) (.inl a) c d;cases b5 with
 |true=>exact f rfl
 |false=>
  obtain⟨_,h,j,k⟩:=g rfl;exact⟨by omega,by simp,λ_ _=>⟨k,.if0 a h j (M7 e)⟩,by simp⟩
theorem zh6(a:L7 ws i=3)(h:jn ws en (.lvl 1 (i+1)) false x i4 b4)(j:zaw ws en i4 b4 l i5 b5)(k:U8 ws i5 b5 xu=true)(hi:J3 ws (i5+1) Xq=true)(c:zaC ws en (i5+1) false s i6 b6):zaC ws en i false (.mk 3 L1 x l [s] (J4 ws i en)) i6 b6:=by
 obtain⟨rfl,d⟩:=O3 k;obtain⟨_,f,g,n⟩:=(ZT (s:=s) (.inl a) h j).2 rfl;have o:=c.1;exact⟨by omega,by simp,λ_ e=>⟨by omega,.ifI a f g d hi (c.2.2.1 rfl e).2⟩,λ_ e=>.zek a f g d hi (c.2.2.2 rfl e)⟩
theorem zib(a:L7 ws i=3)(h:jn ws en (.lvl 1 (i+1)) false x i4 b4)(j:zaw ws en i4 b4 l i5 b5)(k:U8 ws i5 b5 xu=true)(hi:J3 ws (i5+1) Xq=false)(c:zaw ws en (i5+1) false m i6 b6):zaC ws en i false (.mk 3 L1 x l m (J4 ws i en)) i6 b6:=by
 obtain⟨rfl,d⟩:=O3 k;obtain⟨_,f,g,n⟩:=(ZT (s:=.mk 0 L1 x [] [] 0) (.inl a) h j).2 rfl;have o:=c.1;exact⟨by omega,by simp,λ_ e=>⟨by omega,.ifE a f g d hi (c.2.2.1 rfl e).2⟩,λ_ e=>.zes a f g d hi (c.2.2.2 rfl e)⟩
end
theorem za1{w W}{c F:Nat->Prop}{s e f h}{n b1 cap T:Nat}(t:J7 w c e s.a.args)(u:K9 w c f s.J0)(v:K9 w c h s.M9)(j:w.grownBy W (some b1))(d: ∀g,c g->g≠b1/\F g)(y:W.heap.size=n)(k:F n):
 K9 (W.alloc (.cells #[.int .i64 s.I9,.string s.J2,.int .i64 s.a.I9,.int .i64 s.a.n,.string s.a.K0,e,.int .i64 s.a.pos,f,h,.int .i64 s.pos] T)) F (.slice (some ⟨n,0,none⟩) 1 cap) [s]:=by
 subst y;have o:Jp c F w (W.alloc (.cells #[.int .i64 s.I9,.string s.J2,.int .i64 s.a.I9,.int .i64 s.a.n,.string s.a.K0,e,.int .i64 s.a.pos,f,h,.int .i64 s.pos] T)):=λg p q=>⟨(d g p).2,by have:=j.size;simp;omega,by
  rw[C4 W _ (A7 q j.size)];exact j.block g q (by simp;exact(d g p).1)⟩
 refine K9.JK [(s,e,f,h)] _ rfl (A5 W _) k λa r=>?_
 simp at r;subst r;exact⟨t.K7 o,u.K7 o,v.K7 o⟩
end Go.Proofs.YtmngofgminlloaaGreatDoor
