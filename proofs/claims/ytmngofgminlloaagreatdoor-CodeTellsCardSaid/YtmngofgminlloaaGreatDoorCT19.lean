/- Merged. -/
import Derived.Test.YtmngofgminlloaaGreatDoorCT18
set_option linter.all false
set_option maxHeartbeats 8000000
set_option maxRecDepth 100000
namespace Go.Proofs.YtmngofgminlloaaGreatDoor
open Go.Proofs.Tryz
open Go.RowKit Tw
def zcr{ws}{i:Nat}(b:zV ws)(h:L3 ws i=1):(L8 ws i).size<=18:=by
 unfold L3 at h;unfold L8;cases a:ws[i]? with
 |none=>decide
 |some x=>rw[a]at h;exact b x (B7 a) h
def zlI(rb:Nat)(v ws)(en i:Nat)(hN:zV ws)(hr:10<rb)(h1:Xx rb v ws en 0 (i+1))(h2: ∀j,i<j->zeO rb v ws en j):ze3 rb v ws en i:=by
 intro r hd a0 a1 w h hG;have H1:=qh h1;have H2:=qh h2;have HR:=qh h;have HG:=qh hG;have HN:=qh hN;have H:=qh hd;have Q1:=qh a0;have Q2:=qh a1;have E1:=qh (jG a0);have E2:=qh (yj a0 a1);have b4:=h.lt;clear h1 h2 h hG hN hd a0 a1
 go_enter func245,ntmps245
 go_wp2_with fail
 refine(zam (HR.out.K7 ((x8 _ _).alloc (x7 _) _))).mono ?_;rintro e w1 ⟨rfl,Z⟩;have I:Below w.heap.size w w1:=((x8 _ _).alloc (x7 _) _).trans (Z.mono (by simp))
 have a:Hid (yf w _ rb w.heap.size w1.heap.size v ws i en (.int .i64 0) (.int .i64 0) (.string ⟨#[]⟩) (.slice none 0 0) (.int .i64 (J4 ws i en))):=
  qh (yf.start (HR.out.K7 I) (HG.out.to I) hr (I7 I _) b4 (x7 _) (by have:=Z.size;simp at this;omega) ((Z.block _ (by simp)).trans (A5 w _)) _ _ _ _ _)
 clear Z I
 go_upto_block 0 with(fail)
 generalize w1.alloc _=W1 at a|-;generalize w1.heap.size=k at a|-;obtain⟨b0,I⟩: ∃b0,w.heap.size=b0:=⟨_,rfl⟩;rw[I]at a;simp only[I];have b8:=qh I;clear I
 go_wp2_with fail
 obtain⟨t3,a8⟩: ∃t,J3 ws i O6=t:=⟨_,rfl⟩;have T3:=qh a8;clear a8;refine(Z5 O6 (R1 (by decide)) t3 a.out.rd T3.out).mono ?_;rintro e w2 ⟨rfl,d,b⟩;replace a:=qh (a.out.L9 d b);clear d b;cases t3 with
 |true=>
  simp only[if_true]at a;have G:=qh (zkP E1.out E2.out T3.out);cases r with
  |ex x j=>
   have f: ∃j',j=j'+1/\Dc ws en (.lvl 0 (i+1)) (.ex x j')/\J3 ws j' N4=true:=by
    have h:=H.out;cases h with
    |par _ h hc=>exact⟨_,rfl,h,hc⟩
    |_=>exfalso;have:=G.out;omega
   obtain⟨j',rfl,M,hc⟩:=f;have N:=qh M;have HC:=qh hc;clear M hc
   go_wp2_with fail
   refine(H1.out _ N.out w2 a.out.rd a.out.gl).mono ?_;rintro e w3 ⟨A,c,rfl,U,d,b⟩;have V:=qh U;have a2:=a.out.z3;have a3:=a.out.gr.size;have a4:=a.out.z2;have J:=b.size;have b9:=a.out.z0;replace a:=qh (a.out.L9 d b);have b5:=a.out.z3;clear d b U;obtain⟨⟨o,p,q,u,y⟩,z,B,C,D,E⟩:=K6 a.out.ex
   go_wp2_with fail
   have R:=qh (((((a.out.s0 (.int .i64 x.I9)).s1 (.int .i64 x.n)).s2 (.string x.K0)).s3 (.slice A x.args.length c)).s4 (.int .i64 x.pos));have a5:=qh (J7.later (F':=λg=>w.heap.size<=g/\g≠b0) V.out (some k) (xB w3 k (.int .i64 x.I9) (.int .i64 x.n) (.string x.K0) (.slice A x.args.length c) (.int .i64 x.pos)) (λg (h:w2.heap.size<=g)=>by simp;omega) (λg (h:w2.heap.size<=g)=>⟨by omega,by omega⟩));clear V a o p q u y z B C D E;generalize(((((w3.setCell ⟨k,0,none⟩ _).setCell ⟨k,1,none⟩ _).setCell ⟨k,2,none⟩ _).setCell ⟨k,3,none⟩ _).setCell ⟨k,4,none⟩ _)=W5 at R a5|-;refine(jH N4 (R1 (by decide)) R.out.rd HC.out).mono ?_;rintro e S ⟨rfl,d,b⟩;have b6:=qh (J7.later a5.out (some rb) b (λg (h:w.heap.size<=g/\g≠b0)=>by simp;omega) (λg h=>h));have a:=qh (R.out.L9 d b);clear d b a5 R;obtain⟨⟨o,p,q,u,y⟩,z,B,C,D,E⟩:=K6 a.out.ex;obtain⟨⟨W,d1,d2,d3,d4⟩,g0,g1,g2,g3,g4⟩:=K6 a.out.zD;have O:=qh (yT (.int .i64 x.I9) (.int .i64 x.n) (.string x.K0) (.slice A x.args.length c) (.int .i64 x.pos) a.out.zD)
   go_wp2_with fail
   (try simp only[Exit.inBlock,Exit.then])
   refine E9 (F2 rfl _ _ b0 _ _ _ _ rfl O.out underlying186 rfl zT) rfl ?_;exact a.out.qi b6.out (λg h=>h)
  |J9 j=>
   have f:Dc ws en (.lvl 0 (i+1)) (.J9 j)\/ ∃x,Dc ws en (.lvl 0 (i+1)) (.ex x j)/\J3 ws j N4=false:=by
    have h:=H.out;cases h with
    |zep _ h=>exact .inl h
    |zeo _ h hc=>exact .inr ⟨_,h,hc⟩
    |_=>exfalso;have:=G.out;omega
   rcases f with M|⟨x,M,hc⟩
   ·have N:=qh M;clear M
    go_wp2_with fail
    refine(H1.out _ N.out w2 a.out.rd a.out.gl).mono ?_;rintro e w9 ⟨rfl,b⟩;have m:=qh (I4 a.out.gr b);clear b;unfold Y3
    go_wp2_with fail
    exact⟨rfl,rfl,m.out⟩
   ·have N:=qh M;have HC:=qh hc;clear M hc
    go_wp2_with fail
    refine(H1.out _ N.out w2 a.out.rd a.out.gl).mono ?_;rintro e w3 ⟨A,c,rfl,U,d,b⟩;replace a:=qh (a.out.L9 d b);have b5:=a.out.z3;clear d b U;obtain⟨⟨o,p,q,u,y⟩,z,B,C,D,E⟩:=K6 a.out.ex
    go_wp2_with fail
    have R:=qh (((((a.out.s0 (.int .i64 x.I9)).s1 (.int .i64 x.n)).s2 (.string x.K0)).s3 (.slice A x.args.length c)).s4 (.int .i64 x.pos));clear a o p q u y z B C D E;have a:=R;clear R;generalize(((((w3.setCell ⟨k,0,none⟩ _).setCell ⟨k,1,none⟩ _).setCell ⟨k,2,none⟩ _).setCell ⟨k,3,none⟩ _).setCell ⟨k,4,none⟩ _)=W5 at a|-;refine(jl N4 (R1 (by decide)) a.out.rd HC.out).mono ?_;rintro e w9 ⟨rfl,b⟩;have m:=qh (I4 a.out.gr b);clear b;unfold Y3
    go_wp2_with fail
    exact⟨rfl,rfl,m.out⟩
  |xH l j=>have h:=H.out;cases h
 |false=>
  simp only[C2,if_false]at a;have E3:=T3;have Q3:Hid (K8 ws i≠3):=qh (λe=>by have h:=zkh Q1.out Q2.out e;rw[E3.out]at h;cases h);clear T3
  go_wp2_with fail
  obtain⟨t4,a9⟩: ∃t,J3 ws i xq=t:=⟨_,rfl⟩;have T4:=qh a9;clear a9;refine(Z5 xq (R1 (by decide)) t4 a.out.rd T4.out).mono ?_;rintro e w2 ⟨rfl,d,b⟩;replace a:=qh (a.out.L9 d b);clear d b;cases t4 with
  |true=>
   simp only[if_true]at a;have G:=qh (zkS E1.out E2.out E3.out T4.out);have f:r=.ex (.mk 2 1 L1 [] (J4 ws i en)) (i+1):=by
    have h:=H.out;cases h with
    |tru _=>rfl
    |_=>exfalso;have:=G.out;omega
   subst f;obtain⟨⟨o,p,q,u,y⟩,z,B,C,D,E⟩:=K6 a.out.ex
   go_upto_region 8 with(fail)
   clear o p q u y z B C D E;replace a:=qh ((a.out.s0 (.int .i64 2)).s1 (.int .i64 1));generalize(w2.setCell ⟨k,0,none⟩ _).setCell ⟨k,1,none⟩ _=W3 at a|-;obtain⟨⟨o,p,q,u,y⟩,z,B,C,D,E⟩:=K6 a.out.ex;obtain⟨⟨W,d1,d2,d3,d4⟩,g0,g1,g2,g3,g4⟩:=K6 a.out.zD;have O:=qh (yT (.int .i64 2) (.int .i64 1) (.string ⟨#[]⟩) (.slice none 0 0) (.int .i64 (J4 ws i en)) a.out.zD)
   go_wp2_with fail
   (try simp only[Exit.inBlock,Exit.then])
   refine E9 (F2 rfl _ _ b0 _ _ _ _ rfl O.out underlying186 rfl zT) rfl ?_;exact yf.qi (x:=.mk 2 1 L1 [] (J4 ws i en)) (F:=λg=>w.heap.size<=g/\g≠b0) a.out (.nil _ _) (λg h=>h)
  |false=>
   simp only[C2,if_false]at a;have E4:=T4;have Q4:Hid (K8 ws i≠4):=qh (λe=>by have h:=zj0 Q1.out Q2.out Q3.out e;rw[E4.out]at h;cases h);clear T4
   go_wp2_with fail
   obtain⟨t5,b2⟩: ∃t,J3 ws i jm=t:=⟨_,rfl⟩;have T5:=qh b2;clear b2;refine(Z5 jm (R1 (by decide)) t5 a.out.rd T5.out).mono ?_;rintro e w2 ⟨rfl,d,b⟩;replace a:=qh (a.out.L9 d b);clear d b;cases t5 with
   |true=>
    simp only[if_true]at a;have G:=qh (zk2 E1.out E2.out E3.out E4.out T5.out);have f:r=.ex (.mk 2 0 L1 [] (J4 ws i en)) (i+1):=by
     have h:=H.out;cases h with
     |fls _=>rfl
     |_=>exfalso;have:=G.out;omega
    subst f;obtain⟨⟨o,p,q,u,y⟩,z,B,C,D,E⟩:=K6 a.out.ex
    go_upto_region 11 with(fail)
    clear o p q u y z B C D E;replace a:=qh (a.out.s0 (.int .i64 2));generalize w2.setCell ⟨k,0,none⟩ _=W3 at a|-;obtain⟨⟨o,p,q,u,y⟩,z,B,C,D,E⟩:=K6 a.out.ex;obtain⟨⟨W,d1,d2,d3,d4⟩,g0,g1,g2,g3,g4⟩:=K6 a.out.zD;have O:=qh (yT (.int .i64 2) (.int .i64 0) (.string ⟨#[]⟩) (.slice none 0 0) (.int .i64 (J4 ws i en)) a.out.zD)
    go_wp2_with fail
    (try simp only[Exit.inBlock,Exit.then])
    refine E9 (F2 rfl _ _ b0 _ _ _ _ rfl O.out underlying186 rfl zT) rfl ?_;exact yf.qi (x:=.mk 2 0 L1 [] (J4 ws i en)) (F:=λg=>w.heap.size<=g/\g≠b0) a.out (.nil _ _) (λg h=>h)
   |false=>
    simp only[C2,if_false]at a;have E5:=T5;have Q5:Hid (K8 ws i≠5):=qh (λe=>by have h:=zhc Q1.out Q2.out Q3.out Q4.out e;rw[E5.out]at h;cases h);clear T5
    go_wp2_with fail
    obtain⟨t6,b3⟩: ∃t,J3 ws i yv=t:=⟨_,rfl⟩;have T6:=qh b3;clear b3;refine(Z5 yv (R1 (by decide)) t6 a.out.rd T6.out).mono ?_;rintro e w2 ⟨rfl,d,b⟩;replace a:=qh (a.out.L9 d b);clear d b;cases t6 with
    |true=>
     simp only[if_true]at a;have G:=qh (zk4 E1.out E2.out E3.out E4.out E5.out T6.out)
     by_cases L:L3 ws (i+1)=1
     ·have P:=qh L;clear L
      go_wp2_with fail
      refine(yU 1 (by decide) a.out.rd P.out).mono ?_;rintro e w4 ⟨rfl,d,b⟩;have HS:=qh (zcr HN.out P.out);replace a:=qh (a.out.L9 d b);clear d b;obtain⟨s,J⟩: ∃s,L8 ws (i+1)=s:=⟨_,rfl⟩;rw[J]at HS;simp only[J];have X:=qh J;clear J
      go_wp2_with fail
      refine(zce s HS.out w4 a.out.gl).mono ?_;rintro e w5 ⟨rfl,Z⟩;replace a:=qh (a.out.below Z);clear Z;obtain⟨⟨o,p,q,u,y⟩,z,B,C,D,E⟩:=K6 a.out.ex
      go_wp2_with fail
      clear o p q u y z B C D E;replace a:=qh ((a.out.s0 (.int .i64 8)).s1 (.int .i64 (jv s)));generalize(w5.setCell ⟨k,0,none⟩ _).setCell ⟨k,1,none⟩ _=W5 at a|-
      by_cases ho:J3 ws (i+2) O6=true
      ·have HO:=qh ho;clear ho
       refine(jH O6 (R1 (by decide)) a.out.rd HO.out).mono ?_;rintro e S ⟨rfl,d,b⟩;replace a:=qh (a.out.L9 d b);clear d b;cases r with
       |ex x j=>
        have f: ∃l,x=.mk 8 (jv s) L1 l (J4 ws i en)/\Dc ws en (.args 0 (i+3)) (.xH l j):=by
         have h:=H.out;cases h with
         |X0 _ _ _ h=>exact⟨_,by rw[X.out],h⟩
         |_=>exfalso;have:=G.out;omega
        obtain⟨l,rfl,M⟩:=f;have N:=qh M;clear M
        go_wp2_with fail
        refine(H2.out (i+3) (by omega) _ N.out S a.out.rd a.out.gl).mono ?_;rintro e w7 ⟨A,c,rfl,U,d,b⟩;have V:=qh U;have a2:=a.out.z3;have a3:=a.out.gr.size;have a4:=a.out.z2;have J:=b.size;replace a:=qh (a.out.L9 d b);clear d b U;obtain⟨⟨o,p,q,u,y⟩,z,B,C,D,E⟩:=K6 a.out.ex
        go_upto_region 16 with(fail)
        clear o p q u y z B C D E;have Q:Hid (J7 (w7.setCell ⟨k,3,none⟩ (.slice A l.length c)) (λg=>w.heap.size<=g/\g≠b0) (.slice A l.length c) l):=qh (J7.later V.out (some k) (I8 _ _ _ _) (λg (h:S.heap.size<=g)=>by simp;omega) (λg (h:S.heap.size<=g)=>⟨by omega,by omega⟩));replace a:=qh (a.out.s3 (.slice A l.length c));clear V;generalize w7.setCell ⟨k,3,none⟩ _=W8 at a Q|-;obtain⟨⟨o,p,q,u,y⟩,z,B,C,D,E⟩:=K6 a.out.ex;obtain⟨⟨W,d1,d2,d3,d4⟩,g0,g1,g2,g3,g4⟩:=K6 a.out.zD;have O:=qh (yT (.int .i64 8) (.int .i64 (jv s)) (.string L1) (.slice A l.length c) (.int .i64 (J4 ws i en)) a.out.zD)
        go_wp2_with fail
        (try simp only[Exit.inBlock,Exit.then])
        refine E9 (F2 rfl _ _ b0 _ _ _ _ rfl O.out underlying186 rfl zT) rfl ?_;have HZ:=qh (yf.qi (x:=.mk 8 (jv s) L1 l (J4 ws i en)) a.out Q.out (λg h=>h));simp only[Ex.I9,Ex.n,Ex.K0,Ex.args,Ex.pos]at HZ;exact HZ.out
       |J9 j=>
        have f:Dc ws en (.args 0 (i+3)) (.J9 j):=by
         have h:=H.out;cases h with
         |XB _ _ _ h=>exact h
         |Xz _ _ h=>rw[HO.out]at h;cases h
         |XA _ h=>exact H9 P.out h
         |_=>exfalso;have:=G.out;omega
        have N:=qh f;clear f
        go_wp2_with fail
        refine(H2.out (i+3) (by omega) _ N.out S a.out.rd a.out.gl).mono ?_;rintro e w9 ⟨rfl,b⟩;have m:=qh (I4 a.out.gr b);clear b;unfold Y3
        go_wp2_with fail
        exact⟨rfl,rfl,m.out⟩
       |xH l j=>have h:=H.out;cases h
      ·have HO:=qh (Bool.eq_false_iff.2 ho);clear ho
       have f:r=.J9 (i+2):=by
        have h:=H.out;cases h with
        |Xz _ _ _=>rfl
        |X0 _ _ h _=>rw[HO.out]at h;cases h
        |XB _ _ h _=>rw[HO.out]at h;cases h
        |XA _ h=>exact H9 P.out h
        |_=>exfalso;have:=G.out;omega
       subst f;refine(jl O6 (R1 (by decide)) a.out.rd HO.out).mono ?_;rintro e w9 ⟨rfl,b⟩;have m:=qh (I4 a.out.gr b);clear b;unfold Y3
       go_wp2_with fail
       exact⟨rfl,rfl,m.out⟩
     ·have P:=qh L;clear L
      have f:r=.J9 (i+1):=by
       have h:=H.out;cases h with
       |XA _ _=>rfl
       |X0 _ h _ _=>exact H9 h P.out
       |XB _ h _ _=>exact H9 h P.out
       |Xz _ h _=>exact H9 h P.out
       |_=>exfalso;have:=G.out;omega
      subst f
      go_wp2_with fail
      refine(ZX 1 a.out.rd P.out).mono ?_;rintro e w9 ⟨rfl,b⟩;have m:=qh (I4 a.out.gr b);clear b;unfold Y3
      go_wp2_with fail
      exact⟨rfl,rfl,m.out⟩
    |false=>
     simp only[C2,if_false]at a;have E6:=T6;have Q6:Hid (K8 ws i≠6):=qh (λe=>by have h:=zi6 Q1.out Q2.out Q3.out Q4.out Q5.out e;rw[E6.out]at h;cases h);clear T6
     go_wp2_with fail
     obtain⟨A,c5,hv,T⟩:=a.out.rd.row.jJ;have o:=a.out.rd.c0;have p:=a.out.rd.c1;have hn:=a.out.rd.X5;have hp:=a.out.rd.pos;subst hv
     by_cases b7:i<ws.length
     ·obtain⟨x,f⟩: ∃x,ws[i]?=some x:=⟨_,x9 b7⟩
      obtain⟨g,rfl,b,W,d1,d2⟩:=T i x f;have k0:(0:Int)<=(i:Int):=by omega
      have k1:(i:Int)<(ws.length:Int):=by omega
      obtain⟨t,ht⟩: ∃t,(((x.I9:Int))==1)=t:=⟨_,rfl⟩;have HX:Hid (L3 ws i=x.I9):=qh (by unfold L3;rw[f]);clear f T d1 d2;cases t with
      |true=>
       have a6:Hid (L3 ws i=1):=qh (by rw[HX.out];have:=beq_iff_eq.1 ht;omega)
       go_quiet (fail)
       replace a:=qh (a.out.below (J6 (x8 _ _) nq));clear o p W b;have G:=qh ((zbK Q1.out Q2.out Q3.out Q4.out Q5.out Q6.out).trans (C8 a6.out));obtain⟨s,J⟩: ∃s,L8 ws i=s:=⟨_,rfl⟩;have X:=qh J;clear J;have f:r=.ex (.mk 1 (jv s) L1 [] (J4 ws i en)) (i+1):=by
        have h:=H.out;cases h with
        |num _=>rw[X.out]
        |_=>exfalso;have:=G.out;omega
       subst f
       go_wp2_with fail
       refine(yU 1 (by decide) a.out.rd a6.out).mono ?_;rintro e w4 ⟨rfl,d,b⟩;have HS:=qh (zcr HN.out a6.out);replace a:=qh (a.out.L9 d b);clear d b;rw[X.out]at HS;simp only[X.out]
       go_wp2_with fail
       refine(zce s HS.out w4 a.out.gl).mono ?_;rintro e w5 ⟨rfl,Z⟩;replace a:=qh (a.out.below Z);clear Z;obtain⟨⟨o,p,q,u,y⟩,z,B,C,D,E⟩:=K6 a.out.ex
       go_upto_region 19 with(fail)
       clear o p q u y z B C D E;replace a:=qh ((a.out.s0 (.int .i64 1)).s1 (.int .i64 (jv s)));generalize(w5.setCell ⟨k,0,none⟩ _).setCell ⟨k,1,none⟩ _=W5 at a|-;obtain⟨⟨o,p,q,u,y⟩,z,B,C,D,E⟩:=K6 a.out.ex;obtain⟨⟨W,d1,d2,d3,d4⟩,g0,g1,g2,g3,g4⟩:=K6 a.out.zD;have O:=qh (yT (.int .i64 1) (.int .i64 (jv s)) (.string ⟨#[]⟩) (.slice none 0 0) (.int .i64 (J4 ws i en)) a.out.zD)
       go_wp2_with fail
       (try simp only[Exit.inBlock,Exit.then])
       refine E9 (F2 rfl _ _ b0 _ _ _ _ rfl O.out underlying186 rfl zT) rfl ?_;exact yf.qi (x:=.mk 1 (jv s) L1 [] (J4 ws i en)) (F:=λg=>w.heap.size<=g/\g≠b0) a.out (.nil _ _) (λg h=>h)
      |false=>
       have a7:Hid (L3 ws i≠1):=qh (by rw[HX.out];have:=beq_eq_false_iff_ne.1 ht;omega)
       go_quiet (fail)
       replace a:=qh (a.out.below (J6 (x8 _ _) nq));clear o p W b;have K:=(zbK Q1.out Q2.out Q3.out Q4.out Q5.out Q6.out).trans (B5 a7.out)
       by_cases L:L3 ws i=2
       ·have G:=qh (K.trans (C8 L))
        have P:=qh L;clear L K
        go_wp2_with fail
        refine(yU 2 (by decide) a.out.rd P.out).mono ?_;rintro e w4 ⟨rfl,d,b⟩;replace a:=qh (a.out.L9 d b);clear d b;obtain⟨s,J⟩: ∃s,L8 ws i=s:=⟨_,rfl⟩;simp only[J];have X:=qh J;clear J;obtain⟨⟨o,p,q,u,y⟩,z,B,C,D,E⟩:=K6 a.out.ex
        go_wp2_with fail
        clear o p q u y z B C D E;replace a:=qh ((a.out.s0 (.int .i64 3)).s2 (.string s));generalize((w4.setCell ⟨k,0,none⟩ _).setCell ⟨k,2,none⟩ _)=W5 at a|-;obtain⟨t7,Y⟩: ∃t,J3 ws (i+1) O6=t:=⟨_,rfl⟩;have T7:=qh Y;clear Y;refine(Z5 O6 (R1 (by decide)) t7 a.out.rd T7.out).mono ?_;rintro e S ⟨rfl,d,b⟩;replace a:=qh (a.out.L9 d b);clear d b;cases t7 with
        |true=>
         simp only[if_true]at a;cases r with
         |ex x j=>
          have f: ∃l,x=.mk 7 0 s l (J4 ws i en)/\Dc ws en (.args 0 (i+2)) (.xH l j):=by
           have h:=H.out;cases h with
           |call _ _ h=>exact⟨_,by rw[X.out],h⟩
           |qE _ h=>rw[T7.out]at h;cases h
           |_=>exfalso;have:=G.out;omega
          obtain⟨l,rfl,M⟩:=f;have N:=qh M;clear M
          go_wp2_with fail
          refine(H2.out (i+2) (by omega) _ N.out S a.out.rd a.out.gl).mono ?_;rintro e w7 ⟨A,c,rfl,U,d,b⟩;have V:=qh U;have a2:=a.out.z3;have a3:=a.out.gr.size;have a4:=a.out.z2;have J:=b.size;replace a:=qh (a.out.L9 d b);clear d b U;obtain⟨⟨o,p,q,u,y⟩,z,B,C,D,E⟩:=K6 a.out.ex
          go_upto_region 23 with(fail)
          clear o p q u y z B C D E;have Q:Hid (J7 ((w7.setCell ⟨k,0,none⟩ (.int .i64 7)).setCell ⟨k,3,none⟩ (.slice A l.length c)) (λg=>w.heap.size<=g/\g≠b0) (.slice A l.length c) l):=qh (J7.later V.out (some k) (I4 (I8 _ _ _ _) (I8 _ _ _ _)) (λg (h:S.heap.size<=g)=>by simp;omega) (λg (h:S.heap.size<=g)=>⟨by omega,by omega⟩));replace a:=qh ((a.out.s0 (.int .i64 7)).s3 (.slice A l.length c));clear V;generalize(w7.setCell ⟨k,0,none⟩ _).setCell ⟨k,3,none⟩ _=W8 at a Q|-;obtain⟨⟨o,p,q,u,y⟩,z,B,C,D,E⟩:=K6 a.out.ex;obtain⟨⟨W,d1,d2,d3,d4⟩,g0,g1,g2,g3,g4⟩:=K6 a.out.zD;have O:=qh (yT (.int .i64 7) (.int .i64 0) (.string s) (.slice A l.length c) (.int .i64 (J4 ws i en)) a.out.zD)
          go_wp2_with fail
          (try simp only[Exit.inBlock,Exit.then])
          refine E9 (F2 rfl _ _ b0 _ _ _ _ rfl O.out underlying186 rfl zT) rfl ?_;have HZ:=qh (yf.qi (x:=.mk 7 (0) s l (J4 ws i en)) a.out Q.out (λg h=>h));simp only[Ex.I9,Ex.n,Ex.K0,Ex.args,Ex.pos]at HZ;exact HZ.out
         |J9 j=>
          have f:Dc ws en (.args 0 (i+2)) (.J9 j):=by
           have h:=H.out;cases h with
           |JH _ _ h=>exact h
           |_=>exfalso;have:=G.out;omega
          have N:=qh f;clear f
          go_wp2_with fail
          refine(H2.out (i+2) (by omega) _ N.out S a.out.rd a.out.gl).mono ?_;rintro e w9 ⟨rfl,b⟩;have m:=qh (I4 a.out.gr b);clear b;unfold Y3
          go_wp2_with fail
          exact⟨rfl,rfl,m.out⟩
         |xH l j=>have h:=H.out;cases h
        |false=>
         simp only[C2,if_false]at a;have f:r=.ex (.mk 3 0 s [] (J4 ws i en)) (i+1):=by
          have h:=H.out;cases h with
          |qE _ _=>rw[X.out]
          |call _ h _=>rw[T7.out]at h;cases h
          |JH _ h _=>rw[T7.out]at h;cases h
          |_=>exfalso;have:=G.out;omega
         subst f;obtain⟨⟨o,p,q,u,y⟩,z,B,C,D,E⟩:=K6 a.out.ex;obtain⟨⟨W,d1,d2,d3,d4⟩,g0,g1,g2,g3,g4⟩:=K6 a.out.zD;have O:=qh (yT (.int .i64 3) (.int .i64 0) (.string s) (.slice none 0 0) (.int .i64 (J4 ws i en)) a.out.zD)
         go_wp2_with fail
         (try simp only[Exit.inBlock,Exit.then])
         refine E9 (F2 rfl _ _ b0 _ _ _ _ rfl O.out underlying186 rfl zT) rfl ?_;exact yf.qi (x:=.mk 3 0 s [] (J4 ws i en)) (F:=λg=>w.heap.size<=g/\g≠b0) a.out (.nil _ _) (λg h=>h)
       ·have G:=qh (K.trans (B5 L))
        have P:=qh L;clear L K;have f:r=.J9 i:=by
         have h:=H.out;cases h with
         |QX _=>rfl
         |_=>exfalso;have:=G.out;omega
        subst f
        go_wp2_with fail
        refine(ZX 2 a.out.rd P.out).mono ?_;rintro e w9 ⟨rfl,b⟩;have m:=qh (I4 a.out.gr b);clear b;unfold Y3
        go_wp2_with fail
        exact⟨rfl,rfl,m.out⟩
     ·have hi:i=ws.length:=by omega
      have a7:Hid (L3 ws i≠1):=qh (by unfold L3;rw[C5 (by omega)];decide);clear T
      go_quiet (fail)
      replace a:=qh (a.out.below (J6 (x8 _ _) nq));clear o p hi;have K:=(zbK Q1.out Q2.out Q3.out Q4.out Q5.out Q6.out).trans (B5 a7.out)
      by_cases L:L3 ws i=2
      ·have G:=qh (K.trans (C8 L))
       have P:=qh L;clear L K
       go_wp2_with fail
       refine(yU 2 (by decide) a.out.rd P.out).mono ?_;rintro e w4 ⟨rfl,d,b⟩;replace a:=qh (a.out.L9 d b);clear d b;obtain⟨s,J⟩: ∃s,L8 ws i=s:=⟨_,rfl⟩;simp only[J];have X:=qh J;clear J;obtain⟨⟨o,p,q,u,y⟩,z,B,C,D,E⟩:=K6 a.out.ex
       go_wp2_with fail
       clear o p q u y z B C D E;replace a:=qh ((a.out.s0 (.int .i64 3)).s2 (.string s));generalize((w4.setCell ⟨k,0,none⟩ _).setCell ⟨k,2,none⟩ _)=W5 at a|-;obtain⟨t7,Y⟩: ∃t,J3 ws (i+1) O6=t:=⟨_,rfl⟩;have T7:=qh Y;clear Y;refine(Z5 O6 (R1 (by decide)) t7 a.out.rd T7.out).mono ?_;rintro e S ⟨rfl,d,b⟩;replace a:=qh (a.out.L9 d b);clear d b;cases t7 with
       |true=>
        simp only[if_true]at a;cases r with
        |ex x j=>
         have f: ∃l,x=.mk 7 0 s l (J4 ws i en)/\Dc ws en (.args 0 (i+2)) (.xH l j):=by
          have h:=H.out;cases h with
          |call _ _ h=>exact⟨_,by rw[X.out],h⟩
          |qE _ h=>rw[T7.out]at h;cases h
          |_=>exfalso;have:=G.out;omega
         obtain⟨l,rfl,M⟩:=f;have N:=qh M;clear M
         go_wp2_with fail
         refine(H2.out (i+2) (by omega) _ N.out S a.out.rd a.out.gl).mono ?_;rintro e w7 ⟨A,c,rfl,U,d,b⟩;have V:=qh U;have a2:=a.out.z3;have a3:=a.out.gr.size;have a4:=a.out.z2;have J:=b.size;replace a:=qh (a.out.L9 d b);clear d b U;obtain⟨⟨o,p,q,u,y⟩,z,B,C,D,E⟩:=K6 a.out.ex
         go_upto_region 23 with(fail)
         clear o p q u y z B C D E;have Q:Hid (J7 ((w7.setCell ⟨k,0,none⟩ (.int .i64 7)).setCell ⟨k,3,none⟩ (.slice A l.length c)) (λg=>w.heap.size<=g/\g≠b0) (.slice A l.length c) l):=qh (J7.later V.out (some k) (I4 (I8 _ _ _ _) (I8 _ _ _ _)) (λg (h:S.heap.size<=g)=>by simp;omega) (λg (h:S.heap.size<=g)=>⟨by omega,by omega⟩));replace a:=qh ((a.out.s0 (.int .i64 7)).s3 (.slice A l.length c));clear V;generalize(w7.setCell ⟨k,0,none⟩ _).setCell ⟨k,3,none⟩ _=W8 at a Q|-;obtain⟨⟨o,p,q,u,y⟩,z,B,C,D,E⟩:=K6 a.out.ex;obtain⟨⟨W,d1,d2,d3,d4⟩,g0,g1,g2,g3,g4⟩:=K6 a.out.zD;have O:=qh (yT (.int .i64 7) (.int .i64 0) (.string s) (.slice A l.length c) (.int .i64 (J4 ws i en)) a.out.zD)
         go_wp2_with fail
         (try simp only[Exit.inBlock,Exit.then])
         refine E9 (F2 rfl _ _ b0 _ _ _ _ rfl O.out underlying186 rfl zT) rfl ?_;have HZ:=qh (yf.qi (x:=.mk 7 (0) s l (J4 ws i en)) a.out Q.out (λg h=>h));simp only[Ex.I9,Ex.n,Ex.K0,Ex.args,Ex.pos]at HZ;exact HZ.out
        |J9 j=>
         have f:Dc ws en (.args 0 (i+2)) (.J9 j):=by
          have h:=H.out;cases h with
          |JH _ _ h=>exact h
          |_=>exfalso;have:=G.out;omega
         have N:=qh f;clear f
         go_wp2_with fail
         refine(H2.out (i+2) (by omega) _ N.out S a.out.rd a.out.gl).mono ?_;rintro e w9 ⟨rfl,b⟩;have m:=qh (I4 a.out.gr b);clear b;unfold Y3
         go_wp2_with fail
         exact⟨rfl,rfl,m.out⟩
        |xH l j=>have h:=H.out;cases h
       |false=>
        simp only[C2,if_false]at a;have f:r=.ex (.mk 3 0 s [] (J4 ws i en)) (i+1):=by
         have h:=H.out;cases h with
         |qE _ _=>rw[X.out]
         |call _ h _=>rw[T7.out]at h;cases h
         |JH _ h _=>rw[T7.out]at h;cases h
         |_=>exfalso;have:=G.out;omega
        subst f;obtain⟨⟨o,p,q,u,y⟩,z,B,C,D,E⟩:=K6 a.out.ex;obtain⟨⟨W,d1,d2,d3,d4⟩,g0,g1,g2,g3,g4⟩:=K6 a.out.zD;have O:=qh (yT (.int .i64 3) (.int .i64 0) (.string s) (.slice none 0 0) (.int .i64 (J4 ws i en)) a.out.zD)
        go_wp2_with fail
        (try simp only[Exit.inBlock,Exit.then])
        refine E9 (F2 rfl _ _ b0 _ _ _ _ rfl O.out underlying186 rfl zT) rfl ?_;exact yf.qi (x:=.mk 3 0 s [] (J4 ws i en)) (F:=λg=>w.heap.size<=g/\g≠b0) a.out (.nil _ _) (λg h=>h)
      ·have G:=qh (K.trans (B5 L))
       have P:=qh L;clear L K;have f:r=.J9 i:=by
        have h:=H.out;cases h with
        |QX _=>rfl
        |_=>exfalso;have:=G.out;omega
       subst f
       go_wp2_with fail
       refine(ZX 2 a.out.rd P.out).mono ?_;rintro e w9 ⟨rfl,b⟩;have m:=qh (I4 a.out.gr b);clear b;unfold Y3
       go_wp2_with fail
       exact⟨rfl,rfl,m.out⟩
def zbB:Qe->Re->Prop
 |.lvl _ i,.ex _ j=>i<j
 |.zk i,.ex _ j=>i<j
 |.rest _ _ i,.ex _ j=>i<=j
 |.args _ i,.xH _ j=>i<j
 |_,_=>True
def Dc.on{ws}{en:Nat}{q r}(h:Dc ws en q r):zbB q r:=by
 induction h
 case ex m i j a r _ _ c d=>cases r<;>simp only[zbB]at* <;>omega
 case go m j e a b r _ _ _ _ c d=>cases r<;>simp only[zbB]at* <;>omega
 all_goals(simp only[zbB]at*;try omega)
def YR(l:List Ex):Re->Re
 |.xH m j=>.xH (l++m) j
 |r=>r
def Yx{l m x}{j:Nat}:YR l (.xH (x::m) j)=YR (l++[x]) (.xH m j):=by simp[YR]
def zdz{ws}{en k i:Nat}{r}(h:Dc ws en (.args k i) r)(f:J3 ws i N4=false):
 (k≠0/\J3 ws i U0=false/\r=.J9 i)\/
 ∃d,((k=0/\d=i)\/(k≠0/\J3 ws i U0=true/\d=i+1))/\
  ((∃j,Dc ws en (.lvl 0 d) (.J9 j)/\r=.J9 j)\/ ∃x j e,Dc ws en (.lvl 0 d) (.ex x j)/\Dc ws en (.args (k+1) j) e/\ ∀l,YR l r=YR (l++[x]) e):=by
 cases h with
 |U4 h=>rw[f]at h;cases h
 |first _ a b=>exact .inr ⟨i,.inl ⟨rfl,rfl⟩,.inr ⟨_,_,_,a,b,λl=>Yx⟩⟩
 |yY _ a b=>exact .inr ⟨i,.inl ⟨rfl,rfl⟩,.inr ⟨_,_,_,a,b,λl=>rfl⟩⟩
 |yZ _ a=>exact .inr ⟨i,.inl ⟨rfl,rfl⟩,.inl ⟨_,a,rfl⟩⟩
 |next _ c a b=>exact .inr ⟨i+1,.inr ⟨by omega,c,rfl⟩,.inr ⟨_,_,_,a,b,λl=>Yx⟩⟩
 |qY _ c a b=>exact .inr ⟨i+1,.inr ⟨by omega,c,rfl⟩,.inr ⟨_,_,_,a,b,λl=>rfl⟩⟩
 |Qz _ c a=>exact .inr ⟨i+1,.inr ⟨by omega,c,rfl⟩,.inl ⟨_,a,rfl⟩⟩
 |QA _ c=>exact .inl ⟨by omega,c,rfl⟩
def zdV{ws}{en k i:Nat}{r}(h:Dc ws en (.args k i) r)(a:J3 ws i N4=true):r=.xH [] (i+1):=by
 cases h with
 |U4 h=>rfl
 |first h=>rw[a]at h;cases h
 |yY h=>rw[a]at h;cases h
 |yZ h=>rw[a]at h;cases h
 |next h=>rw[a]at h;cases h
 |qY h=>rw[a]at h;cases h
 |Qz h=>rw[a]at h;cases h
 |QA h=>rw[a]at h;cases h
def Rq.yB{w}{a:Nat}{v ws}{i en:Nat}(h:Rq w a v ws i en):jN w a=i:=by
 unfold jN;rw[h.c1];simp[intOf]
def zdC{w w'}{a:Nat}{v ws}{i en:Nat}{row}(h:Rq w a v ws i en)(b:w.grownBy w' row)(c: ∀k,row=some k->a<k):Rq w' a v ws i en:=
 ⟨(b.block a h.lt (λe=>by have:=c a e.symm;omega)).trans h.P6,h.row.Z3 λj d=>b.block j (Nat.lt_trans d h.lt) (λe=>by have:=c j e.symm;omega),h.X5,h.pos⟩
def zlP(z:Nat)(v ws)(en i:Nat)(hr:10<z)(h1: ∀j,i<=j->Xx z v ws en 0 j):zeO z v ws en i:=by
 intro r hd w h hG;have H1:=qh h1;have HR:=qh h;have HG:=qh hG;have HD:=qh hd;have F:=h.lt;clear h1 h hG hd
 go_enter func248,ntmps248
 go_wp2_with fail
 go_loopw[3] (λo wr=> ∃(l:List (Ex×Value))(A:Option Addr)(c i':Nat)(r':Re),o=.slice A l.length c/\Hid (O8 xp wr w.heap.size 186 5 (.slice A l.length c) l)/\Hid (Rq wr z v ws i' en)/\Hid (i<=i'/\l.length<=i'/\Dc ws en (.args l.length i') r'/\r=YR (l.map (·.1)) r')/\Hid (w.grownBy wr (some z)))
  (λ_ wr=>ws.length-jN wr z)
 case atStart=>exact⟨[],none,0,i,r,rfl,qh (O8.nil _ _ _ _ _),HR,qh ⟨x7 _,by simp,HD.out,by cases r<;>simp[YR]⟩,qh (I7 (x8 _ _) _)⟩
 case round=>
  obtain⟨l,A,c,i',r',rfl,HW,q,B,G⟩:=hrel;clear HR HD;obtain⟨t,ht⟩: ∃t,J3 ws i' N4=t:=⟨_,rfl⟩;have T:=qh ht;clear ht
  go_wp2_with fail
  refine(Z5 N4 (R1 (by decide)) t q.out T.out).mono ?_;rintro e w1 ⟨rfl,C,a⟩;have a8:=G.out.size;have O:=qh (HW.out.kept a (λk e=>.inl (by cases e;exact F)));have d:=qh C;have H:=qh (I4 G.out a);clear C a HW G;cases t with
  |true=>
   obtain⟨_,_,hd,he⟩:=B.out;have hq:=zdV hd T.out;subst hq;subst he
   go_wp2_with fail
   go_ret;refine⟨A,c,?_,?_,by simpa using d.out,H.out⟩
   ·simp
   ·have:=O.out.args;simpa using this
  |false=>
   simp only[C2,if_false]at d;have HS:=qh (zdz B.out.2.2.1 T.out);have hn:l.length<=4000:=by
    have:=B.out.2.1;have:=q.out.pos;have:=q.out.X5;omega
   have a9:=B.out.1
   by_cases f:l.length≠0/\J3 ws i' U0=false/\r'=.J9 i'
   ·obtain⟨e0,I,rfl⟩:=f
    have HA:=qh I;clear I;have e1:0<l.length:=by omega
    obtain rfl:r=.J9 i':=B.out.2.2.2
    go_wp2_with fail
    refine(jl U0 (R1 (by decide)) d.out HA.out).mono ?_;rintro e w2 ⟨rfl,a⟩;have J:=qh (I4 H.out a);clear a;unfold Y3
    go_wp2_with fail
    exact⟨rfl,rfl,J.out⟩
   ·have P:=qh (HS.out.resolve_left f)
    clear f HS;obtain⟨i2,hC,hX⟩:=P.out;have HC:=qh hC;have HX:=qh hX;clear hC hX P
    go_upto_if 9 with(fail)
    go_cut[] (λW=>Hid (Rq W z v ws i2 en)/\Hid (w1.grownBy W (some z)))
    case first=>
     by_cases Q:l.length=0
     ·have HL:=qh Q;clear Q
      obtain rfl:i2=i':=by rcases HC.out with h|h;exact h.2;exact H9 HL.out h.1
      go_wp2_with fail
      ·exfalso;have:=HL.out;omega
      go_meet
      case rel=>exact⟨d,qh (I7 (x8 _ _) _)⟩
     ·have e0:0<l.length:=by omega
      have I:J3 ws i' U0=true/\i2=i'+1:=by rcases HC.out with h|h;exact H9 h.1 Q;exact h.2
      obtain⟨I,rfl⟩:=I;have HA:=qh I;clear I;have HL:=qh Q;clear Q
      go_wp2_with fail
      refine(jH U0 (R1 (by decide)) d.out HA.out).mono ?_;rintro e w2 ⟨rfl,C,a⟩;have s:=qh C;have u:=qh a;clear C a
      go_wp2_with fail
      go_meet
      case rel=>exact⟨s,u⟩
    case rest=>
     obtain⟨s,u⟩:=hcut;have b0:i'<=i2:=by rcases HC.out with h|h<;>omega
     have R:=qh (O.out.kept u.out (λk e=>.inl (by cases e;exact F)));have m:=qh (I4 H.out u.out)
     rcases HX.out with⟨j,S,hb⟩|⟨x,j,r2,S,hm,hj⟩
     ·have HY:=qh S;clear S
      subst hb;obtain rfl:r=.J9 j:=B.out.2.2.2
      go_wp2_with fail
      refine(H1.out i2 (by omega) _ HY.out wc s.out (HG.out.of m.out hr)).mono ?_;rintro e K ⟨rfl,a⟩;have J:=qh (I4 m.out a);clear a;unfold Y3
      go_wp2_with fail
      exact⟨rfl,rfl,J.out⟩
     ·have HY:=qh S;have HM:=qh hm;have HJ:=qh hj;clear S hm hj
      have b1:i2<j:=HY.out.on
      go_wp2_with fail
      refine(H1.out i2 (by omega) _ HY.out wc s.out (HG.out.of m.out hr)).mono ?_;rintro e K ⟨M,N,rfl,hA,C,a⟩;have a5:=m.out.size;have a0:=qh hA;have a1:=qh C;have U:=qh (R.out.kept a (λk e=>.inl (by cases e;exact F)));have a2:=qh (I4 m.out a);have V:=R.out.1.lt;have a6:=a.size;clear hA C a
      go_wp2_with((at_builtin;go_must(refine N0 zis rfl _ _ rfl w.heap.size _ l.length (l.flatMap xp.cells) rfl (U.out.1.alloc _) K.heap.size 1 #[.int .i64 x.I9,.int .i64 x.n,.string x.K0,.slice M x.args.length N,.int .i64 x.pos] rfl (A5 K _) rfl (by simp[Value.oneCell']) (by omega) (by simp;omega) ?_);intro g4 X w4 p b D a7))
      have y:(K.alloc (.cells #[.int .i64 x.I9,.int .i64 x.n,.string x.K0,.slice M x.args.length N,.int .i64 x.pos] 186)).grownBy w4 (Value.slice A l.length c).ownBlock:=b;have Y:(Value.slice A l.length c).ownBlock=some g4\/g4=(K.alloc (.cells #[.int .i64 x.I9,.int .i64 x.n,.string x.K0,.slice M x.args.length N,.int .i64 x.pos] 186)).heap.size:=D;have Z:xp.XD (K.alloc (.cells #[.int .i64 x.I9,.int .i64 x.n,.string x.K0,.slice M x.args.length N,.int .i64 x.pos] 186)) (λg=>wc.heap.size<=g) (x,.slice M x.args.length N):=a0.out.K7 λg h1 h2=>⟨h1,by simp;omega,C4 K _ h2⟩
      have a3:=qh (O8.qv (U.out.below ((x8 _ _).alloc (x7 _) _)) Z
       (λg a=>⟨by omega,λe=>by have:=(V g e).2;omega⟩) p y Y)
      have E: ∀k,(Value.slice A l.length c).ownBlock=some k->w.heap.size<=k:=λk e=>(V k e).1
      have L:=qh (zdC (a1.out.K7 ((x8 _ _).alloc (x7 _) _)) y (λk e=>by have:=E k e;omega));have a4:=qh (Qg (I4 a2.out (I7 ((x8 _ _).alloc (x7 _) _) _)) y E);clear b D p y Y Z
      go_roundw
      case rel=>exact⟨l++[(x,.slice M x.args.length N)],some ⟨g4,0,none⟩,X,j,r2,by simp,by simpa using a3,L,qh ⟨by omega,by have:=B.out.2.1;simp;omega,by simpa using HM.out,by rw[B.out.2.2.2,HJ.out];simp⟩,a4⟩
      case measure=>rw[L.out.yB,q.out.yB];have:=L.out.pos;omega
def zaV(ws)(i:Nat):O5 ws i=lv (L8 ws i).data.toList:=by
 unfold O5 L8;cases ws[i]?<;>rfl
def zmR(s:Nat)(v ws)(en m i:Nat)(hr:10<s)(l:UnC s v ws en i)(o: ∀n j,i<j->Xx s v ws en n j):Xx s v ws en m i:=by
 intro r hd w h hG;have H1:=qh l;have H2:=qh o;have HR:=qh h;have HG:=qh hG;have HD:=qh hd;have a3:=h.lt;clear l o h hG hd
 go_enter func224,ntmps224
 go_wp2_with fail
 have u:Below w.heap.size w (w.alloc (.cells #[.int .i64 0,.int .i64 0,.string ⟨#[]⟩,.slice none 0 0,.int .i64 0] 186)):=(x8 _ _).alloc (x7 _) _;have hX:(∃j,r=.J9 j/\Dc ws en (.zk i) (.J9 j))\/ ∃a j,Dc ws en (.zk i) (.ex a j)/\Dc ws en (.rest m a j) r:=by
  have h:=HD.out;cases h with
  |ex l o=>exact .inr ⟨_,_,l,o⟩
  |exB h=>exact .inl ⟨_,rfl,h⟩
 have p:=qh u;clear u
 rcases hX with⟨j,rfl,z⟩|⟨a,j,z,F⟩
 ·have D:=qh z;clear z
  refine(H1.out _ D.out _ (HR.out.K7 p.out) (HG.out.to p.out)).mono ?_;rintro e J ⟨rfl,q⟩;have K:=qh (I4 (I7 p.out (some s)) q);clear q;unfold Y3
  go_wp2_with fail
  exact⟨rfl,rfl,K.out⟩
 ·have D:=qh z;have R:=qh F;clear z F
  have L:i<j:=D.out.on;refine(H1.out _ D.out _ (HR.out.K7 p.out) (HG.out.to p.out)).mono ?_;rintro e J ⟨A,c,rfl,S,T,q⟩;have a4:=q.size;simp at a4;have hF:=yf.start T ((HG.out.to p.out).of q hr) hr (I4 (I7 p.out (some s)) q) a3 (x7 _) (by omega) ((q.block w.heap.size (by simp) (by simp;omega)).trans (A5 w _)) (.int .i64 a.I9) (.int .i64 a.n) (.string a.K0) (.slice A a.args.length c) (.int .i64 a.pos);have b:=qh hF
  have k:Hid (J7 (J.alloc (.cells #[.int .i64 a.I9,.int .i64 a.n,.string a.K0,.slice A a.args.length c,.int .i64 a.pos] 186)) (λg=>w.heap.size<=g/\g≠w.heap.size/\g≠J.heap.size) (.slice A a.args.length c) a.args):=
   qh (S.K7 λg l o=>⟨by simp at l;omega,by simp;omega,C4 J _ o⟩)
  clear S T q hF
  go_upto_block 0 with(fail)
  have U:w.heap.size<J.heap.size:=by omega
  generalize J.alloc _=W1 at b k|-;generalize J.heap.size=d at b k U|-;obtain⟨b0,B⟩: ∃b0,w.heap.size=b0:=⟨_,rfl⟩;simp only[B]at b k U;simp only[B];have V:=qh B;clear B;clear p D
  go_wp2_with fail
  go_loopw[] (λwr=> ∃(a:Ex)(A:Option Addr)(c i':Nat),Hid (yf w wr s b0 d v ws i' en (.int .i64 a.I9) (.int .i64 a.n) (.string a.K0) (.slice A a.args.length c) (.int .i64 a.pos))/\Hid (J7 wr (λg=>b0<=g/\g≠b0/\g≠d) (.slice A a.args.length c) a.args)/\Hid (i<i'/\Dc ws en (.rest m a i') r))
   (λwr=>ws.length-jN wr s)
  case atStart=>exact⟨a,A,c,j,b,k,qh ⟨L,R.out⟩⟩
  case round=>
   clear b k R L;obtain⟨a,A,c,i',b,k,R⟩:=hrel;have W:=b.out.rd.yB
   go_wp2_with fail
   refine(zd3 b.out.rd).mono ?_;rintro e w2 ⟨rfl,t⟩;replace k:=qh (J7.later k.out (some s) (I7 t _) (λg h=>by simp;have:=b.out.z0;have:=b.out.z1;omega) (λg h=>h));replace b:=qh (b.out.below t);clear t
   go_wp2_with fail
   refine(zam b.out.rd).mono ?_;rintro e w3 ⟨rfl,t⟩;replace k:=qh (J7.later k.out (some s) (I7 t _) (λg h=>by simp;have:=b.out.z0;have:=b.out.z1;omega) (λg h=>h));replace b:=qh (b.out.below t);clear t
   go_wp2_with fail
   refine(zbl _ _).mono ?_;rintro e w4 ⟨rfl,rfl⟩;rw[<-zaV]
   by_cases a5:O5 ws i'<=m
   ·have hx:r=.ex a i':=by
     have h:=R.out.2;cases h with
     |stop _=>rfl
     |go h=>omega
     |goB h=>omega
     |JG h=>omega
    subst hx;have a9:(O5 ws i':Int)<=(m:Int):=by omega
    obtain⟨⟨c0,c1,c2,c3,c4⟩,f0,f1,f2,f3,f4⟩:=K6 b.out.ex;obtain⟨⟨d0,d1,d2,d3,d4⟩,g0,g1,g2,g3,g4⟩:=K6 b.out.zD;have HW:=qh (yT (.int .i64 a.I9) (.int .i64 a.n) (.string a.K0) (.slice A a.args.length c) (.int .i64 a.pos) b.out.zD)
    go_wp2_with fail
    (try simp only[Exit.inBlock,Exit.then])
    refine E9 (F2 rfl _ _ b0 _ _ _ _ rfl HW.out underlying186 rfl zT) rfl ?_;exact b.out.qi k.out (λg h=>⟨by have:=V.out;omega,h.2.1⟩)
   ·have M:m<O5 ws i':=by omega
    have a6:i'<ws.length:=by
     rcases E0 i' ws.length with h|h
     ·exact h
     ·unfold O5 at M;rw[C5 h]at M;simp at M
    have b2: ¬(O5 ws i':Int)<=(m:Int):=by omega
    have r1:=b.out.rd.c1;have rf:=b.out.rd.fz 1;have b4:=b.out.rd.X5;have hi:=R.out.1;have b5:=b.out.z0;have b6:=b.out.z1;have b9:=b.out.z2;clear a5
    go_wp2_with fail
    clear r1 rf;have HS:=qh (I8 w3 s 1 (.int .i64 ((i':Int)+1)));have X:=qh (b.out.rd.zb4 (i'+1) a6);replace b:=qh (b.out.L9 (by exact X.out) HS.out);replace k:=qh (J7.later k.out (some s) HS.out (λg h=>by simp;omega) (λg h=>h));clear HS X;generalize w3.setCell ⟨s,1,none⟩ _=w5 at b k|-;have hD:(∃j',r=.J9 j'/\Dc ws en (.lvl (O5 ws i') (i'+1)) (.J9 j'))\/ ∃y j',Dc ws en (.lvl (O5 ws i') (i'+1)) (.ex y j')/\((O5 ws i'=3/\O5 ws j'=3/\r=.J9 j')\/(¬(O5 ws i'=3/\O5 ws j'=3)/\Dc ws en (.rest m (Y9 ws en i' a y) j') r)):=by
     have h:=R.out.2;cases h with
     |stop h=>omega
     |go _ l o Y=>exact .inr ⟨_,_,l,.inr ⟨o,Y⟩⟩
     |goB _ l=>exact .inl ⟨_,rfl,l⟩
     |JG _ h0 l o=>exact .inr ⟨_,_,l,.inl ⟨h0,o,rfl⟩⟩
    rcases hD with⟨j',rfl,z⟩|⟨y,j',z,hz⟩
    ·have D:=qh z;clear z
     refine(H2.out _ (i'+1) (by omega) _ D.out w5 b.out.rd b.out.gl).mono ?_;rintro e w6 ⟨rfl,q⟩;have K:=qh (I4 b.out.gr q);clear q;unfold Y3
     go_wp2_with fail
     exact⟨rfl,rfl,K.out⟩
    ·have D:=qh z;have HZ:=qh hz;clear z hz
     have L:i'+1<j':=D.out.on;refine(H2.out _ (i'+1) (by omega) _ D.out w5 b.out.rd b.out.gl).mono ?_;rintro e G ⟨H,I,rfl,S,T,q⟩;have Z:=qh S;have c5:=b.out.z3;have c6:=b.out.gr.size;have hs7:=q.size;have B:=V.out;replace b:=qh (b.out.L9 T q);replace k:=qh (J7.later k.out (some s) q (λg h=>by simp;omega) (λg h=>h));clear S T q
     go_upto_region 8 with(fail)
     have E:=qh (A5 G (.cells #[.int .i64 y.I9,.int .i64 y.n,.string y.K0,.slice H y.args.length I,.int .i64 y.pos] 186))
     have C:Hid (J7 (G.alloc (.cells #[.int .i64 y.I9,.int .i64 y.n,.string y.K0,.slice H y.args.length I,.int .i64 y.pos] 186)) (λg=>b0<=g/\g≠b0/\g≠d) (.slice H y.args.length I) y.args):=
      qh (Z.out.K7 λg (l:w5.heap.size<=g) o=>⟨⟨by omega,by omega,by omega⟩,by simp;omega,C4 G _ o⟩)
     have N:Hid (J7 (G.alloc (.cells #[.int .i64 y.I9,.int .i64 y.n,.string y.K0,.slice H y.args.length I,.int .i64 y.pos] 186)) (λg=>b0<=g/\g≠b0/\g≠d) (.slice A a.args.length c) a.args):=
      qh (k.out.K7 λg l o=>⟨l,by simp;omega,C4 G _ o⟩)
     replace b:=qh (b.out.below (w':=G.alloc (.cells #[.int .i64 y.I9,.int .i64 y.n,.string y.K0,.slice H y.args.length I,.int .i64 y.pos] 186)) ((x8 _ _).alloc (x7 _) _));clear k Z;generalize G.alloc _=f at b E N C|-;generalize G.heap.size=b7 at E hs7|-;obtain⟨⟨x0,x1,x2,x3,x4⟩,y0,y1,y2,y3,y4⟩:=K6 b.out.ex;obtain⟨⟨m0,m1,m2,m3,m4⟩,-⟩:=K6 E.out;have a0:=b.out.z3
     go_upto_region 9 with(fail)
     clear x0 x1 x2 x3 x4 m0 m1 m2 m3 m4 y0 y1 y2 y3 y4;have a1:=qh (xB f d (.int .i64 6) (.int .i64 0) (.string (L8 ws i')) (.slice (some ⟨f.heap.size,0,none⟩) 2 2) (.int .i64 (J4 ws i' en)));have a2:(((((f.setCell ⟨d,0,none⟩ (.int .i64 6)).setCell ⟨d,1,none⟩ (.int .i64 0)).setCell ⟨d,2,none⟩ (.string (L8 ws i'))).setCell ⟨d,3,none⟩ (.slice (some ⟨f.heap.size,0,none⟩) 2 2)).setCell ⟨d,4,none⟩ (.int .i64 (J4 ws i' en))).heap.size=f.heap.size:=by simp
     have u:Below (((((f.setCell ⟨d,0,none⟩ (.int .i64 6)).setCell ⟨d,1,none⟩ (.int .i64 0)).setCell ⟨d,2,none⟩ (.string (L8 ws i'))).setCell ⟨d,3,none⟩ (.slice (some ⟨f.heap.size,0,none⟩) 2 2)).setCell ⟨d,4,none⟩ (.int .i64 (J4 ws i' en))).heap.size (((((f.setCell ⟨d,0,none⟩ (.int .i64 6)).setCell ⟨d,1,none⟩ (.int .i64 0)).setCell ⟨d,2,none⟩ (.string (L8 ws i'))).setCell ⟨d,3,none⟩ (.slice (some ⟨f.heap.size,0,none⟩) 2 2)).setCell ⟨d,4,none⟩ (.int .i64 (J4 ws i' en))) ((((((f.setCell ⟨d,0,none⟩ (.int .i64 6)).setCell ⟨d,1,none⟩ (.int .i64 0)).setCell ⟨d,2,none⟩ (.string (L8 ws i'))).setCell ⟨d,3,none⟩ (.slice (some ⟨f.heap.size,0,none⟩) 2 2)).setCell ⟨d,4,none⟩ (.int .i64 (J4 ws i' en))).alloc (.cells #[.int .i64 a.I9,.int .i64 a.n,.string a.K0,.slice A a.args.length c,.int .i64 a.pos,.int .i64 y.I9,.int .i64 y.n,.string y.K0,.slice H y.args.length I,.int .i64 y.pos] 186)):=(x8 _ _).alloc (x7 _) _;have O:=qh (I4 a1.out (I7 u (some d)));replace b:=qh ((((((b.out.s0 (.int .i64 6)).s1 (.int .i64 0)).s2 (.string (L8 ws i'))).s3 (.slice (some ⟨f.heap.size,0,none⟩) 2 2)).s4 (.int .i64 (J4 ws i' en))).below u);have P:=qh (A5 (((((f.setCell ⟨d,0,none⟩ (.int .i64 6)).setCell ⟨d,1,none⟩ (.int .i64 0)).setCell ⟨d,2,none⟩ (.string (L8 ws i'))).setCell ⟨d,3,none⟩ (.slice (some ⟨f.heap.size,0,none⟩) 2 2)).setCell ⟨d,4,none⟩ (.int .i64 (J4 ws i' en))) (.cells #[.int .i64 a.I9,.int .i64 a.n,.string a.K0,.slice A a.args.length c,.int .i64 a.pos,.int .i64 y.I9,.int .i64 y.n,.string y.K0,.slice H y.args.length I,.int .i64 y.pos] 186));rw[a2]at P
     have x:Hid (J7 ((((((f.setCell ⟨d,0,none⟩ (.int .i64 6)).setCell ⟨d,1,none⟩ (.int .i64 0)).setCell ⟨d,2,none⟩ (.string (L8 ws i'))).setCell ⟨d,3,none⟩ (.slice (some ⟨f.heap.size,0,none⟩) 2 2)).setCell ⟨d,4,none⟩ (.int .i64 (J4 ws i' en))).alloc (.cells #[.int .i64 a.I9,.int .i64 a.n,.string a.K0,.slice A a.args.length c,.int .i64 a.pos,.int .i64 y.I9,.int .i64 y.n,.string y.K0,.slice H y.args.length I,.int .i64 y.pos] 186)) (λg=>b0<=g/\g≠b0/\g≠d) (.slice (some ⟨f.heap.size,0,none⟩) 2 2) [a,y]):=
      qh (zcF N.out C.out (λg l o=>⟨l,A7 o O.out.size,O.out.block g o (by simp;omega)⟩) P.out ⟨by omega,by omega,by omega⟩)
     clear N C a1 O P E u a2;generalize(((((f.setCell ⟨d,0,none⟩ (.int .i64 6)).setCell ⟨d,1,none⟩ (.int .i64 0)).setCell ⟨d,2,none⟩ (.string (L8 ws i'))).setCell ⟨d,3,none⟩ (.slice (some ⟨f.heap.size,0,none⟩) 2 2)).setCell ⟨d,4,none⟩ (.int .i64 (J4 ws i' en))).alloc _=w9 at b x|-;generalize f.heap.size=b8 at b x a0|-;have b3:=b.out.rd.pos
     by_cases Y:O5 ws i'=3
     ·have a7:(O5 ws i':Int)=3:=by omega
      have H3:=qh Y;clear Y
      go_wp2_with fail
      refine(zd3 b.out.rd).mono ?_;rintro e wa ⟨rfl,t⟩;replace x:=qh (J7.later x.out (some s) (I7 t _) (λg h=>by simp;omega) (λg h=>h));replace b:=qh (b.out.below t);clear t
      go_wp2_with fail
      refine(zbl _ _).mono ?_;rintro e w4 ⟨rfl,rfl⟩;rw[<-zaV]
      by_cases h4:O5 ws j'=3
      ·have a8:(O5 ws j':Int)=3:=by omega
       have hx:r=.J9 j':=by
        rcases HZ.out with⟨_,_,h⟩|⟨h,_⟩
        ·exact h
        ·exact H9 ⟨H3.out,h4⟩ h
       subst hx
       go_wp2_with fail
       refine(zam b.out.rd).mono ?_;rintro e w5 ⟨rfl,t⟩;replace b:=qh (b.out.below t);clear t
       go_wp2_with fail
       exact⟨rfl,rfl,b.out.gr⟩
      ·have a8: ¬(O5 ws j':Int)=3:=by omega
       have F:Dc ws en (.rest m (Y9 ws en i' a y) j') r:=by
        rcases HZ.out with⟨_,h,_⟩|⟨_,h⟩
        ·exact H9 h h4
        ·exact h
       have Q:=qh F;clear F
       go_wp2_with fail
       go_roundw
       case rel=>exact⟨Y9 ws en i' a y,some ⟨b8,0,none⟩,2,j',b,x,qh ⟨by omega,Q.out⟩⟩
       case measure=>rw[b.out.rd.yB,W];omega
     ·have a7: ¬(O5 ws i':Int)=3:=by omega
      have F:Dc ws en (.rest m (Y9 ws en i' a y) j') r:=by
       rcases HZ.out with⟨h,_,_⟩|⟨_,h⟩
       ·exact H9 h Y
       ·exact h
      have Q:=qh F;clear F
      go_wp2_with fail
      go_roundw
      case rel=>exact⟨Y9 ws en i' a y,some ⟨b8,0,none⟩,2,j',b,x,qh ⟨by omega,Q.out⟩⟩
      case measure=>rw[b.out.rd.yB,W];omega
end Go.Proofs.YtmngofgminlloaaGreatDoor
namespace Go.Proofs.YtmngofgminlloaaGreatDoor
open Go.RowKit Tw
def zlU(b:Nat)(v:Value)(ws)(en:Nat)(d:10<b)(l:zV ws): ∀k i,ws.length<i+k->
 UnC b v ws en i/\ze3 b v ws en i/\(∀m,Xx b v ws en m i)/\zeO b v ws en i:=by
 intro k
 induction k with
 |zero=>
  intro i o;exact⟨λ_ _ w h=>H9 h.pos (by omega),λ_ _ _ _ w h=>H9 h.pos (by omega),λ_ _ _ w h=>H9 h.pos (by omega),λ_ _ w h=>H9 h.pos (by omega)⟩
 |succ k p=>
  intro i o;have a: ∀j,i<j->UnC b v ws en j/\ze3 b v ws en j/\(∀m,Xx b v ws en m j)/\zeO b v ws en j:=λj c=>p j (by omega)
  have e:=zlI b v ws en i l d ((a (i+1) (by omega)).2.2.1 0) (λj c=>(a j c).2.2.2);have f:=zpm b v ws en i d (a (i+1) (by omega)).1 e;have g: ∀m,Xx b v ws en m i:=λm=>zmR b v ws en m i d f (λn j c=>(a j c).2.2.1 n)
  refine⟨f,e,g,zlP b v ws en i d λj c=>?_⟩
  rcases Nat.eq_or_lt_of_le c with rfl|c
  ·exact g 0
  ·exact(a j c).2.2.1 0
def QE(a:Nat)(v:Value)(ws:List Wd)(en i m:Nat)(b:10<a)(c:zV ws):Xx a v ws en m i:=(zlU a v ws en b c (ws.length+1) i (by omega)).2.2.1 m
end Go.Proofs.YtmngofgminlloaaGreatDoor
namespace Go.Proofs.YtmngofgminlloaaGreatDoor
open Go.Proofs.Tryz
open Go.RowKit Tw
structure xO(w0 w:World)(rb b0 b1:Nat)(v:Value)(ws:List Wd)(i en:Nat)(u0 u1 u2 u3 u4 u5 u6 u7 u8 u9:Value):Prop where
 rd:Rq w rb v ws i en
 zD:w.heap[b0]?=some (.cells #[.int .i64 0,.string ⟨#[]⟩,.int .i64 0,.int .i64 0,.string ⟨#[]⟩,.slice none 0 0,.int .i64 0,.slice none 0 0,.slice none 0 0,.int .i64 0] 188 (0,0))
 ex:w.heap[b1]?=some (.cells #[u0,u1,u2,u3,u4,u5,u6,u7,u8,u9] 188 (0,0))
 gr:w0.grownBy w (some rb)
 gl:O4 w
 r0:10<rb
 z0:rb<w0.heap.size
 z1:w0.heap.size<=b0
 z2:b0≠b1
 z3:b1<w.heap.size
 z4:w0.heap.size<=b1
 z5:b0<w.heap.size
section
variable {w0 w w':World}{rb b0 b1:Nat}{v:Value}{ws:List Wd}{i en:Nat}{u0 u1 u2 u3 u4 u5 u6 u7 u8 u9:Value}
theorem xO.L9{b:Nat}(h:xO w0 w rb b0 b1 v ws i en u0 u1 u2 u3 u4 u5 u6 u7 u8 u9)(d:Rq w' rb v ws b en)(a:w.grownBy w' (some rb)):xO w0 w' rb b0 b1 v ws b en u0 u1 u2 u3 u4 u5 u6 u7 u8 u9:=by
 have e:=h.z0;have f:=h.z1;have g:=h.z2;have c:=h.z3;have j:=h.z4;have k:=h.z5;exact⟨d,(a.block b0 (by omega) (by simp;omega)).trans h.zD,(a.block b1 c (by simp;omega)).trans h.ex,I4 h.gr a,h.gl.of a h.r0,h.r0,e,f,g,A7 c a.size,j,A7 k a.size⟩
theorem xO.below(h:xO w0 w rb b0 b1 v ws i en u0 u1 u2 u3 u4 u5 u6 u7 u8 u9)(a:Below w.heap.size w w'):xO w0 w' rb b0 b1 v ws i en u0 u1 u2 u3 u4 u5 u6 u7 u8 u9:=
 h.L9 (h.rd.K7 a) (I7 a _)
theorem xO.set{b c d e f j k l m v9}(h:xO w0 w rb b0 b1 v ws i en u0 u1 u2 u3 u4 u5 u6 u7 u8 u9)(a:w.grownBy w' (some b1))(n:w'.heap[b1]?=some (.cells #[b,c,d,e,f,j,k,l,m,v9] 188 (0,0))):xO w0 w' rb b0 b1 v ws i en b c d e f j k l m v9:=by
 have o:=h.z0;have p:=h.z1;have q:=h.z2;have r:=h.z3;have s:=h.z4;have t:=h.z5;have x:=h.gr.size;exact⟨h.rd.grown a (by omega),(a.block b0 (by omega) (by simp;omega)).trans h.zD,n,P5 h.gr a (by omega),h.gl.Z3 a.size (λg u=>a.block g (by have:=h.r0;omega) (by simp;have:=h.r0;omega)),h.r0,o,p,q,A7 r a.size,s,A7 t a.size⟩
theorem xO.s0(h:xO w0 w rb b0 b1 v ws i en u0 u1 u2 u3 u4 u5 u6 u7 u8 u9)(x):xO w0 (w.setCell ⟨b1,0,none⟩ x) rb b0 b1 v ws i en x u1 u2 u3 u4 u5 u6 u7 u8 u9:=h.set (I8 _ _ _ _) (by simpa using A6 w b1 0 _ _ x h.ex)
theorem xO.s1(h:xO w0 w rb b0 b1 v ws i en u0 u1 u2 u3 u4 u5 u6 u7 u8 u9)(x):xO w0 (w.setCell ⟨b1,1,none⟩ x) rb b0 b1 v ws i en u0 x u2 u3 u4 u5 u6 u7 u8 u9:=h.set (I8 _ _ _ _) (by simpa using A6 w b1 1 _ _ x h.ex)
theorem xO.s2(h:xO w0 w rb b0 b1 v ws i en u0 u1 u2 u3 u4 u5 u6 u7 u8 u9)(x):xO w0 (w.setCell ⟨b1,2,none⟩ x) rb b0 b1 v ws i en u0 u1 x u3 u4 u5 u6 u7 u8 u9:=h.set (I8 _ _ _ _) (by simpa using A6 w b1 2 _ _ x h.ex)
theorem xO.s3(h:xO w0 w rb b0 b1 v ws i en u0 u1 u2 u3 u4 u5 u6 u7 u8 u9)(x):xO w0 (w.setCell ⟨b1,3,none⟩ x) rb b0 b1 v ws i en u0 u1 u2 x u4 u5 u6 u7 u8 u9:=h.set (I8 _ _ _ _) (by simpa using A6 w b1 3 _ _ x h.ex)
theorem xO.s4(h:xO w0 w rb b0 b1 v ws i en u0 u1 u2 u3 u4 u5 u6 u7 u8 u9)(x):xO w0 (w.setCell ⟨b1,4,none⟩ x) rb b0 b1 v ws i en u0 u1 u2 u3 x u5 u6 u7 u8 u9:=h.set (I8 _ _ _ _) (by simpa using A6 w b1 4 _ _ x h.ex)
theorem xO.s5(h:xO w0 w rb b0 b1 v ws i en u0 u1 u2 u3 u4 u5 u6 u7 u8 u9)(x):xO w0 (w.setCell ⟨b1,5,none⟩ x) rb b0 b1 v ws i en u0 u1 u2 u3 u4 x u6 u7 u8 u9:=h.set (I8 _ _ _ _) (by simpa using A6 w b1 5 _ _ x h.ex)
theorem xO.s6(h:xO w0 w rb b0 b1 v ws i en u0 u1 u2 u3 u4 u5 u6 u7 u8 u9)(x):xO w0 (w.setCell ⟨b1,6,none⟩ x) rb b0 b1 v ws i en u0 u1 u2 u3 u4 u5 x u7 u8 u9:=h.set (I8 _ _ _ _) (by simpa using A6 w b1 6 _ _ x h.ex)
theorem xO.s7(h:xO w0 w rb b0 b1 v ws i en u0 u1 u2 u3 u4 u5 u6 u7 u8 u9)(x):xO w0 (w.setCell ⟨b1,7,none⟩ x) rb b0 b1 v ws i en u0 u1 u2 u3 u4 u5 u6 x u8 u9:=h.set (I8 _ _ _ _) (by simpa using A6 w b1 7 _ _ x h.ex)
theorem xO.s8(h:xO w0 w rb b0 b1 v ws i en u0 u1 u2 u3 u4 u5 u6 u7 u8 u9)(x):xO w0 (w.setCell ⟨b1,8,none⟩ x) rb b0 b1 v ws i en u0 u1 u2 u3 u4 u5 u6 u7 x u9:=h.set (I8 _ _ _ _) (by simpa using A6 w b1 8 _ _ x h.ex)
theorem xO.start(c:Rq w rb v ws i en)(d:O4 w)(e:10<rb)(a:w0.grownBy w (some rb))(f:rb<w0.heap.size)(g:w0.heap.size<=b0)(b:b0<w.heap.size)
 (h:w.heap[b0]?=some (.cells #[.int .i64 0,.string ⟨#[]⟩,.int .i64 0,.int .i64 0,.string ⟨#[]⟩,.slice none 0 0,.int .i64 0,.slice none 0 0,.slice none 0 0,.int .i64 0] 188 (0,0))) (u0 u1 u2 u3 u4 u5 u6 u7 u8 u9:Value):
 xO w0 (w.alloc (.cells #[u0,u1,u2,u3,u4,u5,u6,u7,u8,u9] 188)) rb b0 w.heap.size v ws i en u0 u1 u2 u3 u4 u5 u6 u7 u8 u9:=
 ⟨c.K7 ((x8 _ _).alloc (x7 _) _),(C4 w _ b).trans h,A5 w _,I4 a (I7 ((x8 _ _).alloc (x7 _) _) _),d.to ((x8 _ _).alloc (x7 _) _),e,f,g,Nat.ne_of_lt b,by simp,a.size,by simp;omega⟩
theorem xO.zmU(b:Rq w rb v ws i en)(c:O4 w)(d:10<rb)(u0 u1 u2 u3 u4 u5 u6 u7 u8 u9:Value):
 xO w ((w.alloc (.cells #[u0,u1,u2,u3,u4,u5,u6,u7,u8,u9] 188)).alloc (.cells #[.int .i64 0,.string ⟨#[]⟩,.int .i64 0,.int .i64 0,.string ⟨#[]⟩,.slice none 0 0,.int .i64 0,.slice none 0 0,.slice none 0 0,.int .i64 0] 188)) rb (w.heap.size+1) w.heap.size v ws i en u0 u1 u2 u3 u4 u5 u6 u7 u8 u9:=by
 have a:Below w.heap.size w ((w.alloc (.cells #[u0,u1,u2,u3,u4,u5,u6,u7,u8,u9] 188)).alloc (.cells #[.int .i64 0,.string ⟨#[]⟩,.int .i64 0,.int .i64 0,.string ⟨#[]⟩,.slice none 0 0,.int .i64 0,.slice none 0 0,.slice none 0 0,.int .i64 0] 188)):=((x8 _ _).alloc (x7 _) _).alloc (by simp) _;have e:=b.lt;exact⟨b.K7 a,by simpa using A5 (w.alloc (.cells #[u0,u1,u2,u3,u4,u5,u6,u7,u8,u9] 188)) (.cells #[.int .i64 0,.string ⟨#[]⟩,.int .i64 0,.int .i64 0,.string ⟨#[]⟩,.slice none 0 0,.int .i64 0,.slice none 0 0,.slice none 0 0,.int .i64 0] 188),(C4 _ _ (by simp)).trans (A5 w _),I7 a _,c.to a,d,e,by omega,by omega,by simp;omega,x7 _,by simp⟩
end
def SmR(w:World)(rb:Nat)(v:Value)(ws:List Wd)(en:Nat)(r:Rs)(e:Ending)(w':World):Prop:=
 match r with
 |.st s j=> ∃b c d f h k,e=.returned (.agg #[.int .i64 s.I9,.string s.J2,.int .i64 s.a.I9,.int .i64 s.a.n,.string s.a.K0,.slice b s.a.args.length c,.int .i64 s.a.pos,.slice d s.J0.length f,.slice h s.M9.length k,.int .i64 s.pos])/\J7 w' (λg=>w.heap.size<=g) (.slice b s.a.args.length c) s.a.args/\K9 w' (λg=>w.heap.size<=g) (.slice d s.J0.length f) s.J0/\K9 w' (λg=>w.heap.size<=g) (.slice h s.M9.length k) s.M9/\Rq w' rb v ws j en/\w.grownBy w' (some rb)
 |.J9 j=>e=Y3 ws en j/\w.grownBy w' (some rb)
 |.Zn _ _=>False
def BlR(w:World)(rb:Nat)(v:Value)(ws:List Wd)(en:Nat)(r:Rs)(e:Ending)(w':World):Prop:=
 match r with
 |.Zn l j=> ∃A c,e=.returned (.slice A l.length c)/\K9 w' (λg=>w.heap.size<=g) (.slice A l.length c) l/\Rq w' rb v ws j en/\w.grownBy w' (some rb)
 |.J9 j=>e=Y3 ws en j/\w.grownBy w' (some rb)
 |.st _ _=>False
def zfg(rb:Nat)(v:Value)(ws:List Wd)(en i:Nat):Prop:=
 ∀r,Ds ws en (.zO i) r-> ∀w,Rq w rb v ws i en->O4 w->Calls prog 191 #[.pointer (some ⟨rb,0,none⟩)] w λe w'=>SmR w rb v ws en r e w'
def JP(rb:Nat)(v:Value)(ws:List Wd)(en i:Nat):Prop:=
 ∀r,Ds ws en (.block i) r-> ∀w,Rq w rb v ws i en->O4 w->Calls prog 141 #[.pointer (some ⟨rb,0,none⟩)] w λe w'=>BlR w rb v ws en r e w'
def De.on{ws}{en:Nat}{q r}(h:De ws en q r):zbB q r:=by
 induction h
 case lvl r _ _ _ a b=>cases r<;>simp only[zbB]at* <;>omega
 case lvl6 r _ c=>cases r<;>simp only[zbB]at* <;>omega
 case go r _ _ _ _ a b=>cases r<;>simp only[zbB]at* <;>omega
 all_goals(simp only[zbB]at*;try omega)
def zca:Qs->Rs->Prop
 |.zO i,.st _ j=>i<j
 |.block i,.Zn _ j=>i<j
 |.qj i,.Zn _ j=>i<j
 |_,_=>True
def Ds.on{ws}{en:Nat}{q r}(h:Ds ws en q r):zca q r:=by
 induction h
 case simp h _=>have a:X3 ws _<_:=De.on h;simp only[zca];unfold X3 at a;(repeat' split at a)<;>omega
 case block r _ _ d=>cases r<;>simp only[zca]at* <;>omega
 case whil h _ d=>have a:_<_:=De.on h;simp only[zca]at*;omega
 case if0 h _ _ d=>have a:_<_:=De.on h;simp only[zca]at*;omega
 case ifE h _ _ _ _ b c=>have a:_<_:=De.on h;simp only[zca]at*;omega
 case ifI h _ _ _ _ b c=>have a:_<_:=De.on h;simp only[zca]at*;omega
 all_goals(simp only[zca]at*;try omega)
def zeZ(l:List Sm):Rs->Rs
 |.Zn m j=>.Zn (l++m) j
 |r=>r
def zjC(S:Nat)(v ws)(en i:Nat)(hr:10<S)(q: ∀j,i<j->zfg S v ws en j):JP S v ws en i:=by
 intro r G w h hG;have H1:=qh q;have HR:=qh h;have HG:=qh hG;have HD:=qh G;have V:=h.lt;clear q h hG G
 go_enter func141,ntmps141
 go_wp2_with fail
 have hX:(J3 ws i zbv=false/\r=.J9 i)\/(J3 ws i zbv=true/\Ds ws en (.qj (i+1)) r):=by
  have h:=HD.out;cases h with
  |zb0 h=>exact .inl ⟨h,rfl⟩
  |block h H=>exact .inr ⟨h,H⟩
 rcases hX with⟨ha,rfl⟩|⟨ha,G⟩
 ·refine(jl zbv (R1 (by decide)) HR.out ha).mono ?_
  rintro e w2 ⟨rfl,b⟩;have I:=qh b;clear b;unfold Y3
  go_wp2_with fail
  exact⟨rfl,rfl,I.out⟩
 have W:=qh G;clear G;refine(jH zbv (R1 (by decide)) HR.out ha).mono ?_;rintro e w0 ⟨rfl,B,b⟩;have X:=qh B;have Y:=qh b;clear B b HR HD ha
 go_wp2_with fail
 go_loopw[3] (λo wr=> ∃(l:List (Sm×Value×Value×Value))(A:Option Addr)(c m:Nat)(r':Rs),o=.slice A l.length c/\Hid (O8 zH wr w.heap.size 188 10 (.slice A l.length c) l)/\Hid (Rq wr S v ws m en)/\Hid (i<m/\l.length<=m/\Ds ws en (.qj m) r'/\r=zeZ (l.map (·.1)) r')/\Hid (w.grownBy wr (some S)))
  (λ_ wr=>ws.length-jN wr S)
 case atStart=>exact⟨[],none,0,i+1,r,rfl,qh (O8.nil _ _ _ _ _),X,qh ⟨by omega,by simp,W.out,by cases r<;>simp[zeZ]⟩,Y⟩
 case round=>
  obtain⟨l,A,c,m,r',rfl,HW,u,U,J⟩:=hrel;clear X W Y;obtain⟨t,ht⟩: ∃t,J3 ws m zac=t:=⟨_,rfl⟩;have T:=qh ht;clear ht
  go_wp2_with fail
  refine(Z5 zac (R1 (by decide)) t u.out T.out).mono ?_;rintro e w1 ⟨rfl,B,b⟩;have b1:=J.out.size;have K:=qh (HW.out.kept b (λk e=>.inl (by cases e;exact V)));have y:=qh B;have f:=qh (I4 J.out b);clear B b HW J;cases t with
  |true=>
   obtain⟨_,_,G,he⟩:=U.out;have hq:r'=.Zn [] (m+1):=by
    cases G with
    |done _=>rfl
    |qw h=>rw[T.out]at h;cases h
    |xW h=>rw[T.out]at h;cases h
    |xV h=>rw[T.out]at h;cases h
   subst hq;subst he
   go_wp2_with fail
   go_ret;refine⟨A,c,?_,?_,by simpa using y.out,f.out⟩
   ·simp
   ·have:=K.out.qj;simpa using this
  |false=>
   simp only[C2,if_false]at y;have hn:l.length<=4000:=by
    have:=U.out.2.1;have:=u.out.pos;have:=u.out.X5;omega
   have Z:=U.out.1;have hX:(∃j,Ds ws en (.zO m) (.J9 j)/\r=.J9 j)\/ ∃x j r2,Ds ws en (.zO m) (.st x j)/\Ds ws en (.qj j) r2/\r=zeZ (l.map (·.1)++[x]) r2:=by
    have h:=U.out.2.2.1;have e:=U.out.2.2.2;cases h with
    |done h=>rw[T.out]at h;cases h
    |qw _ q H=>exact .inr ⟨_,_,_,q,H,by rw[e];simp[zeZ]⟩
    |xW _ q H=>exact .inr ⟨_,_,_,q,H,by rw[e];rfl⟩
    |xV _ q=>exact .inl ⟨_,q,by rw[e];rfl⟩
   rcases hX with⟨j,hy,rfl⟩|⟨s,j,r2,hy,hm,hj⟩
   ·have HY:=qh hy;clear hy
    go_wp2_with fail
    refine(H1.out m Z _ HY.out w1 y.out (HG.out.of f.out hr)).mono ?_;rintro e C ⟨rfl,b⟩;have I:=qh (I4 f.out b);clear b;unfold Y3
    go_wp2_with fail
    exact⟨rfl,rfl,I.out⟩
   ·have HY:=qh hy;have HM:=qh hm;have HJ:=qh hj;clear hy hm hj
    have b2:m<j:=HY.out.on
    go_wp2_with fail
    refine(H1.out m Z _ HY.out w1 y.out (HG.out.of f.out hr)).mono ?_;rintro e C ⟨L,M,N,O,P,Q,rfl,hA,hB,hE,B,b⟩;have a8:=f.out.size;have HK:Hid (zH.XD C (λg=>w1.heap.size<=g) (s,.slice L s.a.args.length M,.slice N s.J0.length O,.slice P s.M9.length Q)):=qh ⟨hA,hB,hE⟩;have a4:=qh B;have a0:=qh (K.out.kept b (λk e=>.inl (by cases e;exact V)));have a5:=qh (I4 f.out b);have D:=K.out.1.lt;have a9:=b.size;clear hA hB hE B b
    go_wp2_with((at_builtin;go_must(refine N0 zio rfl _ _ rfl w.heap.size _ l.length (l.flatMap zH.cells) rfl (a0.out.1.alloc _) C.heap.size 1 #[.int .i64 s.I9,.string s.J2,.int .i64 s.a.I9,.int .i64 s.a.n,.string s.a.K0,.slice L s.a.args.length M,.int .i64 s.a.pos,.slice N s.J0.length O,.slice P s.M9.length Q,.int .i64 s.pos] rfl (A5 C _) rfl (by simp[Value.oneCell']) (by omega) (by simp;omega) ?_);intro g4 a1 w4 p d E b0))
    have z:(C.alloc (.cells #[.int .i64 s.I9,.string s.J2,.int .i64 s.a.I9,.int .i64 s.a.n,.string s.a.K0,.slice L s.a.args.length M,.int .i64 s.a.pos,.slice N s.J0.length O,.slice P s.M9.length Q,.int .i64 s.pos] 188)).grownBy w4 (Value.slice A l.length c).ownBlock:=d;have a2:(Value.slice A l.length c).ownBlock=some g4\/g4=(C.alloc (.cells #[.int .i64 s.I9,.string s.J2,.int .i64 s.a.I9,.int .i64 s.a.n,.string s.a.K0,.slice L s.a.args.length M,.int .i64 s.a.pos,.slice N s.J0.length O,.slice P s.M9.length Q,.int .i64 s.pos] 188)).heap.size:=E
    have a3:zH.XD (C.alloc (.cells #[.int .i64 s.I9,.string s.J2,.int .i64 s.a.I9,.int .i64 s.a.n,.string s.a.K0,.slice L s.a.args.length M,.int .i64 s.a.pos,.slice N s.J0.length O,.slice P s.M9.length Q,.int .i64 s.pos] 188)) (λg=>w1.heap.size<=g) (s,.slice L s.a.args.length M,.slice N s.J0.length O,.slice P s.M9.length Q):=
     zH.K7 (λg q H=>⟨q,by simp;omega,C4 C _ H⟩) HK.out
    have a6:=qh (O8.qv (a0.out.below ((x8 _ _).alloc (x7 _) _)) a3 (λg b=>⟨by omega,λe=>by have:=(D g e).2;omega⟩) p z a2);have F: ∀k,(Value.slice A l.length c).ownBlock=some k->w.heap.size<=k:=λk e=>(D k e).1
    have R:=qh (zdC (a4.out.K7 ((x8 _ _).alloc (x7 _) _)) z (λk e=>by have:=F k e;omega));have a7:=qh (Qg (I4 a5.out (I7 ((x8 _ _).alloc (x7 _) _) _)) z F);clear d E p z a2 a3
    go_roundw
    case rel=>exact⟨l++[(s,.slice L s.a.args.length M,.slice N s.J0.length O,.slice P s.M9.length Q)],some ⟨g4,0,none⟩,a1,j,r2,by simp,by simpa using a6,R,qh ⟨by omega,by have:=U.out.2.1;simp;omega,HM.out,by rw[HJ.out];simp⟩,a7⟩
    case measure=>rw[R.out.yB,u.out.yB];have:=R.out.pos;omega
end Go.Proofs.YtmngofgminlloaaGreatDoor
