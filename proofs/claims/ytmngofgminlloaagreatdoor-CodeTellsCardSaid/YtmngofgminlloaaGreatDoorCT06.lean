/- Merged. -/
import Derived.Test.YtmngofgminlloaaGreatDoorCT05
set_option linter.all false
set_option maxHeartbeats 16000000
set_option maxRecDepth 100000
namespace Go.Proofs.YtmngofgminlloaaGreatDoor
open Go.Proofs.Tryz
open Go.RowKit Tw
def kw:Nat->ByteArray
 |0=>QY|2=>Xq|3=>ji|4=>qr|5=>xw|_=>L1
def jB(ws:List Wd)(i:Nat)(b:Bool)(a c:Nat):Prop:=
 (a=7/\c=i/\ ∀j,j<6->j≠1->U8 ws i b (kw j)=false)\/(b=false/\a≠7/\a≠2/\a=L7 ws i/\c=i+1)
theorem jB.set{ws}{i:Nat}{b:Bool}{c i1:Nat}(h:jB ws i b c i1)(t:Bool)(d:t=true↔(c=7/\L3 ws i1=2/\J3 ws (i1+1) yW=true)):zgD ws i b (if t then 2 else c) i1:=by
 rcases h with⟨rfl,rfl,a⟩|⟨rfl,f,n,o,rfl⟩
 ·refine⟨λp=>?_,λ_=>by cases t<;>simp,by cases t<;>simp⟩
  subst p;have g:=M7 (a 0 (by decide) (by decide));have j:=M7 (a 2 (by decide) (by decide));have k:=M7 (a 3 (by decide) (by decide));have l:=M7 (a 4 (by decide) (by decide));have m:=M7 (a 5 (by decide) (by decide));simp only[kw]at g j k l m;unfold L7;simp only[g,j,k,l,m,C2,if_false];cases t with
  |true=>show 2=_;rw[C8 (d.1 rfl).2]
  |false=>show 7=_;rw[B5 (λe=>H9 (d.2 ⟨rfl,e⟩) (by decide))]
 ·have:t=false:=by cases t with|false=>rfl|true=>exact H9 (d.1 rfl).1 f
  subst this;exact⟨λ_=>o,λe=>H9 e (by decide),by simp;exact⟨n,f⟩⟩
theorem jB.k0{ws}{i:Nat}{b:Bool}(c: ∀j,j<0->j≠1->U8 ws i b (kw j)=false)(h:U8 ws i b QY=true):jB ws i b 1 (i+1):=by
 obtain⟨rfl,a⟩:=O3 h;exact .inr ⟨rfl,by decide,by decide,by unfold L7;simp[a],rfl⟩
theorem jB.k2{ws}{i:Nat}{b:Bool}(c: ∀j,j<2->j≠1->U8 ws i b (kw j)=false)(h:U8 ws i b Xq=true):jB ws i b 3 (i+1):=by
 obtain⟨rfl,d⟩:=O3 h;have a:=M7 (c 0 (by decide) (by decide));simp only[kw]at a;exact .inr ⟨rfl,by decide,by decide,by unfold L7;simp[d,a],rfl⟩
theorem jB.k3{ws}{i:Nat}{b:Bool}(a: ∀j,j<3->j≠1->U8 ws i b (kw j)=false)(h:U8 ws i b ji=true):jB ws i b 4 (i+1):=by
 obtain⟨rfl,e⟩:=O3 h;have c:=M7 (a 0 (by decide) (by decide));have d:=M7 (a 2 (by decide) (by decide));simp only[kw]at c d;exact .inr ⟨rfl,by decide,by decide,by unfold L7;simp[e,c,d],rfl⟩
theorem jB.k4{ws}{i:Nat}{b:Bool}(a: ∀j,j<4->j≠1->U8 ws i b (kw j)=false)(h:U8 ws i b qr=true):jB ws i b 5 (i+1):=by
 obtain⟨rfl,f⟩:=O3 h;have c:=M7 (a 0 (by decide) (by decide));have d:=M7 (a 2 (by decide) (by decide));have e:=M7 (a 3 (by decide) (by decide));simp only[kw]at c d e;exact .inr ⟨rfl,by decide,by decide,by unfold L7;simp[f,c,d,e],rfl⟩
theorem jB.k5{ws}{i:Nat}{b:Bool}(a: ∀j,j<5->j≠1->U8 ws i b (kw j)=false)(h:U8 ws i b xw=true):jB ws i b 6 (i+1):=by
 obtain⟨rfl,g⟩:=O3 h;have c:=M7 (a 0 (by decide) (by decide));have d:=M7 (a 2 (by decide) (by decide));have e:=M7 (a 3 (by decide) (by decide));have f:=M7 (a 4 (by decide) (by decide));simp only[kw]at c d e f;exact .inr ⟨rfl,by decide,by decide,by unfold L7;simp[g,c,d,e,f],rfl⟩
theorem zlz(C:Nat)(v ws)(en i:Nat)(hr:10<C)(h1: ∀j,i<=j->JW C v ws en 1 j)(h2: ∀j,i<j->YI C v ws en j)(h3: ∀j,i<j->zcg C v ws en j):zcg C v ws en i:=by
 intro w b h hG;have H1:=qh h1;have H2:=qh h2;have H3:=qh h3;have HR:=qh h;have HG:=qh hG;have e6:=h.lt;clear h1 h2 h3 h hG
 go_enter func108,ntmps108
 go_wp2_with fail
 refine(zg6 (HR.out.K7 ((x8 _ _).alloc (x7 _) _))).mono ?_;rintro e w1 ⟨rfl,hb⟩;have E:Below w.heap.size w w1:=((x8 _ _).alloc (x7 _) _).trans (hb.mono (by simp));have c:=qh (jW.start (HR.out.K7 E) (HG.out.to E) hr (I7 E _) e6 (x7 _) (by have:=hb.size;simp at this;omega) ((hb.block _ (by simp)).trans (A5 w _)) (.int .i64 7) (.string ⟨#[]⟩) (.int .i64 0) (.int .i64 0) (.string ⟨#[]⟩) (.slice none 0 0) (.int .i64 0) (.slice none 0 0) (.slice none 0 0) (.int .i64 (J4 ws i en)));clear hb E
 go_upto_block 0 with(fail)
 have p:Hid (((w1.alloc (.cells #[.int .i64 7,.string ⟨#[]⟩,.int .i64 0,.int .i64 0,.string ⟨#[]⟩,.slice none 0 0,.int .i64 0,.slice none 0 0,.slice none 0 0,.int .i64 (J4 ws i en)] 188)).alloc (.cells #[.string ⟨#[108,101,116]⟩,.string ⟨#[]⟩,.string ⟨#[105,102]⟩,.string ⟨#[119,104,105,108,101]⟩,.string ⟨#[114,101,116,117,114,110]⟩,.string ⟨#[121,105,101,108,100]⟩] 9)).heap[w1.heap.size+1]?=some (.cells #[.string ⟨#[108,101,116]⟩,.string ⟨#[]⟩,.string ⟨#[105,102]⟩,.string ⟨#[119,104,105,108,101]⟩,.string ⟨#[114,101,116,117,114,110]⟩,.string ⟨#[121,105,101,108,100]⟩] 9 (0,0))):=
  qh (by simpa using A5 (w1.alloc (.cells #[.int .i64 7,.string ⟨#[]⟩,.int .i64 0,.int .i64 0,.string ⟨#[]⟩,.slice none 0 0,.int .i64 0,.slice none 0 0,.slice none 0 0,.int .i64 (J4 ws i en)] 188)) (.cells #[.string ⟨#[108,101,116]⟩,.string ⟨#[]⟩,.string ⟨#[105,102]⟩,.string ⟨#[119,104,105,108,101]⟩,.string ⟨#[114,101,116,117,114,110]⟩,.string ⟨#[121,105,101,108,100]⟩] 9))
 replace c:=qh (c.out.below (w':=(w1.alloc (.cells #[.int .i64 7,.string ⟨#[]⟩,.int .i64 0,.int .i64 0,.string ⟨#[]⟩,.slice none 0 0,.int .i64 0,.slice none 0 0,.slice none 0 0,.int .i64 (J4 ws i en)] 188)).alloc (.cells #[.string ⟨#[108,101,116]⟩,.string ⟨#[]⟩,.string ⟨#[105,102]⟩,.string ⟨#[119,104,105,108,101]⟩,.string ⟨#[114,101,116,117,114,110]⟩,.string ⟨#[121,105,101,108,100]⟩] 9)) ((x8 _ _).alloc (x7 _) _));generalize(w1.alloc _).alloc _=W1 at c p|-;have e7:C<w1.heap.size+1:=by have:=c.out.z0;have:=c.out.z1;have:=c.out.z2;omega
 generalize a2:w1.heap.size+1=P at c p e7|-;generalize w1.heap.size=f at c a2|-;have j2:=qh a2;clear a2;obtain⟨b0,E⟩: ∃b0,w.heap.size=b0:=⟨_,rfl⟩;rw[E]at c;simp only[E];have j3:=qh E;clear E;clear HR
 go_cut[] (λW=> ∃D r:Nat,Hid (jB ws i b D r)/\Hid (jW w W C b0 f v ws r en b (.int .i64 D) (.string ⟨#[]⟩) (.int .i64 0) (.int .i64 0) (.string ⟨#[]⟩) (.slice none 0 0) (.int .i64 0) (.slice none 0 0) (.slice none 0 0) (.int .i64 (J4 ws i en))))
 case first=>
  go_wp2_with fail
  go_loopw[11] (λk wr=> ∃m:Nat,m<=6/\k=.int .i64 m/\Hid (jW w wr C b0 f v ws i en b (.int .i64 7) (.string ⟨#[]⟩) (.int .i64 0) (.int .i64 0) (.string ⟨#[]⟩) (.slice none 0 0) (.int .i64 0) (.slice none 0 0) (.slice none 0 0) (.int .i64 (J4 ws i en)))/\Hid (wr.heap[P]?=some (.cells #[.string ⟨#[108,101,116]⟩,.string ⟨#[]⟩,.string ⟨#[105,102]⟩,.string ⟨#[119,104,105,108,101]⟩,.string ⟨#[114,101,116,117,114,110]⟩,.string ⟨#[121,105,101,108,100]⟩] 9 (0,0)))/\Hid (∀j,j<m->j≠1->U8 ws i b (kw j)=false)) (λk _=>6-(intOf k).toNat)
  case atStart=>exact⟨0,by omega,rfl,c,p,qh (λj h=>by omega)⟩
  case round=>
   obtain⟨m,hm,rfl,c,p,I⟩:=hrel;obtain rfl|rfl|rfl|rfl|rfl|rfl|rfl:m=0\/m=1\/m=2\/m=3\/m=4\/m=5\/m=6:=by omega
   ·have kc:wr.cell? ⟨P,0,none⟩=some (.string ⟨#[108,101,116]⟩):=x6 p.out 0
    go_wp2_with fail
    obtain⟨t,G⟩: ∃t,U8 ws i b QY=t:=⟨_,rfl⟩;have T:=qh G;refine(zG QY t c.out.rd G).mono ?_;rintro e w2 ⟨rfl,o,d⟩;replace c:=qh (c.out.L9 o d);replace p:=qh ((d.block P (I5 p.out) (by simp;omega)).trans p.out);clear o d G kc;cases t with
    |true=>
     simp only[if_true]at c;obtain⟨-,f0,f1,f2,f3,f4,f5,f6,f7,f8,f9⟩:=J5 c.out.ex;have A:=(J5 c.out.ex).1.1
     go_wp2_with fail
     go_meet
     case rel=>exact⟨1,i+1,qh (jB.k0 I.out T.out),qh (c.out.s0 _)⟩
    |false=>
     simp only[C2,if_false]at c
     go_wp2_with fail
     go_roundw
     case rel=>exact⟨1,by omega,rfl,c,p,qh (λj h S=>by
      rcases E0 j 0 with L|L
      ·exact I.out j L S
      ·obtain rfl:j=0:=by omega
       exact T.out)⟩
     case measure=>simp[intOf]
   ·have kc:wr.cell? ⟨P,1,none⟩=some (.string ⟨#[]⟩):=x6 p.out 1
    go_wp2_with fail
    go_roundw
    case rel=>exact⟨2,by omega,rfl,c,p,qh (λj h S=>I.out j (by omega) S)⟩
    case measure=>simp[intOf]
   ·have kc:wr.cell? ⟨P,2,none⟩=some (.string ⟨#[105,102]⟩):=x6 p.out 2
    go_wp2_with fail
    obtain⟨t,G⟩: ∃t,U8 ws i b Xq=t:=⟨_,rfl⟩;have T:=qh G;refine(zG Xq t c.out.rd G).mono ?_;rintro e w2 ⟨rfl,o,d⟩;replace c:=qh (c.out.L9 o d);replace p:=qh ((d.block P (I5 p.out) (by simp;omega)).trans p.out);clear o d G kc;cases t with
    |true=>
     simp only[if_true]at c;obtain⟨-,f0,f1,f2,f3,f4,f5,f6,f7,f8,f9⟩:=J5 c.out.ex;have A:=(J5 c.out.ex).1.1
     go_wp2_with fail
     go_meet
     case rel=>exact⟨3,i+1,qh (jB.k2 I.out T.out),qh (c.out.s0 _)⟩
    |false=>
     simp only[C2,if_false]at c
     go_wp2_with fail
     go_roundw
     case rel=>exact⟨3,by omega,rfl,c,p,qh (λj h S=>by
      rcases E0 j 2 with L|L
      ·exact I.out j L S
      ·obtain rfl:j=2:=by omega
       exact T.out)⟩
     case measure=>simp[intOf]
   ·have kc:wr.cell? ⟨P,3,none⟩=some (.string ⟨#[119,104,105,108,101]⟩):=x6 p.out 3
    go_wp2_with fail
    obtain⟨t,G⟩: ∃t,U8 ws i b ji=t:=⟨_,rfl⟩;have T:=qh G;refine(zG ji t c.out.rd G).mono ?_;rintro e w2 ⟨rfl,o,d⟩;replace c:=qh (c.out.L9 o d);replace p:=qh ((d.block P (I5 p.out) (by simp;omega)).trans p.out);clear o d G kc;cases t with
    |true=>
     simp only[if_true]at c;obtain⟨-,f0,f1,f2,f3,f4,f5,f6,f7,f8,f9⟩:=J5 c.out.ex;have A:=(J5 c.out.ex).1.1
     go_wp2_with fail
     go_meet
     case rel=>exact⟨4,i+1,qh (jB.k3 I.out T.out),qh (c.out.s0 _)⟩
    |false=>
     simp only[C2,if_false]at c
     go_wp2_with fail
     go_roundw
     case rel=>exact⟨4,by omega,rfl,c,p,qh (λj h S=>by
      rcases E0 j 3 with L|L
      ·exact I.out j L S
      ·obtain rfl:j=3:=by omega
       exact T.out)⟩
     case measure=>simp[intOf]
   ·have kc:wr.cell? ⟨P,4,none⟩=some (.string ⟨#[114,101,116,117,114,110]⟩):=x6 p.out 4
    go_wp2_with fail
    obtain⟨t,G⟩: ∃t,U8 ws i b qr=t:=⟨_,rfl⟩;have T:=qh G;refine(zG qr t c.out.rd G).mono ?_;rintro e w2 ⟨rfl,o,d⟩;replace c:=qh (c.out.L9 o d);replace p:=qh ((d.block P (I5 p.out) (by simp;omega)).trans p.out);clear o d G kc;cases t with
    |true=>
     simp only[if_true]at c;obtain⟨-,f0,f1,f2,f3,f4,f5,f6,f7,f8,f9⟩:=J5 c.out.ex;have A:=(J5 c.out.ex).1.1
     go_wp2_with fail
     go_meet
     case rel=>exact⟨5,i+1,qh (jB.k4 I.out T.out),qh (c.out.s0 _)⟩
    |false=>
     simp only[C2,if_false]at c
     go_wp2_with fail
     go_roundw
     case rel=>exact⟨5,by omega,rfl,c,p,qh (λj h S=>by
      rcases E0 j 4 with L|L
      ·exact I.out j L S
      ·obtain rfl:j=4:=by omega
       exact T.out)⟩
     case measure=>simp[intOf]
   ·have kc:wr.cell? ⟨P,5,none⟩=some (.string ⟨#[121,105,101,108,100]⟩):=x6 p.out 5
    go_wp2_with fail
    obtain⟨t,G⟩: ∃t,U8 ws i b xw=t:=⟨_,rfl⟩;have T:=qh G;refine(zG xw t c.out.rd G).mono ?_;rintro e w2 ⟨rfl,o,d⟩;replace c:=qh (c.out.L9 o d);replace p:=qh ((d.block P (I5 p.out) (by simp;omega)).trans p.out);clear o d G kc;cases t with
    |true=>
     simp only[if_true]at c;obtain⟨-,f0,f1,f2,f3,f4,f5,f6,f7,f8,f9⟩:=J5 c.out.ex;have A:=(J5 c.out.ex).1.1
     go_wp2_with fail
     go_meet
     case rel=>exact⟨6,i+1,qh (jB.k5 I.out T.out),qh (c.out.s0 _)⟩
    |false=>
     simp only[C2,if_false]at c
     go_wp2_with fail
     go_roundw
     case rel=>exact⟨6,by omega,rfl,c,p,qh (λj h S=>by
      rcases E0 j 5 with L|L
      ·exact I.out j L S
      ·obtain rfl:j=5:=by omega
       exact T.out)⟩
     case measure=>simp[intOf]
   ·go_wp2_with fail
    go_meet
    case rel=>exact⟨7,i,qh (.inl ⟨rfl,rfl,I.out⟩),c⟩
 case rest=>
  obtain⟨D,r,HH,c⟩:=hcut;clear p;obtain⟨wa,rfl⟩: ∃wo:World,wo=wc:=⟨_,rfl⟩
  go_upto_region 8 with(fail)
  go_cut[71] (λu W=> ∃t:Bool,u=.bool t/\Hid (t=true↔(D=7/\L3 ws r=2/\J3 ws (r+1) yW=true))/\Hid (Below wa.heap.size wa W))
  case first=>
   obtain⟨⟨A,-⟩,-⟩:=J5 c.out.ex;have r0:=c.out.rd.c0;have r1:=c.out.rd.c1;have hn:=c.out.rd.X5;have hp:=c.out.rd.pos;obtain⟨A0,j0,rfl,U⟩:=c.out.rd.row.jJ;have a8:=qh U;clear U
   by_cases h7:D=7
   ·subst h7
    by_cases e8:r+1<ws.length
    ·obtain⟨y,hy⟩: ∃y,ws[r]?=some y:=⟨_,x9 (by omega)⟩
     obtain⟨z,hz⟩: ∃y,ws[r+1]?=some y:=⟨_,x9 e8⟩;obtain⟨g,rfl,d,d0,-,-⟩:=a8.out r y hy;obtain⟨g',a9,-,-,d1,-⟩:=a8.out (r+1) z hz;obtain rfl:g'=g:=by injection a9 with h1;injection h1 with h1;exact h1.symm
     have k0:(0:Int)<=(r:Int):=by omega
     have k1:(r:Int)<(ws.length:Int):=by omega
     have k2:(0:Int)<=(r:Int)+1:=by omega
     have k3:(r:Int)+1<(ws.length:Int):=by omega
     have HY:Hid (L3 ws r=y.I9):=qh (by unfold L3;rw[hy]);have HZ:Hid (J3 ws (r+1) yW=(z.K0.toList==yW.toList)):=qh (by unfold J3;rw[hz]);obtain⟨t1,e9⟩: ∃t,((y.I9:Int)==2)=t:=⟨_,rfl⟩;obtain⟨t2,J⟩: ∃t,(z.K0.toList==yW.toList)=t:=⟨_,rfl⟩;have T1:=qh e9;have T2:=qh J;simp only[yW]at J;clear hy hz a9;have Q:wa.cell? ⟨f,0,none⟩=some (.int .i64 7):=A;have q0:((r:Int)+1).toNat=r+1:=by omega
     have q1:IntKind.i64.wrap ((r:Int)+1)=(r:Int)+1:=IntWalk.i64_in _ (by omega);clear A;cases t1 with
     |false=>
      go_quiet (fail)
      go_wp2_with fail
      go_meet
      case rel=>exact⟨false,rfl,qh ⟨by simp,λe=>by have:=T1.out;rw[<-HY.out]at this;rw[e.2.1]at this;exact H9 this (by decide)⟩,qh (J6 (x8 _ _) _)⟩
     |true=>
      have HS:Hid (yW.toList=[61]):=qh (by simp[yW,C7]<;>rfl);clear T2 J
      go_quiet (fail)
      go_wp2_with fail
      go_meet
      case rel=>exact⟨z.K0.toList==[61],rfl,qh ⟨λe=>⟨by simp,by rw[HY.out];have:=beq_iff_eq.1 T1.out;omega,by rw[HZ.out,HS.out];exact e⟩,λe=>by rw[HZ.out,HS.out]at e;exact e.2.2⟩,qh (J6 (x8 _ _) _)⟩
    ·have Q:wa.cell? ⟨f,0,none⟩=some (.int .i64 7):=A
     have q1:IntKind.i64.wrap ((r:Int)+1)=(r:Int)+1:=IntWalk.i64_in _ (by omega);have e1:decide ((r:Int)+1<(ws.length:Int))=false:=G1 (by omega);have HX:Hid (J3 ws (r+1) yW=false):=qh (by unfold J3;rw[C5 (by omega)]);clear A
     go_quiet (fail)
     go_wp2_with fail
     go_meet
     case rel=>exact⟨false,rfl,qh ⟨by simp,λe=>by rw[HX.out]at e;exact e.2.2⟩,qh (J6 (x8 _ _) _)⟩
   ·have e1:((D:Int)==7)=false:=by simp;omega
    have H7:=qh h7;clear h7
    go_quiet (fail)
    go_wp2_with fail
    go_meet
    case rel=>exact⟨false,rfl,qh ⟨by simp,λe=>H9 e.1 H7.out⟩,qh (J6 (x8 _ _) _)⟩
  case rest=>
   obtain⟨t,rfl,HT,B⟩:=hcut;replace c:=qh (c.out.below B.out);have p:=qh (HH.out.set t HT.out);clear B HH HT
   go_upto_if 71 with(fail)
   obtain⟨wb,rfl⟩: ∃wo:World,wo=wc:=⟨_,rfl⟩
   go_cut[] (λW=>Hid (jW w W C b0 f v ws r en b (.int .i64 ((if t then 2 else D:Nat))) (.string ⟨#[]⟩) (.int .i64 0) (.int .i64 0) (.string ⟨#[]⟩) (.slice none 0 0) (.int .i64 0) (.slice none 0 0) (.slice none 0 0) (.int .i64 (J4 ws i en))))
   case first=>
    cases t with
    |true=>
     have A:=(J5 c.out.ex).1.1;have f0:=(J5 c.out.ex).2.1
     go_wp2_with fail
     go_meet
     case rel=>exact qh (c.out.s0 _)
    |false=>
     go_wp2_with fail
     go_meet
     case rel=>exact c
   case rest=>
    replace c:=hcut;clear hcut;generalize(if t=true then 2 else D)=D at p c;have A:=(J5 c.out.ex).1.1
    go_upto_if 75 with(fail)
    clear A;obtain⟨wa,rfl⟩: ∃wo:World,wo=wc:=⟨_,rfl⟩
    go_cut[] (λW=> ∃(nm:ByteArray)(i3:Nat)(b3:Bool),Hid (ziq ws D r b nm i3 b3)/\Hid (jW w W C b0 f v ws i3 en b3 (.int .i64 D) (.string nm) (.int .i64 0) (.int .i64 0) (.string ⟨#[]⟩) (.slice none 0 0) (.int .i64 0) (.slice none 0 0) (.slice none 0 0) (.int .i64 (J4 ws i en))))
    case first=>
     by_cases hk:D<=2
     ·have h0:(D:Int)<=2:=by omega
      go_wp2_with fail
      refine(Xh 2 c.out.rd).mono ?_;rintro e w4 ⟨⟨s,i2,k2,rfl,o,hK⟩,d⟩;have h5:=qh hK;replace c:=qh (c.out.L9 o d);clear o d hK;have c1:=(J5 c.out.ex).1.2.1;have f1:=(J5 c.out.ex).2.2.1
      go_wp2_with fail
      clear c1 f1;replace c:=qh (c.out.s1 (.string s));generalize w4.setCell ⟨f,1,none⟩ _=w5 at c|-;refine(ya yW c.out.rd).mono ?_;rintro e V ⟨rfl,⟨i3,k3,o,hW⟩,d⟩;have X:=qh hW;replace c:=qh (c.out.L9 o d);clear o d hW
      go_wp2_with fail
      go_meet
      case rel=>exact⟨s,i3,k3,qh (.inl ⟨hk,i2,k2,h5.out,X.out⟩),c⟩
     ·have h0: ¬(D:Int)<=2:=by omega
      go_wp2_with fail
      go_meet
      case rel=>exact⟨L1,r,b,qh (.inr ⟨by omega,rfl,rfl,rfl⟩),c⟩
    case rest=>
     clear c;obtain⟨nm,i3,b3,I,c⟩:=hcut;have HD:=qh (p.out.J2 (en:=en) I.out)
     go_wp2_with fail
     refine(H1.out i3 HD.out.le wc b3 c.out.rd c.out.gl).mono ?_;rintro e w4 ⟨x,A4,c4,i4,b4,rfl,hA,o,hO,d⟩;have HO:=qh hO;have j4:=c.out.z0;have j5:=c.out.z1;have j6:=c.out.z2;have j7:=c.out.z3;have j8:=c.out.gr.size;replace c:=qh (c.out.L9 o d);have q:Hid (J7 w4 (λg=>w.heap.size<=g/\g≠b0/\g≠f) (.slice A4 x.args.length c4) x.args):=qh (hA.K7 λg (h1:wc.heap.size<=g) h2=>⟨⟨by omega,by omega,by omega⟩,h2,rfl⟩);clear o d hA hO;obtain⟨⟨A,c1,c2,c3,M,c5,c6,Q,c8,c9⟩,f0,f1,f2,f3,f4,f5,f6,f7,f8,f9⟩:=J5 c.out.ex
     go_upto_region 14 with(fail)
     clear A c1 c2 c3 M c5 c6 Q c8 c9 f0 f1 f2 f3 f4 f5 f6 f7 f8 f9;replace q:=qh (q.out.later (some f) (I4 (I4 (I4 (I4 (I8 w4 f 2 (.int .i64 x.I9)) (I8 _ f 3 (.int .i64 x.n))) (I8 _ f 4 (.string x.K0))) (I8 _ f 5 (.slice A4 x.args.length c4))) (I8 _ f 6 (.int .i64 x.pos))) (λg h=>by simp;omega) (λg h=>h));replace c:=qh (((((c.out.s2 (.int .i64 x.I9)).s3 (.int .i64 x.n)).s4 (.string x.K0)).s5 (.slice A4 x.args.length c4)).s6 (.int .i64 x.pos));generalize(((((w4.setCell ⟨f,2,none⟩ _).setCell ⟨f,3,none⟩ _).setCell ⟨f,4,none⟩ _).setCell ⟨f,5,none⟩ _).setCell ⟨f,6,none⟩ _)=w5 at c q|-;have j9:=HD.out.le;have h6:=HO.out.1;simp only[Qe.at]at h6
     by_cases a1:D=3\/D=4
     ·have h8:b=false:=by
       cases b with
       |false=>rfl
       |true=>rcases p.out.2.1 rfl with h|h<;>omega
      subst h8;have h9:r=i+1:=by rw[p.out.2.2];rw[B5 (by omega)]
      subst h9;obtain⟨hs,rfl,rfl,rfl⟩:=zjd HD.out I.out a1;have HS:=qh hs;clear hs;have A:=(J5 c.out.ex).1.1
      rcases a1 with rfl|rfl
      ·have a3:w5.cell? ⟨f,0,none⟩=some (.int .i64 3):=A
       clear A;replace c:Hid (jW w w5 C b0 f v ws i4 en b4 (.int .i64 3) (.string L1) (.int .i64 x.I9) (.int .i64 x.n) (.string x.K0) (.slice A4 x.args.length c4) (.int .i64 x.pos) (.slice none 0 0) (.slice none 0 0) (.int .i64 (J4 ws i en))):=c
       go_wp2_with fail
       clear a3;refine(H2.out i4 (by omega) w5 b4 c.out.rd c.out.gl).mono ?_;rintro e V ⟨l,N,O,i5,b5,rfl,Y,o,d,K⟩;have Z:=qh K;have i0:=c.out.z3;have b7:=c.out.gr.size;have i7:=K.1;replace c:=qh (c.out.L9 o d);replace q:=qh (q.out.later (some C) d (λg h=>by simp;omega) (λg h=>h));have B:Hid (K9 V (λg=>w.heap.size<=g/\g≠b0/\g≠f) (.slice N l.length O) l):=qh (Y.K7 λg (h1:w5.heap.size<=g) h2=>⟨⟨by omega,by omega,by omega⟩,h2,rfl⟩);clear o d Y K;have Q:=(J5 c.out.ex).1.2.2.2.2.2.2.2.1;have f7:=(J5 c.out.ex).2.2.2.2.2.2.2.2.1
       go_upto_region 18 with(fail)
       clear Q f7;replace c:=qh (c.out.s7 (.slice N l.length O));replace q:=qh (q.out.later (some f) (I8 V f 7 (.slice N l.length O)) (λg h=>by simp;omega) (λg h=>h));replace B:=qh (B.out.later (some f) (I8 V f 7 (.slice N l.length O)) (λg h=>by simp;omega) (λg h=>h));generalize V.setCell ⟨f,7,none⟩ _=w7 at c q B|-;obtain⟨t2,J⟩: ∃t,U8 ws i5 b5 xu=t:=⟨_,rfl⟩;have T2:=qh J;have A:=(J5 c.out.ex).1.1
       go_wp2_with fail
       clear A;refine(zG xu t2 c.out.rd J).mono ?_;rintro e w8 ⟨rfl,o,d⟩;replace c:=qh (c.out.L9 o d);replace q:=qh (q.out.later (some C) d (λg h=>by simp;omega) (λg h=>h));replace B:=qh (B.out.later (some C) d (λg h=>by simp;omega) (λg h=>h));clear o d J;cases t2 with
       |false=>
        simp only[C2,if_false]at c;obtain⟨⟨A,c1,c2,c3,M,c5,c6,Q,c8,c9⟩,-⟩:=J5 c.out.ex;obtain⟨⟨d0,d1,d2,d3,d4,d5,d6,d7,d8,d9⟩,g0,g1,g2,g3,g4,g5,g6,g7,g8,g9⟩:=J5 c.out.zD;have X:=qh (Zr (.int .i64 3) (.string L1) (.int .i64 x.I9) (.int .i64 x.n) (.string x.K0) (.slice A4 x.args.length c4) (.int .i64 x.pos) (.slice N l.length O) (.slice none 0 0) (.int .i64 (J4 ws i en)) c.out.zD)
        go_wp2_with fail
        (try simp only[Exit.inBlock,Exit.then])
        refine E9 (F2 rfl _ _ b0 _ _ _ _ rfl X.out underlying188 rfl xA) rfl ?_;exact jW.qi (s:=.mk 3 L1 x l [] (J4 ws i en)) (F:=λg=>w.heap.size<=g/\g≠b0/\g≠f) c.out q.out B.out (.nil _ _) (λg h=>⟨h.1,h.2.1⟩) (zgI HS.out HO.out Z.out T2.out)
       |true=>
        simp only[if_true]at c;obtain⟨e5,ea⟩:=O3 T2.out;subst e5;clear ea;obtain⟨t3,a4⟩: ∃t,U8 ws (i5+1) false Xq=t:=⟨_,rfl⟩;have T3:=qh a4
        go_wp2_with fail
        refine(zk5 Xq t3 c.out.rd a4).mono ?_;rintro e w9 ⟨rfl,hb⟩;have d:=I7 hb (some C);replace c:=qh (c.out.below hb);replace q:=qh (q.out.later (some C) d (λg h=>by simp;omega) (λg h=>h));replace B:=qh (B.out.later (some C) d (λg h=>by simp;omega) (λg h=>h));clear hb d a4;have k6:=c.out.z3;have j1:=c.out.gr.size;cases t3 with
        |true=>
         go_wp2_with fail
         refine(H3.out (i5+1) (by omega) w9 false c.out.rd c.out.gl).mono ?_;rintro e R ⟨s,Aa,ca,Ac,cc,Ae,ce,i6,b6,rfl,hA,Y,hE,o,a0,d⟩;have a5:=qh a0;have i8:=d.size;replace c:=qh (c.out.L9 o d);replace q:=qh (q.out.later (some C) d (λg h=>by simp;omega) (λg h=>h));replace B:=qh (B.out.later (some C) d (λg h=>by simp;omega) (λg h=>h));have b8:=qh hA;have b9:=qh Y;have e0:=qh hE;clear o d hA Y hE a0;have c8:=(J5 c.out.ex).1.2.2.2.2.2.2.2.2.1;have f8:=(J5 c.out.ex).2.2.2.2.2.2.2.2.2.1;have k7:=c.out.z3
         go_upto_region 22 with(fail)
         clear c8 f8;have H:=I8 R f 8 (.slice (some ⟨R.heap.size,0,none⟩) 1 1);have a6:=qh (za1 (W:=R.setCell ⟨f,8,none⟩ (.slice (some ⟨R.heap.size,0,none⟩) 1 1)) (cap:=1) (T:=188) (F:=λg=>w.heap.size<=g/\g≠b0/\g≠f) b8.out b9.out e0.out H (λg (h:w9.heap.size<=g)=>⟨by omega,by omega,by omega,by omega⟩) (n:=R.heap.size) (by simp) ⟨by omega,by omega,by omega⟩);have a7:=I4 H (I7 ((x8 _ _).alloc (x7 _) (.cells #[.int .i64 s.I9,.string s.J2,.int .i64 s.a.I9,.int .i64 s.a.n,.string s.a.K0,.slice Aa s.a.args.length ca,.int .i64 s.a.pos,.slice Ac s.J0.length cc,.slice Ae s.M9.length ce,.int .i64 s.pos] 188)) (some f));replace c:=qh ((c.out.s8 (.slice (some ⟨R.heap.size,0,none⟩) 1 1)).below ((x8 _ _).alloc (x7 _) (.cells #[.int .i64 s.I9,.string s.J2,.int .i64 s.a.I9,.int .i64 s.a.n,.string s.a.K0,.slice Aa s.a.args.length ca,.int .i64 s.a.pos,.slice Ac s.J0.length cc,.slice Ae s.M9.length ce,.int .i64 s.pos] 188)));replace q:=qh (q.out.later (some f) a7 (λg h=>by simp;omega) (λg h=>h));replace B:=qh (B.out.later (some f) a7 (λg h=>by simp;omega) (λg h=>h));clear H a7 b8 b9 e0;generalize((R.setCell ⟨f,8,none⟩ _).alloc _)=wy at c q B a6|-;generalize R.heap.size=n1 at c a6|-;obtain⟨⟨A,c1,c2,c3,M,c5,c6,Q,c8,c9⟩,-⟩:=J5 c.out.ex;obtain⟨⟨d0,d1,d2,d3,d4,d5,d6,d7,d8,d9⟩,g0,g1,g2,g3,g4,g5,g6,g7,g8,g9⟩:=J5 c.out.zD;have X:=qh (Zr (.int .i64 3) (.string L1) (.int .i64 x.I9) (.int .i64 x.n) (.string x.K0) (.slice A4 x.args.length c4) (.int .i64 x.pos) (.slice N l.length O) (.slice (some ⟨n1,0,none⟩) 1 1) (.int .i64 (J4 ws i en)) c.out.zD)
         go_wp2_with fail
         (try simp only[Exit.inBlock,Exit.then])
         refine E9 (F2 rfl _ _ b0 _ _ _ _ rfl X.out underlying188 rfl xA) rfl ?_;exact jW.qi (s:=.mk 3 L1 x l [s] (J4 ws i en)) (F:=λg=>w.heap.size<=g/\g≠b0/\g≠f) c.out q.out B.out a6.out (λg h=>⟨h.1,h.2.1⟩) (zh6 HS.out HO.out Z.out T2.out (O3 T3.out).2 a5.out)
        |false=>
         go_wp2_with fail
         refine(H2.out (i5+1) (by omega) w9 false c.out.rd c.out.gl).mono ?_;rintro e R ⟨m,Ae,ce,i6,b6,rfl,Y,o,d,a0⟩;have a5:=qh a0;have i8:=d.size;replace c:=qh (c.out.L9 o d);replace q:=qh (q.out.later (some C) d (λg h=>by simp;omega) (λg h=>h));replace B:=qh (B.out.later (some C) d (λg h=>by simp;omega) (λg h=>h));have HE:Hid (K9 R (λg=>w.heap.size<=g/\g≠b0/\g≠f) (.slice Ae m.length ce) m):=qh (Y.K7 λg (h1:w9.heap.size<=g) h2=>⟨⟨by omega,by omega,by omega⟩,h2,rfl⟩);clear o d Y a0;have c8:=(J5 c.out.ex).1.2.2.2.2.2.2.2.2.1;have f8:=(J5 c.out.ex).2.2.2.2.2.2.2.2.2.1
         go_upto_region 22 with(fail)
         clear c8 f8;have H:=I8 R f 8 (.slice Ae m.length ce);replace c:=qh (c.out.s8 (.slice Ae m.length ce));replace q:=qh (q.out.later (some f) H (λg h=>by simp;omega) (λg h=>h));replace B:=qh (B.out.later (some f) H (λg h=>by simp;omega) (λg h=>h));replace HE:=qh (HE.out.later (some f) H (λg h=>by simp;omega) (λg h=>h));clear H;generalize(R.setCell ⟨f,8,none⟩ _)=wy at c q B HE|-;obtain⟨⟨A,c1,c2,c3,M,c5,c6,Q,c8,c9⟩,-⟩:=J5 c.out.ex;obtain⟨⟨d0,d1,d2,d3,d4,d5,d6,d7,d8,d9⟩,g0,g1,g2,g3,g4,g5,g6,g7,g8,g9⟩:=J5 c.out.zD;have X:=qh (Zr (.int .i64 3) (.string L1) (.int .i64 x.I9) (.int .i64 x.n) (.string x.K0) (.slice A4 x.args.length c4) (.int .i64 x.pos) (.slice N l.length O) (.slice Ae m.length ce) (.int .i64 (J4 ws i en)) c.out.zD)
         go_wp2_with fail
         (try simp only[Exit.inBlock,Exit.then])
         refine E9 (F2 rfl _ _ b0 _ _ _ _ rfl X.out underlying188 rfl xA) rfl ?_;exact jW.qi (s:=.mk 3 L1 x l m (J4 ws i en)) (F:=λg=>w.heap.size<=g/\g≠b0/\g≠f) c.out q.out B.out HE.out (λg h=>⟨h.1,h.2.1⟩) (zib HS.out HO.out Z.out T2.out (M7 T3.out) a5.out)
      ·have a3:w5.cell? ⟨f,0,none⟩=some (.int .i64 4):=A
       clear A;replace c:Hid (jW w w5 C b0 f v ws i4 en b4 (.int .i64 4) (.string L1) (.int .i64 x.I9) (.int .i64 x.n) (.string x.K0) (.slice A4 x.args.length c4) (.int .i64 x.pos) (.slice none 0 0) (.slice none 0 0) (.int .i64 (J4 ws i en))):=c
       go_wp2_with fail
       clear a3;refine(H2.out i4 (by omega) w5 b4 c.out.rd c.out.gl).mono ?_;rintro e V ⟨l,N,O,i5,b5,rfl,Y,o,d,K⟩;have Z:=qh K;have i0:=c.out.z3;have b7:=c.out.gr.size;have i7:=K.1;replace c:=qh (c.out.L9 o d);replace q:=qh (q.out.later (some C) d (λg h=>by simp;omega) (λg h=>h));have B:Hid (K9 V (λg=>w.heap.size<=g/\g≠b0/\g≠f) (.slice N l.length O) l):=qh (Y.K7 λg (h1:w5.heap.size<=g) h2=>⟨⟨by omega,by omega,by omega⟩,h2,rfl⟩);clear o d Y K;have Q:=(J5 c.out.ex).1.2.2.2.2.2.2.2.1;have f7:=(J5 c.out.ex).2.2.2.2.2.2.2.2.1
       go_upto_region 18 with(fail)
       clear Q f7;replace c:=qh (c.out.s7 (.slice N l.length O));replace q:=qh (q.out.later (some f) (I8 V f 7 (.slice N l.length O)) (λg h=>by simp;omega) (λg h=>h));replace B:=qh (B.out.later (some f) (I8 V f 7 (.slice N l.length O)) (λg h=>by simp;omega) (λg h=>h));generalize V.setCell ⟨f,7,none⟩ _=w7 at c q B|-;obtain⟨⟨A,c1,c2,c3,M,c5,c6,Q,c8,c9⟩,-⟩:=J5 c.out.ex;obtain⟨⟨d0,d1,d2,d3,d4,d5,d6,d7,d8,d9⟩,g0,g1,g2,g3,g4,g5,g6,g7,g8,g9⟩:=J5 c.out.zD;have X:=qh (Zr (.int .i64 4) (.string L1) (.int .i64 x.I9) (.int .i64 x.n) (.string x.K0) (.slice A4 x.args.length c4) (.int .i64 x.pos) (.slice N l.length O) (.slice none 0 0) (.int .i64 (J4 ws i en)) c.out.zD)
       go_wp2_with fail
       (try simp only[Exit.inBlock,Exit.then])
       refine E9 (F2 rfl _ _ b0 _ _ _ _ rfl X.out underlying188 rfl xA) rfl ?_;exact jW.qi (s:=.mk 4 L1 x l [] (J4 ws i en)) (F:=λg=>w.heap.size<=g/\g≠b0/\g≠f) c.out q.out B.out (.nil _ _) (λg h=>⟨h.1,h.2.1⟩) (zdY HS.out HO.out Z.out)
     ·have e3:((D:Int) !=3)=true:=by simp;omega
      have e4:((D:Int) !=4)=true:=by simp;omega
      have e2:=qh a1;clear a1;have A:=(J5 c.out.ex).1.1
      go_wp2_with fail
      clear A;refine(ya Qu c.out.rd).mono ?_;rintro e V ⟨rfl,⟨i5,b5,o,hW⟩,d⟩;have i9:=qh hW;replace c:=qh (c.out.L9 o d);replace q:=qh (q.out.later (some C) d (λg h=>by simp;omega) (λg h=>h));clear o d hW e3 e4;obtain⟨⟨A,c1,c2,c3,M,c5,c6,Q,c8,c9⟩,-⟩:=J5 c.out.ex;obtain⟨⟨d0,d1,d2,d3,d4,d5,d6,d7,d8,d9⟩,g0,g1,g2,g3,g4,g5,g6,g7,g8,g9⟩:=J5 c.out.zD;have X:=qh (Zr (.int .i64 D) (.string nm) (.int .i64 x.I9) (.int .i64 x.n) (.string x.K0) (.slice A4 x.args.length c4) (.int .i64 x.pos) (.slice none 0 0) (.slice none 0 0) (.int .i64 (J4 ws i en)) c.out.zD)
      go_wp2_with fail
      (try simp only[Exit.inBlock,Exit.then])
      refine E9 (F2 rfl _ _ b0 _ _ _ _ rfl X.out underlying188 rfl xA) rfl ?_;exact jW.qi (s:=.mk D nm x [] [] (J4 ws i en)) (F:=λg=>w.heap.size<=g/\g≠b0/\g≠f) c.out q.out (.nil _ _) (.nil _ _) (λg h=>⟨h.1,h.2.1⟩) (zfA HD.out (λe=>e2.out (.inl e)) (λe=>e2.out (.inr e)) HO.out i9.out)
structure InB(ws:List Wd)(en i:Nat)(b:Bool)(l:List Sm)(i':Nat)(b':Bool):Prop where
 le:i<=i'
 bt:b=true->b'=true/\i'=i
 X5:l.length<=i'+(if b' then 1 else 0)
 pos:b=false->b'=false->i<i'
 okk:b=false->b'=false->(∀m j,Ds ws en (.qj i') (.Zn m j)->Ds ws en (.block i) (.Zn (l++m) j))/\(∀j,Ds ws en (.qj i') (.J9 j)->Ds ws en (.block i) (.J9 j))
 J9:b=false->b'=true->Ds ws en (.block i) (.J9 i')
section
variable {ws:List Wd}{en i:Nat}{b:Bool}{l:List Sm}{i':Nat}
theorem InB.start{b':Bool}(h:Ze ws zbv i b i' b'):InB ws en i b [] i' b':=by
 rcases O9 h with⟨rfl,a,rfl,rfl⟩|⟨rfl,a,rfl,rfl⟩|⟨rfl,rfl,rfl⟩
 ·exact⟨by omega,by simp,by simp,λ_ _=>by omega,λ_ _=>⟨λm j h=>.block a h,λj h=>.block a h⟩,by simp⟩
 ·exact⟨by omega,by simp,by simp,by simp,by simp,λ_ _=>.zb0 a⟩
 ·exact⟨by omega,λ_=>⟨rfl,rfl⟩,by simp,by simp,by simp,by simp⟩
theorem InB.U4(h:InB ws en i b l i' false)(a:J3 ws i' zac=true):zaw ws en i b l (i'+1) false:=by
 have c:=h.le;refine⟨by omega,λe=>H9 (h.bt e).1 (by decide),λe _=>⟨by omega,?_⟩,λ_ e=>H9 e (by decide)⟩;simpa using(h.okk e rfl).1 [] (i'+1) (.done a)
theorem InB.out(h:InB ws en i b l i' true):zaw ws en i b l i' true:=
 ⟨h.le,h.bt,λ_ e=>H9 e (by decide),λe _=>h.J9 e rfl⟩
theorem InB.L9{s}{d:Nat}{f:Bool}(h:InB ws en i b l i' false)(g:J3 ws i' zac=false)(k:zaC ws en i' false s d f):
 InB ws en i b (l++[s]) d f/\i'<=d/\(f=false->i'<d):=by
 have q:=k.1;have p:=h.le;have c:=h.X5;simp only[C2,if_false,Nat.add_zero]at c;have n:b=false:=by cases b with|false=>rfl|true=>have:=(h.bt rfl).1;cases this
 have a:=h.okk n rfl;cases f with
 |false=>
  obtain⟨r,o⟩:=k.2.2.1 rfl rfl;refine⟨⟨by omega,λe=>H9 (n.symm.trans e) (by decide),by simp;omega,λ_ _=>by omega,λ_ _=>⟨λm j h=>?_,λj h=>a.2 _ (.xW g o h)⟩,λ_ e=>H9 e (by decide)⟩,by omega,λ_=>by omega⟩;have:=a.1 _ _ (.qw g o h);simpa using this
 |true=>
  exact⟨⟨by omega,λe=>H9 (n.symm.trans e) (by decide),by simp;omega,λ_ e=>H9 e (by decide),λ_ e=>H9 e (by decide),λ_ _=>a.2 _ (.xV g (k.2.2.2 rfl rfl))⟩,by omega,λe=>H9 e (by decide)⟩
end
theorem zio:qC prog 30 188 10:=⟨underlying30,by kernel_rfl,by decide⟩
theorem zka(L:Nat)(v ws)(en i:Nat)(hr:10<L)(Y: ∀j,i<j->zcg L v ws en j):YI L v ws en i:=by
 intro w b h hG;have H1:=qh Y;have HR:=qh h;have HG:=qh hG;have N:=h.lt;clear Y h hG
 go_enter func56,ntmps56
 go_wp2_with fail
 refine(ya zbv HR.out).mono ?_;rintro e w0 ⟨rfl,⟨i0,k0,y,hW⟩,m⟩;have O:=qh y;have P:Hid (InB ws en i b [] i0 k0):=qh (.start hW);have Q:=qh m;clear y hW m HR
 go_wp2_with fail
 go_loopw[3] (λo wr=> ∃(l:List (Sm×Value×Value×Value))(A:Option Addr)(c i':Nat)(R:Bool),o=.slice A l.length c/\Hid (O8 zH wr w.heap.size 188 10 (.slice A l.length c) l)/\Hid (Rd wr L v ws i' en R)/\Hid (InB ws en i b (l.map (·.1)) i' R)/\Hid (w.grownBy wr (some L)))
  (λ_ wr=>yN ws wr L)
 case atStart=>exact⟨[],none,0,i0,k0,rfl,qh (O8.nil _ _ _ _ _),O,P,Q⟩
 case round=>
  obtain⟨l,A,c,i',R,rfl,HW,r,M,D⟩:=hrel;clear O P Q;obtain⟨t,Z⟩: ∃t,U8 ws i' R zac=t:=⟨_,rfl⟩;have T:=qh Z
  go_wp2_with fail
  refine(zG zac t r.out Z).mono ?_;rintro e w1 ⟨rfl,y,m⟩;have a9:=D.out.size;have u:=qh (HW.out.kept m (λk e=>.inl (by cases e;exact N)));have f:=qh y;have p:=qh (I4 D.out m);clear y m Z HW D;cases t with
  |true=>
   obtain⟨rfl,ha⟩:=O3 T.out;have HA:=qh ha;clear ha
   go_wp2_with fail
   go_ret;exact⟨l.map (·.1),A,c,i'+1,false,by rw[C6];rfl,by rw[C6];exact u.out.qj,by simpa using f.out,p.out,M.out.U4 HA.out⟩
  |false=>
   cases R with
   |true=>
    have c3:=f.out.c3
    go_wp2_with fail
    go_ret;exact⟨l.map (·.1),A,c,i',true,by rw[C6];rfl,by rw[C6];exact u.out.qj,by simpa using f.out,p.out,M.out.out⟩
   |false=>
    simp only[C2,if_false]at f;have c3:=f.out.c3;have HA:=qh (M7 T.out);clear T;have a0:b=false:=by cases b with|false=>rfl|true=>have:=(M.out.bt rfl).1;cases this
    have a1:=M.out.pos a0 rfl
    go_wp2_with fail
    clear c3;refine(H1.out i' a1 w1 false f.out (HG.out.of p.out hr)).mono ?_;rintro e E ⟨s,F,G,H,I,J,K,i3,b3,rfl,hA,hB,hE,y,hO,m⟩;have a6:=p.out.size;have HK:Hid (zH.XD E (λg=>w1.heap.size<=g) (s,.slice F s.a.args.length G,.slice H s.J0.length I,.slice J s.M9.length K)):=qh ⟨hA,hB,hE⟩;have a2:=qh y;have S:=qh (u.out.kept m (λk e=>.inl (by cases e;exact N)));have a3:=qh (I4 p.out m);have z:=u.out.1.lt;have HS:=qh (M.out.L9 HA.out hO);have hn:l.length<=4000:=by
     have:=M.out.X5;have:=r.out.pos;have:=r.out.X5;simp at*;omega
    have a7:=m.size;clear hA hB hE y hO m
    go_wp2_with((at_builtin;go_must(refine N0 zio rfl _ _ rfl w.heap.size _ l.length (l.flatMap zH.cells) rfl (S.out.1.alloc _) E.heap.size 1 #[.int .i64 s.I9,.string s.J2,.int .i64 s.a.I9,.int .i64 s.a.n,.string s.a.K0,.slice F s.a.args.length G,.int .i64 s.a.pos,.slice H s.J0.length I,.slice J s.M9.length K,.int .i64 s.pos] rfl (A5 E _) rfl (by simp[Value.oneCell']) (by omega) (by simp;omega) ?_);intro g4 U w4 q d B a8))
    have x:(E.alloc (.cells #[.int .i64 s.I9,.string s.J2,.int .i64 s.a.I9,.int .i64 s.a.n,.string s.a.K0,.slice F s.a.args.length G,.int .i64 s.a.pos,.slice H s.J0.length I,.slice J s.M9.length K,.int .i64 s.pos] 188)).grownBy w4 (Value.slice A l.length c).ownBlock:=d;have V:(Value.slice A l.length c).ownBlock=some g4\/g4=(E.alloc (.cells #[.int .i64 s.I9,.string s.J2,.int .i64 s.a.I9,.int .i64 s.a.n,.string s.a.K0,.slice F s.a.args.length G,.int .i64 s.a.pos,.slice H s.J0.length I,.slice J s.M9.length K,.int .i64 s.pos] 188)).heap.size:=B
    have W:zH.XD (E.alloc (.cells #[.int .i64 s.I9,.string s.J2,.int .i64 s.a.I9,.int .i64 s.a.n,.string s.a.K0,.slice F s.a.args.length G,.int .i64 s.a.pos,.slice H s.J0.length I,.slice J s.M9.length K,.int .i64 s.pos] 188)) (λg=>w1.heap.size<=g) (s,.slice F s.a.args.length G,.slice H s.J0.length I,.slice J s.M9.length K):=
     zH.K7 (λg Y h2=>⟨Y,by simp;omega,C4 E _ h2⟩) HK.out
    have a4:=qh (O8.qv (S.out.below ((x8 _ _).alloc (x7 _) _)) W (λg m=>⟨by omega,λe=>by have:=(z g e).2;omega⟩) q x V);have C: ∀k,(Value.slice A l.length c).ownBlock=some k->w.heap.size<=k:=λk e=>(z k e).1
    have X:=qh (zgx (a2.out.K7 ((x8 _ _).alloc (x7 _) _)) x (λk e=>by have:=C k e;omega));have a5:=qh (Qg (I4 a3.out (I7 ((x8 _ _).alloc (x7 _) _) _)) x C);clear d B q x V W
    go_roundw
    case rel=>exact⟨l++[(s,.slice F s.a.args.length G,.slice H s.J0.length I,.slice J s.M9.length K)],some ⟨g4,0,none⟩,U,i3,b3,by simp,by simpa using a4,X,by simpa using(qh HS.out.1:Hid _),a5⟩
    case measure=>exact r.out.ziC X.out HS.out.2.1 HS.out.2.2
end Go.Proofs.YtmngofgminlloaaGreatDoor
namespace Go.Proofs.YtmngofgminlloaaGreatDoor
open Go.RowKit Tw
def zps(e:Nat)(v:Value)(ws)(en:Nat)(g:10<e)(r:zV ws): ∀k i,ws.length<i+k->
 zfJ e v ws en i/\(∀n,1<=n->n<=6->JW e v ws en n i)/\zeA e v ws en i/\zcg e v ws en i/\YI e v ws en i:=by
 intro k
 induction k with
 |zero=>
  intro i s;exact⟨λw b h=>H9 h.pos (by omega),λn _ _ w b h=>H9 h.pos (by omega),λw b h=>H9 h.pos (by omega),λw b h=>H9 h.pos (by omega),λw b h=>H9 h.pos (by omega)⟩
 |succ k t=>
  intro i s;have c: ∀j,i<j->zfJ e v ws en j/\(∀n,1<=n->n<=6->JW e v ws en n j)/\zeA e v ws en j/\zcg e v ws en j/\YI e v ws en j:=λj f=>t j (by omega)
  have q:zfJ e v ws en i:=zoh e v ws en i r g (c _ (by omega)).1 ((c _ (by omega)).2.1 1 (by decide) (by decide)) (λj f=>(c j f).2.2.1);have u:JW e v ws en 6 i:=zlH e v ws en i q;have x: ∀d n,n+d=6->1<=n->JW e v ws en n i:=by
   intro d
   induction d with
   |zero=>intro n y _;obtain rfl:n=6:=by omega
          exact u
   |succ d o=>
    intro n y p;exact zj9 e v ws en i n p (by omega) g (o (n+1) (by omega) (by omega)) (λj f=>(c j f).2.1 (n+1) (by omega) (by omega))
  have l: ∀n,1<=n->n<=6->JW e v ws en n i:=λn a b=>x (6-n) n (by omega) a
  have m: ∀j,i<=j->JW e v ws en 1 j:=λj f=>by
   rcases E0 i j with h|h
   ·exact(c j h).2.1 1 (by decide) (by decide)
   ·obtain rfl:j=i:=by omega
    exact l 1 (by decide) (by decide)
  exact⟨q,l,zmL e v ws en i g m,zlz e v ws en i g m (λj f=>(c j f).2.2.2.2) (λj f=>(c j f).2.2.2.1),zka e v ws en i g (λj f=>(c j f).2.2.2.1)⟩
def zj8(a:Nat)(v:Value)(ws:List Wd)(en:Nat)(b:10<a)(c:zV ws)(i:Nat):YI a v ws en i:=(zps a v ws en b c (ws.length+1) i (by omega)).2.2.2.2
def qP(w:World)(F:Nat->Prop)(v:Value)(l:List ByteArray):Prop:=
 (∃a c,v=.slice a 0 c/\l=[])\/ ∃g d e,v=.slice (some ⟨g,d,none⟩) l.length e/\F g/\g<w.heap.size/\ ∀k s,l[k]?=some s->w.cell? ⟨g,d+k,none⟩=some (.string s)
def zn(w:World)(F:Nat->Prop)(v:Value)(l:List Int):Prop:=
 (∃a c,v=.slice a 0 c/\l=[])\/ ∃g d e,v=.slice (some ⟨g,d,none⟩) l.length e/\F g/\g<w.heap.size/\ ∀k s,l[k]?=some s->w.cell? ⟨g,d+k,none⟩=some (.int .i64 s)
def U2(w:World)(F:Nat->Prop)(v:Value)(l:List Fn):Prop:=
 (∃a c,v=.slice a 0 c/\l=[])\/ ∃g d e,∃h j m:Nat->Value,v=.slice (some ⟨g,d,none⟩) l.length e/\F g/\g<w.heap.size/\
  ∀k f,l[k]?=some f->ZY w g (d+k*6) (zfo f (h k) (j k) (m k))/\qP w F (h k) f.J1/\zn w F (j k) f.K4/\K9 w F (m k) f.J0
section
variable {w w':World}{F F':Nat->Prop}{v:Value}
theorem qP.K7{l}(e:Jp F F' w w')(h:qP w F v l):qP w' F' v l:=by
 rcases h with h|⟨g,c,d,f,j,m,n⟩
 ·exact .inl h
 ·obtain⟨o,p,q⟩:=e g j m
  exact .inr ⟨g,c,d,f,o,p,λk s r=>(E8 (a:=⟨g,c+k,none⟩) q).trans (n k s r)⟩
theorem zn.K7{l}(e:Jp F F' w w')(h:zn w F v l):zn w' F' v l:=by
 rcases h with h|⟨g,c,d,f,j,m,n⟩
 ·exact .inl h
 ·obtain⟨o,p,q⟩:=e g j m
  exact .inr ⟨g,c,d,f,o,p,λk s r=>(E8 (a:=⟨g,c+k,none⟩) q).trans (n k s r)⟩
theorem U2.K7{l}(a:Jp F F' w w')(h:U2 w F v l):U2 w' F' v l:=by
 rcases h with h|⟨g,c,d,e,j,m,n,o,p,q⟩
 ·exact .inl h
 ·obtain⟨r,s,t⟩:=a g o p
  refine .inr ⟨g,c,d,e,j,m,n,r,s,λk f u=>?_⟩;obtain⟨x,y,z,A⟩:=q k f u;exact⟨x.K7 t,y.K7 a,z.K7 a,A.K7 a⟩
end
def S1:XG ByteArray where
 cells a:=[.string a]
 XD _ _ _:=True
 K7 _ _:=trivial
def zm:XG Int where
 cells a:=[.int .i64 a]
 XD _ _ _:=True
 K7 _ _:=trivial
def Y7:XG (Fn×Value×Value×Value)where
 cells a:=zfo a.1 a.2.1 a.2.2.1 a.2.2.2
 XD w F a:=qP w F a.2.1 a.1.J1/\zn w F a.2.2.1 a.1.K4/\K9 w F a.2.2.2 a.1.J0
 K7 hk h:=⟨h.1.K7 hk,h.2.1.K7 hk,h.2.2.K7 hk⟩
theorem O8.zoH{w}{base T:Nat}{v l}(h:O8 S1 w base T 1 v l):qP w (λg=>base<=g) v l:=by
 rcases zQ h.1 with⟨rfl,c⟩|⟨g,a,rfl,d,e,f⟩
 ·cases l with
  |nil=>exact .inl ⟨_,_,rfl,rfl⟩
  |cons=>simp at c
 ·refine .inr ⟨g,0,a,rfl,d,e,λk s j=>?_⟩
  have:=f _ _ (zY S1.cells 1 (λ_=>rfl) l k s j 0 _ rfl);simpa using this
theorem O8.zoF{w}{base T:Nat}{v l}(h:O8 zm w base T 1 v l):zn w (λg=>base<=g) v l:=by
 rcases zQ h.1 with⟨rfl,c⟩|⟨g,a,rfl,d,e,f⟩
 ·cases l with
  |nil=>exact .inl ⟨_,_,rfl,rfl⟩
  |cons=>simp at c
 ·refine .inr ⟨g,0,a,rfl,d,e,λk s j=>?_⟩
  have:=f _ _ (zY zm.cells 1 (λ_=>rfl) l k s j 0 _ rfl);simpa using this
theorem O8.xL{w}{base T:Nat}{v l}(h:O8 Y7 w base T 6 v l):U2 w (λg=>base<=g) v (l.map (·.1)):=by
 have e: ∀a∈l,Y7.XD w (λg=>base<=g) a:=λa c=>Y7.K7 (λg m n=>⟨m.1,n,rfl⟩) (h.2 a c)
 rcases zQ h.1 with⟨rfl,o⟩|⟨g,d,rfl,p,q,r⟩
 ·cases l with
  |nil=>exact .inl ⟨_,_,rfl,rfl⟩
  |cons=>simp at o
 ·refine .inr ⟨g,0,d,(λk=>((l[k]?).map (·.2.1)).getD undef),(λk=>((l[k]?).map (·.2.2.1)).getD undef),(λk=>((l[k]?).map (·.2.2.2)).getD undef),by simp,p,q,λk f s=>?_⟩
  obtain⟨a,c,rfl⟩: ∃a,l[k]?=some a/\a.1=f:=by simpa[G2,Option.map_eq_some_iff]using s
  obtain⟨t,x,y⟩:=e a (B7 c);refine⟨λj u z=>?_,by simpa[c]using t,by simpa[c]using x,by simpa[c]using y⟩;have:=zY Y7.cells 6 (λ_=>rfl) l k a c j u (by simpa[Y7,c]using z);have:=r _ _ this;simpa using this
theorem O8.zb6{α:Type}{E:XG α}{w w':World}{base T c:Nat}{v:Value}{l:List α}{row:Option Nat}(h:O8 E w base T c v l)(d: ∀w F a,E.XD w F a)(e:w.grownBy w' row)(f:v.ownBlock=none\/v.ownBlock≠row):O8 E w' base T c v l:=
 ⟨h.1.kept e f,λa _=>d _ _ a⟩
structure InP(ws:List Wd)(en i:Nat)(b:Bool)(ns:List ByteArray)(ts:List Int)(i':Nat)(b':Bool):Prop where
 le:i<=i'
 bt:b=true->b'=true/\i'=i
 X5:ns.length<=i'+(if b' then 1 else 0)
 eq:ts.length=ns.length
 okk:b=false->b'=false->(∀ms us j,Dp ws en ns.length i' (.ok ms us j)->Dp ws en 0 i (.ok (ns++ms) (ts++us) j))/\(∀j,Dp ws en ns.length i' (.J9 j)->Dp ws en 0 i (.J9 j))
 J9:b=false->b'=true->Dp ws en 0 i (.J9 i')
def zjH(ws:List Wd)(en i:Nat)(b:Bool)(ns:List ByteArray)(ts:List Int)(i':Nat)(a:Bool):Prop:=
 i<=i'/\(b=true->a=true/\i'=i)/\(b=false->a=false->i<i'/\Dp ws en 0 i (.ok ns ts i'))/\(b=false->a=true->Dp ws en 0 i (.J9 i'))
def zoo(ws:List Wd)(en i:Nat)(f:Fn)(i':Nat)(a:Bool):Prop:=
 i<=i'/\(a=false->i<i'/\Df ws en i (.fn f i'))/\(a=true->Df ws en i (.J9 i'))
section
variable {ws:List Wd}{en i:Nat}{b:Bool}{ns:List ByteArray}{ts:List Int}{i':Nat}
theorem yt{t:Int}{f:Bool}(h:zj7 ws i b t i' f):(b=false/\jV ws i=.ok t/\i'=i+2/\f=false)\/(b=false/\jV ws i=.J9 i'/\f=true/\i<=i')\/(b=true/\i'=i/\f=true):=by
 obtain⟨g,k,j,h⟩:=h
 rcases O9 j with⟨rfl,d,rfl,rfl⟩|⟨rfl,d,rfl,rfl⟩|⟨rfl,rfl,rfl⟩
 ·rcases h with⟨a,rfl,rfl,rfl⟩|⟨a,c,rfl,rfl,rfl⟩|⟨a,c,rfl,rfl,rfl⟩
  ·exact .inl ⟨rfl,by unfold jV;rw[C8 (show J3 ws i jX=true from d),C8 (show J3 ws (i+1) zaf=true from(O3 a).2)],rfl,rfl⟩
  ·exact .inl ⟨rfl,by unfold jV;rw[C8 (show J3 ws i jX=true from d),B5 (show¬J3 ws (i+1) zaf=true from by rw[show J3 ws (i+1) zaf=false from M7 a];decide),C8 (show J3 ws (i+1) Xt=true from(O3 c).2)],rfl,rfl⟩
  ·exact .inr (.inl ⟨rfl,by unfold jV;rw[C8 (show J3 ws i jX=true from d),B5 (show¬J3 ws (i+1) zaf=true from by rw[show J3 ws (i+1) zaf=false from M7 a];decide),B5 (show¬J3 ws (i+1) Xt=true from by rw[show J3 ws (i+1) Xt=false from M7 c];decide)],rfl,by omega⟩)
 ·have e: ∀s,U8 ws g true s=true->False:=λs h=>H9 (O3 h).1 (by decide)
  rcases h with⟨a,_⟩|⟨_,c,_⟩|⟨_,_,rfl,rfl,rfl⟩
  ·exact(e _ a).elim
  ·exact(e _ c).elim
  ·exact .inr (.inl ⟨rfl,by unfold jV;rw[B5 (show¬J3 ws _ jX=true from by rw[show J3 ws _ jX=false from d];decide)],rfl,by omega⟩)
 ·have e: ∀s,U8 ws g true s=true->False:=λs h=>H9 (O3 h).1 (by decide)
  rcases h with⟨a,_⟩|⟨_,c,_⟩|⟨_,_,rfl,rfl,rfl⟩
  ·exact(e _ a).elim
  ·exact(e _ c).elim
  ·exact .inr (.inr ⟨rfl,rfl,rfl⟩)
theorem InP.start(ws)(en i:Nat)(b:Bool):InP ws en i b [] [] i b:=
 ⟨x7 _,λe=>⟨e,rfl⟩,by simp,rfl,λ_ _=>⟨λ_ _ _ h=>h,λ_ h=>h⟩,λe a=>H9 (e.symm.trans a) (by decide)⟩
theorem InP.U4(h:InP ws en i b ns ts i' false)(a:J3 ws i' N4=true):zjH ws en i b ns ts (i'+1) false:=by
 have c:=h.le;refine⟨by omega,λe=>H9 (h.bt e).1 (by decide),λe _=>⟨by omega,?_⟩,λ_ e=>H9 e (by decide)⟩;simpa using(h.okk e rfl).1 [] [] (i'+1) (.U4 a)
theorem InP.out(h:InP ws en i b ns ts i' true):zjH ws en i b ns ts i' true:=
 ⟨h.le,h.bt,λ_ e=>H9 e (by decide),λe _=>h.J9 e rfl⟩
theorem InP.L9{nm:ByteArray}{t:Int}{n y o:Nat}{p z r:Bool}(h:InP ws en i b ns ts i' false)(l:J3 ws i' N4=false)(k:Yr ws ns.length i' n p)(A:yl ws (2:Nat) n p nm y z)(s:zj7 ws y z t o r):
 InP ws en i b (ns++[nm]) (ts++[t]) o r/\i'<=o/\(r=false->i'<o):=by
 have E:=h.le;have m:=h.X5;have f:=h.eq;simp only[C2,if_false,Nat.add_zero]at m;have B:b=false:=by cases b with|false=>rfl|true=>have:=(h.bt rfl).1;cases this
 have a:=h.okk B rfl;have g: ∀x:Bool×Nat,b=true->x.1=true/\x.2=i:=λ_ e=>H9 (B.symm.trans e) (by decide)
 have ZO:(p=true/\n=i'/\ns.length≠0/\J3 ws i' U0=false)\/(p=false/\n=V9 ns.length i'/\(ns.length≠0->J3 ws i' U0=true)):=by
  rcases k with⟨k,rfl,rfl⟩|⟨k,G⟩
  ·exact .inr ⟨rfl,by unfold V9;rw[C8 k],λe=>H9 k e⟩
  ·rcases O9 G with⟨_,d,rfl,rfl⟩|⟨_,d,rfl,rfl⟩|⟨e,_⟩
   ·exact .inr ⟨rfl,by unfold V9;rw[B5 k],λ_=>d⟩
   ·exact .inl ⟨rfl,rfl,k,d⟩
   ·cases e
 have C:i'<=V9 ns.length i':=by unfold V9;split<;>omega
 rcases ZO with⟨rfl,rfl,u,d⟩|⟨rfl,rfl,d⟩
 ·rcases Y8 (by decide) A with⟨e,_⟩|⟨e,_⟩|⟨_,_,rfl,rfl⟩
  ·cases e
  ·cases e
  ·rcases yt s with⟨e,_⟩|⟨e,_⟩|⟨_,rfl,rfl⟩
   ·cases e
   ·cases e
   ·exact⟨⟨by omega,λe=>g (_,_) e,by simp;omega,by simp[f],λ_ e=>H9 e (by decide),λ_ _=>a.2 _ (.ZO l u d)⟩,by omega,λe=>H9 e (by decide)⟩
 ·rcases Y8 (by decide) A with⟨_,c,rfl,rfl,rfl⟩|⟨_,c,_,rfl,rfl⟩|⟨e,_⟩
  ·rcases yt s with⟨_,q,rfl,rfl⟩|⟨_,q,rfl,D⟩|⟨e,_⟩
   ·refine⟨⟨by omega,λe=>g (_,_) e,by simp;omega,by simp[f],λ_ _=>⟨λH I j h=>?_,λj h=>a.2 _ (.qY l d c q (by simpa using h))⟩,λ_ e=>H9 e (by decide)⟩,by omega,λ_=>by omega⟩
    have:=a.1 _ _ _ (.next l d c q (by simpa using h));simpa using this
   ·exact⟨⟨by omega,λe=>g (_,_) e,by simp;omega,by simp[f],λ_ e=>H9 e (by decide),λ_ _=>a.2 _ (.JN l d c q)⟩,by omega,λe=>H9 e (by decide)⟩
   ·cases e
  ·rcases yt s with⟨e,_⟩|⟨e,_⟩|⟨_,rfl,rfl⟩
   ·cases e
   ·cases e
   ·exact⟨⟨by omega,λe=>g (_,_) e,by simp;omega,by simp[f],λ_ e=>H9 e (by decide),λ_ _=>a.2 _ (.J2 l d c)⟩,by omega,λe=>H9 e (by decide)⟩
  ·cases e
theorem zpy{nm:ByteArray}{t:Int}{l}{r s u n x o:Nat}{b1 y z k A b6:Bool}(D:Ze ws Xg i false r b1)(B:yl ws (2:Nat) r b1 nm s y)(p:Ze ws O6 s y u z)(f:zjH ws en u z ns ts n k)(C:zj7 ws n k t x A)(h:zaw ws en x A l o b6):
 zoo ws en i {J2:=nm,J1:=ns,K4:=ts,out:=t,J0:=l,pos:=J4 ws i en} o b6:=by
 have a: ∀{j:Nat}(E:Bool),k=true->n=j->b6=true/\o=j:=by
  intro j _ G H;subst G;subst H
  rcases yt C with⟨e,_⟩|⟨e,_⟩|⟨_,rfl,rfl⟩
  ·cases e
  ·cases e
  ·exact h.2.1 rfl
 rcases O9 D with⟨_,c,rfl,rfl⟩|⟨_,c,rfl,rfl⟩|⟨e,_⟩
 ·rcases Y8 (by decide) B with⟨_,d,rfl,rfl,rfl⟩|⟨_,d,rfl,rfl,rfl⟩|⟨e,_⟩
  ·rcases O9 p with⟨_,g,rfl,rfl⟩|⟨_,g,rfl,rfl⟩|⟨e,_⟩
   ·have J:=f.1
    cases k with
    |true=>
     obtain⟨rfl,rfl⟩:=a true rfl rfl;exact⟨by omega,by simp,λ_=>.par c d g (f.2.2.2 rfl rfl)⟩
    |false=>
     obtain⟨K,q⟩:=f.2.2.1 rfl rfl
     rcases yt C with⟨_,m,rfl,rfl⟩|⟨_,m,rfl,I⟩|⟨e,_⟩
     ·have L:=h.1
      exact⟨by omega,λe=>⟨by omega,.fn c d g q m (h.2.2.1 rfl e).2⟩,λe=>.J0 c d g q m (h.2.2.2 rfl e)⟩
     ·obtain⟨rfl,rfl⟩:=h.2.1 rfl
      exact⟨by omega,by simp,λ_=>.JN c d g q m⟩
     ·cases e
   ·obtain⟨rfl,rfl⟩:=f.2.1 rfl
    obtain⟨rfl,rfl⟩:=a true rfl rfl;exact⟨by omega,by simp,λ_=>.QV c d g⟩
   ·cases e
  ·rcases O9 p with⟨e,_⟩|⟨e,_⟩|⟨_,rfl,rfl⟩
   ·cases e
   ·cases e
   ·obtain⟨rfl,rfl⟩:=f.2.1 rfl
    obtain⟨rfl,rfl⟩:=a true rfl rfl;exact⟨by omega,by simp,λ_=>.QU c d⟩
  ·cases e
 ·rcases Y8 (by decide) B with⟨e,_⟩|⟨e,_⟩|⟨_,rfl,rfl,rfl⟩
  ·cases e
  ·cases e
  ·rcases O9 p with⟨e,_⟩|⟨e,_⟩|⟨_,rfl,rfl⟩
   ·cases e
   ·cases e
   ·obtain⟨rfl,rfl⟩:=f.2.1 rfl
    obtain⟨rfl,rfl⟩:=a true rfl rfl;exact⟨by omega,by simp,λ_=>.zad c⟩
 ·cases e
end
structure InU(ws:List Wd)(en:Nat)(l:List Fn)(i':Nat)(b':Bool):Prop where
 X5:l.length<=i'+(if b' then 1 else 0)
 okk:b'=false->(∀m,Du ws en i' (.xL m)->Du ws en 0 (.xL (l++m)))/\(∀j,Du ws en i' (.J9 j)->Du ws en 0 (.J9 j))
 J9:b'=true->Du ws en 0 (.J9 i')
theorem InU.start(ws)(en:Nat):InU ws en [] 0 false:=⟨by simp,λ_=>⟨λ_ h=>h,λ_ h=>h⟩,by simp⟩
theorem InU.L9{ws}{en i' c:Nat}{d:Bool}{l f}(h:InU ws en l i' false)(hi:i'<ws.length)(e:zoo ws en i' f c d):InU ws en (l++[f]) c d/\i'<=c/\(d=false->i'<c):=by
 have k:=e.1;have a:=h.X5;simp only[C2,if_false,Nat.add_zero]at a;cases d with
 |false=>
  obtain⟨o,n⟩:=e.2.1 rfl;refine⟨⟨by simp;omega,λ_=>⟨λm g=>?_,λj g=>(h.okk rfl).2 _ (.xW hi n g)⟩,by simp⟩,k,λ_=>o⟩;have:=(h.okk rfl).1 _ (.qw hi n g);simpa using this
 |true=>exact⟨⟨by simp;omega,by simp,λ_=>(h.okk rfl).2 _ (.xV hi (e.2.2 rfl))⟩,k,by simp⟩
end Go.Proofs.YtmngofgminlloaaGreatDoor
namespace Go.Proofs.YtmngofgminlloaaGreatDoor
open Go.Proofs.Tryz
open Go.RowKit Tw
section
open Go.Maps
def Ju:Keyed prog 3:=int_keyed underlying3
def zc9(w):(zeroValue 3).run prog w=.ok (.int .i64 0) w:=by kernel_rfl
def Jg{k:Int}(h:(Lit.int .i64 k).wf=true):keyOf prog 3 (.int .i64 k)=some (.int .i64 k):=keyOf_int_mk underlying3 h
abbrev XH:Type:=DataW Unit
def ZB(D:XH)(k v:Int):XH:=D.put (.int .i64 k) (.lit (.int .i64 v))
def xm:XH:=ZB (ZB (ZB (ZB (ZB (ZB (.map []) 1 0) 2 0) 3 0) 4 1) 5 1) 6 2
def xF{w}{b n:Nat}{D}(h:w.ownsMap prog 3 (plainElem prog 3) b n D)(d:n<100)(k v:Int)(a:(Lit.int .i64 k).wf=true)(c:(Lit.int .i64 v).wf=true):
 ∃w',(Instr.mapUpdate 207 (.map (some b)) (.int .i64 k) (.int .i64 v)).run prog w=.ok () w'/\w'.ownsMap prog 3 (plainElem prog 3) b (n+1) (ZB D k v)/\w.grownBy w' (some b):=
 h.update Ju underlying207 (by unfold maxLen;omega) (Jg a) (plainElem_int underlying3 c)
def zcj(V:World): ∃c d e f g w6:World,
 (Instr.mapUpdate 207 (.map (some V.heap.size)) (.int .i64 1) (.int .i64 0)).run prog (V.alloc (.map #[] 0))=.ok () c/\
 (Instr.mapUpdate 207 (.map (some V.heap.size)) (.int .i64 2) (.int .i64 0)).run prog c=.ok () d/\
 (Instr.mapUpdate 207 (.map (some V.heap.size)) (.int .i64 3) (.int .i64 0)).run prog d=.ok () e/\
 (Instr.mapUpdate 207 (.map (some V.heap.size)) (.int .i64 4) (.int .i64 1)).run prog e=.ok () f/\
 (Instr.mapUpdate 207 (.map (some V.heap.size)) (.int .i64 5) (.int .i64 1)).run prog f=.ok () g/\
 (Instr.mapUpdate 207 (.map (some V.heap.size)) (.int .i64 6) (.int .i64 2)).run prog g=.ok () w6/\
 w6.ownsMap prog 3 (plainElem prog 3) V.heap.size 6 xm/\Below V.heap.size V w6:=by
 have i:=World.ownsMap_made (H:=Unit) V prog 3 (plainElem prog 3);obtain⟨c,j,l,m⟩:=xF i (by decide) 1 0 (by decide) (by decide);obtain⟨d,n,o,p⟩:=xF l (by decide) 2 0 (by decide) (by decide);obtain⟨e,q,r,s⟩:=xF o (by decide) 3 0 (by decide) (by decide);obtain⟨f,t,u,v⟩:=xF r (by decide) 4 1 (by decide) (by decide);obtain⟨g,w,x,y⟩:=xF u (by decide) 5 1 (by decide) (by decide);obtain⟨w6,z,A,B⟩:=xF x (by decide) 6 2 (by decide) (by decide);refine⟨c,d,e,f,g,w6,j,n,q,t,w,z,A,?_⟩;have a:Below V.heap.size V (V.alloc (.map #[] 0)):=(x8 _ _).alloc (x7 _) _;have b:=I4 (I4 (I4 (I4 (I4 m p) s) v) y) B;exact⟨b.os.trans a.os,b.tape.trans a.tape,b.output.trans a.output,C1 a.size b.size,λk h=>(b.block k (A7 h a.size) (by simp;omega)).trans (a.block k h)⟩
def zc3{w}{b:Nat}(h:w.ownsMap prog 3 (plainElem prog 3) b 6 xm)(k:Int)(e:(Lit.int .i64 k).wf=true):
 ∃c:Int,(Instr.lookup 207 (.map (some b)) (.int .i64 k) true).run prog w=.ok (.tuple #[.int .i64 c,.bool (Maps.has xm (.int .i64 k))]) w/\xm.atKey (.int .i64 k) (.lit (.int .i64 0))=.lit (.int .i64 c):=by
 obtain⟨v,i,d,f⟩:=h.look_ok Ju underlying207 (zc9 w) (plainElem_int underlying3 (a:=0) (by decide)) (Jg e);obtain⟨c,rfl,g,_⟩:=plainElem_int_inv underlying3 f;exact⟨c,d,H0 Prod.fst g⟩
def ZG{w}{b:Nat}(h:w.ownsMap prog 3 (plainElem prog 3) b 6 xm)(k c:Int)(ok:Bool)(e:(Lit.int .i64 k).wf=true)(f:xm.atKey (.int .i64 k) (.lit (.int .i64 0))=.lit (.int .i64 c))(g:Maps.has xm (.int .i64 k)=ok):
 (Instr.lookup 207 (.map (some b)) (.int .i64 k) true).run prog w=.ok (.tuple #[.int .i64 c,.bool ok]) w:=by
 obtain⟨c',a,d⟩:=zc3 h k e;have i:c=c':=(Lit.int.inj (DataW.lit.inj (f.symm.trans d))).2;subst i;subst g;exact a
def zkO:xm.atKey (.int .i64 1) (.lit (.int .i64 0))=.lit (.int .i64 0)/\Maps.has xm (.int .i64 1)=true:=⟨by kernel_rfl,by kernel_rfl⟩
def zll:xm.atKey (.int .i64 2) (.lit (.int .i64 0))=.lit (.int .i64 0)/\Maps.has xm (.int .i64 2)=true:=⟨by kernel_rfl,by kernel_rfl⟩
def zkY:xm.atKey (.int .i64 3) (.lit (.int .i64 0))=.lit (.int .i64 0)/\Maps.has xm (.int .i64 3)=true:=⟨by kernel_rfl,by kernel_rfl⟩
def zk6:xm.atKey (.int .i64 4) (.lit (.int .i64 0))=.lit (.int .i64 1)/\Maps.has xm (.int .i64 4)=true:=⟨by kernel_rfl,by kernel_rfl⟩
def zkZ:xm.atKey (.int .i64 5) (.lit (.int .i64 0))=.lit (.int .i64 1)/\Maps.has xm (.int .i64 5)=true:=⟨by kernel_rfl,by kernel_rfl⟩
def zlj:xm.atKey (.int .i64 6) (.lit (.int .i64 0))=.lit (.int .i64 2)/\Maps.has xm (.int .i64 6)=true:=⟨by kernel_rfl,by kernel_rfl⟩
def zkX:xm.atKey (.int .i64 7) (.lit (.int .i64 0))=.lit (.int .i64 0)/\Maps.has xm (.int .i64 7)=false:=⟨by kernel_rfl,by kernel_rfl⟩
def zkQ:xm.atKey (.int .i64 8) (.lit (.int .i64 0))=.lit (.int .i64 0)/\Maps.has xm (.int .i64 8)=false:=⟨by kernel_rfl,by kernel_rfl⟩
end
def zlC(s:Bs):lv s<=5:=by unfold lv;repeat' (first|omega|split)
def zdI(t:ByteArray)(w)(l:O4 w):Calls prog 161 #[.string t] w λe w'=>e=.returned (.int .i64 (lv t.data.toList))/\Below w.heap.size w w':=by
 have v:=qh l;clear l
 go_enter func161,ntmps161
 go_wp2_with fail
 go_loopw[3] (λi wr=> ∃n:Nat,1<=n/\n<=6/\i=.int .i64 n/\Hid (∀m,1<=m->m<n->lv t.data.toList≠m)/\Hid (Below w.heap.size w wr)) (λi _=>6-(intOf i).toNat)
 case atStart=>exact⟨1,by omega,by omega,rfl,qh (λm a b=>by omega),qh (x8 _ _)⟩
 case round=>
  obtain⟨n,o,z,rfl,p,f⟩:=hrel
  by_cases q:n<=5
  ·have j:(n:Int)<=5:=by omega
   obtain⟨b,r⟩: ∃b,(lv t.data.toList==n)=b:=⟨_,rfl⟩;have k:=qh r;clear r
   go_wp2_with fail
   refine(zbx n o q wr (v.out.to f.out)).mono ?_;rintro e A ⟨⟨g,rfl,s⟩,c⟩;have x:=qh s;have d:=qh (f.out.trans (c.mono f.out.size));clear s c
   go_wp2_with fail
   refine(QQ n o q g t _ x.out b k.out).mono ?_;rintro e B ⟨rfl,rfl⟩;cases b with
   |true=>
    go_wp2_with fail
    go_ret;exact⟨by rw[beq_iff_eq.1 k.out];rfl,d.out⟩
   |false=>
    go_wp2_with fail
    go_roundw
    case rel=>exact⟨n+1,by omega,by omega,by go_num,qh (λm a b=>by
     rcases E0 m n with h|h
     ·exact p.out m a h
     ·obtain rfl:m=n:=by omega
      exact beq_eq_false_iff_ne.1 k.out),d⟩
    case measure=>simp[intOf];omega
  ·have j: ¬(n:Int)<=5:=by omega
   have u:lv t.data.toList=0:=by
    have:=zlC t.data.toList
    rcases Nat.eq_zero_or_pos (lv t.data.toList)with h|h
    ·exact h
    ·exact H9 rfl (p.out _ h (by omega))
   have y:=qh u;clear u
   go_wp2_with fail
   go_ret;exact⟨by rw[y.out];rfl,f.out⟩
end Go.Proofs.YtmngofgminlloaaGreatDoor
