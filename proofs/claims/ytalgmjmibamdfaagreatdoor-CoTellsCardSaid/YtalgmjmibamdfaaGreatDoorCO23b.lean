/- Merged. -/
import Derived.Test.YtalgmjmibamdfaaGreatDoorCO23
set_option linter.all false
set_option maxHeartbeats 16000000
set_option maxRecDepth 100000
namespace Go.Proofs.YtalgmjmibamdfaaGreatDoor
open Go.Proofs.Tryz
open Go.RowKit Tw
theorem zhI{Z Za Z0 b lv cn fuel:Nat}{w0 w:World}{An:Option Addr}{d:List Int}{A:Option Addr}{c:Nat}{l:List Kv}{ex:List (Nat×Array Value×Nat)}(hS:RdS Z Za Z0 b lv w0 An cn d)(hK:X7 w A c l)(hl:l.length<=16)(hz:Za<=w.heap.size)(ho:Yc Z w0 Z0 b An d.length cn w)(f5:xn Za lv (λ_=>True) w [])(f6:fuel<=1000)(d9: ∀x∈ex,w.heap[x.1]?=some (.cells x.2.1 x.2.2 (0,0)))(he: ∀x∈ex,x.1<Za/\x.1≠lv):
 Calls prog 21 #[.slice A l.length c,.int .i64 fuel,.func (.func 40) #[] #[.pointer (some ⟨b,0,none⟩)],.pointer (some ⟨lv,0,none⟩)] w λe w'=> ∃A' c' l' U X,e=.returned (.tuple #[.slice A' l.length c',.slice U (U6 (l.map Prod.fst) l.length).length X])/\X7 w' A' c' l'/\l'.map Prod.fst=(l.map Prod.fst).map (Ja (M1 d) fuel)/\K9 w' (Ti w') (.slice U (U6 (l.map Prod.fst) l.length).length X) (U6 (l.map Prod.fst) l.length)/\Hk Z w w'/\Yc Z w0 Z0 b An d.length cn w'/\xn Za lv (λ_=>True) w' (qR (M1 d) fuel (l.map Prod.fst) l.length)/\ ∀x∈ex,w'.heap[x.1]?=some (.cells x.2.1 x.2.2 (0,0)):=by
 obtain⟨ks,c3⟩: ∃ks,l.map Prod.fst=ks:=⟨_,rfl⟩;rw[c3];have f7:=zh c3;have j6:Hid (ks.length=l.length):=zh (by rw[<-c3,D9]);have HS:=zh hS;have HK:=zh hK;have HZ:=zh hz;have HE:=zh he;have j7:=zh f6;have b0:=((y7 w.heap.size w).alloc (y6 _) (.cells #[.func (.func 40) #[] #[.pointer (some ⟨b,0,none⟩)]] 52)).alloc (by simp) (.cells #[.pointer (some ⟨lv,0,none⟩)] 69);have x1:=y9 w (.cells #[.func (.func 40) #[] #[.pointer (some ⟨b,0,none⟩)]] 52);have x2:=y9 (w.alloc (.cells #[.func (.func 40) #[] #[.pointer (some ⟨b,0,none⟩)]] 52)) (.cells #[.pointer (some ⟨lv,0,none⟩)] 69);have x3:=(D4 (w.alloc (.cells #[.func (.func 40) #[] #[.pointer (some ⟨b,0,none⟩)]] 52)) (.cells #[.pointer (some ⟨lv,0,none⟩)] 69) (I7 x1)).trans x1;rw[show(w.alloc (.cells #[.func (.func 40) #[] #[.pointer (some ⟨b,0,none⟩)]] 52)).heap.size=w.heap.size+1 by simp]at x2;have o:Hid (Ze Z Za Z0 b lv cn w0 An d.length ex w [] (.slice none 0 0) [] [] _):=zh ⟨λx hx=>(by cases hx),G5 _ _ _ _,(f5.below b0).J0 (λ_ _ _ _ _=>rfl) (λ_ _ _ e=>(by cases e)),ho.below b0,.of b0 ho.sz,λx hx=>(b0.block x.1 (I7 (d9 x hx))).trans (d9 x hx)⟩;have p:=zh x2;have r:=zh x3;clear c3 hS hK hz f5 d9 he ho b0 x1 x2 x3
 go_enter func21,ntmps21
 go_upto_region 1 with(fail)
 generalize World.alloc _ _=w1 at o p r|-
 generalize w.heap.size+1=l2 at p|-
 obtain⟨hb,e0⟩: ∃hb,w.heap.size=hb:=⟨_,rfl⟩;rw[e0]at r
 try simp only[e0]
 clear e0
 go_wp2_with fail
 go_loopw[10,11,19] (λov rv iv wr=> ∃(j N:Nat)(u:List Kv)(Ao:Option Addr)(co:Nat)(U:Option Addr)(X:Nat),j<=l.length/\ov=.slice Ao j co/\rv=.slice U N X/\iv=.int .i64 j/\Hid ((U6 ks j).length=N)/\Hid (u.length=j)/\Hid (u.map Prod.fst=(ks.take j).map (Ja (M1 d) fuel))/\Hid (wr.ownsRow w.heap.size 61 4 (.slice Ao u.length co) u.length (u.flatMap Kv.cells))/\Hid (Ze Z Za Z0 b lv cn w0 An d.length ex w u (.slice U N X) (U6 ks j) (qR (M1 d) fuel ks j) wr)/\Hid (wr.heap[l2]?=some (.cells #[.pointer (some ⟨lv,0,none⟩)] 69 (0,0)))/\Hid (wr.heap[hb]?=some (.cells #[.func (.func 40) #[] #[.pointer (some ⟨b,0,none⟩)]] 52 (0,0)))) (λ_ _ iv _=>l.length-(intOf iv).toNat)
 case atStart=>exact⟨0,0,[],none,0,none,0,E2 _,rfl,rfl,rfl,zh rfl,zh rfl,zh rfl,zh (G5 _ _ _ _),o,p,r⟩
 case round=>
  clear o p r;obtain⟨j,N,u,Ao,co,U,X,hj,rfl,rfl,rfl,HN,a1,HM,HO,o,p,r⟩:=hrel
  by_cases j8:j<l.length
  ·obtain⟨x,hx⟩: ∃x,l[j]?=some x:=⟨_,y8 j8⟩
   have f8:ks[j]?=some x.1:=by rw[<-f7.out,G3,hx];rfl
   have e3:=zh f8;have P:xh wr (λg=>(Value.slice U N X).ownBlock≠some g) x:=((HK.out.jd x (B7 hx)).imp λg hg _ e=>by have:=(o.out.rw.lt g e).1;omega).hk o.out.hk;obtain⟨g,L,a,M,F,B,D,As,n,rfl,rfl,hg,⟨q0,q1,q2,q3⟩,hF,f9,g0⟩:=(HK.out.hk o.out.hk).get hx;have HF:=zh hF;have a2:=zh f9;have g1:=zh g0;have a3:=zh P;clear hx f8 hF f9 g0 P
   go_upto_region 6 with(fail)
   have b1:=((y7 wr.heap.size wr).alloc (y6 _) (.cells #[.int .i64 j] 3)).alloc (by simp) (.cells #[.slice B L.length D,.int .i64 a,.slice As (K4 M).length n,.int .i64 F] 61);have x1:=y9 wr (.cells #[.int .i64 j] 3);have x2:=y9 (wr.alloc (.cells #[.int .i64 j] 3)) (.cells #[.slice B L.length D,.int .i64 a,.slice As (K4 M).length n,.int .i64 F] 61);have x3:=(D4 (wr.alloc (.cells #[.int .i64 j] 3)) (.cells #[.slice B L.length D,.int .i64 a,.slice As (K4 M).length n,.int .i64 F] 61) (I7 x1)).trans x1;rw[show(wr.alloc (.cells #[.int .i64 j] 3)).heap.size=wr.heap.size+1 by simp]at x2;have b2:Hid (∀g,(Value.slice Ao u.length co).ownBlock=some g->g≠wr.heap.size+1):=zh λg e=>by have:=(HO.out.lt g e).2;omega
   have e4:Hid ((Value.slice U N X).ownBlock≠some wr.heap.size):=zh (o.out.ZF (y6 _));have b3:Hid (w.heap.size<=wr.heap.size+1):=zh (by have:=o.out.hk.size;omega);replace o:=zh (o.out.below HS.out HZ.out HE.out b1);replace p:=zh ((b1.block l2 (I7 p.out)).trans p.out);replace r:=zh ((b1.block hb (I7 r.out)).trans r.out);replace HO:=zh (M4 HO.out λg n _ hg=>b1.block g (I7 hg));replace HF:=zh (HF.out.J0 (.of b1));replace a2:=zh (JT.hk (.of b1 (E2 _)) a2.out);replace a3:=zh (xh.hk (.of b1 (E2 _)) a3.out);have G:=zh x3;have i:=zh x2;clear b1 x1 x2 x3 q0 q1 q2 q3 hg;generalize World.alloc _ _=w4 at o p r HO HF a2 a3 G i|-
   generalize wr.heap.size+1=Y at i b2 b3|-
   generalize wr.heap.size=ib at G e4|-
   obtain⟨C,C'⟩:=N6 i.out;obtain⟨I,-⟩:=N6 G.out;have a4:=I7 i.out
   by_cases h0:0<F
   ·have j9:IntKind.i64.wrap ((F:Int)-1)=((F-1:Nat):Int):=by have:=g1.out.hi;simp only at this;rw[show((F-1:Nat):Int)=(F:Int)-1 by omega];exact IntWalk.i64_in _ (by omega)
    go_upto_region 8 with(fail)
    have e5:=xP HO.out b2.out 3 (.int .i64 ((F-1:Nat):Int));have b4:=o.out.ZB HS.out HZ.out HE.out ⟨_,i.out⟩ b3.out 3 (.int .i64 ((F-1:Nat):Int));have e6:(w4.setCell ⟨Y,3,none⟩ (.int .i64 ((F-1:Nat):Int))).heap[Y]?=some (.cells #[.slice B L.length D,.int .i64 a,.slice As (K4 M).length n,.int .i64 ((F-1:Nat):Int)] 61 (0,0)):=z5 w4 Y 3 _ _ _ i.out;have c4:=XJ i.out 3 (.int .i64 ((F-1:Nat):Int));have c5:=(c4 l2 _ _ _ p.out (by decide)).trans p.out;have c6:=(c4 hb _ _ _ r.out (by decide)).trans r.out;have c7:=xh.J0 a3.out c4;have e7:xh _ (λg=>(Value.slice U N X).ownBlock≠some g) ((⟨L,a,M,F-1⟩:Ko),Value.slice B L.length D,Value.slice As (K4 M).length n):=⟨c7.f,c7.fi,c7.s⟩;generalize World.setCell _ _ _=w5 at e5 b4 e6 c5 c6 e7|-
    obtain⟨C5,-⟩:=N6 e6;obtain⟨g9,b5,w6,r6,g2,E,g3,c8⟩:=ZK (V:= #[.slice B L.length D,.int .i64 a,.slice As (K4 M).length n,.int .i64 ((F-1:Nat):Int)]) 56 e5 b4.hk.size b4.kv e7 (by have:=a1.out;omega) rfl;have b6:=zh ((b4.grow HS.out HZ.out HE.out g3 c8).put E);have d0:=zh g2;have k0:=zh ((c8 l2 _ _ _ c5 (by decide)).trans c5);have k1:=zh ((c8 hb _ _ _ c6 (by decide)).trans c6);rw[a1.out]at r6;have hk:=e3.out;simp only at hk;have e1:U6 ks (j+1)=U6 ks j:=by rw[qW hk];simp[coR,h0]
    have e2:qR (M1 d) fuel ks (j+1)=qR (M1 d) fuel ks j:=by rw[xL hk];simp[coL,h0]
    rw[<-e1,<-e2]at b6;have H:Hid ((U6 ks (j+1)).length=N):=zh (by rw[e1];exact HN.out);have k2:=zh (map_take (y:=((⟨L,a,M,F-1⟩:Ko),Value.slice B L.length D,Value.slice As (K4 M).length n)) hk HM.out (by simp[Ja,h0]));have k3:Hid ((u++[((⟨L,a,M,F-1⟩:Ko),Value.slice B L.length D,Value.slice As (K4 M).length n)]).length=j+1):=zh (by rw[z9,a1.out];rfl);clear e5 b4 e6 c4 c5 c6 c7 e7 g2 E g3 c8 hk e1 e2 C C' I a4 j9
    go_wp2_with(at_builtin;refine Lib.wpList_append_run _ rfl _ _ _ _ rfl _ _ rfl rfl _ _ r6 ?_)
    go_roundw
    case rel=>exact⟨j+1,N,_,some ⟨g9,0,none⟩,b5,U,X,by omega,rfl,rfl,by go_num,H,k3,k2,d0,b6,k0,k1⟩
    case measure=>simp[intOf];omega
   ·obtain rfl:F=0:=by omega
    clear h0 C';obtain⟨gs,os,rfl,k4,s0⟩:=a2.out.sl.1.at 0 M.mode rfl;have k5:=a2.out.2;have k6:0<(K4 M).length:=by unfold K4;simp
    rw[Nat.add_zero]at s0
    go_upto_if 39 with(fail)
    have e8:=zh (o.out.put (lo':=(((⟨L,a,M,0⟩:Ko),Value.slice B L.length D,Value.slice (some ⟨gs,os,none⟩) (K4 M).length n)::u)) (List.forall_mem_cons.2 ⟨a3.out,o.out.kv⟩))
    go_cut[11] (λrv W=> ∃(N1:Nat)(J:Option Addr)(K:Nat),rv=.slice J N1 K/\Hid ((U6 ks (j+1)).length=N1)/\Hid (W.ownsRow w.heap.size 61 4 (.slice Ao u.length co) u.length (u.flatMap Kv.cells))/\Hid (Ze Z Za Z0 b lv cn w0 An d.length ex w (((⟨L,a,M,0⟩:Ko),Value.slice B L.length D,Value.slice (some ⟨gs,os,none⟩) (K4 M).length n)::u) (.slice J N1 K) (U6 ks (j+1)) (qR (M1 d) fuel ks j) W)/\Hid (∀(k:Nat)(n:Array Value)(t:Nat)(fr:Nat×Nat),w4.heap[k]?=some (.cells n t fr)->t≠3\/k=ib->W.heap[k]?=w4.heap[k]?))
    case first=>
     have hk:=e3.out;simp only at hk
     by_cases hm:M.mode=0
     ·have e1:U6 ks (j+1)=U6 ks j++[(j:Int)]:=by rw[qW hk];simp[coR,hm]
      obtain⟨g8,g4,w8,r8,a5,k7,a6⟩:=e8.out.Zf HS.out HZ.out HE.out 22 (j:Int) (by have:=QV ks j;omega);have f0: ∀(k:Nat)(n:Array Value)(t:Nat)(fr:Nat×Nat),w4.heap[k]?=some (.cells n t fr)->t≠3->(Value.slice U N X).ownBlock≠some k:=λk n t fr h1 h2 e=>by
       obtain⟨l6,h4⟩:=zC o.out.rw e;rw[h1]at h4;injection h4 with h4
       injection h4 with _ h4
       exact h2 h4
      have a7:=zh (M4 HO.out λg n _ hg=>a6 g _ _ _ hg (f0 g _ _ _ hg (by decide)));have k8:Hid (∀(k:Nat)(n:Array Value)(t:Nat)(fr:Nat×Nat),w4.heap[k]?=some (.cells n t fr)->t≠3\/k=ib->w8.heap[k]?=w4.heap[k]?):=zh λk n t fr h1 h2=>a6 k n t fr h1 (h2.elim (f0 k n t fr h1) λe=>e▸e4.out);rw[<-e1]at a5;have Q:=zh a5;have H:Hid ((U6 ks (j+1)).length=N+1):=zh (by rw[e1,z9,HN.out];rfl);rw[HN.out]at r8;rw[H.out]at Q;clear e1 hk a5 k7 a6 f0 C
      go_wp2_with(at_builtin;refine Lib.wpList_append_run _ rfl _ _ _ _ rfl _ _ rfl rfl _ _ r8 ?_)
      go_meet
      case rel=>exact⟨N+1,some ⟨g8,0,none⟩,g4,rfl,H,a7,Q,k8⟩
     ·have e1:U6 ks (j+1)=U6 ks j:=by rw[qW hk];simp[coR,hm]
      have H:Hid ((U6 ks (j+1)).length=N):=zh (by rw[e1];exact HN.out);have k9:Hid (Ze Z Za Z0 b lv cn w0 An d.length ex w (((⟨L,a,M,0⟩:Ko),Value.slice B L.length D,Value.slice (some ⟨gs,os,none⟩) (K4 M).length n)::u) (.slice U N X) (U6 ks (j+1)) (qR (M1 d) fuel ks j) w4):=zh (by rw[e1];exact e8.out);clear e1 hk
      go_wp2_with fail
      go_meet
      case rel=>exact⟨N,U,X,rfl,H,HO,k9,zh λ_ _ _ _ _ _=>rfl⟩
    case rest=>
     rename World=>w5
     obtain⟨N1,J,K,rfl,H,g5,R,b7⟩:=hcut;replace p:=zh ((b7.out l2 _ _ _ p.out (.inl (by decide))).trans p.out);replace r:=zh ((b7.out hb _ _ _ r.out (.inl (by decide))).trans r.out);replace i:=zh ((b7.out Y _ _ _ i.out (.inl (by decide))).trans i.out);replace G:=zh ((b7.out ib _ _ _ G.out (.inr rfl)).trans G.out);obtain⟨P,-⟩:=List.forall_mem_cons.1 R.out.kv;have g6:=zh P;have f1:Hid (M3 w5 (.slice B L.length D) (L.map Cf.pf)):=zh P.fi;obtain⟨A9,c9,e9,S⟩:=P.s;simp only at e9 S;injection e9 with e9 _ f2
     subst e9 f2;have g7:=zh S;clear P S o e8 HO HF a2 a3 b7 HN e4 C I a4 s0 k5 k6 k4;have h3:(qR (M1 d) fuel ks j).length<=900000:=by
      have h1:=QS (M1 d) fuel ks j;have h2:=Nat.mul_le_mul (show j<=16 by omega) f6;omega
     have h5: ∀x∈bsC ib l2 hb lv b (j:Int)++ex,w5.heap[x.1]?=some (.cells x.2.1 x.2.2 (0,0)):=by
      simp only[bsC,B6,C0,List.forall_mem_cons];exact⟨G.out,p.out,r.out,R.out.ex⟩
     have RC:=zh (zgX (who:=(j:Int)) HS.out g1.out f1.out g7.out (C4 HZ.out R.out.hk.size) R.out.ho R.out.lg h3 j7.out h5 HE.out);clear h3 h5;obtain⟨C,-⟩:=N6 i.out
     go_wp2_with fail
     refine RC.out.mono ?_;rintro e w6 hr;obtain⟨d1,E,A',c',rfl,h6⟩:=R.out.run hr;have hk:=e3.out;have e2:=xL (hf:=M1 d) (fuel:=fuel) hk;simp only[coL,Nat.lt_irrefl,if_false]at e2;rw[<-e2]at d1;have hm: ∀(y:Kv),y.1=Ja (M1 d) fuel ⟨L,a,M,0⟩->(u++[y]).map Prod.fst=(ks.take (j+1)).map (Ja (M1 d) fuel):=λy hy=>map_take hk HM.out hy;simp only[Ja,Nat.lt_irrefl,if_false]at hm;have f3:xh w6 (λg=>(Value.slice J N1 K).ownBlock≠some g) (⟨L,a,(S1 L (M1 d) fuel M).1,0⟩,.slice B L.length D,.slice A' (K4 (S1 L (M1 d) fuel M).1).length c'):=⟨⟨_,_,rfl⟩,f1.out.J0 E.xi,_,_,rfl,h6⟩;generalize(S1 L (M1 d) fuel M).2=y at hm|-
     generalize(S1 L (M1 d) fuel M).1=m at hm f3|-
     have l0:=zh hm;have h7:=zh f3;have b6:=zh (d1.put (List.forall_mem_cons.1 d1.kv).2);replace p:=zh ((E.K3 l2 _ _ _ p.out (by unfold xo;decide)).trans p.out);replace r:=zh ((E.K3 hb _ _ _ r.out (by unfold xo;decide)).trans r.out);replace i:=zh ((E.K3 Y _ _ _ i.out (by unfold xo;decide)).trans i.out);have d0:=zh (M4 g5.out λg n _ hg=>E.K3 g _ _ _ hg (by unfold xo;decide));clear hr d1 E h6 hk e2 hm f3 RC C R g5 f1 g7 g6 G HM;obtain⟨C,C'⟩:=N6 i.out;have a4:=I7 i.out
     go_upto_region 13 with(fail)
     have h8:=xP (xP d0.out b2.out 2 (.slice A' (K4 m).length c')) b2.out 3 (.int .i64 0);have h9:=b6.out.ZB HS.out HZ.out HE.out ⟨_,i.out⟩ b3.out 2 (.slice A' (K4 m).length c');have d2:=z5 w6 Y 2 _ _ (.slice A' (K4 m).length c') i.out;have i0:((w6.setCell ⟨Y,2,none⟩ (.slice A' (K4 m).length c')).setCell ⟨Y,3,none⟩ (.int .i64 0)).heap[Y]?=some (.cells #[.slice B L.length D,.int .i64 a,.slice A' (K4 m).length c',.int .i64 0] 61 (0,0)):=z5 _ Y 3 _ _ (.int .i64 0) d2;have a5:=h9.ZB HS.out HZ.out HE.out ⟨_,d2⟩ b3.out 3 (.int .i64 0);have hs7:=XJ i.out 2 (.slice A' (K4 m).length c');have T:=XJ d2 3 (.int .i64 0);have i1:=(T l2 _ _ _ ((hs7 l2 _ _ _ p.out (by decide)).trans p.out) (by decide)).trans ((hs7 l2 _ _ _ p.out (by decide)).trans p.out);have i2:=(T hb _ _ _ ((hs7 hb _ _ _ r.out (by decide)).trans r.out) (by decide)).trans ((hs7 hb _ _ _ r.out (by decide)).trans r.out);have a6:=xh.J0 (xh.J0 h7.out hs7) T;have a7:=zh h8;have Q:=zh a5;have O:=zh i0;have b8:=zh i1;have b9:=zh i2;have c0:=zh a6;clear h8 h9 d2 i0 a5 hs7 T i1 i2 a6 b6 p r i d0 h7 C C' a4;generalize World.setCell _ _ _=w8 at a7 Q O b8 b9 c0|-
     obtain⟨A9,c9,e9,S⟩:=c0.out.s;simp only at e9 S;injection e9 with e9 _ f2
     subst e9 f2;have i3:=zh S;obtain⟨g8,o8,rfl,l1,s1⟩:=i3.out.1.at 1 m.value rfl;have l3: ¬((K4 m).length:Int)<=1:=by unfold K4;simp;omega
     obtain⟨C,C'⟩:=N6 O.out;have a4:=I7 O.out;clear S
     go_cut[65] (λv W=> ∃q:Bool,v=.bool q/\Hid (q=true↔y=1/\0<m.value)/\W=w8)
     case first=>
      by_cases hy:y=1
      ·subst hy
       go_wp2_with fail
       all_goals(go_meet;case rel=>exact⟨_,rfl,zh (by simp),rfl⟩)
      ·go_wp2_with fail
       go_meet
       case rel=>exact⟨false,rfl,zh (by simp[hy]),rfl⟩
     rename World=>wq
     obtain⟨q,rfl,HQ,rfl⟩:=hcut
     go_upto_if 65 with(fail)
     go_cut[] (λW=> ∃s':Nat,Hid (s'=if y=1 then m.value.toNat else 0)/\Hid (W.heap[Y]?=some (.cells #[.slice B L.length D,.int .i64 a,.slice (some ⟨g8,o8,none⟩) (K4 m).length c',.int .i64 s'] 61 (0,0)))/\Hid (W.ownsRow w.heap.size 61 4 (.slice Ao u.length co) u.length (u.flatMap Kv.cells))/\Hid (Ze Z Za Z0 b lv cn w0 An d.length ex w u (.slice J N1 K) (U6 ks (j+1)) (qR (M1 d) fuel ks (j+1)) W)/\Hid (xh W (λg=>(Value.slice J N1 K).ownBlock≠some g) (⟨L,a,m,0⟩,.slice B L.length D,.slice (some ⟨g8,o8,none⟩) (K4 m).length c'))/\Hid (W.heap[l2]?=some (.cells #[.pointer (some ⟨lv,0,none⟩)] 69 (0,0)))/\Hid (W.heap[hb]?=some (.cells #[.func (.func 40) #[] #[.pointer (some ⟨b,0,none⟩)]] 52 (0,0))))
     case first=>
      cases q with
      |true=>
       obtain⟨hy,hv⟩:=HQ.out.1 rfl;obtain⟨s8,T⟩: ∃s:Nat,m.value=s:=⟨m.value.toNat,by omega⟩;have f4:Hid (s8=if y=1 then m.value.toNat else 0):=zh (by rw[E1 hy];omega);rw[T]at s1;clear T hv hy;have i4:=xP a7.out b2.out 3 (.int .i64 (s8:Int));have i5:=Q.out.ZB HS.out HZ.out HE.out ⟨_,O.out⟩ b3.out 3 (.int .i64 (s8:Int));have i6:(wq.setCell ⟨Y,3,none⟩ (.int .i64 (s8:Int))).heap[Y]?=some (.cells #[.slice B L.length D,.int .i64 a,.slice (some ⟨g8,o8,none⟩) (K4 m).length c',.int .i64 (s8:Int)] 61 (0,0)):=z5 wq Y 3 _ _ _ O.out;have d3:=XJ O.out 3 (.int .i64 (s8:Int));have d4:=zh i4;have a8:=zh i5;have d5:=zh i6;have a9:=zh (xh.J0 c0.out d3);have c1:=zh ((d3 l2 _ _ _ b8.out (by decide)).trans b8.out);have c2:=zh ((d3 hb _ _ _ b9.out (by decide)).trans b9.out);clear i4 i5 i6 d3
       go_wp2_with fail
       go_meet
       case rel=>exact⟨s8,f4,d5,d4,a8,a9,c1,c2⟩
      |false=>
       have f4:Hid (0=if y=1 then m.value.toNat else 0):=zh (by
        split
        ·rename_i hy
         have: ¬0<m.value:=λh=>by have:=HQ.out.2 ⟨hy,h⟩;cases this
         omega
        ·rfl)
       go_wp2_with fail
       go_meet
       case rel=>exact⟨0,f4,O,a7,Q,c0,b8,b9⟩
     case rest=>
      rename World=>w9
      obtain⟨s',l4,d5,d4,a8,a9,c1,c2⟩:=hcut;clear O a7 Q c0 b8 b9 C C' a4 s1 l3 l1 i3;obtain⟨C,-⟩:=N6 d5.out;have i7:xh w9 (λg=>(Value.slice J N1 K).ownBlock≠some g) ((⟨L,a,m,s'⟩:Ko),Value.slice B L.length D,Value.slice (some ⟨g8,o8,none⟩) (K4 m).length c'):=⟨a9.out.f,a9.out.fi,a9.out.s⟩;obtain⟨g9,b5,l8,i8,d6,d7,d8,a0⟩:=ZK (V:= #[.slice B L.length D,.int .i64 a,.slice (some ⟨g8,o8,none⟩) (K4 m).length c',.int .i64 (s':Int)]) 56 d4.out a8.out.hk.size a8.out.kv i7 (by have:=a1.out;omega) rfl;have i9:=zh ((a8.out.grow HS.out HZ.out HE.out d8 a0).put d7);have j0:=zh d6;have j1:=zh ((a0 l2 _ _ _ c1.out (by decide)).trans c1.out);have j2:=zh ((a0 hb _ _ _ c2.out (by decide)).trans c2.out);rw[a1.out]at i8;have j3:=zh (l0.out ((⟨L,a,m,s'⟩:Ko),Value.slice B L.length D,Value.slice (some ⟨g8,o8,none⟩) (K4 m).length c') (by rw[l4.out]));have j4:Hid ((u++[((⟨L,a,m,s'⟩:Ko),Value.slice B L.length D,Value.slice (some ⟨g8,o8,none⟩) (K4 m).length c')]).length=j+1):=zh (by rw[z9,a1.out];rfl);clear i7 d6 d7 d8 a0 d5 d4 a8 a9 c1 c2
      go_wp2_with(at_builtin;refine Lib.wpList_append_run _ rfl _ _ _ _ rfl _ _ rfl rfl _ _ i8 ?_)
      go_roundw
      case rel=>exact⟨j+1,N1,_,some ⟨g9,0,none⟩,b5,J,K,by omega,rfl,rfl,by go_num,H,j4,j3,j0,i9,j1,j2⟩
      case measure=>simp[intOf];omega
  ·obtain rfl:j=l.length:=by omega
   rw[<-j6.out,F6]at HM;have j5:=zh (X7.ql HO.out o.out.kv λy hy=>by
    have h1:y.1∈ks.map (Ja (M1 d) fuel):=by rw[<-HM.out];exact G8 hy
    obtain⟨k,hk,e⟩:=List.mem_map.1 h1;rw[<-f7.out]at hk;obtain⟨z,hz,e2⟩:=List.mem_map.1 hk;rw[<-e,<-e2];exact(HK.out.ok z hz).round _ (yW d) fuel)
   go_wp2_with fail
   go_ret2;refine⟨Ao,co,u,U,X,by rw[HN.out];rfl,j5.out,HM.out,?_,o.out.hk,o.out.ho,o.out.lg.ZF,o.out.ex⟩;rw[HN.out];exact ZT o.out.rw
end Go.Proofs.YtalgmjmibamdfaaGreatDoor
