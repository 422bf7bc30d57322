/- Merged. -/
import Derived.Test.YtalgmjmibamdfaaGreatDoorCO27
set_option linter.all false
set_option maxHeartbeats 16000000
set_option maxRecDepth 100000
namespace Go.Proofs.YtalgmjmibamdfaaGreatDoor
open Go.Proofs.Tryz
open Go.RowKit Tw
theorem qz.eq{w:World}{A:Option Addr}{n c k2:Nat}(d:qz w A n 0 3 c)(f:qz w A n 0 3 k2)(h: ∀j,j<n-> ∃g a v,A=some ⟨g,a,none⟩/\g<w.heap.size/\w.cell? ⟨g,a+j,none⟩=some (.int .i64 v)):c=k2:=by
 rcases Nat.eq_zero_or_pos n with b|b
 ·rw[d.2 (by omega),f.2 (by omega)]
 ·obtain⟨g,a,v,e,-,i⟩:=h 0 b
  have k:=d.1 b g a v e i;have l:=f.1 b g a v e i;omega
def YE(w:World)(A:Option Addr)(n c:Nat):Prop:=n<=c/\ ∀j,j<n-> ∃g a v,A=some ⟨g,a,none⟩/\g<w.heap.size/\w.cell? ⟨g,a+j,none⟩=some (.int .i64 v)
theorem YE.low{w w':World}{A:Option Addr}{n c:Nat}(h:YE w A n c)(b:Below w.heap.size w w'):YE w' A n c:=⟨h.1,λj e=>by
 obtain⟨g,a,v,f,d,i⟩:=h.2 j e;exact⟨g,a,v,f,z6 d b.size,(b.cell (p:=⟨g,a+j,none⟩) d).trans i⟩⟩
theorem Yy(Al:Option Addr)(nl cl:Nat)(An:Option Addr)(cn:Nat)(z:List Int)(fuel E:Int)(w:World)(hG:U2 w)(x4:nl<=cl)(x5:nl<=281474976710656)(hA: ∀i,i<nl-> ∃g a4 A n c,Al=some ⟨g,a4,none⟩/\g<w.heap.size/\w.cell? ⟨g,a4+i,none⟩=some (.slice A n c)/\YE w A n c)(ha:K9 w (λ_=>True) (.slice An z.length cn) z)(hn:z.length<=4611686018427387904):
 Calls prog 4 #[.slice Al nl cl,.int .i64 fuel,.int .i64 E,.slice An z.length cn] w λe w'=>e=.returned (.bool true)/\Below w.heap.size w w':=by
 have HG:Hid (∀W,Below w.heap.size w W->U2 W):=zh (λW O=>hG.to O);have HA:Hid (∀W,Below w.heap.size w W-> ∀i,i<nl-> ∃g a4 A n c,Al=some ⟨g,a4,none⟩/\g<W.heap.size/\W.cell? ⟨g,a4+i,none⟩=some (.slice A n c)/\YE w A n c):=zh λW O i hi=>by
  obtain⟨g,a4,A,n,c,h1,h2,h3,h4⟩:=hA i hi;exact⟨g,a4,A,n,c,h1,z6 h2 O.size,(O.cell (p:=⟨g,a4+i,none⟩) h2).trans h3,h4⟩
 have k9:Hid (∀W,Below w.heap.size w W->K9 W (λ_=>True) (.slice An z.length cn) z):=zh (λW O=>ha.low O);have HN:=zh hn;have SC:Hid (∀A n c,YE w A n c-> ∀W,Below w.heap.size w W->Calls prog 7 #[.slice A n c] W λe w'=> ∃(t:ByteArray)(N k:Nat),e=.returned (.string t)/\t.size<=12000000/\Hid (jH k N t)/\qz w A n 0 3 k/\Below W.heap.size W w'):=zh (λA n c hL W O=>(JJ A n c W (HG.out W O) hL.1 (hL.low O).2).mono λe w' ⟨t,N,k,a,b,c,d,f⟩=>⟨t,N,k,a,b,c,d.zfE O (y6 _) Iff.rfl,f⟩);have UK:Hid (∀A n c,YE w A n c-> ∀W,Below w.heap.size w W->Calls prog 9 #[.slice A n c] W λe w'=> ∃(k:Nat)(m:List Fn)(Au:Option Addr)(cu:Nat),e=.returned (.agg #[.slice Au m.length cu])/\R0 w' (λ_=>True) (.slice Au m.length cu) m/\Below W.heap.size W w'/\m.map Fn.sh=jR k/\qz w A n 0 3 k):=zh (λA n c hL W O=>(zhB A n c W (HG.out W O) hL.1 (hL.low O).2).mono λe w' ⟨k,m,Au,cu,a,b,c,d,f⟩=>⟨k,m,Au,cu,a,b,c,d,f.zfE O (y6 _) Iff.rfl⟩);have P:=zh (y9 w (.cells #[.slice none 0 0,.int .i64 0] 26));have u:=zh ((y7 w.heap.size w).alloc (y6 _) (.cells #[.slice none 0 0,.int .i64 0] 26));clear hG hA ha hn
 go_enter func4,ntmps4
 go_upto_region 1 with(fail)
 have NC:=zh (zgt P.out)
 go_wp2_with fail
 refine NC.out.mono ?_;rintro e w1 ⟨rfl,Q⟩;replace u:Hid (Below w.heap.size w w1):=zh (u.out.trans (Q.mono u.out.size));clear P NC Q
 go_wp2_with fail
 refine(zfn w1).mono ?_;rintro e w2 ⟨rfl,l0⟩;replace u:Hid (Below w.heap.size w w2):=zh (u.out.trans (l0.mono u.out.size));clear l0;obtain⟨m,hm⟩: ∃m:Nat,min (nl:Int) 4=m:=⟨min nl 4,by omega⟩;have r6:m<=4:=by omega
 have x6:m<=nl:=by omega
 go_wp2_with fail
 go_loopw[11,52] (λpv iv wr=> ∃(j:Nat)(pl:List Kv)(Ap:Option Addr)(cp:Nat),j<=m/\pv=.slice Ap j cp/\iv=.int .i64 j/\Hid (pl.length=j)/\Hid (PrI w.heap.size Ap cp pl wr)/\Hid (Below w.heap.size w wr)) (λ_ iv _=>m-(intOf iv).toNat)
 case atStart=>exact⟨0,[],none,0,E2 _,rfl,rfl,zh rfl,zh ⟨G5 _ _ _ _,λ_ h=>by cases h⟩,u⟩
 case round=>
  clear u;obtain⟨j,pl,Ap,cp,hj,rfl,rfl,a5,M,u⟩:=hrel
  by_cases c3:j<m
  ·obtain⟨gl,ol,A,n,c,rfl,r7,q0,hL⟩:=HA.out wr u.out j (by omega)
   have HL:=zh hL;clear hL
   go_wp2_with fail
   refine(SC.out A n c HL.out wr u.out).mono ?_;rintro e w4 ⟨t,N,k,rfl,r9,HT,hD,G⟩;obtain⟨ws,us,s1,s2,s3,s4,hT,h4,l3⟩:=HT.out.zf;replace M:=zh (M.out.low G);replace u:=zh (u.out.trans (G.mono u.out.size));have c4:=zh hT;have H4:=zh (h4 us);have l4:=zh l3;have l5:=zh hD;have l6:t.size<=maxLen:=by unfold maxLen;omega
   have CC:=zh (zbL t ws us w4 l6 s1 s2 s3 s4 hT (h4 us) (HG.out w4 u.out));clear G s1 s2 s3 s4 hT h4 l3 hD HT r9 q0 r7
   go_wp2_with fail
   refine CC.out.mono ?_;rintro e w5 ⟨A1,c1,rfl,G,hf⟩;clear CC;obtain⟨L,hL⟩: ∃L,us.map (jM us)=L:=⟨_,rfl⟩;obtain⟨o,a1⟩: ∃m,qS us qp=m:=⟨_,rfl⟩;have b4:us.length=L.length:=by rw[<-hL,D9]
   have i3:(us.map λf=>(jM us f).pf)=L.map Cf.pf:=by rw[<-hL,List.map_map];rfl
   have HP:Hid (zk L o):=zh (by rw[<-hL,<-a1];exact Yl c4.out);have l7:L.length<=16:=by rw[<-b4];exact c4.out.len
   have l9:Hid (∀c∈L,c.J6.length<=4000):=zh (by rw[<-hL];intro x hx;obtain⟨f,hf,rfl⟩:=List.mem_map.1 hx;exact H4.out f hf);have m0:Hid (∀c∈L,ZH c.J6):=zh (by rw[<-hL];exact Xv c4.out.fw);have c5:Hid (yx ⟨L,o,L0 L o,0⟩):=zh ⟨HP.out,l7,l9.out,m0.out,(QO HP.out).1,(QO HP.out).2,λh=>(by simp at h),(by simp)⟩;have m1:M3 w5 (.slice A1 L.length c1) (L.map Cf.pf):=by rw[<-b4,<-i3];exact hf
   have FT:Hid (∀(W:World)(k2:Nat)(m2:List Fn)(Au:Option Addr)(cu:Nat),M3 W (.slice A1 L.length c1) (L.map Cf.pf)->R0 W (λ_=>True) (.slice Au m2.length cu) m2->m2.map Fn.sh=jR k2->qz w A n 0 3 k2->Calls prog 8 #[.agg #[.slice A1 L.length c1,.int .i64 o],.agg #[.slice Au m2.length cu]] W λe w'=>e=.returned (.bool true)/\Below W.heap.size W w'):=zh (λW k2 m2 Au cu hf hu hs hd=>by
    have:=zhG us m2 (by rw[hs,l4.out,l5.out.eq hd HL.out.2]) c4.out H4.out A1 Au c1 cu (λ_=>True) W (by rw[b4,i3];exact hf) hu;rw[b4,a1]at this;exact this)
   have i4:=G.alloc G.size (.cells #[.slice A1 L.length c1,.int .i64 o] 26);have P:=zh (y9 w5 (.cells #[.slice A1 L.length c1,.int .i64 o] 26));replace M:=zh (M.out.low i4);replace u:=zh (u.out.trans (i4.mono u.out.size));have HF:Hid (M3 (w5.alloc (.cells #[.slice A1 L.length c1,.int .i64 o] 26)) (.slice A1 L.length c1) (L.map Cf.pf)):=zh (m1.J0 (.of ((y7 w5.heap.size w5).alloc (y6 _) _)));rw[b4,a1];clear G hf i4 m1 b4 i3 a1 hL c4 H4 l4 l5 l6 HP l9 m0 l7
   go_upto_region 9 with(fail)
   generalize World.alloc _ _=w6 at P u HF M|-
   generalize w5.heap.size=bp at P|-
   have p0:w6.cell? ⟨bp,0,none⟩=some (.slice A1 L.length c1):=y5 P.out 0;have p1:w6.cell? ⟨bp,1,none⟩=some (.int .i64 o):=y5 P.out 1;have lp:=I7 P.out
   go_cut[70] (λv W=>v=.bool false/\Hid (Below w6.heap.size w6 W))
   case first=>
    have s0:Hid (Below w.heap.size w w6.drew):=zh (u.out.trans ((J5 w6).mono u.out.size));have s5:=zh (UK.out A n c HL.out)
    go_region_law(first|(go_simp;go_at_call 9;refine(s5.out _ s0.out).mono ?_;rintro e w8 ⟨k8,m8,x7,x8,rfl,hu,a2,hs,hd⟩;have S:Below w6.heap.size w6 w8:=(J5 w6).trans a2;have q0:w8.cell? ⟨bp,0,none⟩=some (.slice A1 L.length c1):=(S.cell (p:=⟨bp,0,none⟩) lp).trans p0;have q1:w8.cell? ⟨bp,1,none⟩=some (.int .i64 o):=(S.cell (p:=⟨bp,1,none⟩) lp).trans p1)|(go_simp;go_at_call 8;refine(FT.out _ _ _ _ _ (HF.out.J0 (.of S)) hu hs hd).mono ?_;rintro e H ⟨rfl,m3⟩))
    all_goals
     have s6:Hid (Below w6.heap.size w6 H):=zh (S.trans (m3.mono S.size));clear m3 S a2 hu hs hd q0 q1 p0 p1 lp
     go_wp2_with fail
     go_meet
     case rel=>exact⟨rfl,s6⟩
   case rest=>
    rename World=>w7
    obtain⟨rfl,c6⟩:=hcut;replace P:=zh ((c6.out.block bp lp).trans P.out);replace u:Hid (Below w.heap.size w w7):=zh (u.out.trans (c6.out.mono u.out.size));replace HF:=zh (HF.out.J0 (.of c6.out));replace M:=zh (M.out.low c6.out);clear c6 p0 p1 lp FT;have p0:w7.cell? ⟨bp,0,none⟩=some (.slice A1 L.length c1):=y5 P.out 0;have p1:w7.cell? ⟨bp,1,none⟩=some (.int .i64 o):=y5 P.out 1;have lp:=I7 P.out;obtain⟨g9,m4,w8,r8,m5,a2,-⟩:=zgw 59 M.out u.out.size HF.out c5.out (by have:=a5.out;omega);rw[a5.out]at r8;have s7:=zh m5;have c7:=zh (u.out.trans a2);have d0:Hid ((pl++[((⟨L,o,L0 L o,0⟩:Ko),Value.slice A1 L.length c1,undef)]).length=j+1):=zh (by rw[z9,a5.out];rfl);clear m5 a2 M u HF c5 P HL
    go_wp2_with(at_builtin;refine Lib.wpList_append_run _ rfl _ _ _ _ rfl _ _ rfl rfl _ _ r8 ?_)
    go_roundw
    case rel=>exact⟨j+1,_,some ⟨g9,0,none⟩,m4,by omega,rfl,by go_num,d0,s7,c7⟩
    case measure=>simp[intOf];omega
  ·obtain rfl:m=j:=by omega
   clear SC UK c3;have i5:=zh M.out.prs;have NC:=zh (zhH i5.out (by rw[a5.out];omega));rw[a5.out]at NC
   go_wp2_with fail
   refine NC.out.mono ?_;rintro e w8 ⟨A8,c8,l8,rfl,m6,m7,a2⟩;have m9:=zh m6;have i6:=zh m7;have e5:=zh (i5.out.low a2);have c7:=zh (u.out.trans (a2.mono u.out.size));have f4:=zh (y7 w8.heap.size w8);clear m6 m7 a2 i5 NC u M
   go_wp2_with fail
   go_loopw[18,83] (λov iv wr=> ∃(j:Nat)(T:List Kv)(Ao:Option Addr)(co:Nat),j<=m/\ov=.slice Ao j co/\iv=.int .i64 j/\Hid (T.length=j)/\Hid (T.map Prod.fst=(pl.map Prod.fst).take j)/\Hid (∀b∈T,xh wr (λ_=>True) b)/\Hid (wr.ownsRow w8.heap.size 61 4 (.slice Ao T.length co) T.length (T.flatMap Kv.cells))/\Hid (Below w8.heap.size w8 wr)) (λ_ iv _=>m-(intOf iv).toNat)
   case atStart=>exact⟨0,[],none,0,E2 _,rfl,rfl,zh rfl,zh rfl,zh (λ_ h=>by cases h),zh (G5 _ _ _ _),f4⟩
   case round=>
    clear f4;obtain⟨j,T,Ao,co,hj,rfl,rfl,B,HM,HK,HO,u⟩:=hrel
    by_cases c3:j<m
    ·obtain⟨x,hx⟩: ∃x,pl[j]?=some x:=⟨_,y8 (by rw[a5.out];exact c3)⟩
     obtain⟨g,L,o,Af,U,vs,rfl,rfl,R,⟨q0,q1⟩,hF,n0⟩:=(e5.out.low u.out).get hx;have s8:=zh hx;have HF:=zh hF;have c5:=zh n0;clear hx hF n0;have n1:=(e5.out.low u.out).cap
     go_upto_region 18 with(fail)
     have P:=zh (y9 wr (.cells #[.slice Af L.length U,.int .i64 o] 26));have ba:=(y7 wr.heap.size wr).alloc (y6 _) (.cells #[.slice Af L.length U,.int .i64 o] 26);replace HF:=zh (HF.out.J0 (.of ba));replace HO:=zh (K6 HO.out ba);replace HK:Hid (∀b∈T,xh _ (λ_=>True) b):=zh λb G=>xh.hk (.of ba (E2 _)) (HK.out b G);replace u:=zh (u.out.trans (ba.mono u.out.size));clear ba q0 q1 R n1;generalize World.alloc _ _=H at P HF HO HK u|-
     generalize wr.heap.size=bp at P|-
     have p0:H.cell? ⟨bp,0,none⟩=some (.slice Af L.length U):=y5 P.out 0;have p1:H.cell? ⟨bp,1,none⟩=some (.int .i64 o):=y5 P.out 1;have d3:=I7 P.out;obtain⟨cm,b5,s9⟩:=c5.out.pg.main;simp only at b5;have n2:=(c5.out.pg.yF cm (B7 b5)).vars.2;have t0:o<L.length:=(List.getElem?_eq_some_iff.1 b5).1;have e6:Hid (L0 L o=⟨0,0,[⟨o,0,List.replicate cm.vars 0,[]⟩]⟩):=zh (by simp[L0,b5]);obtain⟨X,x9,vo,hv,-,n3,u0,u1,u2,-⟩:=HF.out.at (zi b5);injection hv with t1 t2 t3
     clear t2 s9 b5 u0 u2;subst t1 t3;simp only[Cf.pf]at u1;obtain⟨Y,n4⟩: ∃n,cm.vars=n:=⟨_,rfl⟩;rw[n4]at u1 e6 n2;clear n4;have j0:(0:Int)<=(o:Int):=by omega
     have j1:(o:Int)<(L.length:Int):=by omega
     have t4:Hid (T.length<=1000):=zh (by have:=B.out;omega);have n5:Hid (∀(W:World)(A9:Option Addr)(c9:Nat),Below H.heap.size H W->JT W (λ_=>True) A9 c9 (K4 (L0 L o))-> ∃g cap w',(Builtin.append_ #[56,56] 56 #[.slice Ao j co,.slice (some ⟨W.heap.size,0,none⟩) 1 1]).run prog (W.alloc (.cells #[.slice (some ⟨X,0,none⟩) L.length U,.int .i64 o,.slice A9 (K4 (L0 L o)).length c9,.int .i64 0] 61))=.ok (.slice (some ⟨g,0,none⟩) (j+1) cap) w'/\Hid (w'.ownsRow w8.heap.size 61 4 (.slice (some ⟨g,0,none⟩) (T++[((⟨L,o,L0 L o,0⟩:Ko),Value.slice (some ⟨X,0,none⟩) L.length U,Value.slice A9 (K4 (L0 L o)).length c9)]).length cap) (T++[((⟨L,o,L0 L o,0⟩:Ko),Value.slice (some ⟨X,0,none⟩) L.length U,Value.slice A9 (K4 (L0 L o)).length c9)]).length ((T++[((⟨L,o,L0 L o,0⟩:Ko),Value.slice (some ⟨X,0,none⟩) L.length U,Value.slice A9 (K4 (L0 L o)).length c9)]).flatMap Kv.cells))/\Hid (∀x∈T++[((⟨L,o,L0 L o,0⟩:Ko),Value.slice (some ⟨X,0,none⟩) L.length U,Value.slice A9 (K4 (L0 L o)).length c9)],xh w' (λ_=>True) x)/\Below w8.heap.size w8 w'):=zh λW A9 c9 O i7=>by
      have h1:=u.out.trans (O.mono u.out.size);obtain⟨g,cap,w',r,ho,hk,G,-⟩:=ZK (b:=((⟨L,o,L0 L o,0⟩:Ko),Value.slice (some ⟨X,0,none⟩) L.length U,Value.slice A9 (K4 (L0 L o)).length c9)) (V:= #[.slice (some ⟨X,0,none⟩) L.length U,.int .i64 o,.slice A9 (K4 (L0 L o)).length c9,.int .i64 0]) 56 (K6 HO.out O) h1.size (λx hx=>xh.hk (.of O (E2 _)) (HK.out x hx)) ⟨⟨_,_,rfl⟩,HF.out.J0 (.of O),_,_,rfl,i7⟩ t4.out rfl;rw[B.out]at r;exact⟨g,cap,w',r,zh ho,zh hk,h1.trans G⟩
     refine zbR (D:=(Nat×Nat)×(Option Addr×Nat)×(Nat×Nat)×World×World) (by kernel_rfl) [(0,87),(1,88),(2,89),(3,90),(4,91),(5,92),(6,93),(7,94),(8,95),(9,96),(10,97),(11,98),(12,99),(13,100),(14,101),(15,102),(16,103),(17,104),(18,105),(19,18)] [19] [11,13,15,17,18] [[],[11],[11,13],[11,13,15],[11,13,15,17],[11,13,15,17,18]] (λj' d=>[(0,87,.slice Ao j co),(1,88,.agg #[.slice (some ⟨X,0,none⟩) L.length U,.int .i64 o]),(2,89,.pointer (some ⟨bp,1,none⟩)),(3,90,.int .i64 o),(4,91,.pointer (some ⟨bp,0,none⟩)),(5,92,.slice (some ⟨X,0,none⟩) L.length U),(6,93,.pointer (some ⟨bp,1,none⟩)),(7,94,.int .i64 o),(8,95,.pointer (some ⟨X,o*3,none⟩)),(9,96,.pointer (some ⟨X,o*3+1,none⟩)),(10,97,.int .i64 Y),(11,98,.slice (some ⟨d.1.1,0,none⟩) Y Y),(12,99,.agg #[.int .i64 o,.int .i64 0,.slice (some ⟨d.1.1,0,none⟩) Y Y,.slice none 0 0]),(13,100,.slice (some ⟨d.1.2,0,none⟩) 1 1),(14,101,.agg #[.int .i64 0,.int .i64 0,.slice (some ⟨d.1.2,0,none⟩) 1 1]),(15,102,.slice d.2.1.1 (K4 (L0 L o)).length d.2.1.2),(16,103,.agg #[.slice (some ⟨X,0,none⟩) L.length U,.int .i64 o,.slice d.2.1.1 (K4 (L0 L o)).length d.2.1.2,.int .i64 0]),(17,104,.slice (some ⟨d.2.2.2.1.heap.size,0,none⟩) 1 1),(18,105,.slice (some ⟨d.2.2.1.1,0,none⟩) (j+1) d.2.2.1.2),(19,18,match j' with|5=>.slice (some ⟨d.2.2.1.1,0,none⟩) (j+1) d.2.2.1.2|_=>.slice Ao j co)]) (λj' d=>match j' with|5=>d.2.2.2.2|4=>d.2.2.2.1.alloc (.cells #[.slice (some ⟨X,0,none⟩) L.length U,.int .i64 o,.slice d.2.1.1 (K4 (L0 L o)).length d.2.1.2,.int .i64 0] 61)|_=>d.2.2.2.1) (λj' d=>match j' with|0=>Below H.heap.size H d.2.2.2.1|1=>Below H.heap.size H d.2.2.2.1/\d.2.2.2.1.heap[d.1.1]?=some (.cells (U5 (List.replicate Y 0)) 3 (0,0))/\H.heap.size<=d.1.1|2=>Below H.heap.size H d.2.2.2.1/\d.2.2.2.1.heap[d.1.1]?=some (.cells (U5 (List.replicate Y 0)) 3 (0,0))/\H.heap.size<=d.1.1/\d.2.2.2.1.ownsRow H.heap.size 42 4 (.slice (some ⟨d.1.2,0,none⟩) 1 1) 1 [.int .i64 o,.int .i64 0,.slice (some ⟨d.1.1,0,none⟩) Y Y,.slice none 0 0]|3=>Below H.heap.size H d.2.2.2.1/\JT d.2.2.2.1 (λ_=>True) d.2.1.1 d.2.1.2 (K4 (L0 L o))|4=>Below H.heap.size H d.2.2.2.1/\JT d.2.2.2.1 (λ_=>True) d.2.1.1 d.2.1.2 (K4 (L0 L o))|_=>Hid (d.2.2.2.2.ownsRow w8.heap.size 61 4 (.slice (some ⟨d.2.2.1.1,0,none⟩) (T++[((⟨L,o,L0 L o,0⟩:Ko),Value.slice (some ⟨X,0,none⟩) L.length U,Value.slice d.2.1.1 (K4 (L0 L o)).length d.2.1.2)]).length d.2.2.1.2) (T++[((⟨L,o,L0 L o,0⟩:Ko),Value.slice (some ⟨X,0,none⟩) L.length U,Value.slice d.2.1.1 (K4 (L0 L o)).length d.2.1.2)]).length ((T++[((⟨L,o,L0 L o,0⟩:Ko),Value.slice (some ⟨X,0,none⟩) L.length U,Value.slice d.2.1.1 (K4 (L0 L o)).length d.2.1.2)]).flatMap Kv.cells))/\Hid (∀x∈T++[((⟨L,o,L0 L o,0⟩:Ko),Value.slice (some ⟨X,0,none⟩) L.length U,Value.slice d.2.1.1 (K4 (L0 L o)).length d.2.1.2)],xh d.2.2.2.2 (λ_=>True) x)/\Below w8.heap.size w8 d.2.2.2.2) [(0,0),(0,1),(0,2),(0,3),(0,4),(1,0),(1,1),(1,2),(1,3),(2,0),(2,1),(3,0),(3,1),(4,0),(5,0),(6,0),(7,0),(8,0),(9,0),(10,0),(11,0),(12,1),(13,1),(14,2),(15,2),(16,3),(17,3),(18,4),(19,5)] (by kernel_rfl) (by kernel_rfl) (λ_ _=>rfl) (by rfl) ((0,0),(none,0),(0,0),H.drew,H.drew) rfl (J5 H) rfl (by kernel_rfl) ?_ ?_ ?_
     ·intro j' d t5 e he hl
      have t6:j'=0\/j'=1\/j'=2\/j'=3\/j'=4:=by simp at t5;omega
      simp only[E7,List.mem_nil_iff,or_false]at he
      rcases he with rfl|rfl|rfl|rfl|rfl|rfl|rfl|rfl|rfl|rfl|rfl|rfl|rfl|rfl|rfl|rfl|rfl|rfl|rfl|rfl
      all_goals first|(simp at hl;done)|(rcases t6 with rfl|rfl|rfl|rfl|rfl<;>rfl)
     ·repeat' (first|refine List.forall_mem_cons.2 ⟨?_,?_⟩|exact List.forall_mem_nil _)
      all_goals
       intro o' ho;injection ho with ho
       subst ho;rintro⟨⟨gv,gb⟩,⟨A9,c9⟩,⟨b6,I⟩,W,W5⟩ R;simp only at R
      rotate_left 20
      ·obtain⟨wm,rm,t7,t8,-⟩:=XE W Y (by omega)
       refine .qU 1 ((W.heap.size,gb),(A9,c9),(b6,I),wm,W5) ⟨by decide,⟨R.trans (t8.mono R.size),t7,R.size⟩,rfl,λe he h1 h2=>?_⟩ (by simp[J8,X9,execOp,go_sem,rm])
       ·simp only[E7,List.mem_nil_iff,or_false]at he|-
        rcases he with rfl|rfl|rfl|rfl|rfl|rfl|rfl|rfl|rfl|rfl|rfl|rfl|rfl|rfl|rfl|rfl|rfl|rfl|rfl|rfl
        all_goals first|(simp;done)|exact I2 rfl h1|exact I2 (h2.symm.trans (by kernel_rfl:_=true)) (by decide)
      rotate_left 1
      ·obtain⟨G,b7,e7⟩:=R
       refine .qU 2 ((gv,W.heap.size),(A9,c9),(b6,I),W.alloc (.cells #[.int .i64 o,.int .i64 0,.slice (some ⟨gv,0,none⟩) Y Y,.slice none 0 0] 42),W5) ⟨by decide,⟨G.alloc G.size _,(D4 W _ (I7 b7)).trans b7,e7,World.ownsRow_lit (base:=H.heap.size) (e:=42) (size:=4) W #[.int .i64 o,.int .i64 0,.slice (some ⟨gv,0,none⟩) Y Y,.slice none 0 0] 1 G.size (by decide) rfl⟩,rfl,λe he h1 h2=>?_⟩ (by simp[J8,X9,execOp,go_sem])
       ·simp only[E7,List.mem_nil_iff,or_false]at he|-
        rcases he with rfl|rfl|rfl|rfl|rfl|rfl|rfl|rfl|rfl|rfl|rfl|rfl|rfl|rfl|rfl|rfl|rfl|rfl|rfl|rfl
        all_goals first|(simp;done)|exact I2 rfl h1|exact I2 (h2.symm.trans (by kernel_rfl:_=true)) (by decide)
      rotate_left 1
      ·obtain⟨G,hv,t9,ho⟩:=R
       have u3:S8 W (bd H.heap.size) 42 (some ⟨gb,0,none⟩) 1 [((⟨o,0,List.replicate Y 0,[]⟩:Fq),Value.slice (some ⟨gv,0,none⟩) Y Y,Value.slice none 0 0)]:=⟨ho,(Ym H H.heap.size).zce (y:=((⟨o,0,List.replicate Y 0,[]⟩:Fq),Value.slice (some ⟨gv,0,none⟩) Y Y,Value.slice none 0 0)) (λg cs R=>G.block g (I7 R)) (by have:=QP hv (base:=H.heap.size) t9 (by simp;omega);simpa using this) (G5 _ _ _ _) (λg e=>by(have h9:gv=g:=(by simpa[Value.ownBlock]using e));omega) (λg e=>by cases e) (λg _ e=>by cases e)⟩;have u4:=QR (mode:=0) (value:=0) u3 ⟨by simp,λx hx=>by rw[List.mem_singleton.1 hx];simp;omega⟩;refine .call 11 #[.agg #[.int .i64 0,.int .i64 0,.slice (some ⟨gb,0,none⟩) 1 1]] (by simp[J8,execOp,go_sem]) (u4.mono ?_);rintro e a3 ⟨a6,i8,i9,d4,d5⟩;replace d5:a3.ownsRow W.heap.size 3 1 (.slice i8 (K4 (L0 L o)).length i9) (K4 (L0 L o)).length (iC (K4 (L0 L o))):=by rw[e6.out];exact d5
       replace d4:e=.returned (.slice i8 (K4 (L0 L o)).length i9):=by rw[e6.out];exact d4
       subst d4;refine⟨_,3,((gv,gb),(i8,i9),(b6,I),a3,W5),rfl,⟨by decide,⟨G.trans (a6.mono G.size),(XD d5).imp λ_ _ _=>trivial⟩,rfl,λe he h1 h2=>?_⟩,rfl,rfl⟩
       ·simp only[E7,List.mem_nil_iff,or_false]at he|-
        rcases he with rfl|rfl|rfl|rfl|rfl|rfl|rfl|rfl|rfl|rfl|rfl|rfl|rfl|rfl|rfl|rfl|rfl|rfl|rfl|rfl
        all_goals first|(simp;done)|exact I2 rfl h1|exact I2 (h2.symm.trans (by kernel_rfl:_=true)) (by decide)
      rotate_left 1
      ·exact .qU 4 ((gv,gb),(A9,c9),(b6,I),W,W5) ⟨by decide,R,rfl,λe he h1 h2=>(by simpa using he)⟩ (by simp[J8,X9,execOp,go_sem])
      ·obtain⟨G,i7⟩:=R
       obtain⟨g,cap,w',r,ho,hk,u6⟩:=n5.out W A9 c9 G i7;refine .qU 5 ((gv,gb),(A9,c9),(g,cap),W,w') ⟨by decide,⟨ho,hk,u6⟩,rfl,λe he h1 h2=>?_⟩ ((O4 (s:=.tmp 87) (x:=.tmp 104) rfl (by simp[J8,go_sem]) (by simp[J8,go_sem]) r).trans (by simp[X9]))
       ·simp only[E7,List.mem_nil_iff,or_false]at he|-
        rcases he with rfl|rfl|rfl|rfl|rfl|rfl|rfl|rfl|rfl|rfl|rfl|rfl|rfl|rfl|rfl|rfl|rfl|rfl|rfl|rfl
        all_goals first|(simp;done)|exact I2 rfl h1|exact I2 (h2.symm.trans (by kernel_rfl:_=true)) (by decide)
      all_goals refine .xk rfl ?_
      all_goals first
       |(simp[J8,X9,execOp,go_sem];done)
       |(simp[J8,X9,execOp,go_sem,(R.cell (p:=⟨bp,0,none⟩) d3).trans p0,(R.cell (p:=⟨bp,1,none⟩) d3).trans p1,(R.cell (p:=⟨X,o*3+1,none⟩) n3).trans u1,j0,j1];done)
       |(simp[J8,X9,execOp,go_sem,(R.1.cell (p:=⟨bp,0,none⟩) d3).trans p0,(R.1.cell (p:=⟨bp,1,none⟩) d3).trans p1];done)
     ·rintro jj ⟨⟨gv,gb⟩,⟨A9,c9⟩,⟨b6,I⟩,W,W5⟩ R hd
      have u7:=hd 18 (by decide) (by decide)
      match jj,R,u7 with
      |0,_,h|1,_,h|2,_,h|3,_,h|4,_,h=>cases h
      |5,R,_=>
       obtain⟨n7,n8,j2⟩:=R;simp only at n7 n8 j2;have u8:=zh j2;have u9:Hid ((T++[((⟨L,o,L0 L o,0⟩:Ko),Value.slice (some ⟨X,0,none⟩) L.length U,Value.slice A9 (K4 (L0 L o)).length c9)]).map Prod.fst=(pl.map Prod.fst).take (j+1)):=zh (by
        rw[List.map_append,HM.out,List.take_add_one,G3,s8.out];rfl)
       have v0:Hid ((T++[((⟨L,o,L0 L o,0⟩:Ko),Value.slice (some ⟨X,0,none⟩) L.length U,Value.slice A9 (K4 (L0 L o)).length c9)]).length=j+1):=zh (by rw[z9,B.out];rfl);clear hd j2 p0 p1 d3 n3 u1 j0 j1 t0 n2 n5 e6 HM HK HO u P HF;simp only[J8,B6,C0,List.append_nil,List.foldl];go_simp
       go_wp2_with fail
       go_roundw
       case rel=>exact⟨j+1,_,some ⟨b6,0,none⟩,I,by omega,rfl,by go_num,v0,u9,n8,n7,u8⟩
       case measure=>simp[intOf];omega
      |n+6,_,h=>cases h
    ·obtain rfl:m=j:=by omega
     rw[List.take_of_length_le (by rw[D9,a5.out];exact y6 _)]at HM;have j3:=zh (X7.ql HO.out HK.out λb G=>by
      obtain⟨x,hx,e⟩: ∃x∈pl,x.1=b.1:=by
       have:b.1∈pl.map Prod.fst:=by rw[<-HM.out];exact G8 G
       exact List.mem_map.1 this
      rw[<-e];exact(e5.out.jd x hx).2.2.1)
     have f5:=zh (X7.hk (.of u.out (E2 _)) m9.out);have d0:Hid (l8.length=m):=zh (by have:=I1 List.length i6.out;simpa[a5.out]using this);have J:=zh (c7.out.trans (u.out.mono c7.out.size));have SC:=zh (zbi f5.out j3.out (by rw[i6.out,HM.out]) (by rw[d0.out];omega));rw[d0.out,B.out]at SC;clear HK HO u m9 e5 c7 i6 HM c3
     go_wp2_with fail
     refine SC.out.mono ?_;rintro e a3 ⟨rfl,a6⟩;have n9:=zh (X7.hk (.of a6 (E2 _)) j3.out);replace J:Hid (Below w.heap.size w a3):=zh (J.out.trans (a6.mono J.out.size));clear SC a6 j3 f5 d0
     go_wp2_with fail
     refine(zeJ An z.length cn a3).mono ?_;rintro e w11 ⟨rfl,d6⟩;have d7:Below a3.heap.size a3 w11:=by rw[d6];exact(y7 _ _).alloc (y6 _) _
     have f6:w11.heap[a3.heap.size]?=some (.cells #[.slice An z.length cn] 22 (0,0)):=by rw[d6];exact y9 _ _
     have a7:=zh (X7.hk (.of d7 (E2 _)) n9.out);replace J:Hid (Below w.heap.size w w11):=zh (J.out.trans (d7.mono J.out.size));have K:=zh f6;clear d6 d7 f6 n9;generalize a3.heap.size=b at K|-
     obtain⟨qf,o0⟩: ∃q:Nat,fuel%30=(q:Int):=⟨(fuel%30).toNat,by omega⟩;obtain⟨qr,o1⟩: ∃q:Nat,E%12=(q:Int):=⟨(E%12).toNat,by omega⟩;have j4:Hid (qf<30):=zh (by omega);have v1:Hid (qr<12):=zh (by omega);have FB:Hid (∀W:World,Calls prog 14 #[.int .i64 fuel,.int .i64 30] W λe w'=>e=.returned (.int .i64 (qf:Int))/\w'=W):=zh (λW=>by rw[<-o0];exact xW fuel 30 (by decide) (by decide) W);have FR:Hid (∀W:World,Calls prog 14 #[.int .i64 E,.int .i64 12] W λe w'=>e=.returned (.int .i64 (qr:Int))/\w'=W):=zh (λW=>by rw[<-o1];exact xW E 12 (by decide) (by decide) W);clear o0 o1
     go_upto_region 24 with(fail)
     have a8:=zh (y9 w11 (.cells #[.func (.func 40) #[] #[.pointer (some ⟨b,0,none⟩)]] 52));have b1:=(y7 w11.heap.size w11).alloc (y6 _) (.cells #[.func (.func 40) #[] #[.pointer (some ⟨b,0,none⟩)]] 52);replace K:=zh ((b1.block b (I7 K.out)).trans K.out);replace a7:=zh (X7.hk (.of b1 (E2 _)) a7.out);replace J:Hid (Below w.heap.size w _):=zh (J.out.trans (b1.mono J.out.size));clear b1;generalize World.alloc _ _=v2 at a8 K a7 J|-
     generalize w11.heap.size=G at a8|-
     go_wp2_with fail
     refine(FB.out v2).mono ?_;rintro e v3 ⟨rfl,rfl⟩
     go_wp2_with fail
     refine(FR.out v3).mono ?_;rintro e y0 ⟨rfl,rfl⟩;clear FB FR
     go_wp2_with fail
     have v4:=B.out
     go_loopw[16,122] (λlv iv wr=> ∃(j:Nat)(l:List Kv)(A:Option Addr)(c:Nat),j<=qr/\lv=.slice A m c/\iv=.int .i64 j/\Hid (l.length=m)/\Hid (X7 wr A c l)/\Hid (Below w.heap.size w wr)/\Hid (wr.heap[b]?=some (.cells #[.slice An z.length cn] 22 (0,0)))/\Hid (wr.heap[G]?=some (.cells #[.func (.func 40) #[] #[.pointer (some ⟨b,0,none⟩)]] 52 (0,0)))) (λ_ iv _=>qr-(intOf iv).toNat)
     case atStart=>exact⟨0,T,Ao,co,E2 _,rfl,rfl,B,a7,J,K,a8⟩
     case round=>
      clear a7 J K a8 B v4;obtain⟨i,l,A,c,hi,rfl,rfl,B,HK,u,K,a8⟩:=hrel
      by_cases c3:i<qr
      ·rename World=>wr
       have Q:=((y7 wr.heap.size wr).alloc (y6 _) (.cells #[.slice none 0 0] 55)).alloc (by simp) (.cells #[.slice none 0 0] 55);have x1:=y9 wr (.cells #[.slice none 0 0] 55);have x2:=y9 (wr.alloc (.cells #[.slice none 0 0] 55)) (.cells #[.slice none 0 0] 55);have x3:=(D4 (wr.alloc (.cells #[.slice none 0 0] 55)) (.cells #[.slice none 0 0] 55) (I7 x1)).trans x1;rw[show(wr.alloc (.cells #[.slice none 0 0] 55)).heap.size=wr.heap.size+1 by simp]at x2;have e8:=zh x3;have b8:=zh x2;have v5:=zh Q;have d8:=zh ((Q.block b (I7 K.out)).trans K.out);have a9:=zh ((Q.block G (I7 a8.out)).trans a8.out);have e9:=zh (X7.hk (.of Q (E2 _)) HK.out);have d9:=zh (u.out.trans (Q.mono u.out.size));have b9:=zh Q.size;have f0:Hid (b<wr.heap.size):=zh (I7 K.out);have e0:Hid (w.heap.size<=wr.heap.size):=zh u.out.size;clear Q x1 x2 x3 HK K a8
       go_upto_region 28 with(fail)
       generalize World.alloc _ _=j5 at e8 b8 v5 d8 a9 e9 d9 b9|-
       obtain⟨g1,b7⟩: ∃g,wr.heap.size=g:=⟨_,rfl⟩;rw[b7]at e8 b8 b9 f0 e0;simp only[b7];clear b7;generalize e7:g1+1=g2 at b8|-
       have e1:=zh e7;clear e7;have o2:Hid (RdS g1 j5.heap.size w.heap.size b g1 w An cn z):=zh ⟨b9.out,y6 _,rfl,e0.out,f0.out,k9.out w (y7 _ _),HN.out⟩;have o3:Hid (Yc g1 w w.heap.size b An z.length cn j5):=zh ⟨b9.out,d9.out,d9.out.size,d8.out⟩;have RC:=zh (zcQ (ex:=[(g2,#[.slice none 0 0],55)]) o2.out e9.out (by rw[B.out];omega) (y6 _) o3.out (xn.nil e8.out) (show qf<=1000 by have:=j4.out;omega) a9.out (by simpa using b8.out) (by simp;exact⟨I7 b8.out,by have:=e1.out;omega⟩));rw[B.out]at RC
       go_wp2_with fail
       refine RC.out.mono ?_;rintro e f1 ⟨A1,c1,l1,Ar,cr,rfl,o4,j6,o5,f2,o6,o7,o8⟩;have f7:=zh f2;have f8:=zh o4;have f9:=zh j6;have g0:=zh o5;have g3:=zh o6;have g4:=zh o7;have e2:Hid (f1.heap[g2]?=some (.cells #[.slice none 0 0] 55 (0,0))):=zh (by simpa using o8);have g5:=zh (X7.hk f2 e9.out);have b2:=zh ((f2.K3 G _ _ _ a9.out (by unfold xo;decide)).trans a9.out);have g6:Hid (l1.length=m):=zh (by have:=I1 List.length j6;simpa[B.out]using this);have o9:Hid ((qR (M1 z) qf (l.map Prod.fst) m).length<=100000):=zh (by
        have h1:=QS (M1 z) qf (l.map Prod.fst) m;have h2:=Nat.mul_le_mul r6 (show qf<=30 by have:=j4.out;omega);omega)
       clear RC f2 o4 j6 o5 o6 o7 o8 e8 b8 e9 a9 d8 o3;obtain⟨j7,f3,p3,p4⟩:=g4.out.ex;have g7:Hid (∀{Z:Nat}{w':World},Hk Z f1 w'->(∀x∈j7,w'.heap[x.1]?=some (.cells x.2.1 x.2.2 (0,0)))->xn j5.heap.size g1 (λ_=>True) w' (qR (M1 z) qf (l.map Prod.fst) m)):=zh p4;have g8:Hid (∀x∈j7,x.1<f1.heap.size/\x.1≠g2):=zh λx hx=>⟨I7 (f3 x hx),λe=>by
        rcases p3 x hx with h|h
        ·have:=e1.out;omega
        ·have h9:=f3 x hx
         rw[e,e2.out,h]at h9;injection h9 with h9
         injection h9 with _ h9
         exact I2 h9 (by decide)⟩
       have h0:Hid (RdS g1 f1.heap.size w.heap.size b g2 w An cn z):=zh ⟨C4 b9.out f7.out.size,by have:=e1.out;omega,rfl,e0.out,f0.out,k9.out w (y7 _ _),HN.out⟩;have j8:=zh (zhI (ex:=j7) h0.out g5.out (by rw[B.out];omega) (y6 _) g3.out (xn.nil e2.out) (show qf<=1000 by have:=j4.out;omega) f3 g8.out);rw[B.out]at j8;obtain⟨C,-⟩:=N6 b2.out;clear f3 p3 p4 g4
       go_wp2_with fail
       refine j8.out.mono ?_;rintro e e3 ⟨A2,c2,l2,v6,v7,rfl,p5,j9,p6,c0,p7,p8,p9⟩;have b0:=zh (f7.out.trans c0);have q2:=zh p5;have h5:=zh (X7.hk c0 f8.out);have h6:Hid (l2.length=m):=zh (by have:=I1 List.length j9;simpa[B.out]using this);obtain⟨P1,p1,q3,k0,q4⟩:=(g7.out c0 p9).R9;obtain⟨P2,p2,q5,k1,q6⟩:=p8.R9;have k3:=zh (ZU (U6 (l.map Prod.fst) m) Ar v6 cr v7 (λ_=>True) (λ_=>True) e3 (Hk.zhS c0 (F:=λ_=>True) (g0.out.J0 λg h1 h2=>⟨⟨h1,trivial⟩,h2,rfl⟩)).any p6.any (by have:=QV (l.map Prod.fst) m;omega));have q7:Hid (∀W,Below e3.heap.size e3 W->Calls prog 18 #[.slice A1 m c1,.slice A2 m c2] W λe w'=>e=.returned (.bool true)/\Below W.heap.size W w'):=zh λW O=>by
        have:=zbi (X7.hk (.of O (E2 _)) h5.out) (X7.hk (.of O (E2 _)) q2.out) (by rw[f9.out,j9]) (by rw[g6.out];omega);rw[g6.out,h6.out]at this;exact this
       have k4:=zh q3;have k5:=zh q5;have q8:=zh q4;have q9:=zh q6;have r0:Hid (Below w.heap.size w e3):=zh (d9.out.trans ⟨b0.out.os,b0.out.tape,b0.out.output,b0.out.size,λk hk=>b0.out.low k (z6 hk e0.out)⟩);have h7:=zh ((c0.K3 G _ _ _ b2.out (by unfold xo;decide)).trans b2.out);have h8:Hid (e3.heap[b]?=_):=zh p7.K3;generalize U6 (l.map Prod.fst) m=ra at k3|-
       generalize qR (M1 z) qf (l.map Prod.fst) m=rs at o9 k4 k5 q8 q9 k0 k1|-
       clear j8 p5 j9 p6 c0 p7 p8 p9 q3 q4 q5 q6 C g8 g7 h0 o2 g0 g3 e2 g5 b2 f8 f9 h5 d9 b9 f0 e0
       go_wp2_with fail
       refine k3.out.mono ?_;rintro e v8 ⟨rfl,b3⟩
       go_wp2_with fail
       refine(q7.out v8 b3).mono ?_;rintro e y1 ⟨rfl,i0⟩;have a0:=b3.trans (i0.mono b3.size);have d1:=y5 ((a0.block g1 (I7 k4.out)).trans k4.out) 0;have d2:=y5 ((a0.block g2 (I7 k5.out)).trans k5.out) 0;have r1:=zh (zfa (q8.out.low a0) (q9.out.low a0) k0 k1 (by have:=o9.out;omega));have r2:=zh a0;clear b3 i0 a0 k0 k1 k3 q7
       go_wp2_with fail
       refine r1.out.mono ?_;rintro e v9 ⟨rfl,i1⟩;have e4:=r2.out.trans (i1.mono r2.out.size);have r3:=zh (X7.hk (.of e4 (E2 _)) q2.out);have r4:Hid (Below w.heap.size w v9):=zh (r0.out.trans (e4.mono r0.out.size));have k6:=zh ((e4.block b (I7 h8.out)).trans h8.out);have k7:=zh ((e4.block G (I7 h7.out)).trans h7.out);clear i1 e4 r1 d1 d2;have zjk:=v1.out
       go_wp2_with fail
       go_roundw
       case rel=>exact⟨i+1,l2,A2,c2,by omega,rfl,by go_num,h6,r3,r4,k6,k7⟩
       case measure=>simp[intOf];omega
      ·have CK:=zh (YR HK.out (by rw[B.out];omega))
       rw[B.out]at CK
       go_wp2_with fail
       refine CK.out.mono ?_;rintro e w3 ⟨rfl,i2⟩;have r5:Hid (Below w.heap.size w w3):=zh (u.out.trans (i2.mono u.out.size));clear i2 CK
       go_wp2_with fail
       go_ret;exact⟨rfl,r5.out⟩
end Go.Proofs.YtalgmjmibamdfaaGreatDoor
