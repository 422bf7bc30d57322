/- Merged. -/
import Derived.Test.YtmngofgminlloaaGreatDoorCT11
import Derived.RegionDies
set_option linter.all false
set_option maxHeartbeats 16000000
set_option maxRecDepth 100000
namespace Go.Proofs.YtmngofgminlloaaGreatDoor
open Go.Proofs.Tryz
open Go.RowKit Tw
def zc6: ∀(h:Nat)(l:List zv),(Xe h l).map Prod.fst=l
 |_,[]=>rfl
 |h,o::l=>by rw[Xe,List.map_cons,zc6 (h-1) l]
def za0{us:List Fn}{vs:P4}{a:Ex}: ∀(l:List Ex)(n h:Nat),zh us vs n h (l++[a])=zh us vs n h l++O7 us vs (n+(zh us vs n h l).length) (h+l.length) a
 |[],n,h=>by simp[zh]
 |b::l,n,h=>by
  rw[B6,zh,zh,za0 l];simp only[B9,A9,A8];rw[show n+(O7 us vs n h b).length+(zh us vs (n+(O7 us vs n h b).length) (h+1) l).length=n+((O7 us vs n h b).length+(zh us vs (n+(O7 us vs n h b).length) (h+1) l).length) by omega,show h+1+l.length=h+(l.length+1) by omega]
def zjG{us:List Fn}{vs:P4}{xs:List Ex}{j n h:Nat}{a:Ex}(b:xs[j]?=some a):zh us vs n h (xs.take (j+1))=zh us vs n h (xs.take j)++O7 us vs (n+(zh us vs n h (xs.take j)).length) (h+j) a:=by
 rw[List.take_add_one,b];have c:j<xs.length:=by rcases E0 j xs.length with g|g;exact g;rw[C5 g]at b;cases b
 have:=za0 (us:=us) (vs:=vs) (a:=a) (xs.take j) n h;rw[show(xs.take j).length=j by rw[I2];omega]at this;exact this
def zeU: ∀{xs:List Ex}{j:Nat}{a:Ex},xs[j]?=some a->jw (xs.take j)+Qn a<=jw xs
 |[],j,a,h=>by simp at h
 |b::l,0,a,h=>by simp at h;subst h;simp only[List.take_zero,jw];omega
 |b::l,j+1,a,h=>by
  have:=zeU (xs:=l) (j:=j) (a:=a) (by simpa using h);simp only[List.take_succ_cons,jw];omega
def zfz{us:List Fn}{vs:P4}{n h:Nat}{k nn:Int}{t:ByteArray}{xs:List Ex}{p:Int}(a: ¬(k=6/\lv t.data.toList<=2)):(O7 us vs n h (.mk k nn t xs p)).map Prod.fst=(zh us vs n h xs).map Prod.fst++qa us vs k nn t xs.length:=by
 rw[O7,B5 a,List.map_append,zc6]
def ZZ{α:Type}(l r:List α)(a b:α):(l++a::r).set l.length b=l++b::r:=by simp
def zu.yz{w0 w:World}{e:Nat}{U:Value}{V:Mv}{vs:P4}{a:Nat}{ops:List zv}{us:List Fn}{F:Nat->Prop}(h:zu w0 w e U V vs a ops us F){k:Nat}{b:Array Value}{t:Nat}{c:Nat×Nat}(d:w0.heap[k]?=some (.cells b t c))(f:t≠9)(g:t≠3)(i:t≠166)(j:t≠225):w.heap[k]?=some (.cells b t c):=
 (h.kp.P6 k b t c d f g i j).trans d
def zu.al{w0 w:World}{b:Nat}{U:Value}{V:Mv}{vs:P4}{a:Nat}{ops:List zv}{us:List Fn}{F:Nat->Prop}(h:zu w0 w b U V vs a ops us F)(c:Obj):zu w0 (w.alloc c) b U V vs a ops us F:=h.below ((x8 _ _).alloc (x7 _) c)
def zu.ziF{w0 w:World}{c:Nat}{U:Value}{V:Mv}{vs:P4}{a:Nat}{ops:List zv}{us:List Fn}{F:Nat->Prop}{v:Value}{l:List Ex}(h:zu w0 w c U V vs a ops us F)(d:J7 w0 F v l):J7 w F v l:=
 d.K7 (λg b e=>⟨b,A7 e h.M1.size,h.M1.block g (h.fb g b)⟩)
def zu.zoP{w0 w:World}{c:Nat}{U:Value}{V:Mv}{vs:P4}{a:Nat}{ops:List zv}{us:List Fn}{F:Nat->Prop}{v:Value}{l:List Sm}(h:zu w0 w c U V vs a ops us F)(d:K9 w0 F v l):K9 w F v l:=
 d.K7 (λg b e=>⟨b,A7 e h.M1.size,h.M1.block g (h.fb g b)⟩)
def zu.eqO{w0 w:World}{b:Nat}{U:Value}{V:Mv}{vs:P4}{a:Nat}{ops ops':List zv}{us:List Fn}{F:Nat->Prop}(h:zu w0 w b U V vs a ops us F)(e:ops=ops'):zu w0 w b U V vs a ops' us F:=e▸h
def CmE(us:List Fn)(left:Nat):Prop:=
 ∀(x:Ex)(A:Option Addr)(c:Nat)(F:Nat->Prop)(w:World)(g:Nat)(i:Option Addr)(j:Nat)(V:Mv)(d:P4)(b:Nat)(a:List zv)(h:Nat)(f:P1)(k:Int),zK x left=0->O2 us f x=.ok k->(∀s,L5 f s≠0->s∈d.map Prod.fst)->d.length<=1000->us.length<=1000->J7 w F (.slice A x.args.length c) x.args->a.length+5*Qn x<=400000000->zu w w g (.slice i us.length j) V d b a us F->
  Calls prog 225 #[.pointer (some ⟨g,0,none⟩),.agg #[.int .i64 x.I9,.int .i64 x.n,.string x.K0,.slice A x.args.length c,.int .i64 x.pos]] w λe l=>e=.returned (.tuple #[])/\ ∃m,zu w l g (.slice i us.length j) m d b (a++(O7 us d a.length h x).map Prod.fst) us F
def zha(us:List Fn)(left:Nat)(ih:CmE us left):CmE us (left+1):=by
 intro x A c F w C A0 c0 V m d b h d7 ty hx ht hv f8 f9 hA c8 hF;cases x with|mk k n t v p=>
 obtain⟨-,ho,h6,h8,g0⟩:=Js hx;obtain⟨g1,h3,h7⟩:=zcv ht ho;have c9: ∀a∈v,zK a left=0:=g0;have IH:=qh ih;have HV:=qh hv;have a6:=qh c9;have a7:=qh g1;have HO:=qh ho;have a8:=qh f9;have a9:=qh f8;clear ih hv g0 c9 g1 hx ht ho f9 f8;simp only[Ex.I9,Ex.n,Ex.K0,Ex.args,Ex.pos]at hA|-;have HL:Hid (b.length+5*jw v+5<=400000000):=qh (by rw[Qn]at c8;omega);clear c8
 by_cases b5:k=6/\(t.data.toList=[38,38]\/t.data.toList=[124,124])
 ·obtain⟨rfl,e0⟩:=b5
  clear h3 h7 h8;obtain⟨K,R,rfl⟩: ∃K R,v=[K,R]:=by
   have:=HO.out;rw[ok6]at this;simp only[F3,F1]at this
   match v,this.1 with
   |[K,R],_=>exact⟨K,R,rfl⟩
  obtain⟨d8,I⟩:=a7.out K (by simp);obtain⟨i8,g3⟩:=a7.out R (by simp);have d9:=qh I;have i9:=qh g3;have e4:=qh (a6.out K (by simp));have j0:=qh (a6.out R (by simp));have b6:Hid (b.length+5*Qn K+5*Qn R+5<=400000000):=qh (by have:=HL.out;simp only[jw]at this;omega);obtain⟨Z,zc,hZ⟩: ∃(Z:List zv)(zc:Int),(t.data.toList=[38,38]/\Z=[]/\zc=0)\/(t.data.toList=[124,124]/\Z=[(6,0)]/\zc=1):=by
   rcases e0 with e0|e0
   ·exact⟨_,_,.inl ⟨e0,rfl,rfl⟩⟩
   ·exact⟨_,_,.inr ⟨e0,rfl,rfl⟩⟩
  obtain⟨M,hM⟩: ∃M,(O7 us m b.length h K).map Prod.fst++Z=M:=⟨_,rfl⟩;obtain⟨L2,b7⟩: ∃L2,(O7 us m (b.length+M.length+1) h R).map Prod.fst=L2:=⟨_,rfl⟩;have g4:(O7 us m (b.length+M.length+1) h R).length=L2.length:=by rw[<-b7,C6]
  have hN:(O7 us m b.length h (.mk 6 n t [K,R] p)).map Prod.fst=M++(16,((b.length+M.length+L2.length+2:Nat):Int))::(L2++[(15,((b.length+M.length+L2.length+3:Nat):Int)),(1,zc)]):=by
   rw[<-g4,<-b7,<-hM]
   rcases hZ with⟨e,rfl,rfl⟩|⟨e,rfl,rfl⟩
   all_goals
    rw[O7,C8 (by rw[e];decide)];simp[YE,hdC,sdC,e,show lv ([38,38]:Bs)=2 from by decide,show lv ([124,124]:Bs)=1 from by decide,Nat.add_assoc]
  have HN:=qh hN;have g5:=yG (us:=us) (vs:=m) K b.length h;have j1:=yG (us:=us) (vs:=m) R (b.length+M.length+1) h;have j2:M.length<=5*Qn K+1:=by
   have:=H0 List.length hM;rw[A9,C6]at this
   rcases hZ with⟨-,rfl,-⟩|⟨-,rfl,-⟩<;>simp at this<;>omega
  have U:Hid (b.length+M.length+L2.length+4<=400000000/\b.length+5*Qn K+5<=400000000):=qh ⟨by have:=b6.out;omega,by have:=b6.out;omega⟩;have b8:=qh hM;have j3:=qh b7;have j4:=qh g5;have j5:Hid (b.length+M.length+5*Qn R+4<=400000000):=qh (by have:=b6.out;omega);clear hN hM b7 g4 g5 j1 j2 I g3 HO HL a6 a7 e0;have HA:=qh hA;simp only[A8,B1,Nat.zero_add,Nat.reduceAdd]at HA|-;have N:=qh (A5 w (.cells #[.int .i64 6,.int .i64 n,.string t,.slice A 2 c,.int .i64 p] 186));have HF:=qh (hF.al (.cells #[.int .i64 6,.int .i64 n,.string t,.slice A 2 c,.int .i64 p] 186));have X:=(x8 w.heap.size w).alloc (x7 _) (.cells #[.int .i64 6,.int .i64 n,.string t,.slice A 2 c,.int .i64 p] 186);obtain⟨g,r,Ba,da,rfl,b9,hg,a0,q0,q1,q2,q3,q4⟩:=J7.at (l:=[K,R]) HA.out 0 K rfl;obtain⟨g2,off2,Bb,db,e2,-,-,g6,r0,r1,r2,r3,r4⟩:=J7.at (l:=[K,R]) HA.out 1 R rfl;obtain⟨rfl,rfl⟩:g=g2/\r=off2:=by injection e2 with e2;injection e2 with e2 e3;exact⟨e2,e3⟩
  simp only[Nat.zero_mul,Nat.one_mul,Nat.add_zero]at q0 q1 q2 q3 q4 r0 r1 r2 r3 r4;have B:=hF.fb g b9;have e5:=qh a0;have j6:=qh g6;have b0:=(X.cell (p:=⟨g,r,none⟩) hg).trans q0;have b1:=(X.cell (p:=⟨g,r+1,none⟩) hg).trans q1;have b2:=(X.cell (p:=⟨g,r+2,none⟩) hg).trans q2;have b3:=(X.cell (p:=⟨g,r+3,none⟩) hg).trans q3;have b4:=(X.cell (p:=⟨g,r+4,none⟩) hg).trans q4;clear hA hF X a0 g6 e2 q0 q1 q2 q3 q4
  rcases hZ with⟨e0,rfl,rfl⟩|⟨e0,rfl,rfl⟩
  all_goals
   have e:=U9 e0;subst e;clear e0
   go_enter func225,ntmps225
   go_upto_region 1 with(fail)
   generalize w.alloc _=wa at N HF b0 b1 b2 b3 b4|-;generalize w.heap.size=nb at N|-;obtain⟨⟨q,E,D,G,H⟩,-⟩:=K6 N.out
   go_wp2_with fail
   refine(IH.out K Ba da F wa C A0 c0 V m d b h d7 d8 e4.out d9.out HV.out a9.out a8.out (HF.out.ziF e5.out) (by have:=b6.out;omega) HF.out.Z8).mono ?_;rintro e w1 ⟨rfl,V1,e7⟩;have Y:=qh (e7.yz N.out (by decide) (by decide) (by decide) (by decide));have e8:=qh (HF.out.next e7);clear e7 q E D G H;obtain⟨⟨q,E,D,G,H⟩,-⟩:=K6 Y.out;clear b0 b1 b2 b3 b4
   go_wp2_with fail
   first
    |(have e9:=qh (e8.out.eqO (ops':=b++M) (by rw[<-b8.out,List.append_nil]))
      have f0:=Y;obtain⟨V2,rfl⟩: ∃V2,V2=V1:=⟨_,rfl⟩)
    |(refine(qy 6 0 F _ C _ V1 m d _ us (by have:=U.out.2;have:=j4.out;rw[A9,C6];omega) e8.out.Z8).mono ?_
      rintro e w2 ⟨rfl,V2,f1⟩;have f0:=qh (f1.yz Y.out (by decide) (by decide) (by decide) (by decide));have e9:=qh ((e8.out.next f1).eqO (ops':=b++M) (by rw[<-b8.out];simp));clear f1 q E D G H;obtain⟨⟨q,E,D,G,H⟩,-⟩:=K6 f0.out
      go_wp2_with fail)
   refine(qy 16 0 F _ C _ V2 m d _ us (by have:=U.out;simp only[A9,A8,B1];omega) e9.out.Z8).mono ?_;rintro e w3 ⟨rfl,V3,f2⟩;have g7:=qh (f2.yz f0.out (by decide) (by decide) (by decide) (by decide));have O:=qh (e9.out.next f2);clear f2 q E D G H;obtain⟨⟨q,E,D,G,H⟩,-⟩:=K6 g7.out;have b0:=(O.out.M1.cell (p:=⟨g,r+5,none⟩) B).trans r0;have b1:=(O.out.M1.cell (p:=⟨g,r+5+1,none⟩) B).trans r1;have b2:=(O.out.M1.cell (p:=⟨g,r+5+2,none⟩) B).trans r2;have b3:=(O.out.M1.cell (p:=⟨g,r+5+3,none⟩) B).trans r3;have b4:=(O.out.M1.cell (p:=⟨g,r+5+4,none⟩) B).trans r4;have l2:Hid ((b++M).length=b.length+M.length):=qh (A9 ..)
   first
    |(rw[show(b++(O7 us m b.length h K).map Prod.fst++[(6,0)]:List zv)=b++M from by rw[<-b8.out];simp])
    |(try rw[show(b++(O7 us m b.length h K).map Prod.fst:List zv)=b++M from by rw[<-b8.out];simp])
   obtain⟨nP,c5⟩: ∃nP:Nat,(b++M).length=nP:=⟨_,rfl⟩;have g8:=qh c5;rw[c5];have l3:Hid (nP=b.length+M.length):=qh (by rw[<-c5,A9]);clear c5
   go_wp2_with fail
   refine(IH.out R Bb db F w3 C A0 c0 V3 m d _ h d7 i8 j0.out i9.out HV.out a9.out a8.out (O.out.ziF j6.out) (by have:=j5.out;simp only[A9,A8,B1];omega) O.out.Z8).mono ?_;rintro e w4 ⟨rfl,V4,P⟩;rw[show(b++M++[(16,0)]:List zv).length=b.length+M.length+1 from by simp only[A9,A8,B1]<;>omega,j3.out]at P;have c6:=qh (P.yz g7.out (by decide) (by decide) (by decide) (by decide));have g9:=qh (O.out.next P);clear P q E D G H;obtain⟨⟨q,E,D,G,H⟩,-⟩:=K6 c6.out;clear b0 b1 b2 b3 b4
   go_wp2_with fail
   refine(qy 15 0 F _ C _ V4 m d _ us (by have:=U.out;simp only[A9,A8,B1];omega) g9.out.Z8).mono ?_;rintro e w5 ⟨rfl,V5,f3⟩;have h4:=qh (f3.yz c6.out (by decide) (by decide) (by decide) (by decide));have j7:=qh (g9.out.next f3);clear f3 q E D G H;obtain⟨⟨q,E,D,G,H⟩,-⟩:=K6 h4.out;obtain⟨nQ,f4⟩: ∃nQ:Nat,(b++M++[(16,0)]++L2).length=nQ:=⟨_,rfl⟩;have f5:Hid (nQ=b.length+M.length+1+L2.length):=qh (by rw[<-f4];simp only[A9,A8,B1]<;>omega);rw[f4];clear f4;have d5:=qh (j7.out.eqO (ops':=(b++M)++(16,0)::(L2++[(15,0)])) (by simp))
   go_wp2_with fail
   refine(JZ nP 16 0 F _ C _ V5 m d _ us (by rw[<-g8.out];simp) (by have:=U.out;simp only[A9,A8,B1];omega) d5.out.Z8).mono ?_;rintro e w6 ⟨rfl,c7⟩;rw[<-g8.out,ZZ]at c7;have h5:=qh (c7.yz h4.out (by decide) (by decide) (by decide) (by decide));have h9:=qh (d5.out.next c7);clear c7 q E D G H;obtain⟨⟨q,E,D,G,H⟩,-⟩:=K6 h5.out
   go_wp2_with fail
   refine(qy 1 _ F _ C _ V5 m d _ us (by have:=U.out;simp only[A9,A8,B1];omega) h9.out.Z8).mono ?_;rintro e w7 ⟨rfl,V7,f6⟩;have j8:=qh (f6.yz h5.out (by decide) (by decide) (by decide) (by decide));have i0:=qh (h9.out.next f6);clear f6 q E D G H;obtain⟨⟨q,E,D,G,H⟩,-⟩:=K6 j8.out;obtain⟨t1,I⟩: ∃t1:Nat,((b++M)++(16,0)::(L2++[(15,0)]):List zv).length=t1:=⟨_,rfl⟩;have j9:Hid (t1=nQ+1):=qh (by rw[<-I,f5.out];simp only[A9,A8,B1]<;>omega);rw[I]at i0;clear I;have d6:=qh (i0.out.eqO (ops':=((b++M)++(16,(t1:Int))::L2)++(15,0)::[(1,_)]) (by rw[B9,B9,B9];simp;rfl));have i1:Hid (((b++M)++(16,(t1:Int))::L2:List zv).length=nQ):=qh (by rw[f5.out];simp only[A9,A8,B1]<;>omega)
   go_wp2_with fail
   refine(JZ nQ 15 0 F _ C _ V7 m d _ us (by rw[<-i1.out];simp) (by have:=U.out;simp only[A9,A8,B1];omega) d6.out.Z8).mono ?_;rintro e w8 ⟨rfl,a2⟩;rw[<-i1.out,ZZ]at a2
   go_wp2_with fail
   (try simp only[Exit.inBlock,Exit.then]);refine E9 (results_none rfl _ _ _) rfl ?_
   refine⟨rfl,V7,(d6.out.next a2).eqO ?_⟩;rw[HN.out];have e1:(t1:Int)=((b.length+M.length+L2.length+2:Nat):Int):=by rw[j9.out,f5.out];omega
   rw[e1];simp only[B9,B6,C0,A9,A8,B1]
   first|(congr 6<;>omega)|(congr 7<;>omega)|(congr 8<;>omega)|(congr 9<;>omega)|(congr 10<;>omega)
 have S: ¬(k=6/\t.data.toList=[38,38]):=λe=>b5 ⟨e.1,.inl e.2⟩
 have a3: ¬(k=6/\t.data.toList=[124,124]):=λe=>b5 ⟨e.1,.inr e.2⟩
 clear b5;have hl: ¬(k=6/\lv t.data.toList<=2):=by
  rintro⟨rfl,h2⟩;have h0:=HO.out;rw[ok6]at h0;simp only[F3,F1]at h0;have h1:=h0.2;unfold lv at h2 h1
  by_cases e1:t.data.toList=[124,124]
  ·exact a3 ⟨rfl,e1⟩
  by_cases e2:t.data.toList=[38,38]
  ·exact S ⟨rfl,e2⟩
  rw[B5 e1,B5 e2]at h1 h2
  repeat' split at h2
  all_goals first|omega|(exact H9 rfl (by simpa using h1))|(simp_all)
 have hN:(O7 us m b.length h (.mk k n t v p)).map Prod.fst=(zh us m b.length h v).map Prod.fst++qa us m k n t v.length:=zfz hl;have HN:=qh hN;have i2:Hid (k=6->3<=lv t.data.toList):=qh (λe=>Decidable.byContradiction λh=>hl ⟨e,by omega⟩);have H3:=qh h3;have H7:=qh h7;have H8:=qh h8;have k2:=qh S;have k3:=qh a3;have l4:v.length<=6:=h6;have l5:b.length<=400000000:=by have:=HL.out;omega
 clear hN hl h3 h7 h8 S a3 h6;have HA:=qh hA;have N:=qh (A5 w (.cells #[.int .i64 k,.int .i64 n,.string t,.slice A v.length c,.int .i64 p] 186));have HF:=qh (hF.al (.cells #[.int .i64 k,.int .i64 n,.string t,.slice A v.length c,.int .i64 p] 186));clear hA hF
 go_enter func225,ntmps225
 go_upto_region 1 with(fail)
 generalize w.alloc _=wa at N HF|-;generalize w.heap.size=nb at N|-
 go_cut[21] (λu W=>u=.bool false/\W=wa)
 case first=>
  obtain⟨⟨q,E,D,G,H⟩,-⟩:=K6 N.out
  by_cases a4:k=6
  ·have e1:(t.toList==[38,38])=false:=by rw[B0,C7];exact λe=>k2.out ⟨a4,e⟩
   have e2:(t.toList==[124,124])=false:=by rw[B0,C7];exact λe=>k3.out ⟨a4,e⟩
   subst a4
   go_wp2_with fail
   all_goals
    go_meet
    case rel=>exact⟨rfl,rfl⟩
  ·have e6:(k==6)=false:=beq_eq_false_iff_ne.2 a4
   clear a4
   go_wp2_with fail
   all_goals
    go_meet
    case rel=>exact⟨rfl,rfl⟩
 case rest=>
  obtain⟨rfl,hw⟩:=hcut;subst hw;obtain⟨⟨q,E,D,G,H⟩,-⟩:=K6 N.out;have i3:Hid (zu w wc C (.slice A0 us.length c0) V m d (b++(zh us m b.length h (v.take 0)).map Prod.fst) us F):=qh (HF.out.eqO (by simp[zh]))
  go_wp2_with fail
  clear q E D G H HF
  go_loopw[58] (λi wr=> ∃(j:Nat)(V':Mv),j<=v.length/\i=.int .i64 j/\Hid (zu w wr C (.slice A0 us.length c0) V' m d (b++(zh us m b.length h (v.take j)).map Prod.fst) us F)/\Hid (wr.heap[nb]?=some (.cells #[.int .i64 k,.int .i64 n,.string t,.slice A v.length c,.int .i64 p] 186 (0,0)))) (λi _=>v.length-(intOf i).toNat)
  case atStart=>exact⟨0,V,D0 _,rfl,i3,N⟩
  case round=>
   clear i3 N;obtain⟨j,V',hj,rfl,HR,N⟩:=hrel
   by_cases k4:j<v.length
   ·obtain⟨y,hy⟩: ∃y,v[j]?=some y:=⟨_,x9 k4⟩
    obtain⟨g,r,A',c',rfl,b9,hg,a0,q0,q1,q2,q3,q4⟩:=HA.out.at j y hy;have B:=HR.out.fb g b9;have b0:=(HR.out.M1.cell (p:=⟨g,r+j*5,none⟩) B).trans q0;have b1:=(HR.out.M1.cell (p:=⟨g,r+j*5+1,none⟩) B).trans q1;have b2:=(HR.out.M1.cell (p:=⟨g,r+j*5+2,none⟩) B).trans q2;have b3:=(HR.out.M1.cell (p:=⟨g,r+j*5+3,none⟩) B).trans q3;have b4:=(HR.out.M1.cell (p:=⟨g,r+j*5+4,none⟩) B).trans q4;obtain⟨d8,I⟩:=a7.out y (B7 hy);have d9:=qh I;have e4:=qh (a6.out y (B7 hy));have e5:=qh a0;have i4:=zjG (us:=us) (vs:=m) (n:=b.length) (h:=h) hy;have k5:Hid ((b++(zh us m b.length h (v.take j)).map Prod.fst).length+5*Qn y<=400000000):=qh (by
     have h1:=HL.out;have h2:=zeU hy;have h3:=Jl (us:=us) (vs:=m) (v.take j) b.length h;rw[A9,C6];omega)
    have k6:=qh i4;clear hy a0 q0 q1 q2 q3 q4 b9 B I i4;have k0:(0:Int)<=(j:Int):=by omega
    have k1:(j:Int)<(v.length:Int):=by omega
    go_upto_region 17 with(fail)
    clear b0 b1 b2 b3 b4;have f7:=qh (A5 wr (.cells #[.int .i64 y.I9,.int .i64 y.n,.string y.K0,.slice A' y.args.length c',.int .i64 y.pos] 186));have Y:=qh ((C4 wr (.cells #[.int .i64 y.I9,.int .i64 y.n,.string y.K0,.slice A' y.args.length c',.int .i64 y.pos] 186) (I5 N.out)).trans N.out);have o:=qh (HR.out.al (.cells #[.int .i64 y.I9,.int .i64 y.n,.string y.K0,.slice A' y.args.length c',.int .i64 y.pos] 186));clear HR N;generalize wr.alloc _=wb at f7 Y o|-;generalize wr.heap.size=ny at f7|-;obtain⟨⟨d0,d1,d2,d3,d4⟩,-⟩:=K6 f7.out
    go_wp2_with fail
    refine(IH.out y A' c' F wb C A0 c0 V' m d _ (h+j) d7 d8 e4.out d9.out HV.out a9.out a8.out (o.out.ziF e5.out) k5.out o.out.Z8).mono ?_;rintro e w4 ⟨rfl,V4,P⟩;have c6:=qh (P.yz Y.out (by decide) (by decide) (by decide) (by decide));have k7:Hid (zu w w4 C (.slice A0 us.length c0) V4 m d (b++(zh us m b.length h (v.take (j+1))).map Prod.fst) us F):=qh ((o.out.next P).eqO (by
     rw[k6.out,List.map_append,B9,A9,C6]))
    clear P d0 d1 d2 d3 d4
    go_wp2_with fail
    go_roundw
    case rel=>exact⟨j+1,V4,by omega,by go_num,k7,c6⟩
    case measure=>simp[intOf];omega
   ·have i5:j=v.length:=by omega
    have o:=qh (show zu w wr C (.slice A0 us.length c0) V' m d (b++(zh us m b.length h v).map Prod.fst) us F by have:=HR.out;rwa [i5,F5]at this);have J:Hid ((b++(zh us m b.length h v).map Prod.fst).length+2<=400000000):=qh (by
     have h1:=HL.out;have h3:=Jl (us:=us) (vs:=m) v b.length h;rw[A9,C6];omega)
    clear HR i5;obtain⟨L,hL⟩: ∃L,b++(zh us m b.length h v).map Prod.fst=L:=⟨_,rfl⟩;have Q:Hid (b++(O7 us m b.length h (.mk k n t v p)).map Prod.fst=L++qa us m k n t v.length):=qh (by rw[HN.out,<-hL,B9]);rw[hL]at o J;clear hL HN;obtain⟨⟨q,E,D,G,H⟩,-⟩:=K6 N.out;have hk:k=1\/k=2\/k=3\/k=4\/k=5\/k=6\/k=7\/k=8:=by
     apply Decidable.byContradiction;intro hn;have:=HO.out;rw[oko (by omega)]at this;cases this
    go_upto_region 19 with(fail)
    rcases hk with rfl|rfl|rfl|rfl|rfl|rfl|rfl|rfl
    ·go_wp2_with fail
     refine(qy 1 n F _ C _ V' m d _ us (by have:=J.out;omega) o.out.Z8).mono ?_;rintro e w9 ⟨rfl,T,s⟩
     go_wp2_with fail
     go_end0;exact⟨rfl,T,(o.out.next s).eqO (by rw[Q.out];rfl)⟩
    ·go_wp2_with fail
     refine(qy 1 n F _ C _ V' m d _ us (by have:=J.out;omega) o.out.Z8).mono ?_;rintro e w9 ⟨rfl,T,s⟩
     go_wp2_with fail
     go_end0;exact⟨rfl,T,(o.out.next s).eqO (by rw[Q.out];rfl)⟩
    ·have hs:t∈m.map Prod.fst:=HV.out t (H3.out rfl)
     have k8:=qh hs;clear hs
     go_wp2_with fail
     refine(zij t F _ C _ V' m d _ us k8.out a9.out o.out.Z8).mono ?_;rintro e w8 ⟨rfl,a2⟩;have a5:=qh (o.out.next a2);clear a2 q E D G H
     go_wp2_with fail
     refine(qy 2 (zL m t) F _ C _ V' m d _ us (by have:=J.out;omega) a5.out.Z8).mono ?_;rintro e w9 ⟨rfl,T,s⟩
     go_wp2_with fail
     go_end0;exact⟨rfl,T,(a5.out.next s).eqO (by rw[Q.out];rfl)⟩
    ·go_wp2_with fail
     refine(qy 5 0 F _ C _ V' m d _ us (by have:=J.out;omega) o.out.Z8).mono ?_;rintro e w9 ⟨rfl,T,s⟩
     go_wp2_with fail
     go_end0;exact⟨rfl,T,(o.out.next s).eqO (by rw[Q.out];rfl)⟩
    ·go_wp2_with fail
     refine(qy 6 0 F _ C _ V' m d _ us (by have:=J.out;omega) o.out.Z8).mono ?_;rintro e w9 ⟨rfl,T,s⟩
     go_wp2_with fail
     go_end0;exact⟨rfl,T,(o.out.next s).eqO (by rw[Q.out];rfl)⟩
    ·go_wp2_with fail
     refine(zov t F _ C _ V' m d _ us (by first|exact i2.out rfl|exact i2.out trivial) (by have:=J.out;omega) o.out.Z8).mono ?_;rintro e w9 ⟨rfl,T,s⟩
     go_wp2_with fail
     go_end0;exact⟨rfl,T,(o.out.next s).eqO (by rw[Q.out];rfl)⟩
    ·have l6: ∀(fn:Go.Fn)(first i6:Array Value)(w:World),(Instr.makeFunc fn first i6).run prog w=.ok (.func fn first i6) w:=λ_ _ _ _=>rfl
     have m0:=(jq o.out.st).1.1;obtain⟨f,hf,-⟩:=H7.out rfl;have k9:=qh hf;have l0:=qh (zmM nb t wr (I5 N.out) D);clear hf
     go_wp2_with fail
     refine(zmu ⟨nb,0,none⟩ t A0 c0 F us wr o.out.xL l0.out (by have:=a8.out;omega)).mono ?_;rintro e w8 ⟨z,rfl,hz,i7⟩;have l1:z=zP us t:=by
      rcases hz with h|h
      ·rw[k9.out]at h;cases h
      ·exact h
     subst l1;have a5:=qh (o.out.below i7);clear hz i7 q E D G H m0
     go_wp2_with fail
     refine(qy 17 (zP us t:Int) F _ C _ V' m d _ us (by have:=J.out;omega) a5.out.Z8).mono ?_;rintro e w9 ⟨rfl,T,s⟩
     go_wp2_with fail
     go_end0;exact⟨rfl,T,(a5.out.next s).eqO (by rw[Q.out];rfl)⟩
    ·have l7:=H8.out rfl
     have l8:0<=n:=by have:=HO.out;rw[ok8]at this;simpa using this
     go_wp2_with fail
     refine(qy 20 (n*8+(v.length:Int)) F _ C _ V' m d _ us (by have:=J.out;omega) o.out.Z8).mono ?_;rintro e w9 ⟨rfl,T,s⟩
     go_wp2_with fail
     go_end0;exact⟨rfl,T,(o.out.next s).eqO (by rw[Q.out];rfl)⟩
def zoq(us:List Fn): ∀left,CmE us left:=by
 intro left
 induction left with
 |zero=>intro x A c F w g i j V l a b h d m e;cases x with|mk k n t o p=>obtain⟨q,-⟩:=Js e;omega
 |succ left f=>exact zha us left f
def zcI{us:List Fn}{env:P1}{x:Ex}{t:Int}(h:O2 us env x=.ok t):N3 us env x t=.ok ():=by unfold N3;rw[h];simp
def zhZ{us:List Fn}{env:P1}{x:Ex}{t u:Int}(h:O2 us env x=.ok u)(a:u≠t):N3 us env x t=.J9 x.pos 8:=by unfold N3;rw[h];simp[a]
def zfK{us:List Fn}{env:P1}{x:Ex}{t q e:Int}(h:O2 us env x=.J9 q e):N3 us env x t=.J9 q e:=by unfold N3;rw[h]
def zh4(left:Nat)(O:ExC left):Jo left:=by
 intro x t B d F w j P K A c k l Q m R o p E S T h U;have s:=(x8 w.heap.size w).alloc (x7 _) (.cells #[.int .i64 x.I9,.int .i64 x.n,.string x.K0,.slice B x.args.length d,.int .i64 x.pos] 186);have W:=qh (h.Z8.below s);have V:=qh (O x B d F _ j P K A c k l Q m R o p E S T (h.Z8.below s).Z8 (h.args (s.mono h.bs) U));have v:=qh (A5 w (.cells #[.int .i64 x.I9,.int .i64 x.n,.string x.K0,.slice B x.args.length d,.int .i64 x.pos] 186));have G:=qh s;have a:=I5 v.out;clear h s O U m R o p S T;obtain⟨r,H⟩: ∃r,O2 Q k x=r:=⟨_,rfl⟩;have I:=qh H;have y:Hid (Calls prog 165 #[.pointer (some ⟨P,0,none⟩),.agg #[.int .i64 x.I9,.int .i64 x.n,.string x.K0,.slice B x.args.length d,.int .i64 x.pos]] (w.alloc (.cells #[.int .i64 x.I9,.int .i64 x.n,.string x.K0,.slice B x.args.length d,.int .i64 x.pos] 186)) λe X=>jI r (.int .i64 ·) e/\Below (w.alloc (.cells #[.int .i64 x.I9,.int .i64 x.n,.string x.K0,.slice B x.args.length d,.int .i64 x.pos] 186)).heap.size (w.alloc (.cells #[.int .i64 x.I9,.int .i64 x.n,.string x.K0,.slice B x.args.length d,.int .i64 x.pos] 186)) X):=qh (by rw[<-H];exact V.out);clear V H
 go_enter func167,ntmps167
 go_upto_region 1 with(fail)
 obtain⟨⟨J,L,M,N,i⟩,-⟩:=K6 v.out;generalize w.alloc _=w1 at W v G y a J L M N i|-;generalize w.heap.size=b1 at v a J L M N i|-
 go_wp2_with fail
 refine y.out.mono ?_;rintro e w2 ⟨C,b⟩;have f:=qh (G.out.trans (b.mono G.out.size));have z:=(b.block _ a).trans v.out;clear J L M N i;obtain⟨⟨-,-,-,-,i⟩,-⟩:=K6 z;clear z b;cases r with
 |J9 q er=>
  have g:e=M0 q er:=C;subst g;clear C i;unfold M0
  go_wp2_with fail
  rw[zfK I.out];exact⟨rfl,rfl,f.out⟩
 |ok u=>
  have g:e=.returned (.int .i64 u):=C;subst g;clear C
  by_cases D:u=t
  ·subst D
   have Y:(u !=u)=false:=by simp
   clear i
   go_wp2_with fail
   go_end0;rw[zcI I.out];exact⟨rfl,f.out⟩
  ·have Y:(u !=t)=true:=by simpa using D
   have Z:=qh D;clear D
   go_wp2_with fail
   rw[zhZ I.out Z.out];exact⟨rfl,rfl,f.out⟩
end Go.Proofs.YtmngofgminlloaaGreatDoor
namespace Go.Proofs.YtmngofgminlloaaGreatDoor
open Go.RowKit Tw
theorem zf5: ∀l(left:Nat),zx l left=0-> ∀a∈l,zK a left=0:=by
 intro l
 induction l with
 |nil=>intro left _ a c;cases c
 |cons b l e=>
  intro left h a c;rw[zx]at h
  split at h
  ·rename_i d
   rcases List.mem_cons.1 c with rfl|c
   ·exact d
   ·exact e left h a c
  ·rename_i d;exact H9 h d
theorem qV{k n:Int}{t:ByteArray}{xs}{p:Int}{left:Nat}(h:zK (.mk k n t xs p) left=0):1<=left/\zJ k n t xs.length=true/\ ∀a∈xs,zK a (left-1)=0:=by
 rw[zK]at h;unfold yo at h
 by_cases f:left=0
 ·rw[C8 f]at h;cases h
 rw[B5 f]at h
 by_cases d:zJ k n t xs.length=false
 ·rw[C8 d]at h;cases h
 rw[B5 d]at h
 split at h
 ·rename_i e c;split at c
  ·injection c with c;omega
  ·cases c
 ·exact⟨by omega,by simpa using d,zf5 _ _ h⟩
section
variable {us:List Fn}{env:P1}{n p:Int}{t:ByteArray}{a b:Ex}{xs:List Ex}
theorem zhW{w:Int}:L4 us env [a] [w]=N3 us env a w:=by
 simp only[L4,N3,List.headD_cons];cases O2 us env a<;>rfl
theorem zhK:L4 us env [a] []=N3 us env a 1:=by
 simp only[L4,N3];cases O2 us env a<;>rfl
theorem zcu{w v:Int}:L4 us env [a,b] [w,v]=(N3 us env a w).bind λ_=>N3 us env b v:=by
 simp only[L4,N3,List.headD_cons,List.tail_cons];cases O2 us env a with
 |J9 q e=>rfl
 |ok u=>
  by_cases h:u=w
  ·subst h;simp only[if_true,X1.bind];cases O2 us env b<;>rfl
  ·simp[h,X1.bind]
theorem zfF:L4 us env [a,b] []=(N3 us env a 1).bind λ_=>N3 us env b 1:=by
 simp only[L4,N3,List.headD_nil,List.tail_nil];cases O2 us env a with
 |J9 q e=>rfl
 |ok u=>
  by_cases h:u=1
  ·subst h;simp only[if_true,X1.bind];cases O2 us env b<;>rfl
  ·simp[h,X1.bind]
theorem YY(h:lv t.data.toList<=2):O2 us env (.mk 6 n t [a,b] p)=(N3 us env a 2).bind λ_=>(N3 us env b 2).bind λ_=>.ok 2:=by
 rw[O2,B5 (by decide),B5 (by decide),B5 (by decide),B5 (by decide),B5 (by decide),C8 ⟨rfl,h⟩,zcu];cases N3 us env a 2 with
 |J9 q e=>rfl
 |ok u=>simp only[X1.bind];cases N3 us env b 2<;>rfl
theorem Jv(h: ¬lv t.data.toList<=2)(d:t=⟨#[61,61]⟩\/t=⟨#[33,61]⟩):O2 us env (.mk 6 n t [a,b] p)=(O2 us env a).bind λc=>(N3 us env b c).bind λ_=>.ok 2:=by
 rw[O2,B5 (by decide),B5 (by decide),B5 (by decide),B5 (by decide),B5 (by decide),B5 (λe=>h e.2),C8 ⟨rfl,d⟩];simp only[Qw];cases f:O2 us env a with
 |J9 q e=>rfl
 |ok c=>
  simp only[X1.bind,zcu,zcI f];cases N3 us env b c<;>rfl
theorem Jh(h: ¬lv t.data.toList<=2)(c: ¬(t=⟨#[61,61]⟩\/t=⟨#[33,61]⟩)):O2 us env (.mk 6 n t [a,b] p)=(N3 us env a 1).bind λ_=>(N3 us env b 1).bind λ_=>.ok (if lv t.data.toList=3 then 2 else 1):=by
 rw[O2,B5 (by decide),B5 (by decide),B5 (by decide),B5 (by decide),B5 (by decide),B5 (λe=>h e.2),B5 (λe=>c e.2),zfF];cases N3 us env a 1 with
 |J9 q e=>rfl
 |ok u=>simp only[X1.bind];cases N3 us env b 1<;>simp
theorem zcl:O2 us env (.mk 3 n t xs p)=if L5 env t=0 then .J9 p 16 else .ok (L5 env t):=by rw[O2,B5 (by decide),B5 (by decide),C8 rfl]
theorem zcH:O2 us env (.mk 4 n t [a] p)=(N3 us env a 1).bind λ_=>.ok 1:=by
 rw[O2];simp[zhK,X1.bind];cases N3 us env a 1<;>rfl
theorem zcx:O2 us env (.mk 5 n t [a] p)=(N3 us env a 2).bind λ_=>.ok 2:=by
 rw[O2];simp[zhW,X1.bind];cases N3 us env a 2<;>rfl
theorem zbc:O2 us env (.mk 8 n t xs p)=(L4 us env xs []).bind λ_=>.ok 1:=by
 rw[O2];simp[X1.bind];cases L4 us env xs []<;>rfl
theorem zfE(h:S3 us t=none):O2 us env (.mk 7 n t xs p)=.J9 p 16:=by rw[O2,h];simp
theorem zf4{f:Fn}(h:S3 us t=some f)(c:f.K4.length≠xs.length):O2 us env (.mk 7 n t xs p)=.J9 p 8:=by rw[O2,h];simp[c]
theorem za7{f}(h:S3 us t=some f)(c:f.K4.length=xs.length):O2 us env (.mk 7 n t xs p)=(L4 us env xs f.K4).bind λ_=>.ok f.out:=by
 rw[O2,h];simp[X1.bind,c];cases L4 us env xs f.K4<;>rfl
theorem za2(l r): ∀ws:List Int,L4 us env (l++r) ws=(L4 us env l ws).bind λ_=>L4 us env r (ws.drop l.length):=by
 induction l with
 |nil=>intro ws;simp[L4,X1.bind]
 |cons x l c=>
  intro ws;simp only[B6,L4];cases O2 us env x with
  |J9 q e=>rfl
  |ok u=>
   simp only
   by_cases h:u=ws.headD 1
   ·rw[C8 h,C8 h,c,List.drop_tail];simp
   ·rw[B5 h,B5 h];rfl
theorem XY{xs:List Ex}{ws:List Int}{j:Nat}{x:Ex}(f:xs[j]?=some x)(h:L4 us env (xs.take j) ws=.ok ())(c:N3 us env x ((ws.drop j).headD 1)=.ok ()):L4 us env (xs.take (j+1)) ws=.ok ():=by
 have g:=(List.getElem?_eq_some_iff.1 f).1;rw[P0 f,za2,h];simp only[X1.bind,I2,Nat.min_eq_left (G9 g)];unfold N3 at c;rw[L4];cases d:O2 us env x with
 |J9 q e=>rw[d]at c;cases c
 |ok u=>
  rw[d]at c;simp only at c|-
  split at c
  ·rename_i h;rw[C8 h,L4]
  ·cases c
theorem za5{xs ws}{j:Nat}{x}{q e:Int}(g:xs[j]?=some x)(h:L4 us env (xs.take j) ws=.ok ())(c:N3 us env x ((ws.drop j).headD 1)=.J9 q e):L4 us env xs ws=.J9 q e:=by
 have i:=(List.getElem?_eq_some_iff.1 g).1;have k:xs=xs.take j++x::xs.drop (j+1):=by
  have f:=List.take_append_drop j xs;rw[F8 i]at f;have:xs[j]=x:=(List.getElem?_eq_some_iff.1 g).2;rw[this]at f;exact f.symm
 rw[k,za2,h];simp only[X1.bind,I2,Nat.min_eq_left (G9 i)];unfold N3 at c;rw[L4];cases d:O2 us env x with
 |J9 l m=>rw[d]at c;exact c
 |ok u=>
  rw[d]at c;simp only at c|-
  split at c
  ·cases c
  ·rename_i h;rw[B5 h];exact c
end
theorem Jj(t:ByteArray)(l):(t.toList==l)=decide (t.data.toList=l):=by
 rw[C7,F7];simp
end Go.Proofs.YtmngofgminlloaaGreatDoor
namespace Go.Proofs.YtmngofgminlloaaGreatDoor
open Go.Proofs.Tryz
open Go.RowKit Tw
def Chk.vars{w}{base b:Nat}{K A}{c:Nat}{env}{a:Nat}(h:Chk w base b K A c env a):ZI w A env:=λi q d=>h.qE i q d
def U2.zoQ{w}{F:Nat->Prop}{v us}(h:U2 w F v us): ∃A c,v=.slice A us.length c:=by
 rcases h with⟨a,c,rfl,rfl⟩|⟨g,d,b,_,_,_,rfl,_⟩
 ·exact⟨a,c,rfl⟩
 ·exact⟨_,b,rfl⟩
def zhV{env}(a:U7 env){i:Nat}{s:ByteArray}{t:Int}(h:env.reverse[i]?=some (s,t)):L5 env s=t/\t≠0/\i<env.length:=by
 have b:=List.mem_reverse.1 (B7 h);have c:=a.2 _ b;simp only at c;have:=(List.getElem?_eq_some_iff.1 h).1;exact⟨QP a.1 b,by omega,by simpa using this⟩
def zfT{ws:List Int}{j:Nat}{s:Int}(h:ws[j]?=some s):(ws.drop j).headD 1=s:=by
 rw[List.headD_eq_head?_getD,List.head?_drop,h];rfl
def znZ(n:Int)(t:ByteArray)(xs)(p:Int)(B)(d:Nat)(F:Nat->Prop)(w)(base m:Nat)(K A)(c:Nat)(env)(a:Nat)(us)(o:xN (.mk 1 n t xs p))(b: ∀f∈us,FnZ f)(g:us.length<=281474976710656)(D:env.length<=1000)(q:U7 env)(r:qB us)(h:yx w w base m K A c env a us F)(s:J7 w F (.slice B xs.length d) xs):
 Calls prog 165 #[.pointer (some ⟨m,0,none⟩),.agg #[.int .i64 1,.int .i64 n,.string t,.slice B xs.length d,.int .i64 p]] w λe w'=>jI (O2 us env (.mk 1 n t xs p)) (.int .i64 ·) e/\Below w.heap.size w w':=by
 have k:=(x8 w.heap.size w).alloc (x7 _) (.cells #[.int .i64 1,.int .i64 n,.string t,.slice B xs.length d,.int .i64 p] 186);have l:=qh (A5 w (.cells #[.int .i64 1,.int .i64 n,.string t,.slice B xs.length d,.int .i64 p] 186));have u:=qh k;have E:=qh (h.Z8.below k);have G:=qh (h.args (k.mono h.bs) s);have L:=qh o;have H:=qh b;have I:=qh g;have M:=qh q;have N:=qh r;have i:=I5 l.out;have J: ∀(fn:Go.Fn)(first j:Array Value)(w:World),(Instr.makeFunc fn first j).run prog w=.ok (.func fn first j) w:=λ_ _ _ _=>rfl
 clear k h s o b g q r
 go_enter func165,ntmps165
 go_upto_region 1 with(fail)
 obtain⟨⟨v,x,y,z,C⟩,-⟩:=K6 l.out;generalize w.alloc _=O at l u E G i v x y z C|-;generalize w.heap.size=P at l i v x y z C|-
 go_wp2_with fail
 go_ret;refine⟨?_,u.out⟩;rw[O2];rfl
def znU(n:Int)(t:ByteArray)(xs)(p:Int)(B)(d:Nat)(F:Nat->Prop)(w)(base m:Nat)(K A)(c:Nat)(env)(a:Nat)(us)(o:xN (.mk 2 n t xs p))(b: ∀f∈us,FnZ f)(g:us.length<=281474976710656)(D:env.length<=1000)(q:U7 env)(r:qB us)(h:yx w w base m K A c env a us F)(s:J7 w F (.slice B xs.length d) xs):
 Calls prog 165 #[.pointer (some ⟨m,0,none⟩),.agg #[.int .i64 2,.int .i64 n,.string t,.slice B xs.length d,.int .i64 p]] w λe w'=>jI (O2 us env (.mk 2 n t xs p)) (.int .i64 ·) e/\Below w.heap.size w w':=by
 have k:=(x8 w.heap.size w).alloc (x7 _) (.cells #[.int .i64 2,.int .i64 n,.string t,.slice B xs.length d,.int .i64 p] 186);have l:=qh (A5 w (.cells #[.int .i64 2,.int .i64 n,.string t,.slice B xs.length d,.int .i64 p] 186));have u:=qh k;have E:=qh (h.Z8.below k);have G:=qh (h.args (k.mono h.bs) s);have L:=qh o;have H:=qh b;have I:=qh g;have M:=qh q;have N:=qh r;have i:=I5 l.out;have J: ∀(fn:Go.Fn)(first j:Array Value)(w:World),(Instr.makeFunc fn first j).run prog w=.ok (.func fn first j) w:=λ_ _ _ _=>rfl
 clear k h s o b g q r
 go_enter func165,ntmps165
 go_upto_region 1 with(fail)
 obtain⟨⟨v,x,y,z,C⟩,-⟩:=K6 l.out;generalize w.alloc _=O at l u E G i v x y z C|-;generalize w.heap.size=P at l i v x y z C|-
 go_wp2_with fail
 go_ret;refine⟨?_,u.out⟩;rw[O2];rfl
def znM(n:Int)(t:ByteArray)(xs)(p:Int)(B)(d:Nat)(F:Nat->Prop)(w)(base N:Nat)(K A)(c:Nat)(env:P1)(k:Nat)(us)(G:xN (.mk 3 n t xs p))(l: ∀f∈us,FnZ f)(m:us.length<=281474976710656)(H:env.length<=1000)(O:U7 env)(P:qB us)(h:yx w w base N K A c env k us F)(Q:J7 w F (.slice B xs.length d) xs):
 Calls prog 165 #[.pointer (some ⟨N,0,none⟩),.agg #[.int .i64 3,.int .i64 n,.string t,.slice B xs.length d,.int .i64 p]] w λe w'=>jI (O2 us env (.mk 3 n t xs p)) (.int .i64 ·) e/\Below w.heap.size w w':=by
 have x:=(x8 w.heap.size w).alloc (x7 _) (.cells #[.int .i64 3,.int .i64 n,.string t,.slice B xs.length d,.int .i64 p] 186);have o:=qh (A5 w (.cells #[.int .i64 3,.int .i64 n,.string t,.slice B xs.length d,.int .i64 p] 186));have I:=qh x;have q:=qh (h.Z8.below x);have Y:=qh (h.args (x.mono h.bs) Q);have HZ:=qh G;have Z:=qh l;have a0:=qh m;have HE:=qh O;have HO:=qh P;have a:=I5 o.out;have a1: ∀(fn:Go.Fn)(first r:Array Value)(w:World),(Instr.makeFunc fn first r).run prog w=.ok (.func fn first r) w:=λ_ _ _ _=>rfl
 have J:t.size<=maxLen:=G.args.1;clear x h Q G l m O P
 go_enter func165,ntmps165
 go_upto_region 1 with(fail)
 obtain⟨⟨y,C,s,D,E⟩,-⟩:=K6 o.out;generalize w.alloc _=R at o I q Y a y C s D E|-;generalize w.heap.size=S at o a y C s D E|-;have T:=qh (zkl ⟨S,0,none⟩ t A c env R q.out.JL.vars (zi7 S t R a s) H);obtain⟨⟨-,-,-,-,-,-,-,U,-⟩,-⟩:=qN q.out.JL.P6;have a2:=q.out.JL.lt;clear J
 go_wp2_with fail
 refine T.out.mono ?_;rintro e w2 ⟨z,rfl,hz,b⟩;have u:=qh (I.out.trans (b.mono I.out.size));have v:=qh (q.out.below b);have L:=qh ((b.block _ a).trans o.out);clear y C s D E U T b;obtain⟨⟨y,C,s,D,E⟩,-⟩:=K6 L.out;obtain⟨⟨-,-,-,-,-,-,-,U,-⟩,-⟩:=qN v.out.JL.P6
 rcases hz with⟨i,ty,j,rfl⟩|⟨j,rfl⟩
 ·obtain⟨V,W,q3⟩:=zhV HE.out j
  obtain⟨g,rfl,hg,d0,d1⟩:=v.out.JL.qE i (t,ty) j;simp only at d1;have X:=qh V;have M:=qh W;have k0:(0:Int)<=(i:Int):=by omega
  have k1:(i:Int)<(env.length:Int):=by omega
  clear j V W d0 hg
  go_wp2_with fail
  go_ret;refine⟨?_,u.out⟩;rw[zcl,B5 (by rw[X.out];exact M.out),X.out];rfl
 ·have HN:=qh (QC j)
  clear j
  go_wp2_with fail
  refine⟨rfl,?_,u.out⟩;rw[zcl,C8 HN.out];rfl
def zn9(left:Nat)(iw:Jo (left-1))(n:Int)(t:ByteArray)(xs)(p:Int)(B)(d:Nat)(F:Nat->Prop)(w)(base Q:Nat)(K A)(c:Nat)(env)(k:Nat)(us)(D:zK (.mk 4 n t xs p) left=0)(S:xN (.mk 4 n t xs p))(l: ∀f∈us,FnZ f)(m:us.length<=281474976710656)(T:env.length<=1000)(U:U7 env)(V:qB us)(h:yx w w base Q K A c env k us F)(X:J7 w F (.slice B xs.length d) xs):
 Calls prog 165 #[.pointer (some ⟨Q,0,none⟩),.agg #[.int .i64 4,.int .i64 n,.string t,.slice B xs.length d,.int .i64 p]] w λe w'=>jI (O2 us env (.mk 4 n t xs p)) (.int .i64 ·) e/\Below w.heap.size w w':=by
 obtain⟨hl,E,i⟩:=qV D;obtain⟨a,rfl⟩: ∃a,xs=[a]:=by
  have:xs.length=1:=by simpa[zJ]using E
  match xs,this with
  |[a],_=>exact⟨a,rfl⟩
 have G:=i a (B2 ..);have H:xN a:=S.args.2.2 a (B2 ..);obtain⟨g,b,Ba,da,rfl,-,hg,I,o,s,v,x,y⟩:=X.at 0 a rfl
 have CA:Hid (∀W,Below w.heap.size w W->Calls prog 167 #[.pointer (some ⟨Q,0,none⟩),.agg #[.int .i64 a.I9,.int .i64 a.n,.string a.K0,.slice Ba a.args.length da,.int .i64 a.pos],.int .i64 1] W λe w'=>jI (N3 us env a 1) (λ_=>.tuple #[]) e/\Below W.heap.size W w'):=
  qh (λW z=>iw a 1 Ba da F W base Q K A c env k us G H l m T U V (h.below z).Z8 (h.args (z.mono h.bs) I))
 have Y:=qh (And.intro o (And.intro s (And.intro v (And.intro x y))));have J:=qh hg;clear o s v x y G H i E D I hg;have z:=(x8 w.heap.size w).alloc (x7 _) (.cells #[.int .i64 4,.int .i64 n,.string t,.slice (some ⟨g,b,none⟩) 1 d,.int .i64 p] 186);have R:=qh (A5 w (.cells #[.int .i64 4,.int .i64 n,.string t,.slice (some ⟨g,b,none⟩) 1 d,.int .i64 p] 186));have j:=qh z;have HF:=qh (h.Z8.below z);have HA:=qh (h.args (z.mono h.bs) X);have HZ:=qh S;have a5:=qh l;have a6:=qh m;have HE:=qh U;have HO:=qh V;have L:=I5 R.out;have a7: ∀(fn:Go.Fn)(first M:Array Value)(w:World),(Instr.makeFunc fn first M).run prog w=.ok (.func fn first M) w:=λ_ _ _ _=>rfl
 clear z h X S l m U V
 go_enter func165,ntmps165
 go_upto_region 1 with(fail)
 obtain⟨⟨Z,z1,z2,z3,z4⟩,-⟩:=K6 R.out;generalize w.alloc _=w1 at R j HF HA L Z z1 z2 z3 z4|-;generalize w.heap.size=b1 at R L Z z1 z2 z3 z4|-;obtain⟨o,s,v,x,y⟩:=Y.out;replace o:=(j.out.cell (p:=⟨g,b+0*5,none⟩) J.out).trans o;replace s:=(j.out.cell (p:=⟨g,b+0*5+1,none⟩) J.out).trans s;replace v:=(j.out.cell (p:=⟨g,b+0*5+2,none⟩) J.out).trans v;replace x:=(j.out.cell (p:=⟨g,b+0*5+3,none⟩) J.out).trans x;replace y:=(j.out.cell (p:=⟨g,b+0*5+4,none⟩) J.out).trans y;simp only[Nat.zero_mul,Nat.add_zero]at o s v x y
 go_wp2_with fail
 refine(CA.out w1 j.out).mono ?_;rintro e w2 ⟨N,O⟩;have P:=qh (j.out.trans (O.mono j.out.size));clear O o s v x y Z z1 z2 z3 z4;obtain⟨r,hr⟩: ∃r,N3 us env a 1=r:=⟨_,rfl⟩;rw[hr]at N;have HR:=qh hr;clear hr CA;cases r with
 |J9 q er=>
  have C:e=M0 q er:=N;subst C;clear N;unfold M0
  go_wp2_with fail
  exact⟨rfl,by rw[zcH,HR.out];rfl,P.out⟩
 |ok u=>
  have C:e=.returned (.tuple #[]):=N;subst C;clear N
  go_wp2_with fail
  go_ret;exact⟨by rw[zcH,HR.out];rfl,P.out⟩
def zn6(left:Nat)(iw:Jo (left-1))(n:Int)(t:ByteArray)(xs)(p:Int)(B)(d:Nat)(F:Nat->Prop)(w)(base Q:Nat)(K A)(c:Nat)(env)(k:Nat)(us)(D:zK (.mk 5 n t xs p) left=0)(S:xN (.mk 5 n t xs p))(l: ∀f∈us,FnZ f)(m:us.length<=281474976710656)(T:env.length<=1000)(U:U7 env)(V:qB us)(h:yx w w base Q K A c env k us F)(X:J7 w F (.slice B xs.length d) xs):
 Calls prog 165 #[.pointer (some ⟨Q,0,none⟩),.agg #[.int .i64 5,.int .i64 n,.string t,.slice B xs.length d,.int .i64 p]] w λe w'=>jI (O2 us env (.mk 5 n t xs p)) (.int .i64 ·) e/\Below w.heap.size w w':=by
 obtain⟨hl,E,i⟩:=qV D;obtain⟨a,rfl⟩: ∃a,xs=[a]:=by
  have:xs.length=1:=by simpa[zJ]using E
  match xs,this with
  |[a],_=>exact⟨a,rfl⟩
 have G:=i a (B2 ..);have H:xN a:=S.args.2.2 a (B2 ..);obtain⟨g,b,Ba,da,rfl,-,hg,I,o,s,v,x,y⟩:=X.at 0 a rfl
 have CA:Hid (∀W,Below w.heap.size w W->Calls prog 167 #[.pointer (some ⟨Q,0,none⟩),.agg #[.int .i64 a.I9,.int .i64 a.n,.string a.K0,.slice Ba a.args.length da,.int .i64 a.pos],.int .i64 2] W λe w'=>jI (N3 us env a 2) (λ_=>.tuple #[]) e/\Below W.heap.size W w'):=
  qh (λW z=>iw a 2 Ba da F W base Q K A c env k us G H l m T U V (h.below z).Z8 (h.args (z.mono h.bs) I))
 have Y:=qh (And.intro o (And.intro s (And.intro v (And.intro x y))));have J:=qh hg;clear o s v x y G H i E D I hg;have z:=(x8 w.heap.size w).alloc (x7 _) (.cells #[.int .i64 5,.int .i64 n,.string t,.slice (some ⟨g,b,none⟩) 1 d,.int .i64 p] 186);have R:=qh (A5 w (.cells #[.int .i64 5,.int .i64 n,.string t,.slice (some ⟨g,b,none⟩) 1 d,.int .i64 p] 186));have j:=qh z;have HF:=qh (h.Z8.below z);have HA:=qh (h.args (z.mono h.bs) X);have HZ:=qh S;have a5:=qh l;have a6:=qh m;have HE:=qh U;have HO:=qh V;have L:=I5 R.out;have a7: ∀(fn:Go.Fn)(first M:Array Value)(w:World),(Instr.makeFunc fn first M).run prog w=.ok (.func fn first M) w:=λ_ _ _ _=>rfl
 clear z h X S l m U V
 go_enter func165,ntmps165
 go_upto_region 1 with(fail)
 obtain⟨⟨Z,z1,z2,z3,z4⟩,-⟩:=K6 R.out;generalize w.alloc _=w1 at R j HF HA L Z z1 z2 z3 z4|-;generalize w.heap.size=b1 at R L Z z1 z2 z3 z4|-;obtain⟨o,s,v,x,y⟩:=Y.out;replace o:=(j.out.cell (p:=⟨g,b+0*5,none⟩) J.out).trans o;replace s:=(j.out.cell (p:=⟨g,b+0*5+1,none⟩) J.out).trans s;replace v:=(j.out.cell (p:=⟨g,b+0*5+2,none⟩) J.out).trans v;replace x:=(j.out.cell (p:=⟨g,b+0*5+3,none⟩) J.out).trans x;replace y:=(j.out.cell (p:=⟨g,b+0*5+4,none⟩) J.out).trans y;simp only[Nat.zero_mul,Nat.add_zero]at o s v x y
 go_wp2_with fail
 refine(CA.out w1 j.out).mono ?_;rintro e w2 ⟨N,O⟩;have P:=qh (j.out.trans (O.mono j.out.size));clear O o s v x y Z z1 z2 z3 z4;obtain⟨r,hr⟩: ∃r,N3 us env a 2=r:=⟨_,rfl⟩;rw[hr]at N;have HR:=qh hr;clear hr CA;cases r with
 |J9 q er=>
  have C:e=M0 q er:=N;subst C;clear N;unfold M0
  go_wp2_with fail
  exact⟨rfl,by rw[zcx,HR.out];rfl,P.out⟩
 |ok u=>
  have C:e=.returned (.tuple #[]):=N;subst C;clear N
  go_wp2_with fail
  go_ret;exact⟨by rw[zcx,HR.out];rfl,P.out⟩
def zoD(left:Nat)(iw:Jo (left-1))(n:Int)(t:ByteArray)(xs)(p:Int)(B)(d:Nat)(F:Nat->Prop)(w)(base P:Nat)(K A)(c:Nat)(env)(s:Nat)(us)(H:zK (.mk 8 n t xs p) left=0)(Q:xN (.mk 8 n t xs p))(v: ∀f∈us,FnZ f)(y:us.length<=281474976710656)(T:env.length<=1000)(U:U7 env)(V:qB us)(h:yx w w base P K A c env s us F)(X:J7 w F (.slice B xs.length d) xs):
 Calls prog 165 #[.pointer (some ⟨P,0,none⟩),.agg #[.int .i64 8,.int .i64 n,.string t,.slice B xs.length d,.int .i64 p]] w λe w'=>jI (O2 us env (.mk 8 n t xs p)) (.int .i64 ·) e/\Below w.heap.size w w':=by
 obtain⟨hl,Y,b⟩:=qV H
 have CA:Hid (∀W,Below w.heap.size w W-> ∀(x:Ex),x∈xs-> ∀(l:Option Addr)(m:Nat),J7 w F (.slice l x.args.length m) x.args-> ∀R:Int,Calls prog 167 #[.pointer (some ⟨P,0,none⟩),.agg #[.int .i64 x.I9,.int .i64 x.n,.string x.K0,.slice l x.args.length m,.int .i64 x.pos],.int .i64 R] W λe w'=>jI (N3 us env x R) (λ_=>.tuple #[]) e/\Below W.heap.size W w'):=
  qh (λW z x C l m o R=>iw x R l m F W base P K A c env s us (b x C) (Q.args.2.2 x C) v y T U V (h.below z).Z8 (h.args (z.mono h.bs) o))
 have Z:=qh X;have a6:xs.length<=281474976710656:=Q.args.2.1;clear Y b H;have z:=(x8 w.heap.size w).alloc (x7 _) (.cells #[.int .i64 8,.int .i64 n,.string t,.slice B xs.length d,.int .i64 p] 186);have S:=qh (A5 w (.cells #[.int .i64 8,.int .i64 n,.string t,.slice B xs.length d,.int .i64 p] 186));have HB:=qh z;have HF:=qh (h.Z8.below z);have HA:=qh (h.args (z.mono h.bs) X);have HZ:=qh Q;have a7:=qh v;have a8:=qh y;have HE:=qh U;have HO:=qh V;have I:=I5 S.out;have a9: ∀(fn:Go.Fn)(first J:Array Value)(w:World),(Instr.makeFunc fn first J).run prog w=.ok (.func fn first J) w:=λ_ _ _ _=>rfl
 clear z h X Q v y U V
 go_enter func165,ntmps165
 go_upto_region 1 with(fail)
 obtain⟨⟨z0,z1,z2,z3,z4⟩,-⟩:=K6 S.out;generalize w.alloc _=w1 at S HB HF HA I z0 z1 z2 z3 z4|-;generalize w.heap.size=b1 at S I z0 z1 z2 z3 z4|-
 go_wp2_with fail
 clear z0 z1 z2 z3 z4
 go_loopw[117] (λi wr=> ∃j:Nat,j<=xs.length/\i=.int .i64 j/\Hid (L4 us env (xs.take j) []=.ok ())/\Hid (Below w.heap.size w wr)) (λi _=>xs.length-(intOf i).toNat)
 case atStart=>exact⟨0,D0 _,rfl,qh (by rw[List.take_zero,L4]),HB⟩
 case round=>
  obtain⟨j,hj,rfl,HW,a⟩:=hrel
  by_cases a5:j<xs.length
  ·obtain⟨x,C⟩: ∃x,xs[j]?=some x:=⟨_,x9 a5⟩
   obtain⟨g,k,l,m,rfl,-,G,o,a0,a1,a2,a3,a4⟩:=Z.out.at j x C;have b0:=(a.out.cell (p:=⟨g,k+j*5,none⟩) G).trans a0;have b1:=(a.out.cell (p:=⟨g,k+j*5+1,none⟩) G).trans a1;have b2:=(a.out.cell (p:=⟨g,k+j*5+2,none⟩) G).trans a2;have b3:=(a.out.cell (p:=⟨g,k+j*5+3,none⟩) G).trans a3;have b4:=(a.out.cell (p:=⟨g,k+j*5+4,none⟩) G).trans a4;have HC:=qh (CA.out (wr.alloc (.cells #[.int .i64 x.I9,.int .i64 x.n,.string x.K0,.slice l x.args.length m,.int .i64 x.pos] 186)) (a.out.alloc a.out.size (.cells #[.int .i64 x.I9,.int .i64 x.n,.string x.K0,.slice l x.args.length m,.int .i64 x.pos] 186)) x (B7 C) l m o 1);have HN:=qh (A5 wr (.cells #[.int .i64 x.I9,.int .i64 x.n,.string x.K0,.slice l x.args.length m,.int .i64 x.pos] 186));have D:=qh (a.out.alloc a.out.size (.cells #[.int .i64 x.I9,.int .i64 x.n,.string x.K0,.slice l x.args.length m,.int .i64 x.pos] 186));have L:=qh C;clear a0 a1 a2 a3 a4 C o G;have k0:(0:Int)<=(j:Int):=by omega
   have k1:(j:Int)<(xs.length:Int):=by omega
   go_upto_region 35 with(fail)
   clear b0 b1 b2 b3 b4;obtain⟨⟨y0,y1,y2,y3,y4⟩,-⟩:=K6 HN.out;generalize wr.alloc _=wn at HC HN D y0 y1 y2 y3 y4|-;generalize wr.heap.size=b5 at HN y0 y1 y2 y3 y4|-
   go_wp2_with fail
   refine HC.out.mono ?_;rintro e w3 ⟨M,N⟩;have O:=qh (D.out.trans (N.mono D.out.size));clear N y0 y1 y2 y3 y4 HC;obtain⟨r,hr⟩: ∃r,N3 us env x 1=r:=⟨_,rfl⟩;rw[hr]at M;have HR:=qh hr;clear hr;cases r with
   |J9 q er=>
    have E:e=M0 q er:=M;subst E;clear M;unfold M0
    go_wp2_with fail
    refine⟨rfl,?_,O.out⟩;rw[zbc,za5 L.out HW.out (by simpa using HR.out)];rfl
   |ok u=>
    have E:e=.returned (.tuple #[]):=M;subst E;clear M
    go_wp2_with fail
    go_roundw
    case rel=>exact⟨j+1,by omega,by go_num,qh (XY L.out HW.out (by simpa using HR.out)),O⟩
    case measure=>simp[intOf];omega
  ·obtain rfl:j=xs.length:=by omega
   go_wp2_with fail
   go_ret;refine⟨?_,a.out⟩;have:=HW.out;rw[F5]at this;rw[zbc,this];rfl
def zoi(left:Nat)(iw:Jo (left-1))(n:Int)(t:ByteArray)(xs:List Ex)(p:Int)(B:Option Addr)(d:Nat)(F:Nat->Prop)(w:World)(base cb:Nat)(K:Hd)(A:Option Addr)(c:Nat)(env:P1)(R:Nat)(us:List Fn)(b5:zK (.mk 7 n t xs p) left=0)(hZ:xN (.mk 7 n t xs p))(U: ∀f∈us,FnZ f)(V:us.length<=281474976710656)(d0:env.length<=1000)(hE:U7 env)(hO:qB us)(h:yx w w base cb K A c env R us F)(hA:J7 w F (.slice B xs.length d) xs):
 Calls prog 165 #[.pointer (some ⟨cb,0,none⟩),.agg #[.int .i64 7,.int .i64 n,.string t,.slice B xs.length d,.int .i64 p]] w λe w'=>jI (O2 us env (.mk 7 n t xs p)) (.int .i64 ·) e/\Below w.heap.size w w':=by
 obtain⟨hl,d1,v⟩:=qV b5
 have CA:Hid (∀W,Below w.heap.size w W-> ∀(x:Ex),x∈xs-> ∀(o:Option Addr)(s:Nat),J7 w F (.slice o x.args.length s) x.args-> ∀ty:Int,Calls prog 167 #[.pointer (some ⟨cb,0,none⟩),.agg #[.int .i64 x.I9,.int .i64 x.n,.string x.K0,.slice o x.args.length s,.int .i64 x.pos],.int .i64 ty] W λe w'=>jI (N3 us env x ty) (λ_=>.tuple #[]) e/\Below W.heap.size W w'):=
  qh (λW X x Y o s E ty=>iw x ty o s F W base cb K A c env R us (v x Y) (hZ.args.2.2 x Y) U V d0 hE hO (h.below X).Z8 (h.args (X.mono h.bs) E))
 have d2:=qh hA;have d8:xs.length<=281474976710656:=hZ.args.2.1;obtain⟨Au,cu,hU⟩:=h.xL.zoQ;have G:=qh hU;clear d1 v b5;have X:=(x8 w.heap.size w).alloc (x7 _) (.cells #[.int .i64 7,.int .i64 n,.string t,.slice B xs.length d,.int .i64 p] 186);have HX:=qh (A5 w (.cells #[.int .i64 7,.int .i64 n,.string t,.slice B xs.length d,.int .i64 p] 186));have HB:=qh X;have HF:=qh (h.Z8.below X);have HA:=qh (h.args (X.mono h.bs) hA);have HZ:=qh hZ;have d3:=qh U;have d4:=qh V;have HE:=qh hE;have HO:=qh hO;have H:=I5 HX.out;have d9: ∀(fn:Go.Fn)(first b6:Array Value)(w:World),(Instr.makeFunc fn first b6).run prog w=.ok (.func fn first b6) w:=λ_ _ _ _=>rfl
 clear X h hA hZ U V hE hO
 go_enter func165,ntmps165
 go_upto_region 1 with(fail)
 obtain⟨⟨Z,z1,S,z3,z4⟩,-⟩:=K6 HX.out;generalize w.alloc _=w1 at HX HB HF HA H Z z1 S z3 z4|-;generalize w.heap.size=b1 at HX H Z z1 S z3 z4|-;have a:=HF.out.xL;rw[G.out]at a;have HI:=qh (zj1 ⟨b1,0,none⟩ t Au cu F us w1 a (zhb b1 t w1 H S) d4.out);obtain⟨⟨c0,-⟩,-⟩:=qN HF.out.JL.P6;rw[G.out]at c0;have e1:=HF.out.JL.lt;clear a
 go_wp2_with fail
 refine HI.out.mono ?_;rintro e w2 ⟨z,rfl,hz,I⟩;have J:=qh (HB.out.trans (I.mono HB.out.size));have b7:=qh (HF.out.below I);have L:=qh ((I.block _ H).trans HX.out);have Xr:=I5 L.out;clear Z z1 S z3 z4 c0 HI I HB HF HX HA;obtain⟨⟨Z,z1,S,z3,z4⟩,-⟩:=K6 L.out;obtain⟨⟨c0,-⟩,-⟩:=qN b7.out.JL.P6;rw[G.out]at c0
 rcases hz with⟨i,f,M,h2,rfl⟩|⟨M,rfl⟩
 ·have a:=b7.out.xL
  rw[G.out]at a;obtain⟨g0,b8,An,cn,At,ct,Ab,N,rfl,e2,-,b9,-,l⟩:=a.at i f M;have f0:w2.cell? ⟨g0,b8+i*6,none⟩=some (.string f.J2):=l 0 _ rfl;have f1:=l 1 _ rfl;have f2:=l 2 _ rfl;have f3:=l 3 _ rfl;have f4:=l 4 _ rfl;have f5:=l 5 _ rfl;have k0:(0:Int)<=(i:Int):=by omega
  have k1:(i:Int)<(us.length:Int):=by have:=(List.getElem?_eq_some_iff.1 M).1;omega
  have a5:=qh h2;have c1:=d3.out f (B7 M);have e3:=c1.zm8;have c2:=qh b9;clear M h2 a l c1 b9;have O:=qh (J.out.alloc J.out.size (.cells #[.string f.J2,.slice An f.J1.length cn,.slice At f.K4.length ct,.int .i64 f.out,.slice Ab f.J0.length N,.int .i64 f.pos] 32));have y:=qh (A5 w2 (.cells #[.string f.J2,.slice An f.J1.length cn,.slice At f.K4.length ct,.int .i64 f.out,.slice Ab f.J0.length N,.int .i64 f.pos] 32));have c3:=qh ((C4 w2 (.cells #[.string f.J2,.slice An f.J1.length cn,.slice At f.K4.length ct,.int .i64 f.out,.slice Ab f.J0.length N,.int .i64 f.pos] 32) Xr).trans L.out);have c4:=qh (c2.out.K7 (F':=F) (w':=w2.alloc (.cells #[.string f.J2,.slice An f.J1.length cn,.slice At f.K4.length ct,.int .i64 f.out,.slice Ab f.J0.length N,.int .i64 f.pos] 32)) (λq M h2=>⟨M,by simp;omega,C4 w2 _ h2⟩))
  go_upto_region 24 with(fail)
  clear Z z1 S z3 z4 c0 f0 f1 f2 f3 f4 f5 L J c2 Xr;generalize w2.alloc _=w4 at O y c3 c4|-;generalize w2.heap.size=bf at y|-;obtain⟨⟨Z,z1,S,z3,z4⟩,-⟩:=K6 c3.out;obtain⟨⟨f0,f1,f2,f3,f4,f5⟩,-⟩:=M6 y.out
  by_cases m:f.K4.length=xs.length
  ·have e0:((xs.length:Int) !=(f.K4.length:Int))=false:=by simp;omega
   have d5:((f.K4.length:Int) !=(xs.length:Int))=false:=by simp;omega
   have HL:=qh m;clear m
   go_wp2_with fail
   clear Z z1 S z3 z4 f0 f1 f2 f3 f4 f5 e0 d5
   go_loopw[98] (λi wr=> ∃j:Nat,j<=xs.length/\i=.int .i64 j/\Hid (L4 us env (xs.take j) f.K4=.ok ())/\Hid (Below w4.heap.size w4 wr)) (λi _=>xs.length-(intOf i).toNat)
   case atStart=>exact⟨0,D0 _,rfl,qh (by rw[List.take_zero,L4]),qh (x8 _ _)⟩
   case round=>
    obtain⟨j,hj,rfl,HW,P⟩:=hrel;have b:=qh (O.out.trans (P.out.mono O.out.size));have a6:=qh ((P.out.block _ (I5 y.out)).trans y.out)
    by_cases d6:j<xs.length
    ·obtain⟨x,Y⟩: ∃x,xs[j]?=some x:=⟨_,x9 d6⟩
     obtain⟨ty,a7⟩: ∃ty,f.K4[j]?=some ty:=⟨_,x9 (by have:=HL.out;omega)⟩;obtain⟨g,C,o,s,rfl,-,hg,E,a0,a1,a2,a3,a4⟩:=d2.out.at j x Y;obtain⟨g3,c5,rfl,d7,c6⟩:=c4.out.at j ty a7;have b0:=(b.out.cell (p:=⟨g,C+j*5,none⟩) hg).trans a0;have b1:=(b.out.cell (p:=⟨g,C+j*5+1,none⟩) hg).trans a1;have b2:=(b.out.cell (p:=⟨g,C+j*5+2,none⟩) hg).trans a2;have b3:=(b.out.cell (p:=⟨g,C+j*5+3,none⟩) hg).trans a3;have b4:=(b.out.cell (p:=⟨g,C+j*5+4,none⟩) hg).trans a4;have Q:=qh (P.out.alloc P.out.size (.cells #[.int .i64 x.I9,.int .i64 x.n,.string x.K0,.slice o x.args.length s,.int .i64 x.pos] 186));have k:=qh (b.out.alloc b.out.size (.cells #[.int .i64 x.I9,.int .i64 x.n,.string x.K0,.slice o x.args.length s,.int .i64 x.pos] 186));have HC:=qh (CA.out ((wr.alloc (.cells #[.int .i64 x.I9,.int .i64 x.n,.string x.K0,.slice o x.args.length s,.int .i64 x.pos] 186)).drew) (k.out.trans ((M2 _).mono k.out.size)) x (B7 Y) o s E ty);have HN:=qh (A5 wr (.cells #[.int .i64 x.I9,.int .i64 x.n,.string x.K0,.slice o x.args.length s,.int .i64 x.pos] 186));have c7:=qh ((C4 wr (.cells #[.int .i64 x.I9,.int .i64 x.n,.string x.K0,.slice o x.args.length s,.int .i64 x.pos] 186) (I5 a6.out)).trans a6.out);have T:=(Q.out.cell (p:=⟨g3,c5+j,none⟩) d7).trans c6;have c8:=qh Y;have c9:=qh (zfT a7);clear a0 a1 a2 a3 a4 Y E hg a7 c6;have k0:(0:Int)<=(j:Int):=by omega
     have k1:(j:Int)<(xs.length:Int):=by omega
     have k2:(j:Int)<(f.K4.length:Int):=by have:=HL.out;omega
     go_upto_region 29 with(fail)
     clear b0 b1 b2 b3 b4;obtain⟨⟨y0,y1,y2,y3,y4⟩,-⟩:=K6 HN.out;obtain⟨⟨-,-,f2,-⟩,-⟩:=M6 c7.out;generalize wr.alloc _=wn at HC HN Q k c7 y0 y1 y2 y3 y4 f2 T|-;generalize wr.heap.size=e4 at HN y0 y1 y2 y3 y4|-;obtain⟨r,hr⟩: ∃r,N3 us env x ty=r:=⟨_,rfl⟩;have HR:=qh hr;have HD:Hid (Calls prog 167 #[.pointer (some ⟨cb,0,none⟩),.agg #[.int .i64 x.I9,.int .i64 x.n,.string x.K0,.slice o x.args.length s,.int .i64 x.pos],.int .i64 ty] wn.drew λe w'=>jI r (λ_=>.tuple #[]) e/\Below wn.drew.heap.size wn.drew w'):=qh (by rw[<-hr];exact HC.out);clear hr HC;cases r with
     |J9 q er=>
      go_region_dies
      all_goals
       go_at_call 167
       refine HD.out.mono ?_;rintro e w3 ⟨he,D⟩;have a8:=qh (k.out.trans (((M2 wn).trans (D.mono (zcm wn))).mono k.out.size));have a9:e=M0 q er:=he;subst a9;clear he D;unfold M0
       go_wp2_with fail
       refine⟨rfl,?_,a8.out⟩;rw[za7 a5.out HL.out,za5 c8.out HW.out (by rw[c9.out];exact HR.out)];rfl
     |ok u=>
      go_region_law(first|(go_simp;go_at_call 167;refine HD.out.mono ?_;rintro e w3 ⟨he,D⟩;have a9:e=.returned (.tuple #[]):=he;subst a9;clear he))
      all_goals
       have a8:=qh (Q.out.trans (((M2 wn).trans (D.mono (zcm wn))).mono Q.out.size));clear D y0 y1 y2 y3 y4 f2 T
       go_wp2_with fail
       go_roundw
       case rel=>exact⟨j+1,by omega,by go_num,qh (XY c8.out HW.out (by rw[c9.out];exact HR.out)),a8⟩
       case measure=>simp[intOf];omega
    ·obtain rfl:j=xs.length:=by omega
     obtain⟨⟨-,-,-,f3,-⟩,-⟩:=M6 a6.out
     go_wp2_with fail
     go_ret;refine⟨?_,b.out⟩;have:=HW.out;rw[F5]at this;rw[za7 a5.out HL.out,this];rfl
  ·have e0:((xs.length:Int) !=(f.K4.length:Int))=true:=by simp;omega
   have HL:=qh m;clear m
   go_wp2_with fail
   refine⟨rfl,?_,O.out⟩;rw[zf4 a5.out HL.out];rfl
 ·have HN:=qh M
  clear M
  go_wp2_with fail
  refine⟨rfl,?_,J.out⟩;rw[zfE HN.out];rfl
end Go.Proofs.YtmngofgminlloaaGreatDoor
