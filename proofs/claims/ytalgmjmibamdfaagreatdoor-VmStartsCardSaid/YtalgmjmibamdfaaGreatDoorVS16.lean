/- Merged. -/
import Derived.Test.YtalgmjmibamdfaaGreatDoorVS15b
import Derived.Lib.ItoaLen
set_option linter.all false
set_option maxHeartbeats 16000000
set_option maxRecDepth 100000
namespace Go.Proofs.YtalgmjmibamdfaaGreatDoor
open Go.Proofs.Tryz
open Go.RowKit Tw
section
variable {P L:List Cf}{hf:T0}{M:Mc}{n fuel main:Nat}
theorem xa(h:M.mode≠0):L5 P hf fuel M=(M,2)/\qO P hf fuel M=[]:=by
 cases fuel<;>(unfold L5 qO;rw[C5 h,C5 h];exact⟨rfl,rfl⟩)
theorem xi(h:M.mode=0):L5 P hf 0 M=(M,3)/\qO P hf 0 M=[]:=by
 unfold L5 qO;rw[z7 (by omega),z7 (by omega)];exact⟨rfl,rfl⟩
theorem jZ{v:Int}{fs:List Fq}{f:Fq}:L5 P hf (n+1) ⟨0,v,fs++[f]⟩=(if(Q1 P hf v fs f).2 then((Q1 P hf v fs f).1,1)else L5 P hf n (Q1 P hf v fs f).1)/\qO P hf (n+1) ⟨0,v,fs++[f]⟩=Y0 P f++(if(Q1 P hf v fs f).2 then[]else qO P hf n (Q1 P hf v fs f).1):=by
 refine⟨?_,?_⟩
 ·conv=>lhs;unfold L5
  simp
 ·conv=>lhs;unfold qO
  simp
theorem ZV{l:List Fm}{fs:List Fq}{f:Fq}(h:l.map Prod.fst=fs++[f]): ∃low v s,l=low++[(f,v,s)]/\low.map Prod.fst=fs:=by
 rcases List.eq_nil_or_concat l with rfl|⟨low,x,e⟩
 ·have:=G4 List.length h;simp at this
 ·rw[List.concat_eq_append]at e
  subst e;rw[List.map_append,List.map_singleton]at h;obtain⟨b,a⟩:=List.append_inj' h rfl;injection a with a
  obtain⟨c,v,s⟩:=x;exact⟨low,v,s,by rw[<-a],b⟩
theorem qp.sml(a:Z3 L main)(h:qp L main M){l:List Fm}(e:l.map Prod.fst=M.O2):Qd l:=by
 have b:=h.xx a;refine⟨by have:=G4 List.length e;rw[C0]at this;omega,λx c=>b.2 _ (by rw[<-e];exact G1 c)⟩
theorem zaO.zhT(d:Z3 L main)(e: ∀c∈L,c.I9.length<=4000){fs:List Fq}{f:Fq}(h:zaO L main fs f): ∀y∈fs++[f],y.I1.length<=600/\y.pc<=4000:=λy g=>by
 obtain⟨i,b⟩:=List.mem_iff_getElem?.1 g;obtain⟨c,o,n,a⟩:=h.XY.2 i y b;have j:=(List.getElem?_eq_some_iff.1 a.op).1;have k:=e c (B0 a.fn);exact⟨(a.xx d (List.getElem?_eq_some_iff.1 b).1).2.1,by omega⟩
end
def zg7(L:List Cf)(Z B:Nat)(hf:T0)(I:World->List (Int×List Int)->Prop)(t:List (Int×List Int))(fuel:Nat)(M:Mc)(w:World)(e:Ending)(w':World):Prop:=
 ∃a b,e=.returned (.tuple #[.slice a (K9 (L5 L hf fuel M).1).length b,.int .i64 (L5 L hf fuel M).2,.int .i64 0])/\w'.ownsRow w.heap.size 3 1 (.slice a (K9 (L5 L hf fuel M).1).length b) (K9 (L5 L hf fuel M).1).length (iC (K9 (L5 L hf fuel M).1))/\Qh Z B w w'/\I w' (t++qO L hf fuel M)
theorem zcV(L:List Cf)(main:Nat)(hP:Z3 L main)(a0:L.length<=16)(h4: ∀c∈L,c.I9.length<=4000)(A:Option Addr)(cp:Nat){Z B g:Nat}{lb:Array Value}{hf:T0}{I:World->List (Int×List Int)->Prop}(HH:zD Z B g lb hf I)(w:World)(hB:B<=w.heap.size)(hF:L4 w (.slice A L.length cp) (L.map Cf.pf)){M:Mc}(hM:qp L main M){Al:Option Addr}{cl:Nat}(hl:qG w Al cl (K9 M))(fuel:Nat)(c8:fuel<=1000000){t:List (Int×List Int)}(hI:I w t):
 Calls prog 24 #[.agg #[.slice A L.length cp,.int .i64 main],.slice Al (K9 M).length cl,.int .i64 fuel,.func (.func g) #[] lb] w (zg7 L Z B hf I t fuel M w):=by
 have D:=(x7 w.heap.size w).alloc (x6 _) (.cells #[.slice A L.length cp,.int .i64 main] 26);have u:=zh (x9 w (.cells #[.slice A L.length cp,.int .i64 main] 26));have X:=zh (hF.I5 (.of D));have c9:=zh hF;have HL:=zh hl;have E:=zh hM;have x:=zh D;have F:=zh hI;have b:=zh HH;have G:=zh hB;have H:=zh hP;have H4:=zh h4;have f0: ¬((fuel:Int)<0):=by omega
 have f1: ¬((1000000:Int)<(fuel:Int)):=by omega
 clear D hF hP h4 hl hM hI HH hB
 go_enter func24,ntmps24
 go_upto_region 1 with(fail)
 generalize World.alloc _ _=w1 at u x X|-
 generalize a1:w.heap.size=bp at u x G|-
 have J:=zh a1;clear a1;have K:=x5 u.out 0;have N:=x5 u.out 1;have HC:=zh (ZN L main H.out a0 H4.out A cp w1 X.out)
 go_wp2_with fail
 refine HC.out.mono ?_;rintro e w2 ⟨hb,v,xm,rfl,a2,a3⟩;have j:=I0 u.out;replace u:=zh ((hb.block bp j).trans u.out);replace X:=zh (X.out.I5 (.of hb));replace x:Hid (Below bp w w2):=zh (x.out.trans (hb.mono (G3 j)));have RC:=zh (zbz L main H.out H4.out A cp w2 X.out a2 a3 E.out (HL.out.low (by rw[J.out];exact x.out)));clear hb K N HC j a2 a3;have K:=x5 u.out 0;have N:=x5 u.out 1
 go_wp2_with fail
 refine RC.out.mono ?_;rintro e w3 ⟨a4,mb,A',c',Y,rfl,a5,a6⟩;have a7:Hid (Below w.heap.size w w3):=zh (by
  have hs:=x.out.size;rw[J.out]at hs|-
  exact x.out.trans (a4.mono hs))
 have a8:Hid (B<=w.heap.size):=zh (by rw[J.out];exact G.out);have a:Hid (Z8 w3 B mb A L.length cp main M.mode M.value A' c' Y):=zh (a5.mono (by have:=x.out.size;have:=a8.out;omega));have h:=zh a6;have O:=zh (Vo.of a7.out a8.out);have a9:=zh (b.out.I5 F.out O.out);have b0:=zh (O.out.qh b.out.le);clear a4 RC K N a5 a6 u X x G F O a7 HL
 go_wp2_with fail
 clear f0 f1
 go_loopw[2] (λfv wr=> ∃(k:Nat)(M':Mc)(t':List (Int×List Int))(A':Option Addr)(c':Nat)(Y:List Fm),fv=.int .i64 k/\k<=1000000/\Hid (Z8 wr B mb A L.length cp main M'.mode M'.value A' c' Y)/\Hid (Y.map Prod.fst=M'.O2)/\Hid (qp L main M')/\Hid (L5 L hf k M'=L5 L hf fuel M)/\Hid (t'++qO L hf k M'=t++qO L hf fuel M)/\Hid (I wr t')/\Hid (Qh Z B w wr)) (λfv _=>(intOf fv).toNat)
 case atStart=>exact⟨fuel,M,t,A',c',Y,rfl,c8,a,h,E,zh rfl,zh rfl,a9,b0⟩
 case round=>
  clear a h E a9 b0;obtain⟨k,⟨l,d,d0⟩,t',A',c',Y,rfl,hk,a,h,E,HR,HT,F,Q⟩:=hrel;simp only at a h;obtain⟨⟨K,N,c2,c3,c4⟩,-,-,-⟩:=Z4 a.out;have R:=zh (JS a.out (E.out.sml H.out h.out));rw[h.out]at R
  by_cases hm:l=0
  ·subst hm
   rcases E.out with⟨-,fs,f,b1,hG⟩|⟨h0,-⟩|⟨h0,-⟩
   case inr.inl=>cases h0
   case inr.inr=>cases h0
   simp only at b1;subst b1;have HG:=zh hG;clear hG;cases k with
   |zero=>
    have m:Hid (L5 L hf fuel M=(⟨0,d,fs++[f]⟩,3)):=zh (HR.out.symm.trans (xi rfl).1);have S:Hid (t++qO L hf fuel M=t'):=zh (by rw[<-HT.out,(xi rfl).2,List.append_nil])
    go_wp2_with fail
    refine R.out.mono ?_;rintro e w5 ⟨o,A5,c5,rfl,C⟩;have HO:=zh C;have p:=zh (Vo.of o (B5 a.out.lo (G3 (I0 a.out.J7))));clear C o K N c2 c3 c4
    go_wp2_with fail
    go_ret3
    refine⟨A5,c5,by rw[m.out];rfl,?_,Q.out.trans (p.out.qh b.out.le),by rw[S.out];exact b.out.I5 F.out p.out⟩;rw[m.out];exact HO.out.mono Q.out.size
   |succ n=>
    obtain⟨d1,v,s,rfl,d2⟩:=ZV h.out;subst d2;obtain⟨⟨M5,b5⟩,hr⟩: ∃r,Q1 L hf d (d1.map Prod.fst) f=r:=⟨_,rfl⟩;have b2:=zh hr;have SC:=zh (zfU H.out a0 b.out a.out (c9.out.I5 Q.out.q) F.out HG.out.2.1 (by have:=HG.out.2.2;simpa using this) (λy hy=>HG.out.zhT H.out H4.out _ (List.mem_append_left _ (G1 hy))) H4.out);have b3:Hid (qp L main M5):=zh (by have:=Qb H.out hf d HG.out;rw[hr]at this;exact this);have T:Hid (L5 L hf fuel M=if b5 then(M5,1)else L5 L hf n M5):=zh (by rw[<-HR.out,jZ.1,hr]);have b4:Hid (t++qO L hf fuel M=t'++Y0 L f++if b5 then[]else qO L hf n M5):=zh (by rw[<-HT.out,jZ.2,hr,B2]);have e0:(((n+1:Nat):Int)==0)=false:=beq_eq_false_iff_ne.2 (by omega);have e1:IntKind.i64.wrap (((n+1:Nat):Int)-1)=(n:Int):=by rw[show((n+1:Nat):Int)-1=n by omega];exact IntWalk.i64_in _ (by omega)
    clear hr R HR HT HG E
    go_upto_region 13 with(fail)
    clear K N c2 c3 c4 e0 e1
    go_wp2_with fail
    refine SC.out.mono ?_;rintro e w5 ⟨he,i,b6,b7⟩;rw[b2.out]at he i;obtain⟨A5,c5,l5,i,U⟩:=i;simp only at he i U;subst he;have z:=zh i;have V:=zh U;have b8:=zh b7;have W:=zh (Q.out.trans b6);clear i U b7 b6 SC a F Q h b2;cases b5 with
    |true=>
     have R:=zh (JS z.out (b3.out.sml H.out V.out));rw[V.out]at R
     go_wp2_with fail
     refine R.out.mono ?_;rintro e w6 ⟨b9,A6,c6,rfl,C⟩;have HO:=zh C;have c7:=zh (Vo.of b9 (B5 z.out.lo (G3 (I0 z.out.J7))));clear C b9
     go_wp2_with fail
     go_ret3
     refine⟨A6,c6,by rw[T.out];rfl,?_,W.out.trans (c7.out.qh b.out.le),by have e:=b4.out;simp only[if_true,List.append_nil]at e;rw[e];exact b.out.I5 b8.out c7.out⟩;rw[T.out];exact HO.out.mono W.out.size
    |false=>
     go_wp2_with fail
     go_roundw
     case rel=>exact⟨n,M5,_,A5,c5,l5,rfl,by omega,z,V,b3,zh T.out.symm,zh b4.out.symm,b8,W⟩
     case measure=>simp[intOf]
  ·have e0:(l==0)=false:=beq_eq_false_iff_ne.2 hm
   have m:Hid (L5 L hf fuel M=(⟨l,d,d0⟩,2)):=zh (HR.out.symm.trans (xa hm).1);have S:Hid (t++qO L hf fuel M=t'):=zh (by rw[<-HT.out,(xa hm).2,List.append_nil]);clear hm
   go_wp2_with fail
   refine R.out.mono ?_;rintro e w5 ⟨o,A5,c5,rfl,C⟩;have HO:=zh C;have p:=zh (Vo.of o (B5 a.out.lo (G3 (I0 a.out.J7))));clear C o K N c2 c3 c4
   go_wp2_with fail
   go_ret3
   refine⟨A5,c5,by rw[m.out];rfl,?_,Q.out.trans (p.out.qh b.out.le),by rw[S.out];exact b.out.I5 F.out p.out⟩;rw[m.out];exact HO.out.mono Q.out.size
theorem XF(w:World)(n:Nat):Below w.heap.size w (w.drewN n):=J1 (x7 _ _) _
theorem Js(l:List Int)(A A':Option Addr)(c c':Nat)(F F':Nat->Prop)(w:World)(h:J8 w F (.slice A l.length c) l)(i:J8 w F' (.slice A' l.length c') l)(t:l.length<=281474976710656):
 Calls prog 12 #[.slice A l.length c,.slice A' l.length c'] w λe w'=>e=.returned (.bool true)/\Below w.heap.size w w':=by
 by_cases k:l=[]
 ·subst k
  refine(Tryz.slices_Equal_int_empty A A' c 0 c' w (by decide)).mono ?_;rintro e w' ⟨rfl,rfl⟩;exact⟨rfl,x7 _ _⟩
 ·have m:0<l.length:=List.length_pos_iff.2 k
  obtain⟨g,b,rfl,-,-⟩:=h.at 0 _ (x8 m);obtain⟨p,a,rfl,-,-⟩:=i.at 0 _ (x8 m);have r: ∀j,j<l.length->w.cell? ⟨g,b+j,none⟩=some (.int .i64 (l.getD j 0)):=by
   intro j d;obtain⟨q,o,e,-,f⟩:=h.at j _ (x8 d);cases e;rw[f];simp[List.getD_eq_getElem?_getD,x8 d]
  have s: ∀j,j<l.length->w.cell? ⟨p,a+j,none⟩=some (.int .i64 (l.getD j 0)):=by
   intro j d;obtain⟨q,o,e,-,f⟩:=i.at j _ (x8 d);cases e;rw[f];simp[List.getD_eq_getElem?_getD,x8 d]
  refine(Tryz.slices_Equal_int g b l.length c p a l.length c' l l w (x6 _) (x6 _) (by omega) (by omega) r s).mono ?_;rintro e w' ⟨rfl,n,rfl⟩;exact⟨by simp,XF w n⟩
theorem Qh.below{w w':World}(h:Qh w.heap.size w.heap.size w w'):Below w.heap.size w w':=⟨h.os,h.tape,h.output,h.size,h.low⟩
theorem yb{w:World}{base c:Nat}{A:Option Addr}{l:List Int}(h:w.ownsRow base 3 1 (.slice A l.length c) l.length (iC l)):qG w A c l:=⟨S6 h λ_ _=>trivial,(O3 h).1⟩
def Y6:List Cf:=[⟨0,0,[((1,7),0),((18,0),1)]⟩]
theorem Zk:Z3 Y6 0:=by
 refine⟨λc b=>?_,⟨_,rfl,rfl⟩⟩;obtain rfl:=List.mem_singleton.1 b;refine⟨by decide,by decide,⟨_,rfl⟩,λk _ d=>?_⟩
 match k,d with
 |0,_=>exact⟨_,_,rfl,⟨by decide,by decide,λh=>G5 rfl h,λh=>by cases h⟩,by decide,by decide,λj a=>by
  obtain rfl:j=1:=by simpa[K2]using a
  exact⟨_,rfl⟩⟩
 |1,_=>exact⟨_,_,rfl,⟨by decide,by decide,λ_=>by decide,λh=>by cases h⟩,by decide,by decide,λj a=>by simp[K2]at a⟩
 |n+2,h=>simp at h;omega
theorem zaL(hf:T0):L5 Y6 hf 10 (P1 Y6 0)=(⟨1,7,[]⟩,2):=by rfl
theorem zgg(B:Nat):zD B B 25 #[] (λ_ _=>(0,0)) (λ_ _=>True)where
 le:=x6 _
 I5:=λ_ _=>trivial
 call:=λf b A c w t _ _ _ _ _=>by
  have h:Calls prog 25 #[.int .i64 f,.slice A b.length c] w λe a=>e=.returned (.tuple #[.int .i64 0,.int .i64 0])/\a=w:=by
   go_enter func25,ntmps25
   go_wp2_with fail
   go_ret2;exact⟨rfl,rfl⟩
  exact h.mono λe a ⟨d,g⟩=>⟨d,trivial,by subst g;exact⟨rfl,rfl,rfl,λ_ _=>rfl,x6 _,λ_ _ _ _ _ _=>rfl⟩⟩
 eg:=λargs w=>by
  have i:=func25;unfold callFunc;simp[i];rfl
theorem zal(w:World):Calls prog 5 #[] w λe w'=>e=.returned (.bool true)/\Below w.heap.size w w':=by
 have H:=(x7 w.heap.size w).alloc (x6 _) (.cells #[.int .i64 1,.int .i64 7,.int .i64 18,.int .i64 0] 74);have I:=H.alloc H.size (.cells #[.int .i64 0,.int .i64 0,.slice (some ⟨w.heap.size,0,none⟩) 2 2] 40);have S:=I.alloc I.size (.cells #[.slice (some ⟨w.heap.size+1,0,none⟩) 1 1,.int .i64 0] 26);have hX: ∃x a bp W,x=w.heap.size/\a=w.heap.size+1/\bp=w.heap.size+2/\W=((w.alloc (.cells #[.int .i64 1,.int .i64 7,.int .i64 18,.int .i64 0] 74)).alloc (.cells #[.int .i64 0,.int .i64 0,.slice (some ⟨w.heap.size,0,none⟩) 2 2] 40)).alloc (.cells #[.slice (some ⟨w.heap.size+1,0,none⟩) 1 1,.int .i64 0] 26)/\W.heap[x]?=some (.cells #[.int .i64 1,.int .i64 7,.int .i64 18,.int .i64 0] 74 (0,0))/\W.heap[a]?=some (.cells #[.int .i64 0,.int .i64 0,.slice (some ⟨x,0,none⟩) 2 2] 40 (0,0))/\W.heap[bp]?=some (.cells #[.slice (some ⟨a,0,none⟩) 1 1,.int .i64 0] 26 (0,0)):=by
  refine⟨_,_,_,_,rfl,rfl,rfl,rfl,?_,?_,?_⟩
  ·rw[B8 _ _ (by simp;omega),B8 _ _ (by simp)];exact x9 _ _
  ·rw[B8 _ _ (by simp)]
   have:=x9 (w.alloc (.cells #[.int .i64 1,.int .i64 7,.int .i64 18,.int .i64 0] 74)) (.cells #[.int .i64 0,.int .i64 0,.slice (some ⟨w.heap.size,0,none⟩) 2 2] 40);simpa using this
  ·have:=x9 ((w.alloc (.cells #[.int .i64 1,.int .i64 7,.int .i64 18,.int .i64 0] 74)).alloc (.cells #[.int .i64 0,.int .i64 0,.slice (some ⟨w.heap.size,0,none⟩) 2 2] 40)) (.cells #[.slice (some ⟨w.heap.size+1,0,none⟩) 1 1,.int .i64 0] 26)
   simpa using this
 obtain⟨x,a,bp,i,j,F,h3,J,u,y,T⟩:=hX;have K:Hid (L4 i (.slice (some ⟨a,0,none⟩) Y6.length 1) (Y6.map Cf.pf)):=zh (.inr ⟨a,1,_,_,rfl,x6 _,y,λk f r=>by
  match k,r with
  |0,r=>
   injection r with r
   subst r;refine⟨_,x5 y 0,x5 y 1,x5 y 2,x,2,_,_,rfl,x6 _,u,λq o b=>?_⟩
   match q,b with
   |0,b=>injection b with b;subst b;exact⟨x5 u 0,x5 u 1⟩
   |1,b=>injection b with b;subst b;exact⟨x5 u 2,x5 u 3⟩
   |n+2,b=>simp[Y6,Cf.pf]at b
  |n+1,r=>simp[Y6]at r⟩)
 have U:Hid (Below w.heap.size w i):=zh (by rw[J];exact S);have s:=zh T;have V:Hid (∀W,Below i.heap.size i W->L4 W (.slice (some ⟨a,0,none⟩) Y6.length 1) (Y6.map Cf.pf)):=zh (λW hW=>K.out.I5 (.of hW));clear H I S u y T
 go_enter func5,ntmps5
 go_upto_region 2 with(fail)
 have z:a+1=bp:=by omega
 rw[<-J];simp only[<-F,z];clear j F h3 J z;have L:i.cell? ⟨bp,0,none⟩=some (.slice (some ⟨a,0,none⟩) 1 1):=x5 s.out 0;have M:i.cell? ⟨bp,1,none⟩=some (.int .i64 0):=x5 s.out 1;have G:=I0 s.out;refine P5 (D:=Value×Value×World) (by kernel_rfl) [(0,12),(1,13),(2,14),(3,15),(4,11),(5,16),(6,17),(7,18),(8,2),(9,3),(10,4)] [2,3] [[],[2],[2,3]] (λ_ d=>[(0,12,.agg #[.slice (some ⟨a,0,none⟩) 1 1,.int .i64 0]),(1,13,.agg #[.slice (some ⟨a,0,none⟩) 1 1,.int .i64 0]),(2,14,d.1),(3,15,.tuple #[d.2.1,.int .i64 2,.int .i64 0]),(4,11,.tuple #[d.2.1,.int .i64 2,.int .i64 0]),(5,16,d.2.1),(6,17,.int .i64 2),(7,18,.int .i64 0),(8,2,d.2.1),(9,3,.int .i64 2),(10,4,.int .i64 0)]) (λ_ d=>d.2.2) (λj' d=>Below i.heap.size i d.2.2/\match j' with|0=>True|1=> ∃A c,d.1=.slice A (K9 (P1 Y6 0)).length c/\qG d.2.2 A c (K9 (P1 Y6 0))|_=> ∃A c,d.2.1=.slice A 3 c/\J8 d.2.2 (λ_=>True) (.slice A 3 c) [1,7,0]) [(0,0),(0,1),(1,0),(2,0),(3,1),(4,2),(5,2),(6,2),(7,2),(8,2),(9,2),(10,2)] (by kernel_rfl) (by kernel_rfl) (λ_ _=>rfl) (by rfl) (undef,undef,i.drew) rfl ⟨I8 i,trivial⟩ rfl ?_ ?_
 ·repeat' (first|refine List.forall_mem_cons.2 ⟨?_,?_⟩|exact List.forall_mem_nil _)
  all_goals
   intro o' m;injection m with m
   subst m;rintro⟨sv,X,W⟩ ⟨g,v⟩;simp only at g v
  rotate_left 3
  ·refine .call 10 #[.agg #[.slice (some ⟨a,0,none⟩) 1 1,.int .i64 0]] (by simp[J2,execOp,go_sem]) ((zay Y6 0 Zk (by decide) (by decide) (some ⟨a,0,none⟩) 1 W (V.out W g)).mono ?_)
   rintro e N ⟨O,A,c,rfl,m⟩;exact⟨_,1,(.slice A (K9 (P1 Y6 0)).length c,X,N),rfl,.of (by decide) ⟨g.trans (O.mono g.size),A,c,rfl,yb m⟩ rfl rfl,rfl,rfl⟩
  ·obtain⟨A,c,j,hs⟩:=v
   subst j;refine .call 24 #[.agg #[.slice (some ⟨a,0,none⟩) 1 1,.int .i64 0],.slice A (K9 (P1 Y6 0)).length c,.int .i64 10,.func (.func 25) #[] #[]] (by simp[J2,execOp,go_sem]) ((zcV Y6 0 Zk (by decide) (by decide) (some ⟨a,0,none⟩) 1 (zgg W.heap.size) W (x6 _) (V.out W g) (Xd Zk).1 hs 10 (by decide) (t:=[]) trivial).mono ?_);rintro e N ⟨Y,Z,rfl,m,b,-⟩;rw[zaL]at m|-
   refine⟨_,2,(.slice A (K9 (P1 Y6 0)).length c,.slice Y 3 Z,N),rfl,⟨by decide,⟨g.trans (b.below.mono g.size),Y,Z,rfl,S6 m λ_ _=>trivial⟩,rfl,λe he j F=>?_⟩,rfl,rfl⟩;simp only[D9,List.mem_nil_iff,or_false]at he|-
   rcases he with rfl|rfl|rfl|rfl|rfl|rfl|rfl|rfl|rfl|rfl|rfl
   all_goals first|(simp;done)|exact G5 rfl j|exact G5 (F.symm.trans (by kernel_rfl:_=true)) (by decide)
  all_goals exact .jd rfl (by simp[J2,Y7,execOp,go_sem,L,M,G,(g.cell (p:=⟨bp,0,none⟩) G).trans L,(g.cell (p:=⟨bp,1,none⟩) G).trans M])
 ·rintro jj ⟨sv,X,W⟩ ⟨g,v⟩ hd
  have hj:=hd 3 (by decide) (by decide)
  match jj,v,hj with
  |0,_,h=>cases h
  |1,_,h=>cases h
  |2,v,_=>
   obtain⟨A,c,j,P⟩:=v;simp only at j g P;subst j;have B:=zh (U.out.trans (g.mono U.out.size));have HI:=zh P;clear hd g P L M G;simp only[J2,z9,B4,List.append_nil,List.foldl];go_simp;have Q:=(x7 W.heap.size W).alloc (x6 _) (.cells #[.int .i64 1,.int .i64 7,.int .i64 0] 3);have HE:=zh (Js [1,7,0] A (some ⟨W.heap.size,0,none⟩) c 3 (λ_=>True) (λ_=>True) (W.alloc (.cells #[.int .i64 1,.int .i64 7,.int .i64 0] 3)) (HI.out.low Q) (R9 (l:=[1,7,0]) (x9 W _) trivial) (by decide));have C:=zh (B.out.trans (Q.mono B.out.size));clear Q
   go_wp2_with fail
   refine HE.out.mono ?_;rintro e w4 ⟨rfl,E⟩;have R:=zh (C.out.trans (E.mono C.out.size));clear E HE
   go_wp2_with fail
   go_ret;exact⟨rfl,R.out⟩
  |n+3,_,h=>cases h
end Go.Proofs.YtalgmjmibamdfaaGreatDoor
namespace Go.Proofs.YtalgmjmibamdfaaGreatDoor
open Go.RowKit Tw
inductive GE where
 |yE (s:ByteArray)|lit (n:Nat)|neg (x:GE)|call (f:Nat) (x y:GE)|host (k:Nat) (x:GE)|Qg (o:Nat) (x y:GE)
 |not (x:GE)|and (x y:GE)|or (x y:GE)|tf (k:Nat)|XU (o:Nat) (x y:GE)
inductive GL where
 |nil|set (s:ByteArray) (x:GE) (r:GL)|qH (x:GE) (r:GL)|Qc (c:GE) (a b r:GL)|qv (i n:Nat) (l r:GL)|run (x:GE) (r:GL)|ret (x:GE) (r:GL)|bind (i:Nat) (x:GE) (r:GL)
def jo(n:Nat):ByteArray:=⟨(Lib.itoa (n:Int)).toArray⟩
def yv(o:Nat):ByteArray:=match o with|0=>⟨#[43]⟩|1=>⟨#[45]⟩|2=>⟨#[42]⟩|3=>⟨#[47]⟩|_=>⟨#[37]⟩
def Zr(o:Nat):ByteArray:=match o with|0=>⟨#[32,60,32]⟩|1=>⟨#[32,60,61,32]⟩|2=>⟨#[32,62,32]⟩|3=>⟨#[32,62,61,32]⟩|4=>⟨#[32,61,61,32]⟩|_=>⟨#[32,33,61,32]⟩
def tfT(k:Nat):ByteArray:=match k with|0=>⟨#[116,114,117,101]⟩|_=>⟨#[102,97,108,115,101]⟩
def vT(m:Nat):ByteArray:=⟨#[118]⟩++jo m
def iT(m:Nat):ByteArray:=⟨#[105]⟩++jo m
def GE.O4:GE->ByteArray
 |.yE s=>s
 |.lit n=>jo n
 |.neg x=>⟨#[45,40]⟩++x.O4++⟨#[41]⟩
 |.call f x y=>⟨#[102]⟩++jo f++⟨#[40]⟩++x.O4++⟨#[44,32]⟩++y.O4++⟨#[41]⟩
 |.host k x=>⟨#[64]⟩++jo k++⟨#[40]⟩++x.O4++⟨#[41]⟩
 |.Qg o x y=>⟨#[40]⟩++x.O4++⟨#[32]⟩++yv o++⟨#[32]⟩++y.O4++⟨#[41]⟩
 |.not x=>⟨#[33,40]⟩++x.O4++⟨#[41]⟩
 |.and x y=>⟨#[40]⟩++x.O4++⟨#[32,38,38,32]⟩++y.O4++⟨#[41]⟩
 |.or x y=>⟨#[40]⟩++x.O4++⟨#[32,124,124,32]⟩++y.O4++⟨#[41]⟩
 |.tf k=>tfT k
 |.XU o x y=>x.O4++Zr o++y.O4
def GL.O4:GL->ByteArray
 |.nil=>⟨#[]⟩
 |.set s x r=>(s++⟨#[32,61,32]⟩++x.O4++⟨#[59,32]⟩)++r.O4
 |.qH x r=>(⟨#[121,105,101,108,100,32]⟩++x.O4++⟨#[59,32]⟩)++r.O4
 |.Qc c a b r=>(⟨#[105,102,32]⟩++c.O4++⟨#[32,123,32]⟩++a.O4++⟨#[125,32,101,108,115,101,32,123,32]⟩++b.O4++⟨#[125,32]⟩)++r.O4
 |.qv i n l r=>(⟨#[108,101,116,32]⟩++iT i++⟨#[32,61,32,48,59,32,119,104,105,108,101,32]⟩++iT i++⟨#[32,60,32]⟩++jo n++⟨#[32,123,32]⟩++l.O4++iT i++⟨#[32,61,32]⟩++iT i++⟨#[32,43,32,49,59,32,125,32]⟩)++r.O4
 |.run x r=>(x.O4++⟨#[59,32]⟩)++r.O4
 |.ret x r=>(⟨#[114,101,116,117,114,110,32]⟩++x.O4++⟨#[59,32]⟩)++r.O4
 |.bind i x r=>(⟨#[108,101,116,32]⟩++vT i++⟨#[32,61,32]⟩++x.O4++⟨#[59,32]⟩)++r.O4
def GL.U7:GL->GL->GL
 |.nil,b=>b
 |.set s x r,b=>.set s x (r.U7 b)
 |.qH x r,b=>.qH x (r.U7 b)
 |.Qc c a d r,b=>.Qc c a d (r.U7 b)
 |.qv i n l r,b=>.qv i n l (r.U7 b)
 |.run x r,b=>.run x (r.U7 b)
 |.ret x r,b=>.ret x (r.U7 b)
 |.bind i x r,b=>.bind i x (r.U7 b)
theorem Xf(b:ByteArray):(⟨#[]⟩:ByteArray)++b=b:=by
 apply ByteArray.ext;simp[ByteArray.data_append]
theorem zV(b:ByteArray):b++(⟨#[]⟩:ByteArray)=b:=by
 apply ByteArray.ext;simp[ByteArray.data_append]
theorem GL.JW(a b:GL):(a.U7 b).O4=a.O4++b.O4:=by
 induction a with
 |nil=>simp only[GL.U7,GL.O4,Xf]
 |_=>simp only[GL.U7,GL.O4,ByteArray.append_assoc, *]
def Nx(N n i k a:Nat):Prop:=k<n/\((i<N/\a=i+1)\/(i=N/\a=N/\k=0))
inductive ze(N:Nat)(ns:List ByteArray)(low:Nat):Nat->Nat->GE->Nat->Prop
 |yE {d i i1 i2 k j:Nat} {s:ByteArray}:Nx N 9 i k i1->Nx N ns.length i1 j i2->ns[j]?=some s->ze N ns low d i (.yE s) i2
 |lit {d i i1 i2 k n:Nat}:Nx N 9 i k i1->Nx N 20 i1 n i2->ze N ns low d i (.lit n) i2
 |neg {d i i2:Nat} {x:GE}:i<N->ze N ns low d (i+1) x i2->ze N ns low (d+1) i (.neg x) i2
 |call {d i i2 i3 i4 f:Nat} {x y:GE}:i<N->Nx N low (i+1) f i2->ze N ns low d i2 x i3->ze N ns low d i3 y i4->ze N ns low (d+1) i (.call f x y) i4
 |host {d i i2 i3 k:Nat} {x:GE}:i<N->Nx N 4 (i+1) k i2->ze N ns low d i2 x i3->ze N ns low (d+1) i (.host k x) i3
 |Qg {d i i2 i3 i4 o:Nat} {x y:GE}:i<N->ze N ns low d (i+1) x i2->Nx N 5 i2 o i3->ze N ns low d i3 y i4->ze N ns low (d+1) i (.Qg o x y) i4
inductive zm(N:Nat)(ns:List ByteArray)(low:Nat):Nat->Nat->GE->Nat->Prop
 |not {d i i1 i2 k:Nat} {x:GE}:Nx N 6 i k i1->zm N ns low d i1 x i2->zm N ns low (d+1) i (.not x) i2
 |and {d i i2 i3:Nat} {x y:GE}:i<N->zm N ns low d (i+1) x i2->zm N ns low d i2 y i3->zm N ns low (d+1) i (.and x y) i3
 |or {d i i2 i3:Nat} {x y:GE}:i<N->zm N ns low d (i+1) x i2->zm N ns low d i2 y i3->zm N ns low (d+1) i (.or x y) i3
 |tf {d i i2 k:Nat}:i<N->Nx N 2 (i+1) k i2->zm N ns low d i (.tf k) i2
 |XU {d i i1 i2 i3 i4 k o:Nat} {x y:GE}:Nx N 6 i k i1->ze N ns low 1 i1 x i2->Nx N 6 i2 o i3->ze N ns low 1 i3 y i4->zm N ns low d i (.XU o x y) i4
structure Ms where
 ns:List ByteArray
 m:Nat
 i:Nat
inductive xR(N low:Nat)(B:Ms->GL->Ms->Prop):Ms->GL->Ms->Prop
 |set {ns:List ByteArray} {m i i1 i2 i3 j:Nat} {s:ByteArray} {x:GE}:Nx N 8 i 0 i1->Nx N ns.length i1 j i2->ns[j]?=some s->ze N ns low 2 i2 x i3->xR N low B ⟨ns,m,i⟩ (.set s x .nil) ⟨ns,m,i3⟩
 |qH {ns:List ByteArray} {m i i2:Nat} {x:GE}:i<N->ze N ns low 2 (i+1) x i2->xR N low B ⟨ns,m,i⟩ (.qH x .nil) ⟨ns,m,i2⟩
 |Qc {ns:List ByteArray} {m i i2:Nat} {c:GE} {a b:GL} {s1 s2:Ms}:i<N->zm N ns low 2 (i+1) c i2->B ⟨ns,m,i2⟩ a s1->B s1 b s2->xR N low B ⟨ns,m,i⟩ (.Qc c a b .nil) s2
 |qv {ns:List ByteArray} {m i i2 n:Nat} {l:GL} {s2:Ms}:i<N->Nx N 4 (i+1) n i2->B ⟨ns,m+1,i2⟩ l s2->xR N low B ⟨ns,m,i⟩ (.qv (m+1) n l .nil) s2
 |run {ns:List ByteArray} {m i i2:Nat} {x:GE}:i<N->ze N ns low 2 (i+1) x i2->xR N low B ⟨ns,m,i⟩ (.run x .nil) ⟨ns,m,i2⟩
 |ret {ns:List ByteArray} {m i i2 i3 k:Nat} {x:GE}:i<N->Nx N 8 (i+1) k i2->ze N ns low 1 i2 x i3->xR N low B ⟨ns,m,i⟩ (.ret x .nil) ⟨ns,m,i3⟩
 |bind {ns:List ByteArray} {m i i1 i2:Nat} {x:GE}:(i<i1/\i1<=N\/i=N/\i1=N)->ze N ns low 2 i1 x i2->xR N low B ⟨ns,m,i⟩ (.bind (m+1) x .nil) ⟨ns++[vT (m+1)],m+1,i2⟩
inductive Run(S:Ms->GL->Ms->Prop):Nat->Ms->GL->Ms->Prop
 |nil {s:Ms}:Run S 0 s .nil s
 |jB {j:Nat} {s s1 s2:Ms} {g x:GL}:Run S j s g s1->S s1 x s2->Run S (j+1) s (g.U7 x) s2
def jD(N:Nat)(S:Ms->GL->Ms->Prop)(s:Ms)(g:GL)(s':Ms):Prop:= ∃j b a,Nx N 4 s.i j b/\Run S j ⟨s.ns,s.m,b⟩ g a/\s'=⟨s.ns,a.m,a.i⟩
def noB:Ms->GL->Ms->Prop:=λ_ _ _=>False
def QB(N low:Nat):Nat->Ms->GL->Ms->Prop
 |0=>jD N (xR N low noB)
 |d+1=>jD N (xR N low (QB N low d))
def Qo(N low:Nat):Nat->Ms->GL->Ms->Prop
 |0=>xR N low noB
 |d+1=>xR N low (QB N low d)
theorem zbU(N low d:Nat):QB N low d=jD N (Qo N low d):=by cases d<;>rfl
theorem O8(a:Array UInt8):ByteArray.size ⟨a⟩=a.size:=rfl
theorem zO(n:Nat)(h:n<=2000000):(jo n).size<=21:=by
 have:=Lib.itoa_length_le (n:Int) (by omega) (by omega);simpa[jo,ByteArray.size]using this
theorem ze.R1{N:Nat}{ns:List ByteArray}{low d i p:Nat}{x:GE}(c: ∀s∈ns,s.size<=22)(w:low<=2)(h:ze N ns low d i x p):x.O4.size<=80*2^d*2-80:=by
 have q: ∀o,(yv o).size=1:=by intro o;unfold yv;split<;>rfl
 have a: ∀d:Nat,1<=2^d:=λd=>Nat.one_le_two_pow
 induction h with
 | @yE d i r b k j s _ _ t=>have:=c _ (B0 t);have:=a d;simp only[GE.O4];omega
 | @lit d i r b k n _ h=>have:=zO n (by have:=h.1;omega);have:=a d;simp only[GE.O4];omega
 | @neg d _ _ _ _ _ u=>have:=a d;simp only[GE.O4,B7,Nat.pow_succ,O8,D4,y6,y9];omega
 | @call d i b m v f x y _ e _ _ g l=>
   have:=zO f (by have:=e.1;omega);have:=a d;simp only[GE.O4,B7,Nat.pow_succ,O8,D4,y6,y9];omega
 | @host d i b m k x _ e _ u=>
   have:=zO k (by have:=e.1;omega);have:=a d;simp only[GE.O4,B7,Nat.pow_succ,O8,D4,y6,y9];omega
 | @Qg d i b m v o x y _ _ _ _ g l=>
   have:=a d;simp only[GE.O4,B7,Nat.pow_succ,q,O8,D4,y6,y9];omega
theorem zm.R1{N:Nat}{ns:List ByteArray}{low d i g:Nat}{x:GE}(a: ∀s∈ns,s.size<=22)(f:low<=2)(h:zm N ns low d i x g):x.O4.size<=500*2^d*2-400:=by
 have j: ∀o,(Zr o).size<=4:=by intro o;unfold Zr;split<;>decide
 have l: ∀o,(tfT o).size<=5:=by intro o;unfold tfT;split<;>decide
 have b: ∀d:Nat,1<=2^d:=λd=>Nat.one_le_two_pow
 induction h with
 | @not d _ _ _ _ _ _ _ p=>have:=b d;simp only[GE.O4,B7,Nat.pow_succ,O8,D4,y6,y9];omega
 | @and d _ _ _ _ _ _ _ _ c e=>have:=b d;simp only[GE.O4,B7,Nat.pow_succ,O8,D4,y6,y9];omega
 | @or d _ _ _ _ _ _ _ _ c e=>have:=b d;simp only[GE.O4,B7,Nat.pow_succ,O8,D4,y6,y9];omega
 | @tf d _ _ k _ _=>have:=l k;have:=b d;simp only[GE.O4];omega
 | @XU d i q r t u k o x y _ m _ n=>have:=m.R1 a f;have:=n.R1 a f;have:=j o;have:=b d;simp only[GE.O4,B7];omega
def QA:Nat->Nat
 |0=>3
 |d+1=>3*(1+2*QA d)
def szB:Nat->Nat
 |0=>3*5000
 |d+1=>3*(5000+2*szB d)
def xq(ns:List ByteArray):Prop:= ∀s∈ns,s.size<=22
theorem zdX(m:Nat)(h:m<=2000000):(vT m).size<=22:=by
 have:=zO m h;simp only[vT,B7,O8,D4,y6,y9];omega
theorem zd9(m:Nat)(h:m<=2000000):(iT m).size<=22:=by
 have:=zO m h;simp only[iT,B7,O8,D4,y6,y9];omega
def Bnd(M Z:Nat)(s:Ms)(g:GL)(s':Ms):Prop:=xq s.ns->s.m+M<=2000000->s.m<=s'.m/\s'.m<=s.m+M/\g.O4.size<=Z/\xq s'.ns/\s'.ns.length<=s.ns.length+1
theorem xR.R1{N low M Z:Nat}{B:Ms->GL->Ms->Prop}(o:low<=2)(r: ∀s g s',B s g s'->Bnd M Z s g s'/\s'.ns=s.ns){s:Ms}{g:GL}{s':Ms}(h:xR N low B s g s'):Bnd (1+2*M) (5000+2*Z) s g s':=by
 cases h with
 | @set p m i C q D j s x _ _ t f=>
   intro d e;have:=d _ (B0 t);have:=f.R1 d o;refine⟨x6 _,Nat.le_add_right _ _,?_,d,Nat.le_add_right _ _⟩;simp only[GL.O4,B7,O8,D4,y6,y9];omega
 | @qH p m i q x _ f=>
   intro d e;have:=f.R1 d o;refine⟨x6 _,Nat.le_add_right _ _,?_,d,Nat.le_add_right _ _⟩;simp only[GL.O4,B7,O8,D4,y6,y9];omega
 | @Qc p m i q c a b Q E _ F G H=>
   intro d e;have:=F.R1 d o;obtain⟨u,v⟩:=r _ _ _ G;obtain⟨w,y,I,z,J⟩:=u d (by simp only at e|-;omega);obtain⟨K,L⟩:=r _ _ _ H;simp only at y e w;obtain⟨R,S,T,O,U⟩:=K z (by omega);refine⟨by simp only;omega,by simp only;omega,?_,O,by rw[L,v];simp⟩;simp only[GL.O4,B7,O8,D4,y6,y9];omega
 | @qv p m i q n l E _ P A=>
   intro d e;obtain⟨u,v⟩:=r _ _ _ A;simp only at e;obtain⟨w,y,I,z,J⟩:=u d (by simp only;omega);simp only at w y;have:=zd9 (m+1) (by omega);have:=zO n (by have:=P.1;omega);refine⟨by simp only;omega,by simp only;omega,?_,z,by rw[v];simp⟩;simp only[GL.O4,B7,O8,D4,y6,y9];omega
 | @run p m i q x _ f=>
   intro d e;have:=f.R1 d o;refine⟨x6 _,Nat.le_add_right _ _,?_,d,Nat.le_add_right _ _⟩;simp only[GL.O4,B7,O8,D4,y6,y9];omega
 | @ret p m i q D k x _ _ f=>
   intro d e;have:=f.R1 d o;refine⟨x6 _,Nat.le_add_right _ _,?_,d,Nat.le_add_right _ _⟩;simp only[GL.O4,B7,O8,D4,y6,y9];omega
 | @bind p m i C q x _ f=>
   intro d e;have:=f.R1 d o;simp only at e;have:=zdX (m+1) (by omega);refine⟨Nat.le_succ _,by simp only;omega,?_,?_,by simp⟩
   ·simp only[GL.O4,B7,O8,D4,y6,y9];omega
   ·intro s t
    rcases List.mem_append.1 t with h|h
    ·exact d s h
    ·simp at h;subst h;assumption
theorem Run.R1{S:Ms->GL->Ms->Prop}{M Z:Nat}(b: ∀s g s',S s g s'->Bnd M Z s g s'){j:Nat}{s:Ms}{g:GL}{s':Ms}(h:Run S j s g s'):
 xq s.ns->s.m+j*M<=2000000->s.m<=s'.m/\s'.m<=s.m+j*M/\g.O4.size<=j*Z/\xq s'.ns/\s'.ns.length<=s.ns.length+j:=by
 induction h with
 |nil=>intro a _;exact⟨x6 _,by simp,by simp[GL.O4,ByteArray.size],a,by simp⟩
 | @jB j s k l g x _ c d=>
   intro a e;rw[Nat.succ_mul]at e;obtain⟨n,o,p,f,q⟩:=d a (by omega);obtain⟨r,t,u,i,v⟩:=b _ _ _ c f (by omega);refine⟨by omega,by rw[Nat.succ_mul];omega,?_,i,by omega⟩;rw[GL.JW,B7,Nat.succ_mul];omega
theorem jD.R1{N:Nat}{S:Ms->GL->Ms->Prop}{M Z:Nat}(d: ∀s g s',S s g s'->Bnd M Z s g s'){s:Ms}{g:GL}{s':Ms}(h:jD N S s g s'):Bnd (3*M) (3*Z) s g s'/\s'.ns=s.ns:=by
 obtain⟨j,k,l,e,f,rfl⟩:=h;have a:j<=3:=by have:=e.1;omega
 have m:=F9 M a;have n:=F9 Z a;refine⟨λb o=>?_,rfl⟩;obtain⟨c,i,p,q,r⟩:=f.R1 d b (by simp only;omega);simp only at c i;exact⟨c,by simp only;omega,by omega,b,by simp⟩
theorem QB.R1{N low:Nat}(a:low<=2): ∀(d:Nat)(s:Ms)(g:GL)(s':Ms),QB N low d s g s'->Bnd (QA d) (szB d) s g s'/\s'.ns=s.ns:=by
 intro d
 induction d with
 |zero=>intro s g s' h;exact jD.R1 (λs g s' h=>xR.R1 (M:=0) (Z:=0) a (λ_ _ _ h=>h.elim) h) h
 |succ d b=>intro s g s' h;exact jD.R1 (λs g s' h=>xR.R1 a b h) h
def mkS:Nat->Nat
 |0=>1
 |d+1=>1+2*QA d
def szS:Nat->Nat
 |0=>5000
 |d+1=>5000+2*szB d
theorem zg0(d:Nat):QA d=3*mkS d:=by cases d<;>rfl
theorem Qo.R1{N low:Nat}(a:low<=2)(d:Nat)(s:Ms)(g:GL)(s':Ms)(h:Qo N low d s g s'):Bnd (mkS d) (szS d) s g s':=by
 cases d with
 |zero=>exact xR.R1 (M:=0) (Z:=0) a (λ_ _ _ h=>h.elim) h
 |succ d=>exact xR.R1 a (QB.R1 a d) h
end Go.Proofs.YtalgmjmibamdfaaGreatDoor
namespace Go.Proofs.YtalgmjmibamdfaaGreatDoor
open Go.Proofs.Tryz
open Go.RowKit Tw
theorem zdM(x n:Int)(e:1<=n):(x.tmod n<0->x.tmod n+n=x%n)/\(¬x.tmod n<0->x.tmod n=x%n):=by
 have f:=Int.emod_nonneg x (show n≠0 by omega);have g:=Int.emod_lt_of_pos x (show 0<n by omega);have j:=Int.tmod_lt_of_pos x (show 0<n by omega);have b:=Int.tmod_lt_of_pos (-x) (show 0<n by omega);rw[Int.neg_tmod]at b;have k:=Int.mul_tdiv_add_tmod x n;have m:=Int.mul_ediv_add_emod x n;obtain⟨d,c⟩: ∃d,x/n-x.tdiv n=d:=⟨_,rfl⟩;have o:x.tmod n-x%n=n*d:=by rw[<-c,Int.mul_sub];omega
 refine⟨λh=>?_,λh=>?_⟩
 ·have:d= -1:=by
   rcases Int.lt_trichotomy d (-1)with a|a|a
   ·have:=Int.mul_le_mul_of_nonneg_left (show d<= -2 by omega) (show 0<=n by omega);omega
   ·exact a
   ·have:=Int.mul_le_mul_of_nonneg_left (show 0<=d by omega) (show 0<=n by omega);omega
  subst this;omega
 ·have:d=0:=by
   rcases Int.lt_trichotomy d 0 with a|a|a
   ·have:=Int.mul_le_mul_of_nonneg_left (show d<= -1 by omega) (show 0<=n by omega);omega
   ·exact a
   ·have:=Int.mul_le_mul_of_nonneg_left (show 1<=d by omega) (show 0<=n by omega);omega
  subst this;omega
theorem xU(x n:Int)(f:1<=n)(k:n<=4611686018427387904)(w:World):Calls prog 14 #[.int .i64 x,.int .i64 n] w λe w'=>e=.returned (.int .i64 (x%n))/\w'=w:=by
 have g:x.tmod n<n:=Int.tmod_lt_of_pos x (by omega);have h: -n<x.tmod n:=by
  have:=Int.tmod_lt_of_pos (-x) (show 0<n by omega);rw[Int.neg_tmod]at this;omega
 have j: ¬n=0:=by omega
 obtain⟨b,c⟩:=zdM x n f
 go_enter func14,ntmps14
 by_cases a:x.tmod n<0
 ·have d:=zh (b a)
  clear b c
  go_wp2_with fail
  go_ret;exact⟨by rw[d.out];rfl,rfl⟩
 ·have d:=zh (c a)
  clear b c
  go_wp2_with fail
  go_ret;exact⟨by rw[d.out];rfl,rfl⟩
def jH(E:xC ByteArray)(w:World)(base T sz:Nat)(v:Value)(l:List ByteArray):Prop:=
 w.ownsRow base T sz v l.length (l.flatMap E.cells)/\ ∀a∈l,True
section
variable {E:xC ByteArray}{w w':World}{base T sz:Nat}{v:Value}{l:List ByteArray}
theorem jH.nil(E:xC ByteArray)(w:World)(base T sz:Nat):jH E w base T sz (.slice none 0 0) []:=⟨F8 w base T sz,by simp⟩
theorem jH.kept{row:Option Nat}(h:jH E w base T sz v l)(a:w.grownBy w' row)(b: ∀k,row=some k->k<base\/w.heap.size<=k):jH E w' base T sz v l:=by
 refine⟨h.1.kept a ?_,λ_ _=>trivial⟩;cases c:v.ownBlock with
 |none=>exact .inl rfl
 |some k=>right;intro e;have:=h.1.lt k c;have:=b k e.symm;omega
theorem jH.below(h:jH E w base T sz v l)(a:Below w.heap.size w w'):jH E w' base T sz v l:=
 h.kept (row:=none) ⟨a.os,a.tape,a.output,a.size,λk b _=>a.block k b⟩ (by simp)
end
structure Sc(w0 wv w:World)(sb qb:Nat)(A0:Option Addr)(n0 c0:Nat)(i:Nat)(An:Option Addr)(cn:Nat)(ns:List ByteArray)(X8 low:Nat):Prop where
 yr:w.heap[sb]?=some (.cells #[.pointer (some ⟨qb,0,none⟩),.slice An ns.length cn,.int .i64 X8,.int .i64 low] 84 (0,0))
 XV:w.heap[qb]?=some (.cells #[.slice A0 n0 c0,.int .i64 i] 131 (0,0))
 yP: ∀j,j<n0-> ∃g off v,A0=some ⟨g,off,none⟩/\g<qb/\w.cell? ⟨g,off+j,none⟩=some (.int .i64 v)
 row:jH Q0 w (sb+1) 9 1 (.slice An ns.length cn) ns
 sz:xq ns
 nl:ns.length<=100
 i0:i<=n0
 n60:n0<=60
 m1:X8<=1000000
 l1:low<=2
 b0:10<qb
 q:qb<sb
 s:sb<w.heap.size
 gl:R8 w
 N5:Below qb w0 w
 gr:wv.grownBy w (some qb)
section
variable {w0 wv w w':World}{sb qb:Nat}{A0:Option Addr}{n0 c0 i:Nat}{An:Option Addr}{cn:Nat}{ns:List ByteArray}{X8 low:Nat}
theorem Sc.below(h:Sc w0 wv w sb qb A0 n0 c0 i An cn ns X8 low)(a:Below w.heap.size w w'):Sc w0 wv w' sb qb A0 n0 c0 i An cn ns X8 low:=by
 have d:=h.q;have c:=h.s;exact⟨(a.block sb c).trans h.yr,(a.block qb (by omega)).trans h.XV,λj e=>by
  obtain⟨g,b,v,f,k,m⟩:=h.yP j e;exact⟨g,b,v,f,k,(a.cell (p:=⟨g,b+j,none⟩) (by show g<w.heap.size;omega)).trans m⟩,h.row.below a,h.sz,h.nl,h.i0,h.n60,h.m1,h.l1,h.b0,d,y5 c a.size,h.gl.to a,h.N5.trans (a.mono (by omega)),J6 h.gr (J5 a _)⟩
theorem Ym(w:World)(qb j:Nat)(u:Value)(a:qb<w.heap.size):Below qb w (w.setCell ⟨qb,j,none⟩ u):=
 ⟨rfl,rfl,rfl,by simp,λk b=>F3 w ⟨qb,j,none⟩ u k (by simp;omega)⟩
theorem Sc.zc9(h:Sc w0 wv w sb qb A0 n0 c0 i An cn ns X8 low)(hi:i<n0):Sc w0 wv (w.setCell ⟨qb,1,none⟩ (.int .i64 ((i:Int)+1))) sb qb A0 n0 c0 (i+1) An cn ns X8 low:=by
 have f:=h.q;have d:=h.s;have t:=h.b0;have b:=I7 w qb 1 (.int .i64 ((i:Int)+1));exact⟨(b.block sb d (by simp;omega)).trans h.yr,by simpa using y4 w qb 1 _ _ (.int .i64 ((i:Int)+1)) h.XV,λj m=>by
  obtain⟨g,c,v,n,o,p⟩:=h.yP j m;exact⟨g,c,v,n,o,(E0 (a:=⟨g,c+j,none⟩) (b.block g (by omega) (by simp;omega))).trans p⟩,
  h.row.kept b (λk e=>.inl (by cases e;omega)),h.sz,h.nl,hi,h.n60,h.m1,h.l1,h.b0,f,y5 d b.size,h.gl.zr b.size (λg r=>b.block g (by omega) (by simp;omega)),h.N5.trans (Ym w qb 1 _ (by omega)),J6 h.gr b⟩
end
def zU(w:World)(A0:Option Addr)(n0 i:Nat)(n:Int)(k:Nat):Prop:=(i<n0-> ∀(g a:Nat)(v:Int),A0=some ⟨g,a,none⟩->w.cell? ⟨g,a+i,none⟩=some (.int .i64 v)->(k:Int)=v%n)/\(n0<=i->k=0)
theorem zb5{w:World}{g b n0 i:Nat}{n v:Int}(h:w.cell? ⟨g,b+i,none⟩=some (.int .i64 v))(d:n≠0)(hi:i<n0):zU w (some ⟨g,b,none⟩) n0 i n (v%n).toNat:=
 ⟨λ_ k c m e a=>by
  injection e with e;injection e with f j;subst f j
  rw[h]at a;injection a with a;injection a with _ a;subst a
  exact Int.toNat_of_nonneg (Int.emod_nonneg v d),λh=>G5 hi (by omega)⟩
theorem n_k{w0 wv w:World}{sb qb:Nat}{A0:Option Addr}{n0 c0 i:Nat}{An:Option Addr}{cn:Nat}{ns:List ByteArray}{X8 low:Nat}(n:Int)(p:1<=n)(z:n<=4000000000)(h:Sc w0 wv w sb qb A0 n0 c0 i An cn ns X8 low):
 Calls prog 29 #[.pointer (some ⟨qb,0,none⟩),.int .i64 n] w λe w'=>(∃(k A:Nat),e=.returned (.int .i64 k)/\k<n/\Nx n0 n.toNat i k A/\Sc w0 wv w' sb qb A0 n0 c0 A An cn ns X8 low/\zU w A0 n0 i n k):=by
 have r:n<=4611686018427387904:=by omega
 have t:=zh h;have f:w.cell? ⟨qb,0,none⟩=some (.slice A0 n0 c0):=x5 h.XV 0;have B:w.cell? ⟨qb,1,none⟩=some (.int .i64 i):=x5 h.XV 1;have F:w.frozen? ⟨qb,1,none⟩=false:=z6 h.XV 1;have C:=h.n60;have G:=h.i0;have hqs:qb<w.heap.size:=Nat.lt_trans h.q h.s
 by_cases d:i<n0
 ·obtain⟨g,a,v,rfl,O,u⟩:=h.yP i d
  have H:g≠qb:=by omega
  have D:qb≠g:=by omega
  have P:(0:Int)<=(i:Int):=by omega
  have I:(i:Int)<(n0:Int):=by omega
  have Q:(0:Int)<=(i:Int)+1-1:=by omega
  have R:(i:Int)+1-1<(n0:Int):=by omega
  have S:((i:Int)+1-1)=(i:Int):=by omega
  clear h;have j:Hid (∀W:World,W.cell? ⟨g,a+i,none⟩=w.cell? ⟨g,a+i,none⟩-> ∀b:Int,W.cell? ⟨g,a+i,none⟩=some (.int .i64 b)->zU w (some ⟨g,a,none⟩) n0 i n (b%n).toNat):=zh (λW J b K=>zb5 (by rw[<-J];exact K) (by omega) d)
  go_enter func29,ntmps29
  go_upto_region 1 with(fail)
  go_quiet (fail)
  go_upto_region 4 with(fail)
  have m:=zh (j.out ((w.drewN nq).setCell ⟨qb,1,none⟩ (.int .i64 ((i:Int)+1))) (by rw[World.cell?_setCell_other _ _ _ _ (λe=>by injection e with e _;omega)];rfl));have c:Hid (Sc w0 wv ((w.drewN nq).setCell ⟨qb,1,none⟩ (.int .i64 ((i:Int)+1))) sb qb (some ⟨g,a,none⟩) n0 c0 (i+1) An cn ns X8 low):=zh ((t.out.below (J1 (x7 _ _) nq)).zc9 d);clear f B F u j;generalize(World.drewN w nq).setCell _ _=x at c m|-
  have f:x.cell? ⟨qb,0,none⟩=some (.slice (some ⟨g,a,none⟩) n0 c0):=x5 c.out.XV 0;have B:x.cell? ⟨qb,1,none⟩=some (.int .i64 ((i:Int)+1)):=by simpa using x5 c.out.XV 1
  obtain⟨L,off',b,o,-,u⟩:=c.out.yP i d;obtain⟨rfl,rfl⟩:g=L/\a=off':=by injection o with o;injection o with p z;exact⟨p,z⟩
  clear o;have w0:IntKind.i64.wrap (i:Int)=(i:Int):=IntWalk.i64_in _ (by omega);have M:Hid (∀b:Int,x.cell? ⟨g,a+i,none⟩=some (.int .i64 b)->zU w (some ⟨g,a,none⟩) n0 i n (b%n).toNat):=m
  go_region_law(first|(go_simp;go_at_call 14;refine(xU b n p r _).mono ?_;rintro e U ⟨rfl,rfl⟩))
  all_goals
   go_wp2_with fail
   go_ret;have y:=Int.emod_nonneg b (show n≠0 by omega);have N:=Int.emod_lt_of_pos b (show 0<n by omega);exact⟨(b%n).toNat,i+1,by rw[Int.toNat_of_nonneg y];rfl,by omega,⟨by omega,.inl ⟨d,rfl⟩⟩,c.out.below (I8 _),M.out b u⟩
 ·have I:(n0:Int)<=(i:Int):=by omega
  clear h
  go_enter func29,ntmps29
  go_upto_region 1 with(fail)
  go_quiet (fail)
  go_wp2_with fail
  go_ret;have:=t.out.i0;exact⟨0,i,rfl,by show(0:Int)<n;omega,⟨by omega,.inr ⟨by omega,by omega,rfl⟩⟩,t.out.below (J1 (x7 _ _) _),λh=>G5 h d,λ_=>rfl⟩
theorem JX{w0 wv w:World}{sb qb:Nat}{A0:Option Addr}{n0 c0 i:Nat}{An:Option Addr}{cn:Nat}{ns:List ByteArray}{X8 low:Nat}(n:Int)(g:1<=n)(j:n<=4000000000)(h:Sc w0 wv w sb qb A0 n0 c0 i An cn ns X8 low):
 Calls prog 29 #[.pointer (some ⟨qb,0,none⟩),.int .i64 n] w λe w'=>(∃(k f:Nat),e=.returned (.int .i64 k)/\k<n/\Nx n0 n.toNat i k f/\Sc w0 wv w' sb qb A0 n0 c0 f An cn ns X8 low):=
 (n_k n g j h).mono λ_ _ ⟨k,f,a,b,c,d,_⟩=>⟨k,f,a,b,c,d⟩
theorem zU.zeo{w w':World}{B:Nat}{A0:Option Addr}{n0 b:Nat}{n:Int}{k:Nat}(h:zU w' A0 b 0 n k)(d:Below B w w')(f:w.heap.size<=B)(e:n0=0↔b=0):zU w A0 n0 0 n k:=
 ⟨λj g a v m c=>h.1 (by omega) g a v m ((d.cell (p:=⟨g,a+0,none⟩) (y5 (World.block_lt_of_cell? w _ c) f)).trans c),λj=>h.2 (by omega)⟩
theorem qM{w0 wv w:World}{sb qb:Nat}{A0:Option Addr}{n0 c0 i:Nat}{An:Option Addr}{cn:Nat}{ns:List ByteArray}{X8 low:Nat}(n:Nat)(a:n<=2000000)(h:Sc w0 wv w sb qb A0 n0 c0 i An cn ns X8 low):
 Calls prog 30 #[.int .i64 n] w λe w'=> ∃s:ByteArray,e=.returned (.string s)/\Hid (s=jo n)/\s.size<=21/\Sc w0 wv w' sb qb A0 n0 c0 i An cn ns X8 low:=by
 refine(Tryz.strconv_Itoa (n:Int) (by omega) (by omega) w h.gl.pow).mono ?_;rintro e w' ⟨rfl,k,b,rfl⟩;exact⟨_,rfl,zh rfl,zO n a,h.below (Zz w k b)⟩
theorem Sc.zQ{w0 wv w:World}{sb qb:Nat}{A0:Option Addr}{n0 c0 i:Nat}{An:Option Addr}{cn:Nat}{ns:List ByteArray}{X8 low:Nat}(h:Sc w0 wv w sb qb A0 n0 c0 i An cn ns X8 low):Sc w0 w w sb qb A0 n0 c0 i An cn ns X8 low:=
 {h with gr:=J5 (x7 _ _) _}
theorem Sc.tr{w0 wv w w':World}{sb qb:Nat}{A0:Option Addr}{n0 c0 i a:Nat}{An:Option Addr}{cn:Nat}{ns:List ByteArray}{X8 low:Nat}(h:Sc w0 wv w sb qb A0 n0 c0 i An cn ns X8 low)(b:Sc w0 w w' sb qb A0 n0 c0 a An cn ns X8 low):Sc w0 wv w' sb qb A0 n0 c0 a An cn ns X8 low:=
 {b with gr:=J6 h.gr b.gr}
theorem Sc.c0{w0 wv w:World}{sb qb:Nat}{A0:Option Addr}{n0 c0 i:Nat}{An:Option Addr}{cn:Nat}{ns:List ByteArray}{X8 low:Nat}(h:Sc w0 wv w sb qb A0 n0 c0 i An cn ns X8 low):w.cell? ⟨sb,0,none⟩=some (.pointer (some ⟨qb,0,none⟩))/\w.cell? ⟨sb,1,none⟩=some (.slice An ns.length cn)/\w.cell? ⟨sb,2,none⟩=some (.int .i64 X8)/\w.cell? ⟨sb,3,none⟩=some (.int .i64 low):=
 ⟨x5 h.yr 0,x5 h.yr 1,x5 h.yr 2,x5 h.yr 3⟩
theorem Sc.K3{w0 wv w:World}{sb qb:Nat}{A0:Option Addr}{n0 c0 i:Nat}{cn:Nat}{ns:List ByteArray}{X8 low:Nat}{g:Nat}(h:Sc w0 wv w sb qb A0 n0 c0 i (some ⟨g,0,none⟩) cn ns X8 low)(k:Nat)(s:ByteArray)(hs:ns[k]?=some s):w.cell? ⟨g,k,none⟩=some (.string s):=by
 rcases O5 h.row.1 with⟨e,_⟩|⟨c,a,e,d,f,b⟩
 ·cases e
 ·injection e with e;injection e with e;injection e with e
  subst e;exact b _ _ (by simpa using U2 Q0.cells 1 (λ_=>rfl) ns k _ hs 0 _ rfl)
theorem Sc.arr{w0 wv w:World}{sb qb:Nat}{A0:Option Addr}{n0 c0 i:Nat}{An:Option Addr}{cn:Nat}{ns:List ByteArray}{X8 low:Nat}(h:Sc w0 wv w sb qb A0 n0 c0 i An cn ns X8 low)(c:0<ns.length): ∃g,An=some ⟨g,0,none⟩:=by
 rcases O5 h.row.1 with⟨e,d⟩|⟨a,b,e,_⟩
 ·omega
 ·injection e with e;exact⟨a,e⟩
def jU(xs:List Int):Int:=xs.foldl (λs a=>s+a%1000) 0
theorem Yn(xs:List Int)(s:Int):xs.foldl (λs a=>s+a%1000) s=s+jU xs:=by
 unfold jU
 induction xs generalizing s with
 |nil=>simp
 |cons a l b=>rw[List.foldl_cons,List.foldl_cons,b,b (0+a%1000)];omega
theorem zaW(xs:List Int)(a:Int):jU (xs++[a])=jU xs+a%1000:=by unfold jU;rw[List.foldl_append];rfl
theorem zdq(xs:List Int):0<=jU xs/\jU xs<=1000*xs.length:=by
 induction xs with
 |nil=>exact⟨by decide,by decide⟩
 |cons a l b=>
  have:jU (a::l)=a%1000+jU l:=by show List.foldl _ _ _=_;rw[List.foldl_cons,Yn];omega
  rw[this,y6];omega
def YZ(f:Int)(xs:List Int):Int:=IntKind.i64.wrap (f+jU xs)
def K7(l:List Int):T0:=λf a=>if l.length=0 then(YZ f a,0)else if 930<l.getD (YZ f a%(l.length:Int)).toNat 0%1000 then(0,7)else(l.getD (YZ f a%(l.length:Int)).toNat 0%1000-400,0)
theorem XJ(l:List Int)(f:Int)(xs:List Int):qy (K7 l f xs).1/\qy (K7 l f xs).2:=by
 unfold K7
 split
 ·exact⟨Zy _,(by decide:qy 0)⟩
 ·split
  ·exact⟨(by decide:qy 0),(by decide:qy 7)⟩
  ·exact⟨by unfold qy;simp only;omega,(by decide:qy 0)⟩
structure HoI(Z:Nat)(w0:World)(Z0 b:Nat)(A:Option Addr)(n c:Nat)(w:World):Prop where
 sz:Z<=w.heap.size
 N5:Below Z0 w0 w
 z0:Z0<=w.heap.size
 J7:w.heap[b]?=some (.cells #[.slice A n c] 22 (0,0))
theorem HoI.below{Z d b n c:Nat}{w0 w w':World}{A:Option Addr}(h:HoI Z w0 d b A n c w)(a:Below w.heap.size w w'):HoI Z w0 d b A n c w':=
 ⟨B5 h.sz a.size,h.N5.trans (a.mono h.z0),B5 h.z0 a.size,(a.block b (I0 h.J7)).trans h.J7⟩
theorem zgf{Z Z0 b:Nat}{w0 w:World}{A:Option Addr}{c:Nat}{l:List Int}(h:HoI Z w0 Z0 b A l.length c w)(F:w0.heap.size=Z0)(hl:J8 w0 (λ_=>True) (.slice A l.length c) l)(hn:l.length<=4611686018427387904)(f:Int)(xs:List Int)(Ax:Option Addr)(cx:Nat)(hx:J8 w (λ_=>True) (.slice Ax xs.length cx) xs)(a2:xs.length<=600)(h0:0<=f)(h1:f<=100):
 Calls prog 40 #[.int .i64 f,.slice Ax xs.length cx,.pointer (some ⟨b,0,none⟩)] w λe w'=>e=.returned (.tuple #[.int .i64 (K7 l f xs).1,.int .i64 (K7 l f xs).2])/\Below w.heap.size w w':=by
 have HL:=zh hl;have H:=zh h;have O:=zh hx;have HZ:=zh F;have K:=x5 h.J7 0;have P:=I0 h.J7;obtain⟨R,Q⟩: ∃r,K7 l f xs=r:=⟨_,rfl⟩;have HR:=zh Q;rw[Q];clear hl h hx Q F
 go_enter func40,ntmps40
 go_upto_region 3 with(fail)
 go_loopw[7,14] (λxv S wr=> ∃j:Nat,j<=xs.length/\xv=.int .i64 (f+jU (xs.take j))/\S=.int .i64 j/\Hid (Below w.heap.size w wr)) (λ_ S _=>xs.length-(intOf S).toNat)
 case atStart=>exact⟨0,C6 _,by simp[jU],rfl,zh (x7 _ _)⟩
 case round=>
  obtain⟨j,L,rfl,rfl,z⟩:=hrel;have t:=zdq (xs.take j);rw[G8,Nat.min_eq_left L]at t
  by_cases B:j<xs.length
  ·obtain⟨a,T⟩: ∃a,xs[j]?=some a:=⟨_,x8 B⟩
   obtain⟨g,o,rfl,k,u⟩:=O.out.at j a T;replace u:=(z.out.cell (p:=⟨g,o+j,none⟩) k).trans u;have k0:(0:Int)<=(j:Int):=by omega
   have k1:(j:Int)<(xs.length:Int):=by omega
   have U:=Int.emod_nonneg a (show(1000:Int)≠0 by decide);have V:=Int.emod_lt_of_pos a (show(0:Int)<1000 by decide);have X:Hid (jU (xs.take (j+1))=jU (xs.take j)+a%1000):=zh (by
    rw[List.take_add_one,T];exact zaW _ _)
   have E:=zh (xU a 1000 (by decide) (by decide) wr);generalize Y:jU (xs.take j)=s at t X|-
   generalize a0:a%1000=m at U V X E|-
   have ew:IntKind.i64.wrap (f+s+m)=f+s+m:=IntWalk.i64_in _ (by omega);clear T Y a0
   go_wp2_with fail
   refine E.out.mono ?_;rintro e w' ⟨rfl,rfl⟩;clear E
   go_wp2_with fail
   go_roundw
   case rel=>exact⟨j+1,B,by rw[X.out];congr 1;omega,by go_num,z⟩
   case measure=>simp[intOf];omega
  ·obtain rfl:j=xs.length:=by omega
   rw[E7]at t|-
   have C:Hid (YZ f xs=f+jU xs):=zh (IntWalk.i64_in _ (by omega));generalize f+jU xs=x at C|-
   clear t B L;replace K:=(z.out.cell (p:=⟨b,0,none⟩) P).trans K;have k1: ¬((xs.length:Int)<(xs.length:Int)):=by omega
   by_cases M:l.length=0
   ·have i:Hid (R=(x,0)):=zh (by rw[<-HR.out];unfold K7;rw[C5 M,C.out])
    have a1:((l.length:Int)==0)=true:=by simp[M]
    go_wp2_with fail
    go_ret2;rw[i.out];exact⟨rfl,z.out⟩
   ·have a1:((l.length:Int)==0)=false:=beq_eq_false_iff_ne.2 (by omega)
    have G:(1:Int)<=(l.length:Int):=by omega
    have I:(l.length:Int)<=4611686018427387904:=by omega
    have q0:=Int.emod_nonneg x (show(l.length:Int)≠0 by omega);have q1:=Int.emod_lt_of_pos x (show(0:Int)<(l.length:Int) by omega);obtain⟨q,N⟩: ∃q:Nat,x%(l.length:Int)=q:=⟨(x%(l.length:Int)).toNat,by omega⟩;obtain⟨y,hy⟩: ∃y,l[q]?=some y:=⟨_,x8 (by omega)⟩;have i:Hid (R=if 930<y%1000 then(0,7)else(y%1000-400,0)):=zh (by
     rw[<-HR.out];unfold K7;rw[z7 M,C.out,N,Int.toNat_natCast,List.getD_eq_getElem?_getD,hy];rfl)
    obtain⟨g,o,rfl,k,u⟩:=HL.out.at q y hy;rw[HZ.out]at k;replace u:=((H.out.N5.cell (p:=⟨g,o+q,none⟩) k).trans u);replace u:=(z.out.cell (p:=⟨g,o+q,none⟩) (y5 k H.out.z0)).trans u;have E:=zh (λW=>xU x (l.length:Int) G I W);rw[N]at E;have J:=zh (λW=>xU y 1000 (by decide) (by decide) W);have m0:=Int.emod_nonneg y (show(1000:Int)≠0 by decide);have m1:=Int.emod_lt_of_pos y (show(0:Int)<1000 by decide);generalize y%1000=m at m0 m1 J i|-
    rw[N]at q0 q1;clear N hy M G I
    go_upto_region 9 with(fail)
    refine P5 (D:=World) (by kernel_rfl) [(0,27),(1,28),(2,29),(3,30),(4,31),(5,32),(6,33),(7,34),(8,10)] [4,7] [[],[4],[4,7]] (λ_ d=>[(0,27,.slice (some ⟨g,o,none⟩) l.length c),(1,28,.int .i64 x),(2,29,.slice (some ⟨g,o,none⟩) l.length c),(3,30,.int .i64 l.length),(4,31,.int .i64 q),(5,32,.pointer (some ⟨g,o+q,none⟩)),(6,33,.int .i64 y),(7,34,.int .i64 m),(8,10,.int .i64 m)]) (λ_ d=>d) (λ_ d=>d=wr.drew) [(0,0),(0,1),(1,0),(2,0),(3,0),(4,0),(5,1),(6,1),(7,1),(8,2)] (by kernel_rfl) (by kernel_rfl) (λ_ _=>rfl) (by rfl) wr.drew rfl rfl rfl ?_ ?_
    ·repeat' (first|refine List.forall_mem_cons.2 ⟨?_,?_⟩|exact List.forall_mem_nil _)
     all_goals
      intro o' ho;injection ho with ho
      subst ho;rintro W k;have hW:W=wr.drew:=k;subst hW
     rotate_left 5
     ·refine .call 14 #[.int .i64 x,.int .i64 l.length] (by simp[J2,execOp,go_sem]) ((E.out _).mono ?_)
      rintro e w' ⟨rfl,rfl⟩;exact⟨_,1,_,rfl,.of (by decide) rfl rfl rfl,rfl,rfl⟩
     rotate_left 2
     ·refine .call 14 #[.int .i64 y,.int .i64 1000] (by simp[J2,execOp,go_sem]) ((J.out _).mono ?_)
      rintro e w' ⟨rfl,rfl⟩;exact⟨_,2,_,rfl,.of (by decide) rfl rfl rfl,rfl,rfl⟩
     all_goals exact .jd rfl (by simp[J2,Y7,execOp,go_sem,K,u,q0,q1])
    ·rintro jj W k hd
     have L:=hd 7 (by decide) (by decide);have hW:W=wr.drew:=k;subst hW
     match jj,L with
     |0,h=>cases h
     |1,h=>cases h
     |2,_=>
      clear hd k K u q0 q1;simp only[J2,z9,B4,List.append_nil,List.foldl];go_simp
      by_cases v:930<m
      ·rw[C5 v]at i
       go_wp2_with fail
       go_ret2;rw[i.out];exact⟨rfl,z.out.drew⟩
      ·rw[z7 v]at i
       have ew:IntKind.i64.wrap (m-400)=m-400:=IntWalk.i64_in _ (by omega)
       go_wp2_with fail
       go_ret2;rw[i.out];exact⟨rfl,z.out.drew⟩
     |n+3,h=>cases h
theorem zbu{Z g B b:Nat}{w0:World}{A:Option Addr}{c:Nat}{l:List Int}(i:Z<=B)(j:w0.heap.size=g)(o:g<=B)(p:J8 w0 (λ_=>True) (.slice A l.length c) l)(q:l.length<=4611686018427387904):
 zD Z B 40 #[.pointer (some ⟨b,0,none⟩)] (K7 l) (λw _=>HoI Z w0 g b A l.length c w)where
 le:=i
 I5:=λh d=>⟨B5 h.sz d.N5.size,h.N5.trans (d.N5.mono o),B5 h.z0 d.N5.size,(d.J7 b _ _ _ h.J7 (by unfold jh;decide)).trans h.J7⟩
 call:=λf r s u w t h v m x y=>(zgf h j p q f r s u v m x y).mono λe D ⟨z,a⟩=>⟨z,h.below a,⟨a.os,a.tape,a.output,λk n=>a.block k (y5 n h.sz),a.size,λk _ _ _ n _=>a.block k (I0 n)⟩⟩
 eg:=λargs w=>by
  have C:=func40;unfold callFunc;simp[C];rfl
theorem zhc(us:List Fn)(left:Nat)(N:CmS us left):CmB us (left+1):=by
 intro l B d F w mb A0 c0 V f b c O q m' r ht P hU d1 hA t h;have HF:=zh h;have HA:=zh hA;have IS:=zh N;have a8:=zh P;have HU:=zh hU;have a9:Hid (qm (Sx us (Bx us left) left) l O b q m' r):=zh ht;have c3:Hid (c.length+(N7 us c.length f b l).1.length<=400000):=zh (by rw[Ja]at t;exact t);obtain⟨⟨-,c1,-,-,-⟩,-⟩:=zE h.st;clear h hA N P ht hU t
 go_enter func58,ntmps58
 go_wp2_with fail
 clear c1
 go_loopw[14] (λi wr=> ∃(j:Nat)(M:Mv)(m:T9)(r1:Bool),j<=l.length/\i=.int .i64 j/\Hid (qm (Sx us (Bx us left) left) (l.drop j) m (N7 us c.length f b (l.take j)).2.2 q m' r1)/\Hid (OkM m (N7 us c.length f b (l.take j)).2.1 (N7 us c.length f b (l.take j)).2.2)/\Hid (T4 w wr mb (.slice A0 us.length c0) M (N7 us c.length f b (l.take j)).2.1 (N7 us c.length f b (l.take j)).2.2 (c++(N7 us c.length f b (l.take j)).1.map Prod.fst) us F)) (λi _=>l.length-(intOf i).toNat)
 case atStart=>exact⟨0,V,O,r,C6 _,rfl,a9,a8,zh (HF.out.QT (by simp[N7]))⟩
 case round=>
  obtain⟨j,M,m,r1,hj,rfl,HR,Q,y⟩:=hrel
  by_cases R:j<l.length
  ·obtain⟨s,hs⟩: ∃s,l[j]?=some s:=⟨_,x8 R⟩
   obtain⟨g,c4,S,T,Ab,z,Ae,ce,rfl,-,hg,U,W,X,u⟩:=(HF.out.zgK y.out.N5 HA.out).at j s hs;have b0:wr.cell? ⟨g,c4+j*10,none⟩=_:=u 0 _ rfl;have b1:=u 1 _ rfl;have b2:=u 2 _ rfl;have b3:=u 3 _ rfl;have b4:=u 4 _ rfl;have b5:=u 5 _ rfl;have b6:=u 6 _ rfl;have b7:=u 7 _ rfl;have b8:=u 8 _ rfl;have b9:=u 9 _ rfl;obtain⟨k,m2,ra,rb,A,v⟩: ∃k m2 ra rb,Sx us (Bx us left) left s m (N7 us c.length f b (l.take j)).2.2 k m2 ra/\qm (Sx us (Bx us left) left) (l.drop (j+1)) k m2 q m' rb:=by
    have hd:=HR.out;rw[F2 R,(List.getElem?_eq_some_iff.1 hs).2]at hd;cases hd with
    |cons h1 h2=>exact⟨_,_,_,_,h1,h2⟩
   have E:m2<=64/\k.length<=m2:=by
    have:Bx us (left+1) [s] m (N7 us c.length f b (l.take j)).2.2 k m2 (ra||false):=.cons A .nil;have:=this.le Q.out.m64 Q.out.el;exact⟨this.2.1,this.2.2.1⟩
   have o:=zdD HU.out.yo A (c.length+(N7 us c.length f b (l.take j)).1.length) (N7 us c.length f b (l.take j)).2.1;have x:N7 us c.length f b (l.take (j+1))=((N7 us c.length f b (l.take j)).1++(Q4 us (c.length+(N7 us c.length f b (l.take j)).1.length) (N7 us c.length f b (l.take j)).2.1 (N7 us c.length f b (l.take j)).2.2 s).1,(Q4 us (c.length+(N7 us c.length f b (l.take j)).1.length) (N7 us c.length f b (l.take j)).2.1 (N7 us c.length f b (l.take j)).2.2 s).2):=by rw[show l.take (j+1)=l.take j++[s] by rw[List.take_add_one,hs];rfl,QI]
   have HN:Hid (OkM k (N7 us c.length f b (l.take (j+1))).2.1 (N7 us c.length f b (l.take (j+1))).2.2):=zh (by
    rw[x];simp only;rw[o.1];exact⟨E.1,E.2,o.2 Q.out.ok⟩)
   have c5:Hid (qm (Sx us (Bx us left) left) (l.drop (j+1)) k (N7 us c.length f b (l.take (j+1))).2.2 q m' rb):=zh (by
    rw[x];simp only;rw[o.1];exact v)
   have Y:=(x7 wr.heap.size wr).alloc (x6 _) (.cells #[.int .i64 s.M0,.string s.K3,.int .i64 s.a.M0,.int .i64 s.a.n,.string s.a.N4,.slice S s.a.args.length T,.int .i64 s.a.pos,.slice Ab s.J0.length z,.slice Ae s.P2.length ce,.int .i64 s.pos] 174);have C:=zh (y.out.below Y);have G:=zh (x9 wr (.cells #[.int .i64 s.M0,.string s.K3,.int .i64 s.a.M0,.int .i64 s.a.n,.string s.a.N4,.slice S s.a.args.length T,.int .i64 s.a.pos,.slice Ab s.J0.length z,.slice Ae s.P2.length ce,.int .i64 s.pos] 174));have a0:=zap us l (j+1) c.length f b;rw[x,y7]at a0;have H:(c++(N7 us c.length f b (l.take j)).1.map Prod.fst).length=c.length+(N7 us c.length f b (l.take j)).1.length:=by simp
   have HS:=zh (IS.out s S Ab Ae T z ce F _ mb A0 c0 M _ _ _ m k m2 ra A Q.out HU.out (U.I5 (F':=F) (I3 Y)) (W.I5 (F':=F) (I3 Y)) (X.I5 (F':=F) (I3 Y)) (by rw[H];have:=c3.out;omega) C.out.zQ);have I:Hid (∀w2,(∃J,T4 (wr.alloc (.cells #[.int .i64 s.M0,.string s.K3,.int .i64 s.a.M0,.int .i64 s.a.n,.string s.a.N4,.slice S s.a.args.length T,.int .i64 s.a.pos,.slice Ab s.J0.length z,.slice Ae s.P2.length ce,.int .i64 s.pos] 174)) w2 mb (.slice A0 us.length c0) J (Q4 us (c++(N7 us c.length f b (l.take j)).1.map Prod.fst).length (N7 us c.length f b (l.take j)).2.1 (N7 us c.length f b (l.take j)).2.2 s).2.1 (Q4 us (c++(N7 us c.length f b (l.take j)).1.map Prod.fst).length (N7 us c.length f b (l.take j)).2.1 (N7 us c.length f b (l.take j)).2.2 s).2.2 ((c++(N7 us c.length f b (l.take j)).1.map Prod.fst)++(Q4 us (c++(N7 us c.length f b (l.take j)).1.map Prod.fst).length (N7 us c.length f b (l.take j)).2.1 (N7 us c.length f b (l.take j)).2.2 s).1.map Prod.fst) us F)-> ∃J,T4 w w2 mb (.slice A0 us.length c0) J (N7 us c.length f b (l.take (j+1))).2.1 (N7 us c.length f b (l.take (j+1))).2.2 (c++(N7 us c.length f b (l.take (j+1))).1.map Prod.fst) us F):=zh (by
    rintro w2 ⟨J,h2⟩;rw[H]at h2;refine⟨J,?_⟩;rw[x];simp only;rw[List.map_append,<-B2];exact h2.zeZ C.out.N5 C.out.kp)
   have k0:(0:Int)<=(j:Int):=by omega
   have k1:(j:Int)<(l.length:Int):=by omega
   clear hs U W X u E A v Y hg o x a0 H
   go_upto_region 4 with(fail)
   clear b0 b1 b2 b3 b4 b5 b6 b7 b8 b9;generalize wr.alloc _=wa at C G HS I|-
   generalize wr.heap.size=bx at G|-
   have Z:=O1 G.out
   go_wp2_with fail
   refine HS.out.mono ?_;rintro e w2 ⟨rfl,a1⟩;obtain⟨J,a2⟩:=I.out w2 a1;have c6:=zh a2;clear Z HS I a1 a2
   go_wp2_with fail
   go_roundw
   case rel=>exact⟨j+1,J,k,rb,by omega,by go_num,c5,HN,c6⟩
   case measure=>simp[intOf];omega
  ·obtain rfl:j=l.length:=by omega
   have HE:Hid (∃a3,(N7 us c.length f b l).2.1=f++a3):=zh (Xz us l c.length f b);have p:=y.out;rw[E7]at p;obtain⟨a3,D⟩:=HE.out;rw[D]at p;obtain⟨K,a4⟩:=O3 p.st.rn;obtain⟨L,a5⟩:=O3 p.st.ra;have d2:(0:Int)<=(f.length:Int):=by omega
   have c7:(f.length:Int)<=(M.cn:Int):=by simp at K;omega
   have c8:(f.length:Int)<=(M.ca:Int):=by simp at L;omega
   obtain⟨⟨-,c1,c2,-,-⟩,f1,f2,-⟩:=zE p.st;have a6:=zh (p.below (I8 wr)).cut;have a7:=zh (p.below (I8 wr)).zjc;have c9:=zh p;have d0:Hid (S3 us c.length f b l=((N7 us c.length f b l).1,(N7 us c.length f b l).2.2)):=zh (Ja us l c.length f b);obtain⟨An,cn,S,T,Ao,co⟩:=M;simp only at a4 a5 K L c7 c8 c1 c2 a6 a7 c9;clear y HR Q HA p D K L
   rcases a4 with rfl|⟨gn,rfl⟩<;>rcases a5 with rfl|⟨ga,rfl⟩
   all_goals
    go_upto_region 6 with(fail)
    go_region_law(fail)
    all_goals
     go_end0;rw[d0.out]
     first
      |exact⟨rfl,_,a6.out⟩
      |exact⟨rfl,_,a7.out⟩
end Go.Proofs.YtalgmjmibamdfaaGreatDoor
