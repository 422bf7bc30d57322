/- Merged. -/
import Derived.Test.YtalgmjmibamdfaaGreatDoorCO16b
import Derived.Lib.ItoaLen
set_option linter.all false
set_option maxHeartbeats 16000000
set_option maxRecDepth 100000
namespace Go.Proofs.YtalgmjmibamdfaaGreatDoor
open Go.Proofs.Tryz
open Go.RowKit Tw
section
variable {P L:List Cf}{hf:R4}{M:Mc}{n fuel main:Nat}
theorem xG(h:M.mode≠0):S1 P hf fuel M=(M,2)/\qt P hf fuel M=[]:=by
 cases fuel<;>(unfold S1 qt;rw[E1 h,E1 h];exact⟨rfl,rfl⟩)
theorem xQ(h:M.mode=0):S1 P hf 0 M=(M,3)/\qt P hf 0 M=[]:=by
 unfold S1 qt;rw[B5 (by omega),B5 (by omega)];exact⟨rfl,rfl⟩
theorem xO{v:Int}{fs:List Fq}{f:Fq}:S1 P hf (n+1) ⟨0,v,fs++[f]⟩=(if(R5 P hf v fs f).2 then((R5 P hf v fs f).1,1)else S1 P hf n (R5 P hf v fs f).1)/\qt P hf (n+1) ⟨0,v,fs++[f]⟩=Y5 P f++(if(R5 P hf v fs f).2 then[]else qt P hf n (R5 P hf v fs f).1):=by
 refine⟨?_,?_⟩
 ·conv=>lhs;unfold S1
  simp
 ·conv=>lhs;unfold qt
  simp
theorem QK{l:List Fm}{fs:List Fq}{f:Fq}(h:l.map Prod.fst=fs++[f]): ∃low v s,l=low++[(f,v,s)]/\low.map Prod.fst=fs:=by
 rcases List.eq_nil_or_concat l with rfl|⟨low,x,e⟩
 ·have:=I1 List.length h;simp at this
 ·rw[List.concat_eq_append]at e
  subst e;rw[List.map_append,List.map_singleton]at h;obtain⟨b,a⟩:=List.append_inj' h rfl;injection a with a
  obtain⟨c,v,s⟩:=x;exact⟨low,v,s,by rw[<-a],b⟩
theorem jJ.sml(a:zk L main)(h:jJ L main M){l:List Fm}(e:l.map Prod.fst=M.P0):Jb l:=by
 have b:=h.yh a;refine⟨by have:=I1 List.length e;rw[D9]at this;omega,λx c=>b.2 _ (by rw[<-e];exact G8 c)⟩
theorem zcc.zjn(d:zk L main)(e: ∀c∈L,c.J6.length<=4000){fs:List Fq}{f:Fq}(h:zcc L main fs f): ∀y∈fs++[f],y.I8.length<=600/\y.pc<=4000:=λy g=>by
 obtain⟨i,b⟩:=List.mem_iff_getElem?.1 g;obtain⟨c,o,n,a⟩:=h.jd.2 i y b;have j:=(List.getElem?_eq_some_iff.1 a.op).1;have k:=e c (B7 a.fn);exact⟨(a.yh d (List.getElem?_eq_some_iff.1 b).1).2.1,by omega⟩
end
theorem Zp(P:List Cf)(f:Fq):(Y5 P f).length<=1:=by
 unfold Y5 Q9
 split
 ·simp
 ·split<;>simp
def zbQ(L:List Cf)(Z B:Nat)(hf:R4)(I:World->(Nat->Prop)->List (Int×List Int)->Prop)(t:List (Int×List Int))(fuel:Nat)(M:Mc)(w:World)(e:Ending)(w':World):Prop:=
 ∃a b,e=.returned (.tuple #[.slice a (K4 (S1 L hf fuel M).1).length b,.int .i64 (S1 L hf fuel M).2,.int .i64 0])/\w'.ownsRow w.heap.size 3 1 (.slice a (K4 (S1 L hf fuel M).1).length b) (K4 (S1 L hf fuel M).1).length (iC (K4 (S1 L hf fuel M).1))/\Qh Z B w w'/\ ∃S,I w' S (t++qt L hf fuel M)
theorem zdX(L:List Cf)(main:Nat)(hP:zk L main)(a1:L.length<=16)(h4: ∀c∈L,c.J6.length<=4000)(A:Option Addr)(cp:Nat){Z:Nat}{B:Bd}{g:Nat}{lb:Array Value}{hf:R4}{I:World->(Nat->Prop)->List (Int×List Int)->Prop}(HH:zT Z B g lb hf I)(w:World)(hB:B<=w.heap.size)(hF:M3 w (.slice A L.length cp) (L.map Cf.pf)){M:Mc}(hM:jJ L main M){Al:Option Addr}{cl:Nat}(hl:yE w Al cl (K4 M))(fuel:Nat)(c9:fuel<=1000000){t:List (Int×List Int)}(d0:Hid (t.length+fuel<=1000000))(hI:I w B.S t):
 Calls prog 24 #[.agg #[.slice A L.length cp,.int .i64 main],.slice Al (K4 M).length cl,.int .i64 fuel,.func (.func g) #[] lb] w (zbQ L Z B hf I t fuel M w):=by
 have E:=(y7 w.heap.size w).alloc (y6 _) (.cells #[.slice A L.length cp,.int .i64 main] 26);have u:=zh (y9 w (.cells #[.slice A L.length cp,.int .i64 main] 26));have HF:=zh (hF.J0 (.of E));have d1:=zh hF;have HL:=zh hl;have F:=zh hM;have x:=zh E;have C:=zh hI;have b:=zh HH;have G:=zh hB;have H:=zh hP;have H4:=zh h4;have f0: ¬((fuel:Int)<0):=by omega
 have f1: ¬((1000000:Int)<(fuel:Int)):=by omega
 clear E hF hP h4 hl hM hI HH hB
 go_enter func24,ntmps24
 go_upto_region 1 with(fail)
 generalize World.alloc _ _=w1 at u x HF|-
 generalize a2:w.heap.size=bp at u x G|-
 have J:=zh a2;clear a2;have K:=y5 u.out 0;have N:=y5 u.out 1;have HC:=zh (QM L main H.out a1 H4.out A cp w1 HF.out)
 go_wp2_with fail
 refine HC.out.mono ?_;rintro e w2 ⟨hb,v,xE,rfl,a3,a4⟩;have j:=I7 u.out;replace u:=zh ((hb.block bp j).trans u.out);replace HF:=zh (HF.out.J0 (.of hb));replace x:Hid (Below bp w w2):=zh (x.out.trans (hb.mono (I0 j)));have RC:=zh (zdV L main H.out H4.out A cp w2 HF.out a3 a4 F.out (HL.out.low (by rw[J.out];exact x.out)));clear hb K N HC j a3 a4;have K:=y5 u.out 0;have N:=y5 u.out 1
 go_wp2_with fail
 refine RC.out.mono ?_;rintro e w3 ⟨a5,mb,A',c',l',rfl,a6,a7⟩;have a8:Hid (Below w.heap.size w w3):=zh (by
  have hs:=x.out.size;rw[J.out]at hs|-
  exact x.out.trans (a5.mono hs))
 have a9:Hid (B<=w.heap.size):=zh (by rw[J.out];exact G.out);have h:=zh a7;have O:=zh (Vo.of a8.out a9.out);have Q:=zh (b.out.J0 C.out O.out);have b0:=zh (O.out.qh b.out.le);have a:Hid (zA w3 B mb A L.length cp main M.mode M.value A' c' l'):=zh (a6.mono (by have:=x.out.size;have:=a9.out;show B.n<=w2.heap.size;omega) (b.out.sz Q.out) λk hk=>by have:=(b.out.sz C.out).lt hk;have:=x.out.size;show k<w2.heap.size;omega);clear a5 RC K N a6 a7 u HF x G C O a8 HL
 go_wp2_with fail
 clear f0 f1
 go_loopw[2] (λfv wr=> ∃(k:Nat)(M':Mc)(S:Nat->Prop)(R:List (Int×List Int))(A':Option Addr)(c':Nat)(l':List Fm),fv=.int .i64 k/\k<=1000000/\Hid (R.length+k<=1000000)/\Hid (zA wr ⟨B.n,S⟩ mb A L.length cp main M'.mode M'.value A' c' l')/\Hid (l'.map Prod.fst=M'.P0)/\Hid (jJ L main M')/\Hid (S1 L hf k M'=S1 L hf fuel M)/\Hid (R++qt L hf k M'=t++qt L hf fuel M)/\Hid (I wr S R)/\Hid (Qh Z B w wr)) (λfv _=>(intOf fv).toNat)
 case atStart=>exact⟨fuel,M,B.S,t,A',c',l',rfl,c9,d0,a,h,F,zh rfl,zh rfl,Q,b0⟩
 case round=>
  clear a h F Q b0;obtain⟨k,⟨l,d,d2⟩,S,R,A',c',l',rfl,hk,b1,a,h,F,HR,HT,C,T⟩:=hrel;simp only at a h;obtain⟨⟨K,N,c2,c3,c4⟩,-,-,-⟩:=zv a.out;have U:=zh (XT a.out (F.out.sml H.out h.out));rw[h.out]at U
  by_cases hm:l=0
  ·subst hm
   rcases F.out with⟨-,fs,f,b2,hG⟩|⟨h0,-⟩|⟨h0,-⟩
   case inr.inl=>cases h0
   case inr.inr=>cases h0
   simp only at b2;subst b2;have HG:=zh hG;clear hG;cases k with
   |zero=>
    have m:Hid (S1 L hf fuel M=(⟨0,d,fs++[f]⟩,3)):=zh (HR.out.symm.trans (xQ rfl).1);have V:Hid (t++qt L hf fuel M=R):=zh (by rw[<-HT.out,(xQ rfl).2,List.append_nil])
    go_wp2_with fail
    refine U.out.mono ?_;rintro e w5 ⟨o,A5,c5,rfl,D⟩;have HO:=zh D;have p:=zh (Vo.of o (C4 a.out.lo (I0 (I7 a.out.K3))));clear D o K N c2 c3 c4
    go_wp2_with fail
    go_ret3
    refine⟨A5,c5,by rw[m.out];rfl,?_,T.out.trans (p.out.qh b.out.le),S,by rw[V.out];exact b.out.J0 C.out p.out⟩;rw[m.out];exact HO.out.mono T.out.size
   |succ n=>
    obtain⟨d3,v,s,rfl,d4⟩:=QK h.out;subst d4;obtain⟨⟨M5,b5⟩,hr⟩: ∃r,R5 L hf d (d3.map Prod.fst) f=r:=⟨_,rfl⟩;have b3:=zh hr;have SC:=zh (zgK (B:=⟨B.n,S⟩) H.out a1 b.out a.out (d1.out.J0 T.out.q) C.out (zh (by have:=b1.out;omega)) HG.out.2.1 (by have:=HG.out.2.2;simpa using this) (λy hy=>HG.out.zjn H.out H4.out _ (List.mem_append_left _ (G8 hy))) H4.out);have b4:Hid (jJ L main M5):=zh (by have:=Qf H.out hf d HG.out;rw[hr]at this;exact this);have W:Hid (S1 L hf fuel M=if b5 then(M5,1)else S1 L hf n M5):=zh (by rw[<-HR.out,xO.1,hr]);have b6:Hid (t++qt L hf fuel M=R++Y5 L f++if b5 then[]else qt L hf n M5):=zh (by rw[<-HT.out,xO.2,hr,B9]);have e0:(((n+1:Nat):Int)==0)=false:=beq_eq_false_iff_ne.2 (by omega);have e1:IntKind.i64.wrap (((n+1:Nat):Int)-1)=(n:Int):=by rw[show((n+1:Nat):Int)-1=n by omega];exact IntWalk.i64_in _ (by omega)
    clear hr U HR HT HG F
    go_upto_region 13 with(fail)
    clear K N c2 c3 c4 e0 e1
    go_wp2_with fail
    refine SC.out.mono ?_;rintro e w5 ⟨he,S5,i,b7,b8⟩;rw[b3.out]at he i;obtain⟨A5,c5,l5,i,X⟩:=i;simp only at he i X;subst he;have z:=zh i;have Y:=zh X;have b9:=zh b8;have a0:=zh (T.out.trans b7);clear i X b8 b7 SC a C T h b3;cases b5 with
    |true=>
     have U:=zh (XT z.out (b4.out.sml H.out Y.out));rw[Y.out]at U
     go_wp2_with fail
     refine U.out.mono ?_;rintro e w6 ⟨c7,A6,c6,rfl,D⟩;have HO:=zh D;have c8:=zh (Vo.of c7 (C4 z.out.lo (I0 (I7 z.out.K3))));clear D c7
     go_wp2_with fail
     go_ret3
     refine⟨A6,c6,by rw[W.out];rfl,?_,a0.out.trans (c8.out.qh b.out.le),S5,by have e:=b6.out;simp only[if_true,List.append_nil]at e;rw[e];exact b.out.J0 b9.out c8.out⟩;rw[W.out];exact HO.out.mono a0.out.size
    |false=>
     go_wp2_with fail
     go_roundw
     case rel=>exact⟨n,M5,S5,_,A5,c5,l5,rfl,by omega,zh (by have:=b1.out;have:=Zp L f;rw[z9];omega),z,Y,b4,zh W.out.symm,zh b6.out.symm,b9,a0⟩
     case measure=>simp[intOf]
  ·have e0:(l==0)=false:=beq_eq_false_iff_ne.2 hm
   have m:Hid (S1 L hf fuel M=(⟨l,d,d2⟩,2)):=zh (HR.out.symm.trans (xG hm).1);have V:Hid (t++qt L hf fuel M=R):=zh (by rw[<-HT.out,(xG hm).2,List.append_nil]);clear hm
   go_wp2_with fail
   refine U.out.mono ?_;rintro e w5 ⟨o,A5,c5,rfl,D⟩;have HO:=zh D;have p:=zh (Vo.of o (C4 a.out.lo (I0 (I7 a.out.K3))));clear D o K N c2 c3 c4
   go_wp2_with fail
   go_ret3
   refine⟨A5,c5,by rw[m.out];rfl,?_,T.out.trans (p.out.qh b.out.le),S,by rw[V.out];exact b.out.J0 C.out p.out⟩;rw[m.out];exact HO.out.mono T.out.size
theorem Yp(w:World)(n:Nat):Below w.heap.size w (w.drewN n):=J9 (y7 _ _) _
theorem ZU(l:List Int)(A A':Option Addr)(c c':Nat)(F F':Nat->Prop)(w:World)(h:K9 w F (.slice A l.length c) l)(i:K9 w F' (.slice A' l.length c') l)(t:l.length<=281474976710656):
 Calls prog 12 #[.slice A l.length c,.slice A' l.length c'] w λe w'=>e=.returned (.bool true)/\Below w.heap.size w w':=by
 by_cases k:l=[]
 ·subst k
  refine(Tryz.slices_Equal_int_empty A A' c 0 c' w (by decide)).mono ?_;rintro e w' ⟨rfl,rfl⟩;exact⟨rfl,y7 _ _⟩
 ·have m:0<l.length:=List.length_pos_iff.2 k
  obtain⟨g,b,rfl,-,-⟩:=h.at 0 _ (y8 m);obtain⟨p,a,rfl,-,-⟩:=i.at 0 _ (y8 m);have r: ∀j,j<l.length->w.cell? ⟨g,b+j,none⟩=some (.int .i64 (l.getD j 0)):=by
   intro j d;obtain⟨q,o,e,-,f⟩:=h.at j _ (y8 d);cases e;rw[f];simp[List.getD_eq_getElem?_getD,y8 d]
  have s: ∀j,j<l.length->w.cell? ⟨p,a+j,none⟩=some (.int .i64 (l.getD j 0)):=by
   intro j d;obtain⟨q,o,e,-,f⟩:=i.at j _ (y8 d);cases e;rw[f];simp[List.getD_eq_getElem?_getD,y8 d]
  refine(Tryz.slices_Equal_int g b l.length c p a l.length c' l l w (y6 _) (y6 _) (by omega) (by omega) r s).mono ?_;rintro e w' ⟨rfl,n,rfl⟩;exact⟨by simp,Yp w n⟩
theorem Qh.below{w w':World}(h:Qh w.heap.size w.heap.size w w'):Below w.heap.size w w':=⟨h.os,h.tape,h.output,h.size,h.low⟩
theorem zeK{w:World}{base c:Nat}{A:Option Addr}{l:List Int}(h:w.ownsRow base 3 1 (.slice A l.length c) l.length (iC l)):yE w A c l:=⟨Y9 h λ_ _=>trivial,(N9 h).1⟩
def zo:List Cf:=[⟨0,0,[((1,7),0),((18,0),1)]⟩]
theorem QB:zk zo 0:=by
 refine⟨λc b=>?_,⟨_,rfl,rfl⟩⟩;obtain rfl:=List.mem_singleton.1 b;refine⟨by decide,by decide,⟨_,rfl⟩,λk _ d=>?_⟩
 match k,d with
 |0,_=>exact⟨_,_,rfl,⟨by decide,by decide,λh=>I2 rfl h,λh=>by cases h⟩,by decide,by decide,λj a=>by
  obtain rfl:j=1:=by simpa[L5]using a
  exact⟨_,rfl⟩⟩
 |1,_=>exact⟨_,_,rfl,⟨by decide,by decide,λ_=>by decide,λh=>by cases h⟩,by decide,by decide,λj a=>by simp[L5]at a⟩
 |n+2,h=>simp at h;omega
theorem zb8(hf:R4):S1 zo hf 10 (L0 zo 0)=(⟨1,7,[]⟩,2):=by rfl
theorem zg5(B:Nat):zT B B 25 #[] (λ_ _=>(0,0)) (λ_ S _=> ∀k,¬S k)where
 le:=y6 _
 J0:=λh _=>h
 sz:=λh k a=>I2 a (h k)
 call:=λf g A c w _ t _ b _ _ _ _=>by
  have h:Calls prog 25 #[.int .i64 f,.slice A g.length c] w λe d=>e=.returned (.tuple #[.int .i64 0,.int .i64 0])/\d=w:=by
   go_enter func25,ntmps25
   go_wp2_with fail
   go_ret2;exact⟨rfl,rfl⟩
  exact h.mono λe d ⟨i,j⟩=>⟨i,⟨_,b,λk a=>I2 a (b k)⟩,by subst j;exact⟨rfl,rfl,rfl,λ_ _=>rfl,y6 _,λ_ _ _ _ _ _=>rfl⟩⟩
 eg:=λargs w=>by
  have l:=func25;unfold callFunc;simp[l];rfl
theorem zfn(w:World):Calls prog 5 #[] w λe w'=>e=.returned (.bool true)/\Below w.heap.size w w':=by
 have I:=(y7 w.heap.size w).alloc (y6 _) (.cells #[.int .i64 1,.int .i64 7,.int .i64 18,.int .i64 0] 74);have J:=I.alloc I.size (.cells #[.int .i64 0,.int .i64 0,.slice (some ⟨w.heap.size,0,none⟩) 2 2] 40);have T:=J.alloc J.size (.cells #[.slice (some ⟨w.heap.size+1,0,none⟩) 1 1,.int .i64 0] 26);have hX: ∃x a bp W,x=w.heap.size/\a=w.heap.size+1/\bp=w.heap.size+2/\W=((w.alloc (.cells #[.int .i64 1,.int .i64 7,.int .i64 18,.int .i64 0] 74)).alloc (.cells #[.int .i64 0,.int .i64 0,.slice (some ⟨w.heap.size,0,none⟩) 2 2] 40)).alloc (.cells #[.slice (some ⟨w.heap.size+1,0,none⟩) 1 1,.int .i64 0] 26)/\W.heap[x]?=some (.cells #[.int .i64 1,.int .i64 7,.int .i64 18,.int .i64 0] 74 (0,0))/\W.heap[a]?=some (.cells #[.int .i64 0,.int .i64 0,.slice (some ⟨x,0,none⟩) 2 2] 40 (0,0))/\W.heap[bp]?=some (.cells #[.slice (some ⟨a,0,none⟩) 1 1,.int .i64 0] 26 (0,0)):=by
  refine⟨_,_,_,_,rfl,rfl,rfl,rfl,?_,?_,?_⟩
  ·rw[D4 _ _ (by simp;omega),D4 _ _ (by simp)];exact y9 _ _
  ·rw[D4 _ _ (by simp)]
   have:=y9 (w.alloc (.cells #[.int .i64 1,.int .i64 7,.int .i64 18,.int .i64 0] 74)) (.cells #[.int .i64 0,.int .i64 0,.slice (some ⟨w.heap.size,0,none⟩) 2 2] 40);simpa using this
  ·have:=y9 ((w.alloc (.cells #[.int .i64 1,.int .i64 7,.int .i64 18,.int .i64 0] 74)).alloc (.cells #[.int .i64 0,.int .i64 0,.slice (some ⟨w.heap.size,0,none⟩) 2 2] 40)) (.cells #[.slice (some ⟨w.heap.size+1,0,none⟩) 1 1,.int .i64 0] 26)
   simpa using this
 obtain⟨x,a,bp,i,j,G,h3,K,u,y,U⟩:=hX;have L:Hid (M3 i (.slice (some ⟨a,0,none⟩) zo.length 1) (zo.map Cf.pf)):=zh (.inr ⟨a,1,_,_,rfl,y6 _,y,λk f r=>by
  match k,r with
  |0,r=>
   injection r with r
   subst r;refine⟨_,y5 y 0,y5 y 1,y5 y 2,x,2,_,_,rfl,y6 _,u,λq o b=>?_⟩
   match q,b with
   |0,b=>injection b with b;subst b;exact⟨y5 u 0,y5 u 1⟩
   |1,b=>injection b with b;subst b;exact⟨y5 u 2,y5 u 3⟩
   |n+2,b=>simp[zo,Cf.pf]at b
  |n+1,r=>simp[zo]at r⟩)
 have V:Hid (Below w.heap.size w i):=zh (by rw[K];exact T);have s:=zh U;have X:Hid (∀W,Below i.heap.size i W->M3 W (.slice (some ⟨a,0,none⟩) zo.length 1) (zo.map Cf.pf)):=zh (λW hW=>L.out.J0 (.of hW));clear I J T u y U
 go_enter func5,ntmps5
 go_upto_region 2 with(fail)
 have z:a+1=bp:=by omega
 rw[<-K];simp only[<-G,z];clear j G h3 K z;have M:i.cell? ⟨bp,0,none⟩=some (.slice (some ⟨a,0,none⟩) 1 1):=y5 s.out 0;have N:i.cell? ⟨bp,1,none⟩=some (.int .i64 0):=y5 s.out 1;have H:=I7 s.out;refine W4 (D:=Value×Value×World) (by kernel_rfl) [(0,12),(1,13),(2,14),(3,15),(4,11),(5,16),(6,17),(7,18),(8,2),(9,3),(10,4)] [2,3] [[],[2],[2,3]] (λ_ d=>[(0,12,.agg #[.slice (some ⟨a,0,none⟩) 1 1,.int .i64 0]),(1,13,.agg #[.slice (some ⟨a,0,none⟩) 1 1,.int .i64 0]),(2,14,d.1),(3,15,.tuple #[d.2.1,.int .i64 2,.int .i64 0]),(4,11,.tuple #[d.2.1,.int .i64 2,.int .i64 0]),(5,16,d.2.1),(6,17,.int .i64 2),(7,18,.int .i64 0),(8,2,d.2.1),(9,3,.int .i64 2),(10,4,.int .i64 0)]) (λ_ d=>d.2.2) (λj' d=>Below i.heap.size i d.2.2/\match j' with|0=>True|1=> ∃A c,d.1=.slice A (K4 (L0 zo 0)).length c/\yE d.2.2 A c (K4 (L0 zo 0))|_=> ∃A c,d.2.1=.slice A 3 c/\K9 d.2.2 (λ_=>True) (.slice A 3 c) [1,7,0]) [(0,0),(0,1),(1,0),(2,0),(3,1),(4,2),(5,2),(6,2),(7,2),(8,2),(9,2),(10,2)] (by kernel_rfl) (by kernel_rfl) (λ_ _=>rfl) (by rfl) (undef,undef,i.drew) rfl ⟨J5 i,trivial⟩ rfl ?_ ?_
 ·repeat' (first|refine List.forall_mem_cons.2 ⟨?_,?_⟩|exact List.forall_mem_nil _)
  all_goals
   intro o' m;injection m with m
   subst m;rintro⟨sv,Y,W⟩ ⟨g,v⟩;simp only at g v
  rotate_left 3
  ·refine .call 10 #[.agg #[.slice (some ⟨a,0,none⟩) 1 1,.int .i64 0]] (by simp[J8,execOp,go_sem]) ((zbq zo 0 QB (by decide) (by decide) (some ⟨a,0,none⟩) 1 W (X.out W g)).mono ?_)
   rintro e O ⟨P,A,c,rfl,m⟩;exact⟨_,1,(.slice A (K4 (L0 zo 0)).length c,Y,O),rfl,.of (by decide) ⟨g.trans (P.mono g.size),A,c,rfl,zeK m⟩ rfl rfl,rfl,rfl⟩
  ·obtain⟨A,c,j,hs⟩:=v
   subst j;refine .call 24 #[.agg #[.slice (some ⟨a,0,none⟩) 1 1,.int .i64 0],.slice A (K4 (L0 zo 0)).length c,.int .i64 10,.func (.func 25) #[] #[]] (by simp[J8,execOp,go_sem]) ((zdX (B:=bd W.heap.size) zo 0 QB (by decide) (by decide) (some ⟨a,0,none⟩) 1 (zg5 W.heap.size) W (y6 _) (X.out W g) (QO QB).1 hs 10 (by decide) (t:=[]) (zh (by decide)) λ_ h=>h).mono ?_);rintro e O ⟨Z,c2,rfl,m,b,-⟩;rw[zb8]at m|-
   refine⟨_,2,(.slice A (K4 (L0 zo 0)).length c,.slice Z 3 c2,O),rfl,⟨by decide,⟨g.trans (b.below.mono g.size),Z,c2,rfl,Y9 m λ_ _=>trivial⟩,rfl,λe he j G=>?_⟩,rfl,rfl⟩;simp only[E7,List.mem_nil_iff,or_false]at he|-
   rcases he with rfl|rfl|rfl|rfl|rfl|rfl|rfl|rfl|rfl|rfl|rfl
   all_goals first|(simp;done)|exact I2 rfl j|exact I2 (G.symm.trans (by kernel_rfl:_=true)) (by decide)
  all_goals exact .xk rfl (by simp[J8,X9,execOp,go_sem,M,N,H,(g.cell (p:=⟨bp,0,none⟩) H).trans M,(g.cell (p:=⟨bp,1,none⟩) H).trans N])
 ·rintro jj ⟨sv,Y,W⟩ ⟨g,v⟩ hd
  have hj:=hd 3 (by decide) (by decide)
  match jj,v,hj with
  |0,_,h=>cases h
  |1,_,h=>cases h
  |2,v,_=>
   obtain⟨A,c,j,Q⟩:=v;simp only at j g Q;subst j;have C:=zh (V.out.trans (g.mono V.out.size));have HI:=zh Q;clear hd g Q M N H;simp only[J8,B6,C0,List.append_nil,List.foldl];go_simp;have R:=(y7 W.heap.size W).alloc (y6 _) (.cells #[.int .i64 1,.int .i64 7,.int .i64 0] 3);have HE:=zh (ZU [1,7,0] A (some ⟨W.heap.size,0,none⟩) c 3 (λ_=>True) (λ_=>True) (W.alloc (.cells #[.int .i64 1,.int .i64 7,.int .i64 0] 3)) (HI.out.low R) (U1 (l:=[1,7,0]) (y9 W _) trivial) (by decide));have E:=zh (C.out.trans (R.mono C.out.size));clear R
   go_wp2_with fail
   refine HE.out.mono ?_;rintro e w4 ⟨rfl,F⟩;have S:=zh (E.out.trans (F.mono E.out.size));clear F HE
   go_wp2_with fail
   go_ret;exact⟨rfl,S.out⟩
  |n+3,_,h=>cases h
end Go.Proofs.YtalgmjmibamdfaaGreatDoor
namespace Go.Proofs.YtalgmjmibamdfaaGreatDoor
open Go.RowKit Tw
inductive GE where
 |Zw (s:ByteArray)|lit (n:Nat)|neg (x:GE)|call (f:Nat) (x y:GE)|host (k:Nat) (x:GE)|Je (o:Nat) (x y:GE)
 |not (x:GE)|and (x y:GE)|or (x y:GE)|tf (k:Nat)|cmp (o:Nat) (x y:GE)
inductive GL where
 |nil|set (s:ByteArray) (x:GE) (r:GL)|js (x:GE) (r:GL)|QZ (c:GE) (a b r:GL)|jf (i n:Nat) (l r:GL)|run (x:GE) (r:GL)|ret (x:GE) (r:GL)|bind (i:Nat) (x:GE) (r:GL)
def jV(n:Nat):ByteArray:=⟨(Lib.itoa (n:Int)).toArray⟩
def Zt(o:Nat):ByteArray:=match o with|0=>⟨#[43]⟩|1=>⟨#[45]⟩|2=>⟨#[42]⟩|3=>⟨#[47]⟩|_=>⟨#[37]⟩
def Qd(o:Nat):ByteArray:=match o with|0=>⟨#[32,60,32]⟩|1=>⟨#[32,60,61,32]⟩|2=>⟨#[32,62,32]⟩|3=>⟨#[32,62,61,32]⟩|4=>⟨#[32,61,61,32]⟩|_=>⟨#[32,33,61,32]⟩
def tfT(k:Nat):ByteArray:=match k with|0=>⟨#[116,114,117,101]⟩|_=>⟨#[102,97,108,115,101]⟩
def vT(m:Nat):ByteArray:=⟨#[118]⟩++jV m
def iT(m:Nat):ByteArray:=⟨#[105]⟩++jV m
def GE.P8:GE->ByteArray
 |.Zw s=>s
 |.lit n=>jV n
 |.neg x=>⟨#[45,40]⟩++x.P8++⟨#[41]⟩
 |.call f x y=>⟨#[102]⟩++jV f++⟨#[40]⟩++x.P8++⟨#[44,32]⟩++y.P8++⟨#[41]⟩
 |.host k x=>⟨#[64]⟩++jV k++⟨#[40]⟩++x.P8++⟨#[41]⟩
 |.Je o x y=>⟨#[40]⟩++x.P8++⟨#[32]⟩++Zt o++⟨#[32]⟩++y.P8++⟨#[41]⟩
 |.not x=>⟨#[33,40]⟩++x.P8++⟨#[41]⟩
 |.and x y=>⟨#[40]⟩++x.P8++⟨#[32,38,38,32]⟩++y.P8++⟨#[41]⟩
 |.or x y=>⟨#[40]⟩++x.P8++⟨#[32,124,124,32]⟩++y.P8++⟨#[41]⟩
 |.tf k=>tfT k
 |.cmp o x y=>x.P8++Qd o++y.P8
def GL.P8:GL->ByteArray
 |.nil=>⟨#[]⟩
 |.set s x r=>(s++⟨#[32,61,32]⟩++x.P8++⟨#[59,32]⟩)++r.P8
 |.js x r=>(⟨#[121,105,101,108,100,32]⟩++x.P8++⟨#[59,32]⟩)++r.P8
 |.QZ c a b r=>(⟨#[105,102,32]⟩++c.P8++⟨#[32,123,32]⟩++a.P8++⟨#[125,32,101,108,115,101,32,123,32]⟩++b.P8++⟨#[125,32]⟩)++r.P8
 |.jf i n l r=>(⟨#[108,101,116,32]⟩++iT i++⟨#[32,61,32,48,59,32,119,104,105,108,101,32]⟩++iT i++⟨#[32,60,32]⟩++jV n++⟨#[32,123,32]⟩++l.P8++iT i++⟨#[32,61,32]⟩++iT i++⟨#[32,43,32,49,59,32,125,32]⟩)++r.P8
 |.run x r=>(x.P8++⟨#[59,32]⟩)++r.P8
 |.ret x r=>(⟨#[114,101,116,117,114,110,32]⟩++x.P8++⟨#[59,32]⟩)++r.P8
 |.bind i x r=>(⟨#[108,101,116,32]⟩++vT i++⟨#[32,61,32]⟩++x.P8++⟨#[59,32]⟩)++r.P8
def GL.W8:GL->GL->GL
 |.nil,b=>b
 |.set s x r,b=>.set s x (r.W8 b)
 |.js x r,b=>.js x (r.W8 b)
 |.QZ c a d r,b=>.QZ c a d (r.W8 b)
 |.jf i n l r,b=>.jf i n l (r.W8 b)
 |.run x r,b=>.run x (r.W8 b)
 |.ret x r,b=>.ret x (r.W8 b)
 |.bind i x r,b=>.bind i x (r.W8 b)
theorem Yz(b:ByteArray):(⟨#[]⟩:ByteArray)++b=b:=by
 apply ByteArray.ext;simp[ByteArray.data_append]
theorem qC(b:ByteArray):b++(⟨#[]⟩:ByteArray)=b:=by
 apply ByteArray.ext;simp[ByteArray.data_append]
theorem GL.XZ(a b:GL):(a.W8 b).P8=a.P8++b.P8:=by
 induction a with
 |nil=>simp only[GL.W8,GL.P8,Yz]
 |_=>simp only[GL.W8,GL.P8,ByteArray.append_assoc, *]
def Nx(N n i k a:Nat):Prop:=k<n/\((i<N/\a=i+1)\/(i=N/\a=N/\k=0))
inductive zJ(N:Nat)(ns:List ByteArray)(low:Nat):Nat->Nat->GE->Nat->Prop
 |Zw {d i i1 i2 k j:Nat} {s:ByteArray}:Nx N 9 i k i1->Nx N ns.length i1 j i2->ns[j]?=some s->zJ N ns low d i (.Zw s) i2
 |lit {d i i1 i2 k n:Nat}:Nx N 9 i k i1->Nx N 20 i1 n i2->zJ N ns low d i (.lit n) i2
 |neg {d i i2:Nat} {x:GE}:i<N->zJ N ns low d (i+1) x i2->zJ N ns low (d+1) i (.neg x) i2
 |call {d i i2 i3 i4 f:Nat} {x y:GE}:i<N->Nx N low (i+1) f i2->zJ N ns low d i2 x i3->zJ N ns low d i3 y i4->zJ N ns low (d+1) i (.call f x y) i4
 |host {d i i2 i3 k:Nat} {x:GE}:i<N->Nx N 4 (i+1) k i2->zJ N ns low d i2 x i3->zJ N ns low (d+1) i (.host k x) i3
 |Je {d i i2 i3 i4 o:Nat} {x y:GE}:i<N->zJ N ns low d (i+1) x i2->Nx N 5 i2 o i3->zJ N ns low d i3 y i4->zJ N ns low (d+1) i (.Je o x y) i4
inductive zS(N:Nat)(ns:List ByteArray)(low:Nat):Nat->Nat->GE->Nat->Prop
 |not {d i i1 i2 k:Nat} {x:GE}:Nx N 6 i k i1->zS N ns low d i1 x i2->zS N ns low (d+1) i (.not x) i2
 |and {d i i2 i3:Nat} {x y:GE}:i<N->zS N ns low d (i+1) x i2->zS N ns low d i2 y i3->zS N ns low (d+1) i (.and x y) i3
 |or {d i i2 i3:Nat} {x y:GE}:i<N->zS N ns low d (i+1) x i2->zS N ns low d i2 y i3->zS N ns low (d+1) i (.or x y) i3
 |tf {d i i2 k:Nat}:i<N->Nx N 2 (i+1) k i2->zS N ns low d i (.tf k) i2
 |cmp {d i i1 i2 i3 i4 k o:Nat} {x y:GE}:Nx N 6 i k i1->zJ N ns low 1 i1 x i2->Nx N 6 i2 o i3->zJ N ns low 1 i3 y i4->zS N ns low d i (.cmp o x y) i4
structure Ms where
 ns:List ByteArray
 m:Nat
 i:Nat
inductive yG(N low:Nat)(B:Ms->GL->Ms->Prop):Ms->GL->Ms->Prop
 |set {ns:List ByteArray} {m i i1 i2 i3 j:Nat} {s:ByteArray} {x:GE}:Nx N 8 i 0 i1->Nx N ns.length i1 j i2->ns[j]?=some s->zJ N ns low 2 i2 x i3->yG N low B ⟨ns,m,i⟩ (.set s x .nil) ⟨ns,m,i3⟩
 |js {ns:List ByteArray} {m i i2:Nat} {x:GE}:i<N->zJ N ns low 2 (i+1) x i2->yG N low B ⟨ns,m,i⟩ (.js x .nil) ⟨ns,m,i2⟩
 |QZ {ns:List ByteArray} {m i i2:Nat} {c:GE} {a b:GL} {s1 s2:Ms}:i<N->zS N ns low 2 (i+1) c i2->B ⟨ns,m,i2⟩ a s1->B s1 b s2->yG N low B ⟨ns,m,i⟩ (.QZ c a b .nil) s2
 |jf {ns:List ByteArray} {m i i2 n:Nat} {l:GL} {s2:Ms}:i<N->Nx N 4 (i+1) n i2->B ⟨ns,m+1,i2⟩ l s2->yG N low B ⟨ns,m,i⟩ (.jf (m+1) n l .nil) s2
 |run {ns:List ByteArray} {m i i2:Nat} {x:GE}:i<N->zJ N ns low 2 (i+1) x i2->yG N low B ⟨ns,m,i⟩ (.run x .nil) ⟨ns,m,i2⟩
 |ret {ns:List ByteArray} {m i i2 i3 k:Nat} {x:GE}:i<N->Nx N 8 (i+1) k i2->zJ N ns low 1 i2 x i3->yG N low B ⟨ns,m,i⟩ (.ret x .nil) ⟨ns,m,i3⟩
 |bind {ns:List ByteArray} {m i i1 i2:Nat} {x:GE}:(i<i1/\i1<=N\/i=N/\i1=N)->zJ N ns low 2 i1 x i2->yG N low B ⟨ns,m,i⟩ (.bind (m+1) x .nil) ⟨ns++[vT (m+1)],m+1,i2⟩
inductive Run(S:Ms->GL->Ms->Prop):Nat->Ms->GL->Ms->Prop
 |nil {s:Ms}:Run S 0 s .nil s
 |xb {j:Nat} {s s1 s2:Ms} {g x:GL}:Run S j s g s1->S s1 x s2->Run S (j+1) s (g.W8 x) s2
def xc(N:Nat)(S:Ms->GL->Ms->Prop)(s:Ms)(g:GL)(s':Ms):Prop:= ∃j b a,Nx N 4 s.i j b/\Run S j ⟨s.ns,s.m,b⟩ g a/\s'=⟨s.ns,a.m,a.i⟩
def noB:Ms->GL->Ms->Prop:=λ_ _ _=>False
def Jt(N low:Nat):Nat->Ms->GL->Ms->Prop
 |0=>xc N (yG N low noB)
 |d+1=>xc N (yG N low (Jt N low d))
def Jl(N low:Nat):Nat->Ms->GL->Ms->Prop
 |0=>yG N low noB
 |d+1=>yG N low (Jt N low d)
theorem zdK(N low d:Nat):Jt N low d=xc N (Jl N low d):=by cases d<;>rfl
theorem Q3(a:Array UInt8):ByteArray.size ⟨a⟩=a.size:=rfl
theorem qv(n:Nat)(h:n<=2000000):(jV n).size<=21:=by
 have:=Lib.itoa_length_le (n:Int) (by omega) (by omega);simpa[jV,ByteArray.size]using this
theorem zJ.T4{N:Nat}{ns:List ByteArray}{low d i p:Nat}{x:GE}(c: ∀s∈ns,s.size<=22)(w:low<=2)(h:zJ N ns low d i x p):x.P8.size<=80*2^d*2-80:=by
 have q: ∀o,(Zt o).size=1:=by intro o;unfold Zt;split<;>rfl
 have a: ∀d:Nat,1<=2^d:=λd=>Nat.one_le_two_pow
 induction h with
 | @Zw d i r b k j s _ _ t=>have:=c _ (B7 t);have:=a d;simp only[GE.P8];omega
 | @lit d i r b k n _ h=>have:=qv n (by have:=h.1;omega);have:=a d;simp only[GE.P8];omega
 | @neg d _ _ _ _ _ u=>have:=a d;simp only[GE.P8,D0,Nat.pow_succ,Q3,E4,z7,B1];omega
 | @call d i b m v f x y _ e _ _ g l=>
   have:=qv f (by have:=e.1;omega);have:=a d;simp only[GE.P8,D0,Nat.pow_succ,Q3,E4,z7,B1];omega
 | @host d i b m k x _ e _ u=>
   have:=qv k (by have:=e.1;omega);have:=a d;simp only[GE.P8,D0,Nat.pow_succ,Q3,E4,z7,B1];omega
 | @Je d i b m v o x y _ _ _ _ g l=>
   have:=a d;simp only[GE.P8,D0,Nat.pow_succ,q,Q3,E4,z7,B1];omega
theorem zS.T4{N:Nat}{ns:List ByteArray}{low d i g:Nat}{x:GE}(a: ∀s∈ns,s.size<=22)(f:low<=2)(h:zS N ns low d i x g):x.P8.size<=500*2^d*2-400:=by
 have j: ∀o,(Qd o).size<=4:=by intro o;unfold Qd;split<;>decide
 have l: ∀o,(tfT o).size<=5:=by intro o;unfold tfT;split<;>decide
 have b: ∀d:Nat,1<=2^d:=λd=>Nat.one_le_two_pow
 induction h with
 | @not d _ _ _ _ _ _ _ p=>have:=b d;simp only[GE.P8,D0,Nat.pow_succ,Q3,E4,z7,B1];omega
 | @and d _ _ _ _ _ _ _ _ c e=>have:=b d;simp only[GE.P8,D0,Nat.pow_succ,Q3,E4,z7,B1];omega
 | @or d _ _ _ _ _ _ _ _ c e=>have:=b d;simp only[GE.P8,D0,Nat.pow_succ,Q3,E4,z7,B1];omega
 | @tf d _ _ k _ _=>have:=l k;have:=b d;simp only[GE.P8];omega
 | @cmp d i q r t u k o x y _ m _ n=>have:=m.T4 a f;have:=n.T4 a f;have:=j o;have:=b d;simp only[GE.P8,D0];omega
def Ju:Nat->Nat
 |0=>3
 |d+1=>3*(1+2*Ju d)
def szB:Nat->Nat
 |0=>3*5000
 |d+1=>3*(5000+2*szB d)
def yc(ns:List ByteArray):Prop:= ∀s∈ns,s.size<=22
theorem zeN(m:Nat)(h:m<=2000000):(vT m).size<=22:=by
 have:=qv m h;simp only[vT,D0,Q3,E4,z7,B1];omega
theorem zfe(m:Nat)(h:m<=2000000):(iT m).size<=22:=by
 have:=qv m h;simp only[iT,D0,Q3,E4,z7,B1];omega
def Bnd(M Z:Nat)(s:Ms)(g:GL)(s':Ms):Prop:=yc s.ns->s.m+M<=2000000->s.m<=s'.m/\s'.m<=s.m+M/\g.P8.size<=Z/\yc s'.ns/\s'.ns.length<=s.ns.length+1
theorem yG.T4{N low M Z:Nat}{B:Ms->GL->Ms->Prop}(o:low<=2)(r: ∀s g s',B s g s'->Bnd M Z s g s'/\s'.ns=s.ns){s:Ms}{g:GL}{s':Ms}(h:yG N low B s g s'):Bnd (1+2*M) (5000+2*Z) s g s':=by
 cases h with
 | @set p m i C q D j s x _ _ t f=>
   intro d e;have:=d _ (B7 t);have:=f.T4 d o;refine⟨y6 _,Nat.le_add_right _ _,?_,d,Nat.le_add_right _ _⟩;simp only[GL.P8,D0,Q3,E4,z7,B1];omega
 | @js p m i q x _ f=>
   intro d e;have:=f.T4 d o;refine⟨y6 _,Nat.le_add_right _ _,?_,d,Nat.le_add_right _ _⟩;simp only[GL.P8,D0,Q3,E4,z7,B1];omega
 | @QZ p m i q c a b Q E _ F G H=>
   intro d e;have:=F.T4 d o;obtain⟨u,v⟩:=r _ _ _ G;obtain⟨w,y,I,z,J⟩:=u d (by simp only at e|-;omega);obtain⟨K,L⟩:=r _ _ _ H;simp only at y e w;obtain⟨R,S,T,O,U⟩:=K z (by omega);refine⟨by simp only;omega,by simp only;omega,?_,O,by rw[L,v];simp⟩;simp only[GL.P8,D0,Q3,E4,z7,B1];omega
 | @jf p m i q n l E _ P A=>
   intro d e;obtain⟨u,v⟩:=r _ _ _ A;simp only at e;obtain⟨w,y,I,z,J⟩:=u d (by simp only;omega);simp only at w y;have:=zfe (m+1) (by omega);have:=qv n (by have:=P.1;omega);refine⟨by simp only;omega,by simp only;omega,?_,z,by rw[v];simp⟩;simp only[GL.P8,D0,Q3,E4,z7,B1];omega
 | @run p m i q x _ f=>
   intro d e;have:=f.T4 d o;refine⟨y6 _,Nat.le_add_right _ _,?_,d,Nat.le_add_right _ _⟩;simp only[GL.P8,D0,Q3,E4,z7,B1];omega
 | @ret p m i q D k x _ _ f=>
   intro d e;have:=f.T4 d o;refine⟨y6 _,Nat.le_add_right _ _,?_,d,Nat.le_add_right _ _⟩;simp only[GL.P8,D0,Q3,E4,z7,B1];omega
 | @bind p m i C q x _ f=>
   intro d e;have:=f.T4 d o;simp only at e;have:=zeN (m+1) (by omega);refine⟨Nat.le_succ _,by simp only;omega,?_,?_,by simp⟩
   ·simp only[GL.P8,D0,Q3,E4,z7,B1];omega
   ·intro s t
    rcases List.mem_append.1 t with h|h
    ·exact d s h
    ·simp at h;subst h;assumption
theorem Run.T4{S:Ms->GL->Ms->Prop}{M Z:Nat}(b: ∀s g s',S s g s'->Bnd M Z s g s'){j:Nat}{s:Ms}{g:GL}{s':Ms}(h:Run S j s g s'):
 yc s.ns->s.m+j*M<=2000000->s.m<=s'.m/\s'.m<=s.m+j*M/\g.P8.size<=j*Z/\yc s'.ns/\s'.ns.length<=s.ns.length+j:=by
 induction h with
 |nil=>intro a _;exact⟨y6 _,by simp,by simp[GL.P8,ByteArray.size],a,by simp⟩
 | @xb j s k l g x _ c d=>
   intro a e;rw[Nat.succ_mul]at e;obtain⟨n,o,p,f,q⟩:=d a (by omega);obtain⟨r,t,u,i,v⟩:=b _ _ _ c f (by omega);refine⟨by omega,by rw[Nat.succ_mul];omega,?_,i,by omega⟩;rw[GL.XZ,D0,Nat.succ_mul];omega
theorem xc.T4{N:Nat}{S:Ms->GL->Ms->Prop}{M Z:Nat}(d: ∀s g s',S s g s'->Bnd M Z s g s'){s:Ms}{g:GL}{s':Ms}(h:xc N S s g s'):Bnd (3*M) (3*Z) s g s'/\s'.ns=s.ns:=by
 obtain⟨j,k,l,e,f,rfl⟩:=h;have a:j<=3:=by have:=e.1;omega
 have m:=G6 M a;have n:=G6 Z a;refine⟨λb o=>?_,rfl⟩;obtain⟨c,i,p,q,r⟩:=f.T4 d b (by simp only;omega);simp only at c i;exact⟨c,by simp only;omega,by omega,b,by simp⟩
theorem Jt.T4{N low:Nat}(a:low<=2): ∀(d:Nat)(s:Ms)(g:GL)(s':Ms),Jt N low d s g s'->Bnd (Ju d) (szB d) s g s'/\s'.ns=s.ns:=by
 intro d
 induction d with
 |zero=>intro s g s' h;exact xc.T4 (λs g s' h=>yG.T4 (M:=0) (Z:=0) a (λ_ _ _ h=>h.elim) h) h
 |succ d b=>intro s g s' h;exact xc.T4 (λs g s' h=>yG.T4 a b h) h
def mkS:Nat->Nat
 |0=>1
 |d+1=>1+2*Ju d
def szS:Nat->Nat
 |0=>5000
 |d+1=>5000+2*szB d
theorem zi1(d:Nat):Ju d=3*mkS d:=by cases d<;>rfl
theorem Jl.T4{N low:Nat}(a:low<=2)(d:Nat)(s:Ms)(g:GL)(s':Ms)(h:Jl N low d s g s'):Bnd (mkS d) (szS d) s g s':=by
 cases d with
 |zero=>exact yG.T4 (M:=0) (Z:=0) a (λ_ _ _ h=>h.elim) h
 |succ d=>exact yG.T4 a (Jt.T4 a d) h
end Go.Proofs.YtalgmjmibamdfaaGreatDoor
namespace Go.Proofs.YtalgmjmibamdfaaGreatDoor
open Go.Proofs.Tryz
open Go.RowKit Tw
theorem zfv(x n:Int)(e:1<=n):(x.tmod n<0->x.tmod n+n=x%n)/\(¬x.tmod n<0->x.tmod n=x%n):=by
 have f:=Int.emod_nonneg x (show n≠0 by omega);have g:=Int.emod_lt_of_pos x (show 0<n by omega);have j:=Int.tmod_lt_of_pos x (show 0<n by omega);have b:=Int.tmod_lt_of_pos (-x) (show 0<n by omega);rw[Int.neg_tmod]at b;have k:=Int.mul_tdiv_add_tmod x n;have m:=Int.mul_ediv_add_emod x n;obtain⟨d,c⟩: ∃d,x/n-x.tdiv n=d:=⟨_,rfl⟩;have o:x.tmod n-x%n=n*d:=by rw[<-c,Int.mul_sub];omega
 refine⟨λh=>?_,λh=>?_⟩
 ·have:d= -1:=by
   rcases Int.lt_trichotomy d (-1)with a|a|a
   ·have:=Int.mul_le_mul_of_nonneg_left (show d<= -2 by omega) (show 0<=n by omega);omega
   ·exact a
   ·have:=Int.mul_le_mul_of_nonneg_left (show 0<=d by omega) (show 0<=n by omega);omega
  subst this;omega
 ·have:d=0:=by
   rcases Int.lt_trichotomy d 0 with a|a|a
   ·have:=Int.mul_le_mul_of_nonneg_left (show d<= -1 by omega) (show 0<=n by omega);omega
   ·exact a
   ·have:=Int.mul_le_mul_of_nonneg_left (show 1<=d by omega) (show 0<=n by omega);omega
  subst this;omega
theorem xW(x n:Int)(f:1<=n)(k:n<=4611686018427387904)(w:World):Calls prog 14 #[.int .i64 x,.int .i64 n] w λe w'=>e=.returned (.int .i64 (x%n))/\w'=w:=by
 have g:x.tmod n<n:=Int.tmod_lt_of_pos x (by omega);have h: -n<x.tmod n:=by
  have:=Int.tmod_lt_of_pos (-x) (show 0<n by omega);rw[Int.neg_tmod]at this;omega
 have j: ¬n=0:=by omega
 obtain⟨b,c⟩:=zfv x n f
 go_enter func14,ntmps14
 by_cases a:x.tmod n<0
 ·have d:=zh (b a)
  clear b c
  go_wp2_with fail
  go_ret;exact⟨by rw[d.out];rfl,rfl⟩
 ·have d:=zh (c a)
  clear b c
  go_wp2_with fail
  go_ret;exact⟨by rw[d.out];rfl,rfl⟩
def xj(E:yz ByteArray)(w:World)(base T sz:Nat)(v:Value)(l:List ByteArray):Prop:=
 w.ownsRow base T sz v l.length (l.flatMap E.cells)/\ ∀a∈l,True
section
variable {E:yz ByteArray}{w w':World}{base T sz:Nat}{v:Value}{l:List ByteArray}
theorem xj.nil(E:yz ByteArray)(w:World)(base T sz:Nat):xj E w base T sz (.slice none 0 0) []:=⟨G5 w base T sz,by simp⟩
theorem xj.kept{row:Option Nat}(h:xj E w base T sz v l)(a:w.grownBy w' row)(b: ∀k,row=some k->k<base\/w.heap.size<=k):xj E w' base T sz v l:=by
 refine⟨h.1.kept a ?_,λ_ _=>trivial⟩;cases c:v.ownBlock with
 |none=>exact .inl rfl
 |some k=>right;intro e;have:=h.1.lt k c;have:=b k e.symm;omega
theorem xj.below(h:xj E w base T sz v l)(a:Below w.heap.size w w'):xj E w' base T sz v l:=
 h.kept (row:=none) ⟨a.os,a.tape,a.output,a.size,λk b _=>a.block k b⟩ (by simp)
end
structure Sc(w0 wv w:World)(sb qb:Nat)(A0:Option Addr)(n0 c0:Nat)(i:Nat)(An:Option Addr)(cn:Nat)(ns:List ByteArray)(zf low:Nat):Prop where
 Zh:w.heap[sb]?=some (.cells #[.pointer (some ⟨qb,0,none⟩),.slice An ns.length cn,.int .i64 zf,.int .i64 low] 84 (0,0))
 zad:w.heap[qb]?=some (.cells #[.slice A0 n0 c0,.int .i64 i] 131 (0,0))
 ZI: ∀j,j<n0-> ∃g off v,A0=some ⟨g,off,none⟩/\g<qb/\w.cell? ⟨g,off+j,none⟩=some (.int .i64 v)
 row:xj R8 w (sb+1) 9 1 (.slice An ns.length cn) ns
 sz:yc ns
 nl:ns.length<=100
 i0:i<=n0
 n60:n0<=60
 m1:zf<=1000000
 l1:low<=2
 b0:10<qb
 q:qb<sb
 s:sb<w.heap.size
 gl:U2 w
 O7:Below qb w0 w
 gr:wv.grownBy w (some qb)
section
variable {w0 wv w w':World}{sb qb:Nat}{A0:Option Addr}{n0 c0 i:Nat}{An:Option Addr}{cn:Nat}{ns:List ByteArray}{zf low:Nat}
theorem Sc.below(h:Sc w0 wv w sb qb A0 n0 c0 i An cn ns zf low)(a:Below w.heap.size w w'):Sc w0 wv w' sb qb A0 n0 c0 i An cn ns zf low:=by
 have d:=h.q;have c:=h.s;exact⟨(a.block sb c).trans h.Zh,(a.block qb (by omega)).trans h.zad,λj e=>by
  obtain⟨g,b,v,f,k,m⟩:=h.ZI j e;exact⟨g,b,v,f,k,(a.cell (p:=⟨g,b+j,none⟩) (by show g<w.heap.size;omega)).trans m⟩,h.row.below a,h.sz,h.nl,h.i0,h.n60,h.m1,h.l1,h.b0,d,z6 c a.size,h.gl.to a,h.O7.trans (a.mono (by omega)),K8 h.gr (K7 a _)⟩
theorem zai(w:World)(qb j:Nat)(u:Value)(a:qb<w.heap.size):Below qb w (w.setCell ⟨qb,j,none⟩ u):=
 ⟨rfl,rfl,rfl,by simp,λk b=>G0 w ⟨qb,j,none⟩ u k (by simp;omega)⟩
theorem Sc.zek(h:Sc w0 wv w sb qb A0 n0 c0 i An cn ns zf low)(hi:i<n0):Sc w0 wv (w.setCell ⟨qb,1,none⟩ (.int .i64 ((i:Int)+1))) sb qb A0 n0 c0 (i+1) An cn ns zf low:=by
 have f:=h.q;have d:=h.s;have t:=h.b0;have b:=J2 w qb 1 (.int .i64 ((i:Int)+1));exact⟨(b.block sb d (by simp;omega)).trans h.Zh,by simpa using z5 w qb 1 _ _ (.int .i64 ((i:Int)+1)) h.zad,λj m=>by
  obtain⟨g,c,v,n,o,p⟩:=h.ZI j m;exact⟨g,c,v,n,o,(E9 (a:=⟨g,c+j,none⟩) (b.block g (by omega) (by simp;omega))).trans p⟩,
  h.row.kept b (λk e=>.inl (by cases e;omega)),h.sz,h.nl,hi,h.n60,h.m1,h.l1,h.b0,f,z6 d b.size,h.gl.qn b.size (λg r=>b.block g (by omega) (by simp;omega)),h.O7.trans (zai w qb 1 _ (by omega)),K8 h.gr b⟩
end
def qz(w:World)(A0:Option Addr)(n0 i:Nat)(n:Int)(k:Nat):Prop:=(i<n0-> ∀(g a:Nat)(v:Int),A0=some ⟨g,a,none⟩->w.cell? ⟨g,a+i,none⟩=some (.int .i64 v)->(k:Int)=v%n)/\(n0<=i->k=0)
theorem zcU{w:World}{g b n0 i:Nat}{n v:Int}(h:w.cell? ⟨g,b+i,none⟩=some (.int .i64 v))(d:n≠0)(hi:i<n0):qz w (some ⟨g,b,none⟩) n0 i n (v%n).toNat:=
 ⟨λ_ k c m e a=>by
  injection e with e;injection e with f j;subst f j
  rw[h]at a;injection a with a;injection a with _ a;subst a
  exact Int.toNat_of_nonneg (Int.emod_nonneg v d),λh=>I2 hi (by omega)⟩
theorem n_k{w0 wv w:World}{sb qb:Nat}{A0:Option Addr}{n0 c0 i:Nat}{An:Option Addr}{cn:Nat}{ns:List ByteArray}{zf low:Nat}(n:Int)(p:1<=n)(z:n<=4000000000)(h:Sc w0 wv w sb qb A0 n0 c0 i An cn ns zf low):
 Calls prog 29 #[.pointer (some ⟨qb,0,none⟩),.int .i64 n] w λe w'=>(∃(k A:Nat),e=.returned (.int .i64 k)/\k<n/\Nx n0 n.toNat i k A/\Sc w0 wv w' sb qb A0 n0 c0 A An cn ns zf low/\qz w A0 n0 i n k):=by
 have r:n<=4611686018427387904:=by omega
 have t:=zh h;have f:w.cell? ⟨qb,0,none⟩=some (.slice A0 n0 c0):=y5 h.zad 0;have B:w.cell? ⟨qb,1,none⟩=some (.int .i64 i):=y5 h.zad 1;have F:w.frozen? ⟨qb,1,none⟩=false:=B4 h.zad 1;have C:=h.n60;have G:=h.i0;have hqs:qb<w.heap.size:=Nat.lt_trans h.q h.s
 by_cases d:i<n0
 ·obtain⟨g,a,v,rfl,O,u⟩:=h.ZI i d
  have H:g≠qb:=by omega
  have D:qb≠g:=by omega
  have P:(0:Int)<=(i:Int):=by omega
  have I:(i:Int)<(n0:Int):=by omega
  have Q:(0:Int)<=(i:Int)+1-1:=by omega
  have R:(i:Int)+1-1<(n0:Int):=by omega
  have S:((i:Int)+1-1)=(i:Int):=by omega
  clear h;have j:Hid (∀W:World,W.cell? ⟨g,a+i,none⟩=w.cell? ⟨g,a+i,none⟩-> ∀b:Int,W.cell? ⟨g,a+i,none⟩=some (.int .i64 b)->qz w (some ⟨g,a,none⟩) n0 i n (b%n).toNat):=zh (λW J b K=>zcU (by rw[<-J];exact K) (by omega) d)
  go_enter func29,ntmps29
  go_upto_region 1 with(fail)
  go_quiet (fail)
  go_upto_region 4 with(fail)
  have m:=zh (j.out ((w.drewN nq).setCell ⟨qb,1,none⟩ (.int .i64 ((i:Int)+1))) (by rw[World.cell?_setCell_other _ _ _ _ (λe=>by injection e with e _;omega)];rfl));have c:Hid (Sc w0 wv ((w.drewN nq).setCell ⟨qb,1,none⟩ (.int .i64 ((i:Int)+1))) sb qb (some ⟨g,a,none⟩) n0 c0 (i+1) An cn ns zf low):=zh ((t.out.below (J9 (y7 _ _) nq)).zek d);clear f B F u j;generalize(World.drewN w nq).setCell _ _=x at c m|-
  have f:x.cell? ⟨qb,0,none⟩=some (.slice (some ⟨g,a,none⟩) n0 c0):=y5 c.out.zad 0;have B:x.cell? ⟨qb,1,none⟩=some (.int .i64 ((i:Int)+1)):=by simpa using y5 c.out.zad 1
  obtain⟨L,off',b,o,-,u⟩:=c.out.ZI i d;obtain⟨rfl,rfl⟩:g=L/\a=off':=by injection o with o;injection o with p z;exact⟨p,z⟩
  clear o;have w0:IntKind.i64.wrap (i:Int)=(i:Int):=IntWalk.i64_in _ (by omega);have M:Hid (∀b:Int,x.cell? ⟨g,a+i,none⟩=some (.int .i64 b)->qz w (some ⟨g,a,none⟩) n0 i n (b%n).toNat):=m
  go_region_law(first|(go_simp;go_at_call 14;refine(xW b n p r _).mono ?_;rintro e U ⟨rfl,rfl⟩))
  all_goals
   go_wp2_with fail
   go_ret;have y:=Int.emod_nonneg b (show n≠0 by omega);have N:=Int.emod_lt_of_pos b (show 0<n by omega);exact⟨(b%n).toNat,i+1,by rw[Int.toNat_of_nonneg y];rfl,by omega,⟨by omega,.inl ⟨d,rfl⟩⟩,c.out.below (J5 _),M.out b u⟩
 ·have I:(n0:Int)<=(i:Int):=by omega
  clear h
  go_enter func29,ntmps29
  go_upto_region 1 with(fail)
  go_quiet (fail)
  go_wp2_with fail
  go_ret;have:=t.out.i0;exact⟨0,i,rfl,by show(0:Int)<n;omega,⟨by omega,.inr ⟨by omega,by omega,rfl⟩⟩,t.out.below (J9 (y7 _ _) _),λh=>I2 h d,λ_=>rfl⟩
theorem XV{w0 wv w:World}{sb qb:Nat}{A0:Option Addr}{n0 c0 i:Nat}{An:Option Addr}{cn:Nat}{ns:List ByteArray}{zf low:Nat}(n:Int)(g:1<=n)(j:n<=4000000000)(h:Sc w0 wv w sb qb A0 n0 c0 i An cn ns zf low):
 Calls prog 29 #[.pointer (some ⟨qb,0,none⟩),.int .i64 n] w λe w'=>(∃(k f:Nat),e=.returned (.int .i64 k)/\k<n/\Nx n0 n.toNat i k f/\Sc w0 wv w' sb qb A0 n0 c0 f An cn ns zf low):=
 (n_k n g j h).mono λ_ _ ⟨k,f,a,b,c,d,_⟩=>⟨k,f,a,b,c,d⟩
theorem qz.zfE{w w':World}{B:Nat}{A0:Option Addr}{n0 b:Nat}{n:Int}{k:Nat}(h:qz w' A0 b 0 n k)(d:Below B w w')(f:w.heap.size<=B)(e:n0=0↔b=0):qz w A0 n0 0 n k:=
 ⟨λj g a v m c=>h.1 (by omega) g a v m ((d.cell (p:=⟨g,a+0,none⟩) (z6 (World.block_lt_of_cell? w _ c) f)).trans c),λj=>h.2 (by omega)⟩
theorem jx{w0 wv w:World}{sb qb:Nat}{A0:Option Addr}{n0 c0 i:Nat}{An:Option Addr}{cn:Nat}{ns:List ByteArray}{zf low:Nat}(n:Nat)(a:n<=2000000)(h:Sc w0 wv w sb qb A0 n0 c0 i An cn ns zf low):
 Calls prog 30 #[.int .i64 n] w λe w'=> ∃s:ByteArray,e=.returned (.string s)/\Hid (s=jV n)/\s.size<=21/\Sc w0 wv w' sb qb A0 n0 c0 i An cn ns zf low:=by
 refine(Tryz.strconv_Itoa (n:Int) (by omega) (by omega) w h.gl.pow).mono ?_;rintro e w' ⟨rfl,k,b,rfl⟩;exact⟨_,rfl,zh rfl,qv n a,h.below (Qw w k b)⟩
theorem Sc.qy{w0 wv w:World}{sb qb:Nat}{A0:Option Addr}{n0 c0 i:Nat}{An:Option Addr}{cn:Nat}{ns:List ByteArray}{zf low:Nat}(h:Sc w0 wv w sb qb A0 n0 c0 i An cn ns zf low):Sc w0 w w sb qb A0 n0 c0 i An cn ns zf low:=
 {h with gr:=K7 (y7 _ _) _}
theorem Sc.tr{w0 wv w w':World}{sb qb:Nat}{A0:Option Addr}{n0 c0 i a:Nat}{An:Option Addr}{cn:Nat}{ns:List ByteArray}{zf low:Nat}(h:Sc w0 wv w sb qb A0 n0 c0 i An cn ns zf low)(b:Sc w0 w w' sb qb A0 n0 c0 a An cn ns zf low):Sc w0 wv w' sb qb A0 n0 c0 a An cn ns zf low:=
 {b with gr:=K8 h.gr b.gr}
theorem Sc.c0{w0 wv w:World}{sb qb:Nat}{A0:Option Addr}{n0 c0 i:Nat}{An:Option Addr}{cn:Nat}{ns:List ByteArray}{zf low:Nat}(h:Sc w0 wv w sb qb A0 n0 c0 i An cn ns zf low):w.cell? ⟨sb,0,none⟩=some (.pointer (some ⟨qb,0,none⟩))/\w.cell? ⟨sb,1,none⟩=some (.slice An ns.length cn)/\w.cell? ⟨sb,2,none⟩=some (.int .i64 zf)/\w.cell? ⟨sb,3,none⟩=some (.int .i64 low):=
 ⟨y5 h.Zh 0,y5 h.Zh 1,y5 h.Zh 2,y5 h.Zh 3⟩
theorem Sc.L6{w0 wv w:World}{sb qb:Nat}{A0:Option Addr}{n0 c0 i:Nat}{cn:Nat}{ns:List ByteArray}{zf low:Nat}{g:Nat}(h:Sc w0 wv w sb qb A0 n0 c0 i (some ⟨g,0,none⟩) cn ns zf low)(k:Nat)(s:ByteArray)(hs:ns[k]?=some s):w.cell? ⟨g,k,none⟩=some (.string s):=by
 rcases N8 h.row.1 with⟨e,_⟩|⟨c,a,e,d,f,b⟩
 ·cases e
 ·injection e with e;injection e with e;injection e with e
  subst e;exact b _ _ (by simpa using Q6 R8.cells 1 (λ_=>rfl) ns k _ hs 0 _ rfl)
theorem Sc.arr{w0 wv w:World}{sb qb:Nat}{A0:Option Addr}{n0 c0 i:Nat}{An:Option Addr}{cn:Nat}{ns:List ByteArray}{zf low:Nat}(h:Sc w0 wv w sb qb A0 n0 c0 i An cn ns zf low)(c:0<ns.length): ∃g,An=some ⟨g,0,none⟩:=by
 rcases N8 h.row.1 with⟨e,d⟩|⟨a,b,e,_⟩
 ·omega
 ·injection e with e;exact⟨a,e⟩
def xD(xs:List Int):Int:=xs.foldl (λs a=>s+a%1000) 0
theorem zal(xs:List Int)(s:Int):xs.foldl (λs a=>s+a%1000) s=s+xD xs:=by
 unfold xD
 induction xs generalizing s with
 |nil=>simp
 |cons a l b=>rw[List.foldl_cons,List.foldl_cons,b,b (0+a%1000)];omega
theorem zbN(xs:List Int)(a:Int):xD (xs++[a])=xD xs+a%1000:=by unfold xD;rw[List.foldl_append];rfl
theorem zeI(xs:List Int):0<=xD xs/\xD xs<=1000*xs.length:=by
 induction xs with
 |nil=>exact⟨by decide,by decide⟩
 |cons a l b=>
  have:xD (a::l)=a%1000+xD l:=by show List.foldl _ _ _=_;rw[List.foldl_cons,zal];omega
  rw[this,z7];omega
def za4(f:Int)(xs:List Int):Int:=IntKind.i64.wrap (f+xD xs)
def M1(l:List Int):R4:=λf a=>if l.length=0 then(za4 f a,0)else if 930<l.getD (za4 f a%(l.length:Int)).toNat 0%1000 then(0,7)else(l.getD (za4 f a%(l.length:Int)).toNat 0%1000-400,0)
theorem yW(l:List Int)(f:Int)(xs:List Int):qX (M1 l f xs).1/\qX (M1 l f xs).2:=by
 unfold M1
 split
 ·exact⟨QY _,(by decide:qX 0)⟩
 ·split
  ·exact⟨(by decide:qX 0),(by decide:qX 7)⟩
  ·exact⟨by unfold qX;simp only;omega,(by decide:qX 0)⟩
structure Yc(Z:Nat)(w0:World)(Z0 b:Nat)(A:Option Addr)(n c:Nat)(w:World):Prop where
 sz:Z<=w.heap.size
 O7:Below Z0 w0 w
 z0:Z0<=w.heap.size
 K3:w.heap[b]?=some (.cells #[.slice A n c] 22 (0,0))
theorem Yc.below{Z d b n c:Nat}{w0 w w':World}{A:Option Addr}(h:Yc Z w0 d b A n c w)(a:Below w.heap.size w w'):Yc Z w0 d b A n c w':=
 ⟨C4 h.sz a.size,h.O7.trans (a.mono h.z0),C4 h.z0 a.size,(a.block b (I7 h.K3)).trans h.K3⟩
theorem zd1{Z Z0 b:Nat}{w0 w:World}{A:Option Addr}{c:Nat}{l:List Int}(h:Yc Z w0 Z0 b A l.length c w)(F:w0.heap.size=Z0)(hl:K9 w0 (λ_=>True) (.slice A l.length c) l)(hn:l.length<=4611686018427387904)(f:Int)(xs:List Int)(Ax:Option Addr)(cx:Nat)(hx:K9 w (λ_=>True) (.slice Ax xs.length cx) xs)(a2:xs.length<=600)(h0:0<=f)(h1:f<=100):
 Calls prog 40 #[.int .i64 f,.slice Ax xs.length cx,.pointer (some ⟨b,0,none⟩)] w λe w'=>e=.returned (.tuple #[.int .i64 (M1 l f xs).1,.int .i64 (M1 l f xs).2])/\Below w.heap.size w w':=by
 have HL:=zh hl;have H:=zh h;have O:=zh hx;have HZ:=zh F;have K:=y5 h.K3 0;have P:=I7 h.K3;obtain⟨R,Q⟩: ∃r,M1 l f xs=r:=⟨_,rfl⟩;have HR:=zh Q;rw[Q];clear hl h hx Q F
 go_enter func40,ntmps40
 go_upto_region 3 with(fail)
 go_loopw[7,14] (λxv S wr=> ∃j:Nat,j<=xs.length/\xv=.int .i64 (f+xD (xs.take j))/\S=.int .i64 j/\Hid (Below w.heap.size w wr)) (λ_ S _=>xs.length-(intOf S).toNat)
 case atStart=>exact⟨0,E2 _,by simp[xD],rfl,zh (y7 _ _)⟩
 case round=>
  obtain⟨j,L,rfl,rfl,z⟩:=hrel;have t:=zeI (xs.take j);rw[I5,Nat.min_eq_left L]at t
  by_cases B:j<xs.length
  ·obtain⟨a,T⟩: ∃a,xs[j]?=some a:=⟨_,y8 B⟩
   obtain⟨g,o,rfl,k,u⟩:=O.out.at j a T;replace u:=(z.out.cell (p:=⟨g,o+j,none⟩) k).trans u;have k0:(0:Int)<=(j:Int):=by omega
   have k1:(j:Int)<(xs.length:Int):=by omega
   have U:=Int.emod_nonneg a (show(1000:Int)≠0 by decide);have V:=Int.emod_lt_of_pos a (show(0:Int)<1000 by decide);have X:Hid (xD (xs.take (j+1))=xD (xs.take j)+a%1000):=zh (by
    rw[List.take_add_one,T];exact zbN _ _)
   have E:=zh (xW a 1000 (by decide) (by decide) wr);generalize Y:xD (xs.take j)=s at t X|-
   generalize a0:a%1000=m at U V X E|-
   have ew:IntKind.i64.wrap (f+s+m)=f+s+m:=IntWalk.i64_in _ (by omega);clear T Y a0
   go_wp2_with fail
   refine E.out.mono ?_;rintro e w' ⟨rfl,rfl⟩;clear E
   go_wp2_with fail
   go_roundw
   case rel=>exact⟨j+1,B,by rw[X.out];congr 1;omega,by go_num,z⟩
   case measure=>simp[intOf];omega
  ·obtain rfl:j=xs.length:=by omega
   rw[F6]at t|-
   have C:Hid (za4 f xs=f+xD xs):=zh (IntWalk.i64_in _ (by omega));generalize f+xD xs=x at C|-
   clear t B L;replace K:=(z.out.cell (p:=⟨b,0,none⟩) P).trans K;have k1: ¬((xs.length:Int)<(xs.length:Int)):=by omega
   by_cases M:l.length=0
   ·have i:Hid (R=(x,0)):=zh (by rw[<-HR.out];unfold M1;rw[E1 M,C.out])
    have a1:((l.length:Int)==0)=true:=by simp[M]
    go_wp2_with fail
    go_ret2;rw[i.out];exact⟨rfl,z.out⟩
   ·have a1:((l.length:Int)==0)=false:=beq_eq_false_iff_ne.2 (by omega)
    have G:(1:Int)<=(l.length:Int):=by omega
    have I:(l.length:Int)<=4611686018427387904:=by omega
    have q0:=Int.emod_nonneg x (show(l.length:Int)≠0 by omega);have q1:=Int.emod_lt_of_pos x (show(0:Int)<(l.length:Int) by omega);obtain⟨q,N⟩: ∃q:Nat,x%(l.length:Int)=q:=⟨(x%(l.length:Int)).toNat,by omega⟩;obtain⟨y,hy⟩: ∃y,l[q]?=some y:=⟨_,y8 (by omega)⟩;have i:Hid (R=if 930<y%1000 then(0,7)else(y%1000-400,0)):=zh (by
     rw[<-HR.out];unfold M1;rw[B5 M,C.out,N,Int.toNat_natCast,List.getD_eq_getElem?_getD,hy];rfl)
    obtain⟨g,o,rfl,k,u⟩:=HL.out.at q y hy;rw[HZ.out]at k;replace u:=((H.out.O7.cell (p:=⟨g,o+q,none⟩) k).trans u);replace u:=(z.out.cell (p:=⟨g,o+q,none⟩) (z6 k H.out.z0)).trans u;have E:=zh (λW=>xW x (l.length:Int) G I W);rw[N]at E;have J:=zh (λW=>xW y 1000 (by decide) (by decide) W);have m0:=Int.emod_nonneg y (show(1000:Int)≠0 by decide);have m1:=Int.emod_lt_of_pos y (show(0:Int)<1000 by decide);generalize y%1000=m at m0 m1 J i|-
    rw[N]at q0 q1;clear N hy M G I
    go_upto_region 9 with(fail)
    refine W4 (D:=World) (by kernel_rfl) [(0,27),(1,28),(2,29),(3,30),(4,31),(5,32),(6,33),(7,34),(8,10)] [4,7] [[],[4],[4,7]] (λ_ d=>[(0,27,.slice (some ⟨g,o,none⟩) l.length c),(1,28,.int .i64 x),(2,29,.slice (some ⟨g,o,none⟩) l.length c),(3,30,.int .i64 l.length),(4,31,.int .i64 q),(5,32,.pointer (some ⟨g,o+q,none⟩)),(6,33,.int .i64 y),(7,34,.int .i64 m),(8,10,.int .i64 m)]) (λ_ d=>d) (λ_ d=>d=wr.drew) [(0,0),(0,1),(1,0),(2,0),(3,0),(4,0),(5,1),(6,1),(7,1),(8,2)] (by kernel_rfl) (by kernel_rfl) (λ_ _=>rfl) (by rfl) wr.drew rfl rfl rfl ?_ ?_
    ·repeat' (first|refine List.forall_mem_cons.2 ⟨?_,?_⟩|exact List.forall_mem_nil _)
     all_goals
      intro o' ho;injection ho with ho
      subst ho;rintro W k;have hW:W=wr.drew:=k;subst hW
     rotate_left 5
     ·refine .call 14 #[.int .i64 x,.int .i64 l.length] (by simp[J8,execOp,go_sem]) ((E.out _).mono ?_)
      rintro e w' ⟨rfl,rfl⟩;exact⟨_,1,_,rfl,.of (by decide) rfl rfl rfl,rfl,rfl⟩
     rotate_left 2
     ·refine .call 14 #[.int .i64 y,.int .i64 1000] (by simp[J8,execOp,go_sem]) ((J.out _).mono ?_)
      rintro e w' ⟨rfl,rfl⟩;exact⟨_,2,_,rfl,.of (by decide) rfl rfl rfl,rfl,rfl⟩
     all_goals exact .xk rfl (by simp[J8,X9,execOp,go_sem,K,u,q0,q1])
    ·rintro jj W k hd
     have L:=hd 7 (by decide) (by decide);have hW:W=wr.drew:=k;subst hW
     match jj,L with
     |0,h=>cases h
     |1,h=>cases h
     |2,_=>
      clear hd k K u q0 q1;simp only[J8,B6,C0,List.append_nil,List.foldl];go_simp
      by_cases v:930<m
      ·rw[E1 v]at i
       go_wp2_with fail
       go_ret2;rw[i.out];exact⟨rfl,z.out.drew⟩
      ·rw[B5 v]at i
       have ew:IntKind.i64.wrap (m-400)=m-400:=IntWalk.i64_in _ (by omega)
       go_wp2_with fail
       go_ret2;rw[i.out];exact⟨rfl,z.out.drew⟩
     |n+3,h=>cases h
theorem ziV(us:List Fn)(left:Nat)(N:CmS us left):CmB us (left+1):=by
 intro l B d F w mb A0 c0 V f b c O q m' r ht P hU d1 hA t h;have HF:=zh h;have HA:=zh hA;have IS:=zh N;have a8:=zh P;have HU:=zh hU;have a9:Hid (qT (Sx us (Bx us left) left) l O b q m' r):=zh ht;have c3:Hid (c.length+(P4 us c.length f b l).1.length<=400000):=zh (by rw[Xu]at t;exact t);obtain⟨⟨-,c1,-,-,-⟩,-⟩:=qa h.st;clear h hA N P ht hU t
 go_enter func58,ntmps58
 go_wp2_with fail
 clear c1
 go_loopw[14] (λi wr=> ∃(j:Nat)(M:Mv)(m:W9)(r1:Bool),j<=l.length/\i=.int .i64 j/\Hid (qT (Sx us (Bx us left) left) (l.drop j) m (P4 us c.length f b (l.take j)).2.2 q m' r1)/\Hid (OkM m (P4 us c.length f b (l.take j)).2.1 (P4 us c.length f b (l.take j)).2.2)/\Hid (W6 w wr mb (.slice A0 us.length c0) M (P4 us c.length f b (l.take j)).2.1 (P4 us c.length f b (l.take j)).2.2 (c++(P4 us c.length f b (l.take j)).1.map Prod.fst) us F)) (λi _=>l.length-(intOf i).toNat)
 case atStart=>exact⟨0,V,O,r,E2 _,rfl,a9,a8,zh (HF.out.JS (by simp[P4]))⟩
 case round=>
  obtain⟨j,M,m,r1,hj,rfl,HR,Q,y⟩:=hrel
  by_cases R:j<l.length
  ·obtain⟨s,hs⟩: ∃s,l[j]?=some s:=⟨_,y8 R⟩
   obtain⟨g,c4,S,T,Ab,z,Ae,ce,rfl,-,hg,U,W,X,u⟩:=(HF.out.zid y.out.O7 HA.out).at j s hs;have b0:wr.cell? ⟨g,c4+j*10,none⟩=_:=u 0 _ rfl;have b1:=u 1 _ rfl;have b2:=u 2 _ rfl;have b3:=u 3 _ rfl;have b4:=u 4 _ rfl;have b5:=u 5 _ rfl;have b6:=u 6 _ rfl;have b7:=u 7 _ rfl;have b8:=u 8 _ rfl;have b9:=u 9 _ rfl;obtain⟨k,m2,ra,rb,A,v⟩: ∃k m2 ra rb,Sx us (Bx us left) left s m (P4 us c.length f b (l.take j)).2.2 k m2 ra/\qT (Sx us (Bx us left) left) (l.drop (j+1)) k m2 q m' rb:=by
    have hd:=HR.out;rw[F9 R,(List.getElem?_eq_some_iff.1 hs).2]at hd;cases hd with
    |cons h1 h2=>exact⟨_,_,_,_,h1,h2⟩
   have E:m2<=64/\k.length<=m2:=by
    have:Bx us (left+1) [s] m (P4 us c.length f b (l.take j)).2.2 k m2 (ra||false):=.cons A .nil;have:=this.le Q.out.m64 Q.out.el;exact⟨this.2.1,this.2.2.1⟩
   have o:=ze0 HU.out.Zd A (c.length+(P4 us c.length f b (l.take j)).1.length) (P4 us c.length f b (l.take j)).2.1;have x:P4 us c.length f b (l.take (j+1))=((P4 us c.length f b (l.take j)).1++(S4 us (c.length+(P4 us c.length f b (l.take j)).1.length) (P4 us c.length f b (l.take j)).2.1 (P4 us c.length f b (l.take j)).2.2 s).1,(S4 us (c.length+(P4 us c.length f b (l.take j)).1.length) (P4 us c.length f b (l.take j)).2.1 (P4 us c.length f b (l.take j)).2.2 s).2):=by rw[show l.take (j+1)=l.take j++[s] by rw[List.take_add_one,hs];rfl,JD]
   have HN:Hid (OkM k (P4 us c.length f b (l.take (j+1))).2.1 (P4 us c.length f b (l.take (j+1))).2.2):=zh (by
    rw[x];simp only;rw[o.1];exact⟨E.1,E.2,o.2 Q.out.ok⟩)
   have c5:Hid (qT (Sx us (Bx us left) left) (l.drop (j+1)) k (P4 us c.length f b (l.take (j+1))).2.2 q m' rb):=zh (by
    rw[x];simp only;rw[o.1];exact v)
   have Y:=(y7 wr.heap.size wr).alloc (y6 _) (.cells #[.int .i64 s.N4,.string s.L6,.int .i64 s.a.N4,.int .i64 s.a.n,.string s.a.O9,.slice S s.a.args.length T,.int .i64 s.a.pos,.slice Ab s.J7.length z,.slice Ae s.Q7.length ce,.int .i64 s.pos] 174);have C:=zh (y.out.below Y);have G:=zh (y9 wr (.cells #[.int .i64 s.N4,.string s.L6,.int .i64 s.a.N4,.int .i64 s.a.n,.string s.a.O9,.slice S s.a.args.length T,.int .i64 s.a.pos,.slice Ab s.J7.length z,.slice Ae s.Q7.length ce,.int .i64 s.pos] 174));have a0:=za5 us l (j+1) c.length f b;rw[x,z9]at a0;have H:(c++(P4 us c.length f b (l.take j)).1.map Prod.fst).length=c.length+(P4 us c.length f b (l.take j)).1.length:=by simp
   have HS:=zh (IS.out s S Ab Ae T z ce F _ mb A0 c0 M _ _ _ m k m2 ra A Q.out HU.out (U.J0 (F':=F) (J1 Y)) (W.J0 (F':=F) (J1 Y)) (X.J0 (F':=F) (J1 Y)) (by rw[H];have:=c3.out;omega) C.out.qy);have I:Hid (∀w2,(∃J,W6 (wr.alloc (.cells #[.int .i64 s.N4,.string s.L6,.int .i64 s.a.N4,.int .i64 s.a.n,.string s.a.O9,.slice S s.a.args.length T,.int .i64 s.a.pos,.slice Ab s.J7.length z,.slice Ae s.Q7.length ce,.int .i64 s.pos] 174)) w2 mb (.slice A0 us.length c0) J (S4 us (c++(P4 us c.length f b (l.take j)).1.map Prod.fst).length (P4 us c.length f b (l.take j)).2.1 (P4 us c.length f b (l.take j)).2.2 s).2.1 (S4 us (c++(P4 us c.length f b (l.take j)).1.map Prod.fst).length (P4 us c.length f b (l.take j)).2.1 (P4 us c.length f b (l.take j)).2.2 s).2.2 ((c++(P4 us c.length f b (l.take j)).1.map Prod.fst)++(S4 us (c++(P4 us c.length f b (l.take j)).1.map Prod.fst).length (P4 us c.length f b (l.take j)).2.1 (P4 us c.length f b (l.take j)).2.2 s).1.map Prod.fst) us F)-> ∃J,W6 w w2 mb (.slice A0 us.length c0) J (P4 us c.length f b (l.take (j+1))).2.1 (P4 us c.length f b (l.take (j+1))).2.2 (c++(P4 us c.length f b (l.take (j+1))).1.map Prod.fst) us F):=zh (by
    rintro w2 ⟨J,h2⟩;rw[H]at h2;refine⟨J,?_⟩;rw[x];simp only;rw[List.map_append,<-B9];exact h2.zgb C.out.O7 C.out.kp)
   have k0:(0:Int)<=(j:Int):=by omega
   have k1:(j:Int)<(l.length:Int):=by omega
   clear hs U W X u E A v Y hg o x a0 H
   go_upto_region 4 with(fail)
   clear b0 b1 b2 b3 b4 b5 b6 b7 b8 b9;generalize wr.alloc _=wa at C G HS I|-
   generalize wr.heap.size=bx at G|-
   have Z:=N6 G.out
   go_wp2_with fail
   refine HS.out.mono ?_;rintro e w2 ⟨rfl,a1⟩;obtain⟨J,a2⟩:=I.out w2 a1;have c6:=zh a2;clear Z HS I a1 a2
   go_wp2_with fail
   go_roundw
   case rel=>exact⟨j+1,J,k,rb,by omega,by go_num,c5,HN,c6⟩
   case measure=>simp[intOf];omega
  ·obtain rfl:j=l.length:=by omega
   have HE:Hid (∃a3,(P4 us c.length f b l).2.1=f++a3):=zh (YS us l c.length f b);have p:=y.out;rw[F6]at p;obtain⟨a3,D⟩:=HE.out;rw[D]at p;obtain⟨K,a4⟩:=N9 p.st.rn;obtain⟨L,a5⟩:=N9 p.st.ra;have d2:(0:Int)<=(f.length:Int):=by omega
   have c7:(f.length:Int)<=(M.cn:Int):=by simp at K;omega
   have c8:(f.length:Int)<=(M.ca:Int):=by simp at L;omega
   obtain⟨⟨-,c1,c2,-,-⟩,f1,f2,-⟩:=qa p.st;have a6:=zh (p.below (J5 wr)).cut;have a7:=zh (p.below (J5 wr)).zky;have c9:=zh p;have d0:Hid (U3 us c.length f b l=((P4 us c.length f b l).1,(P4 us c.length f b l).2.2)):=zh (Xu us l c.length f b);obtain⟨An,cn,S,T,Ao,co⟩:=M;simp only at a4 a5 K L c7 c8 c1 c2 a6 a7 c9;clear y HR Q HA p D K L
   rcases a4 with rfl|⟨gn,rfl⟩<;>rcases a5 with rfl|⟨ga,rfl⟩
   all_goals
    go_upto_region 6 with(fail)
    go_region_law(fail)
    all_goals
     go_end0;rw[d0.out]
     first
      |exact⟨rfl,_,a6.out⟩
      |exact⟨rfl,_,a7.out⟩
end Go.Proofs.YtalgmjmibamdfaaGreatDoor
