/- Merged. -/
import Derived.Test.YtalgmjmibamdfaaGreatDoorCO21b
set_option linter.all false
set_option maxHeartbeats 16000000
set_option maxRecDepth 100000
namespace Go.Proofs.YtalgmjmibamdfaaGreatDoor
open Go.Proofs.Tryz
open Go.RowKit Tw
theorem zgN(L:List Cf)(main:Nat)(hP:zk L main)(d8:L.length<=16)(h4: ∀c∈L,c.J6.length<=4000)(b1: ∀c∈L,ZH c.J6)(A:Option Addr)(cp:Nat){Z:Nat}{B:Bd}{g:Nat}{lb:Array Value}{hf:R4}{I:World->(Nat->Prop)->List (Int×List Int)->Prop}(HH:zT Z B g lb hf I)(b2: ∀f xs,qX (hf f xs).1/\qX (hf f xs).2)(w:World)(hB:B<=w.heap.size)(hF:M3 w (.slice A L.length cp) (L.map Cf.pf)){M:Mc}(hM:jJ L main M)(b3:McR M){Al:Option Addr}{cl:Nat}(hl:yE w Al cl (K4 M))(fuel:Nat)(f3:fuel<=1000000){t:List (Int×List Int)}(d9:Hid (t.length+fuel<=1000000))(hI:I w B.S t):
 Calls prog 15 #[.agg #[.slice A L.length cp,.int .i64 main],.slice Al (K4 M).length cl,.int .i64 fuel,.func (.func g) #[] lb] w (zbQ L Z B hf I t fuel M w):=by
 have W:=(y7 w.heap.size w).alloc (y6 _) (.cells #[.slice A L.length cp,.int .i64 main] 26);have l:=zh (y9 w (.cells #[.slice A L.length cp,.int .i64 main] 26));have HF:=zh (hF.J0 (.of W));have e1:=zh hF;have HL:=zh hl;have X:=zh hM;have o:=zh b3;have e2:=zh b1;have e3:=zh b2;have J:=zh W;have G:=zh hI;have b:=zh HH;have K:=zh hB;have Y:=zh hP;have H4:=zh h4;have f0: ¬((fuel:Int)<0):=by omega
 have f1: ¬((1000000:Int)<(fuel:Int)):=by omega
 clear W hF hP h4 hl hM hI HH hB b3 b1 b2
 go_enter func15,ntmps15
 go_upto_region 1 with(fail)
 generalize World.alloc _ _=w1 at l J HF|-
 generalize b4:w.heap.size=bp at l J K|-
 have i:=zh b4;clear b4;have N:=y5 l.out 0;have O:=y5 l.out 1;have HC:=zh (Yh L main Y.out d8 H4.out A cp w1 HF.out)
 go_wp2_with fail
 refine HC.out.mono ?_;rintro e w2 ⟨hb,v,xE,rfl,b6,b7,b8⟩;have b9:YM L xE:=⟨b7,b8⟩;have x:=I7 l.out;replace l:=zh ((hb.block bp x).trans l.out);replace HF:=zh (HF.out.J0 (.of hb));replace J:Hid (Below bp w w2):=zh (J.out.trans (hb.mono (I0 x)));have RC:=zh (zgJ L main Y.out H4.out A cp w2 HF.out b6 b9 X.out (HL.out.low (by rw[i.out];exact J.out)));clear hb N O HC b6 b9 b7 b8;have N:=y5 l.out 0;have O:=y5 l.out 1
 go_wp2_with fail
 refine RC.out.mono ?_;rintro e P ⟨p,Q,R,H,rfl,z,c3⟩;have e4:=K.out;have e5:=J.out.size;have C:=I7 l.out;have ba:=(y7 P.heap.size P).alloc (y6 _) (.cells #[.int .i64 M.mode,.int .i64 M.value,.slice Q H.length R] 45);have c4:Hid (Below w.heap.size w (P.alloc (.cells #[.int .i64 M.mode,.int .i64 M.value,.slice Q H.length R] 45))):=zh (by
  rw[i.out];exact J.out.trans ((p.trans (ba.mono p.size)).mono (by have:=i.out;omega)))
 have a0:Hid (B<=w.heap.size):=zh (by rw[i.out];exact K.out);have a1:Hid ((P.alloc (.cells #[.int .i64 M.mode,.int .i64 M.value,.slice Q H.length R] 45)).heap[bp]?=some (.cells #[.slice A L.length cp,.int .i64 main] 26 (0,0))):=zh ((ba.block bp (z6 C p.size)).trans ((p.block bp C).trans l.out));have m:=zh c3;have a2:=zh (Vo.of c4.out a0.out);have a3:=zh (b.out.J0 G.out a2.out);have a4:=zh (a2.out.qh b.out.le);have c7:JP P B:=(b.out.sz G.out).to λk cs hk hc=>by
  have h1:=(b.out.sz G.out).lt hk;exact(p.block k (by have:=i.out;omega)).trans ((J.out.block k (by have:=i.out;omega)))
 have d:Hid (qF (P.alloc (.cells #[.int .i64 M.mode,.int .i64 M.value,.slice Q H.length R] 45)) B P.heap.size M.mode M.value Q R H):=zh ⟨by have:=a0.out;have:=i.out;have:=p.size;omega,y9 P _,(z.mono (by show B.n<=w2.heap.size;have:=a0.out;have:=i.out;omega) (c7) (λk hk=>by have:=(b.out.sz G.out).lt hk;have:=i.out;show k<w2.heap.size;omega)).below ba⟩;clear p RC N O z c3 l HF J K G a2 c4 HL ba e4 e5 x C
 go_upto_region 5 with(fail)
 generalize World.alloc _ _=w4 at a1 d a3 a4|-
 generalize P.heap.size=rb at d|-
 go_wp2_with fail
 clear f0 f1
 go_loopw[15] (λkv wr=> ∃(j:Nat)(M':Mc)(S:Nat->Prop)(t':List (Int×List Int))(Q:Option Addr)(R:Nat)(H:List Fm),kv=.int .i64 j/\j<=fuel/\Hid (t'.length+(fuel-j)<=1000000)/\Hid (qF wr ⟨B.n,S⟩ rb M'.mode M'.value Q R H)/\Hid (H.map Prod.fst=M'.P0)/\Hid (jJ L main M')/\Hid (McR M')/\Hid (S1 L hf (fuel-j) M'=S1 L hf fuel M)/\Hid (t'++qt L hf (fuel-j) M'=t++qt L hf fuel M)/\Hid (I wr S t')/\Hid (Qh Z B w wr)/\Hid (wr.heap[bp]?=some (.cells #[.slice A L.length cp,.int .i64 main] 26 (0,0)))) (λkv _=>fuel+1-(intOf kv).toNat)
 case atStart=>exact⟨0,M,B.S,t,Q,R,H,rfl,E2 _,d9,d,m,X,o,zh (by rw[Nat.sub_zero]),zh (by rw[Nat.sub_zero]),a3,a4,a1⟩
 case round=>
  clear d m X a3 a4 a1 o;obtain⟨j,⟨h,a,e6⟩,S,t',Q,R,H,rfl,hj,c8,d,m,X,o,HR,HT,G,HQ,l⟩:=hrel;simp only at d m;obtain⟨N,O,c2,f0,f1,f2⟩:=qM d.out;have WC:=zh (QR (mode:=h) (value:=a) d.out.T9 (X.out.sml Y.out m.out));rw[m.out]at WC
  by_cases hm:h=0
  ·subst hm
   rcases X.out with⟨-,fs,f,z,hG⟩|⟨h0,-⟩|⟨h0,-⟩
   case inr.inl=>cases h0
   case inr.inr=>cases h0
   simp only at z;subst z;have HG:=zh hG;clear hG
   by_cases e7:j=fuel
   ·subst e7
    rw[Nat.sub_self]at HR HT;have D:Hid (S1 L hf j M=(⟨0,a,fs++[f]⟩,3)):=zh (HR.out.symm.trans (xQ rfl).1);have a5:Hid (t++qt L hf j M=t'):=zh (by rw[<-HT.out,(xQ rfl).2,List.append_nil]);have ej:((j:Int)==(j:Int))=true:=beq_self_eq_true _
    go_wp2_with fail
    refine WC.out.mono ?_;rintro e w5 ⟨E,A5,c5,rfl,U⟩;have HO:=zh U;have F:=zh (Vo.of E d.out.bd);clear U E N O c2 f0 f1 f2
    go_wp2_with fail
    go_ret3
    refine⟨A5,c5,by rw[D.out];rfl,?_,HQ.out.trans (F.out.qh b.out.le),S,by rw[a5.out];exact b.out.J0 G.out F.out⟩;rw[D.out];exact HO.out.mono HQ.out.size
   ·obtain⟨n,hn⟩: ∃n,fuel-j=n+1:=⟨fuel-j-1,by omega⟩
    have HN:Hid (fuel-(j+1)=n):=zh (by omega);rw[hn]at HR HT;obtain⟨c9,v,s,rfl,e8⟩:=QK m.out;subst e8;obtain⟨⟨V,b5⟩,hr⟩: ∃r,R5 L hf a (c9.map Prod.fst) f=r:=⟨_,rfl⟩;have d0:=zh hr;have SC:=zh (zft (B:=⟨B.n,S⟩) Y.out b.out d.out (e1.out.J0 HQ.out.q) G.out (zh (by have:=c8.out;omega)) HG.out.2.1 (o.out.2 f (by simp)) (by have:=HG.out.2.2;simpa using this) (λy hy=>HG.out.zjn Y.out H4.out _ (List.mem_append_left _ (G8 hy))) H4.out);have d1:Hid (jJ L main V):=zh (by have:=Qf Y.out hf a HG.out;rw[hr]at this;exact this);have d2:Hid (McR V):=zh (by have:=YA (host:=hf) (fs:=c9.map Prod.fst) (f:=f) e2.out e3.out o.out.1 o.out.2;rw[hr]at this;exact this);have a6:Hid (S1 L hf fuel M=if b5 then(V,1)else S1 L hf n V):=zh (by rw[<-HR.out,xO.1,hr]);have d3:Hid (t++qt L hf fuel M=t'++Y5 L f++if b5 then[]else qt L hf n V):=zh (by rw[<-HT.out,xO.2,hr,B9]);have e0:((j:Int)==(fuel:Int))=false:=beq_eq_false_iff_ne.2 (by omega);have p0:=y5 l.out 0;have p1:=y5 l.out 1;clear hr WC HR HT HG X o hn
    go_upto_region 14 with(fail)
    clear N O c2 f0 f1 f2 e0
    go_wp2_with fail
    refine SC.out.mono ?_;rintro e w5 ⟨he,S5,u,a7,d4⟩;rw[d0.out]at he u;obtain⟨A5,c5,l5,u,a8⟩:=u;simp only at he u a8;subst he;have T:=zh u;have a9:=zh a8;have d5:=zh d4;have b0:=zh (HQ.out.trans a7);have e9:=zh (a7.prog l.out);clear u a8 d4 a7 SC d G HQ m d0 p0 p1 l;cases b5 with
    |true=>
     obtain⟨N,O,c2,f0,f1,f2⟩:=qM T.out;have WC:=zh (QR (mode:=V.mode) (value:=V.value) T.out.T9 (d1.out.sml Y.out a9.out));rw[a9.out]at WC
     go_wp2_with fail
     refine WC.out.mono ?_;rintro e w6 ⟨d6,A6,c6,rfl,U⟩;have HO:=zh U;have d7:=zh (Vo.of d6 T.out.bd);clear U d6 N O c2 f0 f1 f2
     go_wp2_with fail
     go_ret3
     refine⟨A6,c6,by rw[a6.out];rfl,?_,b0.out.trans (d7.out.qh b.out.le),S5,by have e:=d3.out;simp only[if_true,List.append_nil]at e;rw[e];exact b.out.J0 d5.out d7.out⟩;rw[a6.out];exact HO.out.mono b0.out.size
    |false=>
     have ej:IntKind.i64.wrap ((j:Int)+1)=((j+1:Nat):Int):=by rw[show((j+1:Nat):Int)=(j:Int)+1 by omega];exact IntWalk.i64_in _ (by omega)
     go_wp2_with fail
     go_roundw
     case rel=>exact⟨j+1,V,S5,_,A5,c5,l5,by go_num,by omega,zh (by have:=c8.out;have:=Zp L f;rw[z9];omega),T,a9,d1,d2,zh (by rw[HN.out];exact a6.out.symm),zh (by rw[HN.out];exact d3.out.symm),d5,b0,e9⟩
     case measure=>simp[intOf];omega
  ·have e0:(h==0)=false:=beq_eq_false_iff_ne.2 hm
   have D:Hid (S1 L hf fuel M=(⟨h,a,e6⟩,2)):=zh (HR.out.symm.trans (xG hm).1);have a5:Hid (t++qt L hf fuel M=t'):=zh (by rw[<-HT.out,(xG hm).2,List.append_nil]);clear hm
   go_wp2_with fail
   refine WC.out.mono ?_;rintro e w5 ⟨E,A5,c5,rfl,U⟩;have HO:=zh U;have F:=zh (Vo.of E d.out.bd);clear U E N O c2 f0 f1 f2
   go_wp2_with fail
   go_ret3
   refine⟨A5,c5,by rw[D.out];rfl,?_,HQ.out.trans (F.out.qh b.out.le),S,by rw[a5.out];exact b.out.J0 G.out F.out⟩;rw[D.out];exact HO.out.mono HQ.out.size
theorem zeJ(A:Option Addr)(n c:Nat)(w:World):Calls prog 16 #[.slice A n c] w λe w'=>e=.returned (.func (.func 40) #[] #[.pointer (some ⟨w.heap.size,0,none⟩)])/\w'=w.alloc (.cells #[.slice A n c] 22):=by
 go_enter func16,ntmps16
 go_wp2_with fail
 go_ret;exact⟨rfl,rfl⟩
theorem YT{L:List Cf}{main:Nat}(hP:zk L main){M:Mc}(h:jJ L main M):(K4 M).length<=30000:=by
 have a:Jb (M.P0.map λf=>(f,undef,undef)):=h.sml hP (by rw[List.map_map];exact List.map_id M.P0);have e:(M.P0.map λf=>((f,undef,undef):Fm)).map Prod.fst=M.P0:=by rw[List.map_map];exact List.map_id M.P0
 have c:=Qz a (M.P0.map λf=>((f,undef,undef):Fm)).length;rw[F6]at c;have b:=Xe M.mode M.value (M.P0.map λf=>((f,undef,undef):Fm));rw[e]at b;rw[show M=⟨M.mode,M.value,M.P0⟩ from rfl,b,z9];have d:=a.1;simp only[z7,B1];omega
section
variable (L:List Cf)(main:Nat)(hP:zk L main)(h16:L.length<=16)(h4: ∀c∈L,c.J6.length<=4000)(A:Option Addr)(cp:Nat)
include hP h16 h4
end
end Go.Proofs.YtalgmjmibamdfaaGreatDoor
