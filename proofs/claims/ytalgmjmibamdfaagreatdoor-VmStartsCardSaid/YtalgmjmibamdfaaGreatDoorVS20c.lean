/- Merged. -/
import Derived.Test.YtalgmjmibamdfaaGreatDoorVS20b
set_option linter.all false
set_option maxHeartbeats 16000000
set_option maxRecDepth 100000
namespace Go.Proofs.YtalgmjmibamdfaaGreatDoor
open Go.Proofs.Tryz
open Go.RowKit Tw
theorem zfq(L:List Cf)(main:Nat)(hP:Z3 L main)(d6:L.length<=16)(h4: ∀c∈L,c.I9.length<=4000)(b1: ∀c∈L,yJ c.I9)(A:Option Addr)(cp:Nat){Z B g:Nat}{lb:Array Value}{hf:T0}{I:World->List (Int×List Int)->Prop}(HH:zD Z B g lb hf I)(b2: ∀f xs,qy (hf f xs).1/\qy (hf f xs).2)(w:World)(hB:B<=w.heap.size)(hF:L4 w (.slice A L.length cp) (L.map Cf.pf)){M:Mc}(hM:qp L main M)(b3:McR M){Al:Option Addr}{cl:Nat}(hl:qG w Al cl (K9 M))(a:Nat)(e7:a<=1000000){t:List (Int×List Int)}(hI:I w t):
 Calls prog 15 #[.agg #[.slice A L.length cp,.int .i64 main],.slice Al (K9 M).length cl,.int .i64 a,.func (.func g) #[] lb] w (zg7 L Z B hf I t a M w):=by
 have U:=(x7 w.heap.size w).alloc (x6 _) (.cells #[.slice A L.length cp,.int .i64 main] 26);have k:=zh (x9 w (.cells #[.slice A L.length cp,.int .i64 main] 26));have HF:=zh (hF.I5 (.of U));have d7:=zh hF;have HL:=zh hl;have V:=zh hM;have m:=zh b3;have d8:=zh b1;have d9:=zh b2;have Q:=zh U;have W:=zh hI;have i:=zh HH;have H:=zh hB;have X:=zh hP;have H4:=zh h4;have Y: ¬((a:Int)<0):=by omega
 have f1: ¬((1000000:Int)<(a:Int)):=by omega
 clear U hF hP h4 hl hM hI HH hB b3 b1 b2
 go_enter func15,ntmps15
 go_upto_region 1 with(fail)
 generalize World.alloc _ _=w1 at k Q HF|-
 generalize b4:w.heap.size=bp at k Q H|-
 have o:=zh b4;clear b4;have J:=x5 k.out 0;have K:=x5 k.out 1;have HC:=zh (ZY L main X.out d6 H4.out A cp w1 HF.out)
 go_wp2_with fail
 refine HC.out.mono ?_;rintro e w2 ⟨hb,v,xm,rfl,b6,b7,b8⟩;have b9:Xh L xm:=⟨b7,b8⟩;have x:=I0 k.out;replace k:=zh ((hb.block bp x).trans k.out);replace HF:=zh (HF.out.I5 (.of hb));replace Q:Hid (Below bp w w2):=zh (Q.out.trans (hb.mono (G3 x)));have RC:=zh (zcA L main X.out H4.out A cp w2 HF.out b6 b9 V.out (HL.out.low (by rw[o.out];exact Q.out)));clear hb J K HC b6 b9 b7 b8;have J:=x5 k.out 0;have K:=x5 k.out 1
 go_wp2_with fail
 refine RC.out.mono ?_;rintro e R ⟨p,N,O,G,rfl,z,c3⟩;have e1:=H.out;have e2:=Q.out.size;have C:=I0 k.out;have ba:=(x7 R.heap.size R).alloc (x6 _) (.cells #[.int .i64 M.mode,.int .i64 M.value,.slice N G.length O] 45);have c4:Hid (Below w.heap.size w (R.alloc (.cells #[.int .i64 M.mode,.int .i64 M.value,.slice N G.length O] 45))):=zh (by
  rw[o.out];exact Q.out.trans ((p.trans (ba.mono p.size)).mono (by have:=o.out;omega)))
 have a0:Hid (B<=w.heap.size):=zh (by rw[o.out];exact H.out);have a1:Hid ((R.alloc (.cells #[.int .i64 M.mode,.int .i64 M.value,.slice N G.length O] 45)).heap[bp]?=some (.cells #[.slice A L.length cp,.int .i64 main] 26 (0,0))):=zh ((ba.block bp (y5 C p.size)).trans ((p.block bp C).trans k.out));have d:Hid (zY (R.alloc (.cells #[.int .i64 M.mode,.int .i64 M.value,.slice N G.length O] 45)) B R.heap.size M.mode M.value N O G):=zh ⟨by have:=a0.out;have:=o.out;have:=p.size;omega,x9 R _,(z.mono (by have:=a0.out;have:=o.out;omega)).below ba⟩;have l:=zh c3;have a2:=zh (Vo.of c4.out a0.out);have a3:=zh (i.out.I5 W.out a2.out);have a4:=zh (a2.out.qh i.out.le);clear p RC J K z c3 k HF Q H W a2 c4 HL ba e1 e2 x C
 go_upto_region 5 with(fail)
 generalize World.alloc _ _=w4 at a1 d a3 a4|-
 generalize R.heap.size=rb at d|-
 go_wp2_with fail
 clear Y f1
 go_loopw[15] (λkv wr=> ∃(j:Nat)(M':Mc)(t':List (Int×List Int))(N:Option Addr)(O:Nat)(G:List Fm),kv=.int .i64 j/\j<=a/\Hid (zY wr B rb M'.mode M'.value N O G)/\Hid (G.map Prod.fst=M'.O2)/\Hid (qp L main M')/\Hid (McR M')/\Hid (L5 L hf (a-j) M'=L5 L hf a M)/\Hid (t'++qO L hf (a-j) M'=t++qO L hf a M)/\Hid (I wr t')/\Hid (Qh Z B w wr)/\Hid (wr.heap[bp]?=some (.cells #[.slice A L.length cp,.int .i64 main] 26 (0,0)))) (λkv _=>a+1-(intOf kv).toNat)
 case atStart=>exact⟨0,M,t,N,O,G,rfl,C6 _,d,l,V,m,zh (by rw[Nat.sub_zero]),zh (by rw[Nat.sub_zero]),a3,a4,a1⟩
 case round=>
  clear d l V a3 a4 a1 m;obtain⟨j,⟨h,b,e3⟩,t',N,O,G,rfl,hj,d,l,V,m,HR,HT,W,HQ,k⟩:=hrel;simp only at d l;obtain⟨J,K,c2,Y,f1,f2⟩:=qj d.out;have WC:=zh (ZE (mode:=h) (value:=b) d.out.T7 (V.out.sml X.out l.out));rw[l.out]at WC
  by_cases hm:h=0
  ·subst hm
   rcases V.out with⟨-,fs,f,z,hG⟩|⟨h0,-⟩|⟨h0,-⟩
   case inr.inl=>cases h0
   case inr.inr=>cases h0
   simp only at z;subst z;have HG:=zh hG;clear hG
   by_cases e4:j=a
   ·subst e4
    rw[Nat.sub_self]at HR HT;have D:Hid (L5 L hf j M=(⟨0,b,fs++[f]⟩,3)):=zh (HR.out.symm.trans (xi rfl).1);have a5:Hid (t++qO L hf j M=t'):=zh (by rw[<-HT.out,(xi rfl).2,List.append_nil]);have ej:((j:Int)==(j:Int))=true:=beq_self_eq_true _
    go_wp2_with fail
    refine WC.out.mono ?_;rintro e w5 ⟨E,A5,c5,rfl,S⟩;have HO:=zh S;have F:=zh (Vo.of E d.out.bd);clear S E J K c2 Y f1 f2
    go_wp2_with fail
    go_ret3
    refine⟨A5,c5,by rw[D.out];rfl,?_,HQ.out.trans (F.out.qh i.out.le),by rw[a5.out];exact i.out.I5 W.out F.out⟩;rw[D.out];exact HO.out.mono HQ.out.size
   ·obtain⟨n,hn⟩: ∃n,a-j=n+1:=⟨a-j-1,by omega⟩
    have HN:Hid (a-(j+1)=n):=zh (by omega);rw[hn]at HR HT;obtain⟨c7,v,s,rfl,e5⟩:=ZV l.out;subst e5;obtain⟨⟨T,b5⟩,hr⟩: ∃r,Q1 L hf b (c7.map Prod.fst) f=r:=⟨_,rfl⟩;have c8:=zh hr;have SC:=zh (zeb X.out i.out d.out (d7.out.I5 HQ.out.q) W.out HG.out.2.1 (m.out.2 f (by simp)) (by have:=HG.out.2.2;simpa using this) (λy hy=>HG.out.zhT X.out H4.out _ (List.mem_append_left _ (G1 hy))) H4.out);have c9:Hid (qp L main T):=zh (by have:=Qb X.out hf b HG.out;rw[hr]at this;exact this);have d0:Hid (McR T):=zh (by have:=XQ (host:=hf) (fs:=c7.map Prod.fst) (f:=f) d8.out d9.out m.out.1 m.out.2;rw[hr]at this;exact this);have a6:Hid (L5 L hf a M=if b5 then(T,1)else L5 L hf n T):=zh (by rw[<-HR.out,jZ.1,hr]);have d1:Hid (t++qO L hf a M=t'++Y0 L f++if b5 then[]else qO L hf n T):=zh (by rw[<-HT.out,jZ.2,hr,B2]);have e0:((j:Int)==(a:Int))=false:=beq_eq_false_iff_ne.2 (by omega);have p0:=x5 k.out 0;have p1:=x5 k.out 1;clear hr WC HR HT HG V m hn
    go_upto_region 14 with(fail)
    clear J K c2 Y f1 f2 e0
    go_wp2_with fail
    refine SC.out.mono ?_;rintro e w5 ⟨he,u,a7,d2⟩;rw[c8.out]at he u;obtain⟨A5,c5,l5,u,a8⟩:=u;simp only at he u a8;subst he;have P:=zh u;have a9:=zh a8;have d3:=zh d2;have b0:=zh (HQ.out.trans a7);have e6:=zh (a7.prog k.out);clear u a8 d2 a7 SC d W HQ l c8 p0 p1 k;cases b5 with
    |true=>
     obtain⟨J,K,c2,Y,f1,f2⟩:=qj P.out;have WC:=zh (ZE (mode:=T.mode) (value:=T.value) P.out.T7 (c9.out.sml X.out a9.out));rw[a9.out]at WC
     go_wp2_with fail
     refine WC.out.mono ?_;rintro e w6 ⟨d4,A6,c6,rfl,S⟩;have HO:=zh S;have d5:=zh (Vo.of d4 P.out.bd);clear S d4 J K c2 Y f1 f2
     go_wp2_with fail
     go_ret3
     refine⟨A6,c6,by rw[a6.out];rfl,?_,b0.out.trans (d5.out.qh i.out.le),by have e:=d1.out;simp only[if_true,List.append_nil]at e;rw[e];exact i.out.I5 d3.out d5.out⟩;rw[a6.out];exact HO.out.mono b0.out.size
    |false=>
     have ej:IntKind.i64.wrap ((j:Int)+1)=((j+1:Nat):Int):=by rw[show((j+1:Nat):Int)=(j:Int)+1 by omega];exact IntWalk.i64_in _ (by omega)
     go_wp2_with fail
     go_roundw
     case rel=>exact⟨j+1,T,_,A5,c5,l5,by go_num,by omega,P,a9,c9,d0,zh (by rw[HN.out];exact a6.out.symm),zh (by rw[HN.out];exact d1.out.symm),d3,b0,e6⟩
     case measure=>simp[intOf];omega
  ·have e0:(h==0)=false:=beq_eq_false_iff_ne.2 hm
   have D:Hid (L5 L hf a M=(⟨h,b,e3⟩,2)):=zh (HR.out.symm.trans (xa hm).1);have a5:Hid (t++qO L hf a M=t'):=zh (by rw[<-HT.out,(xa hm).2,List.append_nil]);clear hm
   go_wp2_with fail
   refine WC.out.mono ?_;rintro e w5 ⟨E,A5,c5,rfl,S⟩;have HO:=zh S;have F:=zh (Vo.of E d.out.bd);clear S E J K c2 Y f1 f2
   go_wp2_with fail
   go_ret3
   refine⟨A5,c5,by rw[D.out];rfl,?_,HQ.out.trans (F.out.qh i.out.le),by rw[a5.out];exact i.out.I5 W.out F.out⟩;rw[D.out];exact HO.out.mono HQ.out.size
end Go.Proofs.YtalgmjmibamdfaaGreatDoor
