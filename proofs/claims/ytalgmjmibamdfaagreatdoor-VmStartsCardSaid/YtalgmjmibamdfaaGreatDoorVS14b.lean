/- Merged. -/
import Derived.Test.YtalgmjmibamdfaaGreatDoorVS14
set_option linter.all false
set_option maxHeartbeats 16000000
set_option maxRecDepth 100000
namespace Go.Proofs.YtalgmjmibamdfaaGreatDoor
open Go.Proofs.Tryz
open Go.RowKit Tw
theorem ZF{w:World}{g base:Nat}{l:List Int}(h:w.heap[g]?=some (.cells (S5 l) 3 (0,0)))(a:base<=g)(b:l.length<=1000000):w.ownsRow base 3 1 (.slice (some ⟨g,0,none⟩) l.length l.length) l.length (iC l):=by
 refine⟨by rw[qL,Nat.mul_one],.inr ⟨g,_,_,rfl,a,h,x6 _,by unfold maxLen;omega,by simp[S5],?_⟩⟩;rw[Nat.mul_one];exact List.take_of_length_le (by simp[S5])
theorem XE(w:World)(B:Nat):Rows w B []:=⟨λ_=>(0,false),λi x h=>by cases h⟩
theorem zay(L:List Cf)(main:Nat)(X:Z3 L main)(a0:L.length<=16)(h4: ∀c∈L,c.I9.length<=4000)(A:Option Addr)(cp:Nat)(w:World)(G:L4 w (.slice A L.length cp) (L.map Cf.pf)):
 Calls prog 10 #[.agg #[.slice A L.length cp,.int .i64 main]] w λe w'=>Below w.heap.size w w'/\ ∃A' c',e=.returned (.slice A' (K9 (P1 L main)).length c')/\w'.ownsRow w.heap.size 3 1 (.slice A' (K9 (P1 L main)).length c') (K9 (P1 L main)).length (iC (K9 (P1 L main))):=by
 obtain⟨cm,h,a1⟩:=X.main;have b1:=(X.xQ cm (B0 h)).vars.2;have b2:main<L.length:=(List.getElem?_eq_some_iff.1 h).1;have u:=(x7 w.heap.size w).alloc (x6 _) (.cells #[.slice A L.length cp,.int .i64 main] 26);have i:=zh (x9 w (.cells #[.slice A L.length cp,.int .i64 main] 26));have H:=zh (G.I5 (.of u));have I:=zh u;have J:Hid (P1 L main=⟨0,0,[⟨main,0,List.replicate cm.vars 0,[]⟩]⟩):=zh (by simp[P1,h]);have HP:=zh X;have H4:=zh h4;have a2:=zh h;clear u G X h4 h a1
 go_enter func10,ntmps10
 go_upto_region 1 with(fail)
 generalize World.alloc _ _=w1 at i I H|-
 generalize K:w.heap.size=m at i I|-
 have M:=zh K;clear K;have C:=x5 i.out 0;have D:=x5 i.out 1;have HC:=zh (XD L main HP.out a0 H4.out A cp w1 H.out)
 go_wp2_with fail
 refine HC.out.mono ?_;rintro e a ⟨rfl,Y⟩;have s:=I0 i.out;replace i:=zh ((Y.block m (I0 i.out)).trans i.out);replace H:=zh (H.out.I5 (.of Y));replace I:Hid (Below m w a):=zh (I.out.trans (Y.mono (G3 s)));clear Y C D HC s
 go_upto_region 3 with(fail)
 have d:=I0 i.out;obtain⟨j,b3,vo,hv,-,b4,u0,Z,u2,-⟩:=H.out.at (X9 a2.out);injection hv with a3 a4 a5
 clear a4;subst a3 a5;simp only[Cf.pf]at Z;have C:=x5 i.out 0;have D:=x5 i.out 1;obtain⟨n,hn⟩: ∃n,cm.vars=n:=⟨_,rfl⟩;rw[hn]at Z J;obtain⟨b,rm,v,f,-⟩:=JE a.drew n (by omega);have b5:a.drew.heap.size=a.heap.size:=rfl;have N:=(f.cell (p:=⟨m,0,none⟩) d).trans C;have O:=(f.cell (p:=⟨m,1,none⟩) d).trans D;have k:=f.alloc f.size (.cells #[.int .i64 main,.int .i64 0,.slice (some ⟨a.heap.size,0,none⟩) n n,.slice none 0 0] 95);have P:=(k.cell (p:=⟨m,0,none⟩) d).trans C;have Q:=(k.cell (p:=⟨m,1,none⟩) d).trans D;have j0:(0:Int)<=(main:Int):=by omega
 have j1:(main:Int)<(L.length:Int):=by omega
 refine L0 (by kernel_rfl) [(0,7,.agg #[.slice (some ⟨j,0,none⟩) L.length cp,.int .i64 main]),(1,8,.pointer (some ⟨m,1,none⟩)),(2,9,.int .i64 main),(3,10,.pointer (some ⟨m,0,none⟩)),(4,11,.slice (some ⟨j,0,none⟩) L.length cp),(5,12,.pointer (some ⟨m,1,none⟩)),(6,13,.int .i64 main),(7,14,.pointer (some ⟨j,main*3,none⟩)),(8,15,.pointer (some ⟨j,main*3+1,none⟩)),(9,16,.int .i64 n),(10,17,.slice (some ⟨a.heap.size,0,none⟩) n n),(11,18,.agg #[.int .i64 main,.int .i64 0,.slice (some ⟨a.heap.size,0,none⟩) n n,.slice none 0 0]),(12,19,.slice (some ⟨b.heap.size,0,none⟩) 1 1),(13,20,.agg #[.slice (some ⟨j,0,none⟩) L.length cp,.int .i64 main,.int .i64 0,.int .i64 0,.slice (some ⟨b.heap.size,0,none⟩) 1 1]),(14,21,.pointer (some ⟨b.heap.size+1,0,none⟩)),(15,3,.pointer (some ⟨b.heap.size+1,0,none⟩))] [] _ _ rfl rfl [10,12,14] (λz=>match z with|0=>a.drew|1=>b|2=>b.alloc (.cells #[.int .i64 main,.int .i64 0,.slice (some ⟨a.heap.size,0,none⟩) n n,.slice none 0 0] 95)|_=>(b.alloc (.cells #[.int .i64 main,.int .i64 0,.slice (some ⟨a.heap.size,0,none⟩) n n,.slice none 0 0] 95)).alloc (.cells #[.slice (some ⟨j,0,none⟩) L.length cp,.int .i64 main,.int .i64 0,.int .i64 0,.slice (some ⟨b.heap.size,0,none⟩) 1 1] 98)) [(0,0),(0,1),(0,2),(1,0),(1,1),(2,0),(2,1),(3,0),(4,0),(5,0),(6,0),(7,0),(8,0),(9,0),(10,0),(11,1),(12,1),(13,2),(14,2),(15,3)] (by kernel_rfl) (by kernel_rfl) (by rfl) rfl ?_ ?_
 ·generalize G:J2 _ _=F
  simp[J2]at G;subst G
  repeat' (first|refine List.forall_mem_cons.2 ⟨?_,?_⟩|exact List.forall_mem_nil _)
  all_goals
   intro o E;injection E with E
   subst E
  all_goals simp[Y7,execOp,go_sem,C,D,N,O,P,Q,Z,j0,j1,rm]
 have a6:=x9 b (.cells #[.int .i64 main,.int .i64 0,.slice (some ⟨a.heap.size,0,none⟩) n n,.slice none 0 0] 95);have a7:a.heap.size<=b.heap.size:=f.size;have o3:=World.ownsRow_lit (base:=a.heap.size) (e:=95) (size:=4) b #[.int .i64 main,.int .i64 0,.slice (some ⟨a.heap.size,0,none⟩) n n,.slice none 0 0] 1 a7 (by decide) rfl;have S:=k.alloc k.size (.cells #[.slice (some ⟨j,0,none⟩) L.length cp,.int .i64 main,.int .i64 0,.int .i64 0,.slice (some ⟨b.heap.size,0,none⟩) 1 1] 98);have l:=x9 (b.alloc (.cells #[.int .i64 main,.int .i64 0,.slice (some ⟨a.heap.size,0,none⟩) n n,.slice none 0 0] 95)) (.cells #[.slice (some ⟨j,0,none⟩) L.length cp,.int .i64 main,.int .i64 0,.int .i64 0,.slice (some ⟨b.heap.size,0,none⟩) 1 1] 98);have B:=(x7 b.heap.size b).alloc (x6 _) (.cells #[.int .i64 main,.int .i64 0,.slice (some ⟨a.heap.size,0,none⟩) n n,.slice none 0 0] 95);have T:=B.alloc B.size (.cells #[.slice (some ⟨j,0,none⟩) L.length cp,.int .i64 main,.int .i64 0,.int .i64 0,.slice (some ⟨b.heap.size,0,none⟩) 1 1] 98);have t:=(T.block a.heap.size (I0 v)).trans v;have o4:=K1 o3 ((x7 _ _).alloc (x6 _) (.cells #[.slice (some ⟨j,0,none⟩) L.length cp,.int .i64 main,.int .i64 0,.int .i64 0,.slice (some ⟨b.heap.size,0,none⟩) 1 1] 98));have q:=ZF t (base:=a.heap.size) (x6 _) (by simp;omega);have es:(b.alloc (.cells #[.int .i64 main,.int .i64 0,.slice (some ⟨a.heap.size,0,none⟩) n n,.slice none 0 0] 95)).heap.size=b.heap.size+1:=by simp
 rw[es]at l;simp only[List.length_replicate]at q;have r:=zh (S);clear C D N O P Q u0 Z u2 rm v f k o3 B T t S a6 es j0 j1;simp only[J2,z9,B4,List.append_nil,List.foldl];go_simp;generalize World.alloc _ _=w4 at l o4 q r|-
 generalize a8:b.heap.size+1=mb at l|-
 have U:Z8 w4 a.heap.size mb (some ⟨j,0,none⟩) L.length cp main 0 0 (some ⟨b.heap.size,0,none⟩) 1 [(⟨main,0,List.replicate n 0,[]⟩,.slice (some ⟨a.heap.size,0,none⟩) n n,.slice none 0 0)]:=by
  refine⟨by omega,l,o4,(XE a a.heap.size).zbf (y:=(⟨main,0,List.replicate n 0,[]⟩,.slice (some ⟨a.heap.size,0,none⟩) n n,.slice none 0 0)) (λg cs hg=>r.out.block g (I0 hg)) (by simpa using q) (F8 _ _ _ _) (λg e=>Nat.le_of_eq (by simpa[Value.ownBlock]using e)) (λg e=>by cases e) (λg _ e=>by cases e)⟩
 have HV:=zh U;have V:Hid (Below m w w4):=zh (I.out.trans (((I8 a).trans r.out).mono (G3 d)));clear l o4 q U a8 r;have WC:=zh (JS HV.out ⟨by simp,λx hx=>by rw[List.mem_singleton.1 hx];simp;omega⟩)
 go_wp2_with fail
 refine WC.out.mono ?_;rintro e w5 ⟨W,A',c',rfl,E⟩;have HO:=zh E;have a9:=zh W;clear E W
 go_wp2_with fail
 go_ret;rw[J.out,M.out];have hz:=V.out.size;rw[M.out]at hz;exact⟨V.out.trans (a9.out.mono hz),A',c',rfl,HO.out.mono hz⟩
theorem zcz:S1 prog 43 42 4:=⟨underlying43,by kernel_rfl,by decide⟩
theorem Jp{T d:Nat}(E:S1 prog T d 4)(M:d≠3)(D:jh d){B c:Nat}{s w:World}{A:Option Addr}{l:List Fm}(h:Q8 w B d A c l)(V:Rows s B l)(N:IK s w)(hs:s.heap.size<=w.heap.size)(F:B<=s.heap.size)(a:Fq){f j:Option Addr}{k m:Nat}
 (O:w.ownsRow s.heap.size 3 1 (.slice f a.vars.length k) a.vars.length (iC a.vars)) (u:w.ownsRow s.heap.size 3 1 (.slice j a.I1.length m) a.I1.length (iC a.I1)) (W: ∀g,(Value.slice f a.vars.length k).ownBlock=some g->(Value.slice j a.I1.length m).ownBlock≠some g) (hl:l.length<=100):
 ∃Q R p,(Builtin.append_ #[T,T] T #[.slice A l.length c,.slice (some ⟨w.heap.size,0,none⟩) 1 1]).run prog (w.alloc (.cells #[.int .i64 a.fn,.int .i64 a.pc,.slice f a.vars.length k,.slice j a.I1.length m] d))=.ok (.slice Q (l.length+1) R) p/\
  Q8 p B d Q R (l++[(a,.slice f a.vars.length k,.slice j a.I1.length m)])/\Vo B w p/\ ∀(g:Nat)(b:Array Value)(t:Nat)(f':Nat×Nat),w.heap[g]?=some (.cells b t f')->t≠d->p.heap[g]?=w.heap[g]?:=by
 have G:B<=w.heap.size:=B5 F hs;have x:=(x7 w.heap.size w).alloc (x6 _) (.cells #[.int .i64 a.fn,.int .i64 a.pc,.slice f a.vars.length k,.slice j a.I1.length m] d);have r:=K1 h.je x;obtain⟨i,z,X,Y,H,I,J⟩:=E.get;have Z:=x9 w (.cells #[.int .i64 a.fn,.int .i64 a.pc,.slice f a.vars.length k,.slice j a.I1.length m] d);obtain⟨g2,C,p,r8,o8,S,n8,-⟩:=run_append_lies (P:=prog) (w.alloc (.cells #[.int .i64 a.fn,.int .i64 a.pc,.slice f a.vars.length k,.slice j a.I1.length m] d)) T T B d i z 4 i.bytes E.ut X Y H rfl J (by decide) _ _ _ r ⟨w.heap.size,0,none⟩ 1 1 [.int .i64 a.fn,.int .i64 a.pc,.slice f a.vars.length k,.slice j a.I1.length m] rfl (World.news_of_block Z) (by simp[Value.oneCell']) (by omega) (by unfold maxLen;omega) (xk I (by omega)) (B5 G x.size) _ rfl;have K: ∀(g:Nat)(b:Array Value)(t:Nat)(f':Nat×Nat),w.heap[g]?=some (.cells b t f')->t≠d->p.heap[g]?=w.heap[g]?:=λg b t f' o h1=>by
  have L:=x.block g (I0 o);rw[S.block g (I0 (L.trans o)) (λe=>K5 r (L.trans o) (λe=>h1 e.symm) e.symm),L]
 have U: ∀{q n:Nat}{v:Value}{xs:List Value},w.ownsRow q 3 1 v n xs->p.ownsRow q 3 1 v n xs:=λho=>R7 ho λg b _ o=>K g b _ _ o (λe=>M e.symm);refine⟨_,C,p,r8,⟨?_,V.zbf (y:=(a,.slice f a.vars.length k,.slice j a.I1.length m)) (λg b o=>?_) ((U O).mono F) ((U u).mono F) (λg e=>(O.lt g e).1) (λg e=>(u.lt g e).1) W⟩,?_,K⟩
 ·have e:(l++[(a,Value.slice f a.vars.length k,Value.slice j a.I1.length m)]).flatMap Fm.cells=l.flatMap Fm.cells++[.int .i64 a.fn,.int .i64 a.pc,.slice f a.vars.length k,.slice j a.I1.length m]:=by simp[Fm.cells]
  rw[e,y7,List.length_singleton];exact o8
 ·rw[K g b _ _ ((N g b o).trans o) (λe=>M e.symm),N g b o]
 ·exact(Vo.of x G).trans (Vo.U7 r D (B5 G x.size) S)
theorem zeJ{w:World}{v:Value}{L:List Cf}{xm:List (List Int)}(r:yg w v xm)(m:Xh L xm){i k n:Nat}{c:Cf}{o:Q2}(s:L[i]?=some c)(t:Zl c.I9 k)(x:c.I9[k]?=some (o,n)):
 ∃b g d h,v=.slice (some ⟨b,0,none⟩) L.length g/\b<w.heap.size/\d<w.heap.size/\w.cell? ⟨b,i,none⟩=some (.slice (some ⟨d,0,none⟩) c.I9.length h)/\w.cell? ⟨d,k,none⟩=some (.int .i64 n):=by
 obtain⟨y,j,p⟩:=m.2 i c s
 rcases r with⟨e,-⟩|⟨b,g,rfl,z,a⟩
 ·rw[e]at j;cases j
 ·obtain⟨u,q,d,h,rfl,l,f⟩:=a i y j
  have A:=p.at t x;rw[p.ok.1]at q l;refine⟨b,g,d,h,by rw[m.1],z,I0 f,q,?_⟩;have:=qD f A;exact this
theorem Zv{w:World}{F:Nat->Prop}{g o c:Nat}{l pre mid post:List Int}(h:J8 w F (.slice (some ⟨g,o,none⟩) l.length c) l)(e:l=pre++mid++post)(c':Nat):J8 w F (.slice (some ⟨g,o+pre.length,none⟩) mid.length c') mid:=by
 rcases h with⟨a,f,b,rfl⟩|⟨p,q,f,b,i,j,m⟩
 ·have:mid=[]:=by
   have:=G4 List.length e;simp at this;exact List.length_eq_zero_iff.1 (by omega)
  subst this;exact .inl ⟨_,_,rfl,rfl⟩
 ·injection b with b;injection b with b;injection b with b n
  subst b n;refine .inr ⟨g,o+pre.length,c',rfl,i,j,λk s d=>?_⟩;rw[Nat.add_assoc];refine m (pre.length+k) s ?_;rw[e,B2,List.getElem?_append_right (by omega),Nat.add_sub_cancel_left];rw[List.getElem?_append_left (List.getElem?_eq_some_iff.1 d).1];exact d
def qG(w:World)(A:Option Addr)(c:Nat)(l:List Int):Prop:=J8 w (λ_=>True) (.slice A l.length c) l/\l.length<=c
theorem qG.low{w w':World}{A:Option Addr}{c:Nat}{l:List Int}(h:qG w A c l)(a:Below w.heap.size w w'):qG w' A c l:=⟨h.1.low a,h.2⟩
theorem qG.tail{w:World}{g o c:Nat}{pre l:List Int}(h:qG w (some ⟨g,o,none⟩) c (pre++l)):qG w (some ⟨g,o+pre.length,none⟩) (c-pre.length) l:=by
 have a:=h.2;rw[y7]at a;exact⟨Zv h.1 (pre:=pre) (mid:=l) (post:=[]) (by simp) _,by omega⟩
theorem qG.end{w:World}{g o c:Nat}{pre l:List Int}(h:qG w (some ⟨g,o,none⟩) c (pre++l))(b:c=pre.length)(A:Option Addr):l=[]/\qG w A 0 l:=by
 have a:=h.2;rw[y7]at a;have:l=[]:=List.length_eq_zero_iff.1 (by omega);subst this;exact⟨rfl,.inl ⟨_,_,rfl,rfl⟩,x6 _⟩
theorem zbz(L:List Cf)(main:Nat)(hP:Z3 L main)(h4: ∀c∈L,c.I9.length<=4000)(A:Option Addr)(cp:Nat)(w:World)(hF:L4 w (.slice A L.length cp) (L.map Cf.pf)){v:Value}{xm:List (List Int)}(hv:yg w v xm)(hh:Xh L xm){M:Mc}(hM:qp L main M){Al:Option Addr}{cl:Nat}(hl:qG w Al cl (K9 M)):
 Calls prog 48 #[.agg #[.slice A L.length cp,.int .i64 main],v,.slice Al (K9 M).length cl] w λe w'=>Below w.heap.size w w'/\ ∃G A' c' l',e=.returned (.tuple #[.pointer (some ⟨G,0,none⟩),.bool true])/\Z8 w' w.heap.size G A L.length cp main M.mode M.value A' c' l'/\l'.map Prod.fst=M.O2:=by
 have d5:=hM.xx hP;obtain⟨i,d,h⟩:=M;simp only at d5|-
 obtain⟨rest,a0⟩: ∃r,h.flatMap frE=r:=⟨_,rfl⟩;have k4:K9 ⟨i,d,h⟩=[i,d,(h.length:Int)]++rest:=by rw[<-a0];rfl
 rw[k4]at hl|-
 obtain⟨gl,ol,rfl,d6,s0⟩:=hl.1.at 0 i rfl;obtain⟨n3,n4,e,-,s1⟩:=hl.1.at 1 d rfl;injection e with e;injection e with e e';subst e e'
 obtain⟨n3,n4,e,-,s2⟩:=hl.1.at 2 (h.length:Int) rfl;injection e with e;injection e with e e';subst e e'
 rw[Nat.add_zero]at s0;obtain⟨n,hn⟩: ∃n,([i,d,(h.length:Int)]++rest).length=n:=⟨_,rfl⟩;have d7:n=rest.length+3:=by rw[<-hn];simp
 have n5:n<=cl:=by rw[<-hn];exact hl.2
 rw[hn];have HL:=zh hl;have HM:=zh hM;have HP:=zh hP;have H4:=zh h4;have HH:=zh hh;have h7:=zh a0;have HN:=zh d7;have n6:=zh d5.2;have s5:=d5.1;have b0: ¬(n=0):=by omega
 have b1: ¬((n:Int)<3):=by omega
 have b2:(2:Int)<(n:Int):=by omega
 have k5:(0:Int)<(n:Int):=by omega
 have f7:(1:Int)<(n:Int):=by omega
 have b3: ¬((h.length:Int)<0):=by omega
 have b4: ¬((32:Int)<(h.length:Int)):=by omega
 have a9:=(x7 w.heap.size w).alloc (x6 _) (.cells #[.slice A L.length cp,.int .i64 main] 26);have HX:=zh (x9 w (.cells #[.slice A L.length cp,.int .i64 main] 26));have HB:=zh a9;replace s0:=(a9.cell (p:=⟨gl,ol,none⟩) d6).trans s0;replace s1:=(a9.cell (p:=⟨gl,ol+1,none⟩) d6).trans s1;replace s2:=(a9.cell (p:=⟨gl,ol+2,none⟩) d6).trans s2;have HF:=zh (hF.I5 (.of a9));have HV:=zh hv;have k6:=zh hF;clear a9 hF hv hP h4 hM hh hl k4 a0 d7 hn d5
 go_enter func48,ntmps48
 go_upto_region 1 with(fail)
 generalize World.alloc _ _=w1 at HX HB HF s0 s1 s2|-
 generalize k7:w.heap.size=U at HX HB|-
 have b8:=zh k7;clear k7
 go_upto_region 3 with(fail)
 have p0:=x5 HX.out 0;have p1:=x5 HX.out 1;have f8:=I0 HX.out;refine L0 (by kernel_rfl) [(0,31,.agg #[.slice A L.length cp,.int .i64 main]),(1,32,.slice (some ⟨gl,ol,none⟩) n cl),(2,33,.pointer (some ⟨gl,ol,none⟩)),(3,34,.int .i64 i),(4,35,.slice (some ⟨gl,ol,none⟩) n cl),(5,36,.pointer (some ⟨gl,ol+1,none⟩)),(6,37,.int .i64 d),(7,38,.agg #[.slice A L.length cp,.int .i64 main,.int .i64 i,.int .i64 d,.slice none 0 0]),(8,39,.pointer (some ⟨w1.heap.size,0,none⟩)),(9,8,.pointer (some ⟨w1.heap.size,0,none⟩))] [] _ _ rfl rfl [8] (λz=>match z with|0=>w1.drew|_=>w1.drew.alloc (.cells #[.slice A L.length cp,.int .i64 main,.int .i64 i,.int .i64 d,.slice none 0 0] 98)) [(0,0),(1,0),(2,0),(3,0),(4,0),(5,0),(6,0),(7,0),(8,0),(9,1)] (by kernel_rfl) (by kernel_rfl) (by rfl) rfl ?_ ?_
 ·generalize hF:J2 _ _=F
  simp[J2]at hF;subst hF
  repeat' (first|refine List.forall_mem_cons.2 ⟨?_,?_⟩|exact List.forall_mem_nil _)
  all_goals
   intro o s;injection s with s
   subst s
  all_goals simp[Y7,execOp,go_sem,p0,p1,s0,s1,b0,k5,f7]
 have ba:=((x7 w1.heap.size w1).alloc (x6 _) (.cells #[.slice A L.length cp,.int .i64 main,.int .i64 i,.int .i64 d,.slice none 0 0] 98)).drew;have d8:Hid ((w1.alloc (.cells #[.slice A L.length cp,.int .i64 main,.int .i64 i,.int .i64 d,.slice none 0 0] 98)).drew.heap[w1.heap.size]?=_):=zh (x9 w1 (.cells #[.slice A L.length cp,.int .i64 main,.int .i64 i,.int .i64 d,.slice none 0 0] 98));have k8:=HB.out.size;rw[b8.out]at k8;have d9:Hid (Below U w _):=zh (HB.out.trans (ba.mono (by omega)));have k9:=zh (HF.out.I5 (.of ba));have e0:=zh ((ba.block U f8).trans HX.out);have l0:=d6;rw[b8.out]at l0;have g0:gl<w1.heap.size:=by omega
 have l5:=(ba.cell (p:=⟨gl,ol+2,none⟩) g0).trans s2;clear s0 s1 s2 p0 p1 HX HB HF ba;simp only[J2,z9,B4,List.append_nil,List.foldl];go_simp;generalize(World.alloc _ _).drew=w2 at d9 k9 e0 d8 l5|-
 generalize w1.heap.size=G at d8 g0 f8 k8|-
 have y:Hid (Z8 w2 U G A L.length cp main i d none 0 []):=zh ⟨by omega,d8.out,ym _ _ _⟩;have h8:=HL;clear d8 HL
 go_upto_region 5 with(fail)
 clear l5 b0 b1 b2 k5 f7 b3 b4
 go_cut[2] (λp W=>W=w2/\ ∃A3 c3,p=.slice A3 rest.length c3/\Hid (qG w A3 c3 rest))
 case first=>
  have e3:((rest.length+3:Nat):Int)=(rest.length:Int)+3:=by omega
  have d7:=HN.out;subst d7;have i1: ¬((rest.length:Int)+3<3):=by omega
  have i2:(3:Int)<=(rest.length:Int)+3:=by omega
  by_cases n7:cl=3
  ·have HE:=zh (h8.out.end n7 (some ⟨gl,ol,none⟩)).2
   have V:rest.length=0:=by omega
   go_wp2_with fail
   go_meet
   case rel=>exact⟨rfl,_,_,by simp[V],HE⟩
  ·have HE:=zh h8.out.tail
   go_wp2_with fail
   go_meet
   case rel=>exact⟨rfl,_,_,by simp,HE⟩
 case rest=>
  obtain⟨rfl,A3,c3,rfl,H⟩:=hcut;obtain⟨⟨c0,c1,m,n8,t⟩,f2,f3,f4⟩:=Z4 y.out;clear c0 c1 t f2 f3 f4 HN h8 n5
  rcases HM.out with⟨l6,fs,f,a1,hG⟩|⟨n9,a1⟩|⟨o2,l7,a1⟩
  case' inr.inl=>have hm:=n9
  case' inr.inr=>have hm:=o2
  case inr.inl|inr.inr=>
   simp only at hm a1;subst hm a1;have V:=h7.out;simp only[List.flatMap_nil]at V;subst V
   try(simp only at l7;have s8:(d !=0)=true:=bne_iff_ne.2 l7)
   go_wp2_with fail
   go_ret2;rw[b8.out];exact⟨d9.out,G,rfl,none,0,y.out⟩
  simp only at l6 a1;subst l6;have b5:=zh a1;have HG:=zh hG.XY;have p1:=x5 e0.out 1;clear a1 hG HM
  go_upto_region 9 with(fail)
  clear m n8 p1
  go_wp2_with fail
  go_loopw[2,10,82] (λlv wv iv wr=> ∃(j wn:Nat)(A3:Option Addr)(c3:Nat)(rj:List Int)(A':Option Addr)(c':Nat)(l':List Fm),j<=h.length/\lv=.slice A3 rj.length c3/\wv=.int .i64 wn/\iv=.int .i64 j/\Hid (∀g,h[j]?=some g->g.fn=wn)/\Hid ((h.drop j).flatMap frE=rj)/\Hid (Z8 wr U G A L.length cp main 0 d A' c' l')/\Hid (l'.map Prod.fst=h.take j)/\Hid (Below U w wr)/\Hid (qG w A3 c3 rj)/\Hid (wr.heap[U]?=some (.cells #[.slice A L.length cp,.int .i64 main] 26 (0,0)))) (λ_ _ iv _=>h.length-(intOf iv).toNat)
  case atStart=>exact⟨0,main,A3,c3,rest,none,0,[],C6 _,rfl,rfl,rfl,zh (by rw[b5.out];exact HG.out.1),h7,y,zh rfl,d9,H,e0⟩
  case round=>
   clear y d9 e0 H k9 h7;obtain⟨j,wn,A3,c3,rj,A',c',l',hj,rfl,rfl,rfl,b9,h9,y,e4,i0,H,e5⟩:=hrel
   by_cases c6:j<h.length
   ·obtain⟨g,hg⟩: ∃g,h[j]?=some g:=⟨_,x8 c6⟩
    obtain⟨J,o,c7,o3⟩:=HG.out.2 j g (by rw[<-b5.out];exact hg);obtain rfl:=b9.out g hg;have s9:=n6.out g (B0 hg);obtain⟨rn,i3⟩: ∃r,(h.drop (j+1)).flatMap frE=r:=⟨_,rfl⟩;have o4:rj=[(g.fn:Int),(g.pc:Int)]++g.vars++g.I1++rn:=by
     rw[<-h9.out,<-i3,F2 c6];have e:h[j]=g:=by rw[x8 c6]at hg;injection hg
     rw[e];simp[frE]
    have l8:=zh i3;have l9:=zh hg;have l:=zh o3;clear i3 hg b9 h9;subst o4;have c8:Below w.heap.size w wr:=by rw[b8.out];exact i0.out
    have o5:=H;replace H:=zh (H.out.low c8);obtain⟨gs,os,rfl,t0,s0⟩:=H.out.1.at 0 (g.fn:Int) rfl;obtain⟨t1,t2,e,-,s1⟩:=H.out.1.at 1 (g.pc:Int) rfl;injection e with e;injection e with e e';subst e e'
    rw[Nat.add_zero]at s0;obtain⟨gH,cH,gh,ch,rfl,m0,m1,u0,u1⟩:=zeJ HV.out HH.out l.out.fn l.out.rch l.out.op;replace u0:=(c8.cell (p:=⟨gH,g.fn,none⟩) m0).trans u0;replace u1:=(c8.cell (p:=⟨gh,g.pc,none⟩) m1).trans u1;have o6:g.fn<L.length:=(List.getElem?_eq_some_iff.1 l.out.fn).1;have o7:g.pc<J.I9.length:=(List.getElem?_eq_some_iff.1 l.out.op).1;have t3:g.pc<=4000:=by have:=H4.out J (B0 l.out.fn);omega
    obtain⟨nr,d0⟩: ∃z,([(g.fn:Int),(g.pc:Int)]++g.vars++g.I1++rn).length=z:=⟨_,rfl⟩;have e6:Hid (nr=2+g.vars.length+g.I1.length+rn.length):=zh (by rw[<-d0];simp;omega);have t4:2<=nr:=by have:=e6.out;omega
    rw[d0];have q1: ¬((nr:Int)<2):=by omega
    have q2:(0:Int)<(nr:Int):=by omega
    have q3:(1:Int)<(nr:Int):=by omega
    have q4: ¬((g.pc:Int)<0):=by omega
    have q5: ¬((J.I9.length:Int)<=(g.pc:Int)):=by omega
    have q6:(0:Int)<=(g.fn:Int):=by omega
    have q7:(g.fn:Int)<(L.length:Int):=by omega
    have q8:((g.fn:Int) !=(g.fn:Int))=false:=by simp
    have q9:(j:Int)<(h.length:Int):=by omega
    have e7:=zh c8;clear c8 d0 o6 o7
    go_upto_region 12 with(fail)
    go_quiet (fail)
    have HD:=J1 (x7 wr.heap.size wr) nq;obtain⟨gf,o8,vo,hv,-,o9,f0,f1,f2,g1⟩:=(k6.out.I5 (.of e7.out)).at (X9 l.out.fn);injection hv with a2 i4 i5
    clear i4;subst a2 i5;obtain⟨go,co,rfl,-,b6,m2⟩:=g1.at;obtain⟨o0,o1⟩:=m2 g.pc o (by show(J.I9.map Prod.fst)[g.pc]?=_;rw[F6,l.out.op];rfl);simp only[Cf.pf,C0]at f0 f1 f2 o0 o1;have m3:Hid (go<wr.heap.size/\wr.cell? ⟨go,g.pc*2,none⟩=some (.int .i64 o.1)/\wr.cell? ⟨go,g.pc*2+1,none⟩=some (.int .i64 o.2)):=zh ⟨b6,o0,o1⟩;clear o0 o1 b6;have a7:=I0 e5.out;have m4:gH<wr.heap.size:=y5 m0 e7.out.size;have m5:gh<wr.heap.size:=y5 m1 e7.out.size;have p0:=x5 e5.out 0;have m6: ∀a,(wr.drewN nq).cell? a=wr.cell? a:=λ_=>rfl;rw[<-m6]at s0 s1 u0 u1 f0 f1 f2 p0;have z0:(wr.drewN nq).heap.size=wr.heap.size:=rfl;clear m6 g1 m2 q1 q4 q5 q8;generalize World.drewN _ _=w3 at HD s0 s1 u0 u1 f0 f1 f2 p0 z0|-
    have ba:=(x7 w3.heap.size w3).alloc (x6 _) (.cells #[.int .i64 g.fn,.int .i64 g.pc,.slice none 0 0,.slice none 0 0] 95);have a3:=zh (x9 w3 (.cells #[.int .i64 g.fn,.int .i64 g.pc,.slice none 0 0,.slice none 0 0] 95))
    go_upto_region 15 with(fail)
    have X:=zh (HD.trans (ba.mono (Nat.le_of_eq z0.symm)));rw[z0]at a3 ba;have oc: ∀b k,b<wr.heap.size->(w3.alloc (.cells #[.int .i64 g.fn,.int .i64 g.pc,.slice none 0 0,.slice none 0 0] 95)).cell? ⟨b,k,none⟩=w3.cell? ⟨b,k,none⟩:=λb k B=>ba.cell (p:=⟨b,k,none⟩) B;rw[<-oc _ _ (by assumption)]at u0 u1 f0 f1 f2 p0
    try simp only[z0]
    clear oc ba s0 s1 z0;generalize World.alloc _ _=K at X a3 u0 u1 f0 f1 f2 p0|-
    generalize m7:wr.heap.size=C at a3|-
    have m8:=zh m7;clear m7;have k1:=x5 a3.out 1;have e8:C<K.heap.size:=I0 a3.out;have hA: ∀b k O,b<K.heap.size->(K.alloc O).cell? ⟨b,k,none⟩=K.cell? ⟨b,k,none⟩:=λb k O B=>((x7 K.heap.size K).alloc (x6 _) O).cell (p:=⟨b,k,none⟩) B;have l1:gH<K.heap.size:=y5 m4 X.out.size;have l2:gh<K.heap.size:=y5 m5 X.out.size;have l3:gf<K.heap.size:=y5 o9 X.out.size;have l4:U<K.heap.size:=y5 a7 X.out.size;refine L0 (by kernel_rfl) [(0,117,.pointer (some ⟨U,0,none⟩)),(1,118,.slice (some ⟨gf,0,none⟩) L.length cp),(2,119,.int .i64 g.fn),(3,120,.pointer (some ⟨gf,g.fn*3,none⟩)),(4,121,.agg #[.int .i64 J.params,.int .i64 J.vars,.slice (some ⟨go,0,none⟩) J.I9.length co]),(5,122,.slice (some ⟨gH,0,none⟩) L.length cH),(6,123,.int .i64 g.fn),(7,124,.pointer (some ⟨gH,g.fn,none⟩)),(8,125,.slice (some ⟨gh,0,none⟩) J.I9.length ch),(9,126,.pointer (some ⟨C,1,none⟩)),(10,127,.int .i64 g.pc),(11,128,.pointer (some ⟨gh,g.pc,none⟩)),(12,129,.int .i64 c7),(13,13,.pointer (some ⟨K.heap.size,0,none⟩)),(15,14,.int .i64 c7)] [] _ _ rfl rfl [13,14] (λz=>match z with|0=>K.drew|1=>K.drew.alloc (.cells #[.int .i64 0,.int .i64 0,.slice none 0 0] 40)|_=>K.drew.alloc (.cells #[.int .i64 J.params,.int .i64 J.vars,.slice (some ⟨go,0,none⟩) J.I9.length co] 40)) [(0,0),(0,1),(1,0),(1,1),(2,0),(2,1),(3,0),(3,1),(4,0),(4,1),(5,0),(5,1),(5,2),(6,0),(6,1),(6,2),(7,0),(7,1),(7,2),(8,0),(8,1),(8,2),(9,0),(9,1),(9,2),(10,0),(10,1),(10,2),(11,0),(11,1),(11,2),(12,0),(12,1),(12,2),(13,0),(14,1),(15,2)] (by kernel_rfl) (by kernel_rfl) (by rfl) rfl ?_ ?_
    ·generalize hF:J2 _ _=F
     simp[J2]at hF;subst hF;have r1:(0:Int)<=(g.pc:Int):=by omega
     have r2:(g.pc:Int)<(J.I9.length:Int):=by have:=(List.getElem?_eq_some_iff.1 l.out.op).1;omega
     repeat' (first|refine List.forall_mem_cons.2 ⟨?_,?_⟩|exact List.forall_mem_nil _)
     all_goals
      intro o' s;injection s with s
      subst s
     all_goals simp[Y7,execOp,go_sem,hA,e8,l1,l2,l3,l4,p0,u0,u1,f0,f1,f2,k1,q6,q7,r1,r2]
    have ba:=((x7 K.heap.size K).alloc (x6 _) (.cells #[.int .i64 J.params,.int .i64 J.vars,.slice (some ⟨go,0,none⟩) J.I9.length co] 40)).drew;have q:Hid ((K.alloc (.cells #[.int .i64 J.params,.int .i64 J.vars,.slice (some ⟨go,0,none⟩) J.I9.length co] 40)).drew.heap[K.heap.size]?=_):=zh (x9 K (.cells #[.int .i64 J.params,.int .i64 J.vars,.slice (some ⟨go,0,none⟩) J.I9.length co] 40));have Q:=zh (X.out.trans (ba.mono X.out.size));have Y:=zh ((ba.block C e8).trans a3.out);have p2:C<K.heap.size:=e8;clear ba hA l1 l2 l3 l4 p0 u0 u1 f0 f1 f2 k1 e8 a3 X;simp only[J2,z9,B4,List.append_nil,List.foldl];go_simp;generalize(World.alloc _ _).drew=w5 at q Q Y|-
    generalize K.heap.size=R at q p2|-
    have ef:wrap64 ((h.length:Int)-1)=(h.length:Int)-1:=IntWalk.wrap64_in _ (by omega);have p3:IntKind.i64.wrap ((h.length:Int)-1)=(h.length:Int)-1:=IntWalk.i64_in _ (by omega)
    go_upto_if 133 with(fail)
    go_cut[10,14] (λwv nv W=> ∃wn:Nat,wv=.int .i64 wn/\nv=.int .i64 g.I1.length/\Hid (∀u,h[j+1]?=some u->u.fn=wn)/\Hid (Below w5.heap.size w5 W))
    case first=>
     by_cases g2:j+1<h.length
     ·obtain⟨u,cg,hu,rfl,i6,p4⟩:=l.out.low (by rw[<-b5.out];exact g2)
      rw[<-b5.out]at hu;have HU:=zh hu;have hq:(j:Int)<(h.length:Int)-1:=by omega
      obtain⟨b6,y0,y1⟩:=m3.out;replace y0:=(Q.out.cell (p:=⟨go,g.pc*2,none⟩) b6).trans y0;replace y1:=(Q.out.cell (p:=⟨go,g.pc*2+1,none⟩) b6).trans y1;simp only at y0 y1;have x2:=x5 q.out 2;have k1:=x5 Y.out 1;have p0:=(Q.out.cell (p:=⟨U,0,none⟩) a7).trans (x5 e5.out 0);obtain⟨t5,o8,vo,hv,-,g3,f0,-,-,-⟩:=((k6.out.I5 (.of e7.out)).I5 (.of Q.out)).at (X9 i6);injection hv with a2 i4 i5
      clear i4;injection a2 with a2;injection a2 with a2
      subst a2 i5;simp only[Cf.pf]at f0;have l1:=g3;have l2:U<w5.heap.size:=y5 a7 Q.out.size;have r1:(0:Int)<=(g.pc:Int):=by omega
      have r2:(g.pc:Int)<(J.I9.length:Int):=by have:=(List.getElem?_eq_some_iff.1 l.out.op).1;omega
      have r3:(0:Int)<=(u.fn:Int):=by omega
      have r4:(u.fn:Int)<(L.length:Int):=by have:=(List.getElem?_eq_some_iff.1 i6).1;omega
      have r5: ¬((c7:Int)<0):=by omega
      have r6:IntKind.i64.wrap ((c7:Int)-(cg.params:Int))=(g.I1.length:Int):=by rw[show(c7:Int)-cg.params=g.I1.length by omega];exact IntWalk.i64_in _ (by omega)
      have p5:=zh ((x7 w5.heap.size w5).alloc (x6 _) (.cells #[.int .i64 17,.int .i64 u.fn] 74));clear hu p4 i6 b6 g3
      go_wp2_with fail
      go_meet
      case rel=>exact⟨u.fn,rfl,rfl,zh (λu' p6=>by have:=HU.out.symm.trans p6;injection this with this;rw[this]),p5⟩
     ·have hq: ¬((j:Int)<(h.length:Int)-1):=by omega
      have p7:=l.out.xt (by rw[<-b5.out];omega);subst p7
      go_wp2_with fail
      go_meet
      case rel=>exact⟨_,rfl,rfl,zh (λu hu=>G5 (List.getElem?_eq_some_iff.1 hu).1 g2),zh (x7 _ _)⟩
    case rest=>
     rename World=>w6
     obtain⟨wn,rfl,rfl,b9,e9⟩:=hcut;have I:Hid (Below wr.heap.size wr w6):=zh (Q.out.trans (e9.out.mono Q.out.size));have d1:=zh ((e9.out.block C (I0 Y.out)).trans Y.out);have Z:=zh ((e9.out.block R (I0 q.out)).trans q.out);have x1:w6.cell? ⟨R,1,none⟩=some (.int .i64 g.vars.length):=by rw[l.out.vars];exact x5 Z.out 1
     have m9:=zh (H.out.low I.out);clear e9 Y q Q ef p3 m3;have e1:IntKind.i64.wrap (2+(g.vars.length:Int))=2+(g.vars.length:Int):=IntWalk.i64_in _ (by omega);have e2:IntKind.i64.wrap (2+(g.vars.length:Int)+(g.I1.length:Int))=2+(g.vars.length:Int)+(g.I1.length:Int):=IntWalk.i64_in _ (by omega);have d0:=e6.out;have p8:nr<=c3:=by have:=m9.out.2;simp at this;omega
     have i1: ¬((nr:Int)<2+(g.vars.length:Int)+(g.I1.length:Int)):=by omega
     have i2: ¬((g.I1.length:Int)<0):=by omega
     have t6:2+g.vars.length+g.I1.length<=c3:=by omega
     clear d0 p8;have d2:Hid (∀(d3 xs g4:List Int)(W:World)(A':Option Addr)(c':Nat),[(g.fn:Int),(g.pc:Int)]++g.vars++g.I1++rn=d3++xs++g4->xs.length<=600->Below wr.heap.size wr W->(A'=some ⟨gs,os+d3.length,none⟩\/A'=some ⟨gs,os,none⟩/\xs=[])->Calls prog 44 #[.slice A' xs.length c'] W λe w'=>Below W.heap.size W w'/\ ∃A' c',e=.returned (.slice A' xs.length c')/\w'.ownsRow W.heap.size 3 1 (.slice A' xs.length c') xs.length (iC xs)):=zh (λd3 xs g4 W A' c' e E hW hA=>by
      rcases hA with rfl|⟨rfl,h0⟩
      ·exact ju ((Zv H.out.1 (pre:=d3) (mid:=xs) e c').low hW) (.inr ⟨_,_,rfl⟩) (by omega)
      ·rw[h0];exact ju (F:=λ_=>True) (.inl ⟨_,_,rfl,rfl⟩) (.inr ⟨_,_,rfl⟩) (by simp))
     go_upto_region 24 with(fail)
     go_cut[2] (λlv W=>lv=.slice (some ⟨gs,os,none⟩) nr c3/\ ∃x m,Hid (Below wr.heap.size wr W)/\Hid (W.heap[C]?=some (.cells #[.int .i64 g.fn,.int .i64 g.pc,.slice x g.vars.length m,.slice none 0 0] 95 (0,0)))/\Hid (W.heap[R]?=w6.heap[R]?)/\Hid (W.ownsRow wr.heap.size 3 1 (.slice x g.vars.length m) g.vars.length (iC g.vars)))
     case first=>
      have j1:(2:Int)<=2+(g.vars.length:Int):=by omega
      have j2:2+(g.vars.length:Int)<=(c3:Int):=by omega
      have j3:(2:Int)<=(c3:Int):=by omega
      have S: ∀(W:World)(x:Option Addr)(m:Nat),Below w6.heap.size w6 W->W.ownsRow w6.heap.size 3 1 (.slice x g.vars.length m) g.vars.length (iC g.vars)->W.heap[C]?=some (.cells #[.int .i64 g.fn,.int .i64 g.pc,.slice none 0 0,.slice none 0 0] 95 (0,0))/\Hid (∃A3 c3,Value.slice x g.vars.length m=.slice A3 g.vars.length c3/\Hid (Below wr.heap.size wr (W.setCell ⟨C,2,none⟩ (.slice x g.vars.length m)))/\Hid ((W.setCell ⟨C,2,none⟩ (.slice x g.vars.length m)).heap[C]?=some (.cells #[.int .i64 g.fn,.int .i64 g.pc,.slice A3 g.vars.length c3,.slice none 0 0] 95 (0,0)))/\Hid ((W.setCell ⟨C,2,none⟩ (.slice x g.vars.length m)).heap[R]?=w6.heap[R]?)/\Hid ((W.setCell ⟨C,2,none⟩ (.slice x g.vars.length m)).ownsRow wr.heap.size 3 1 (.slice A3 g.vars.length c3) g.vars.length (iC g.vars))):=λW x m B s=>by
       have E:=(B.block C (I0 d1.out)).trans d1.out;refine⟨E,zh ⟨x,m,rfl,zh (K8 (I.out.trans (B.mono I.out.size)) (Nat.le_of_eq m8.out) 2 _),zh ?_,zh ?_,zh ((U5 s E (by decide) 2 _).mono I.out.size)⟩⟩
       ·rw[y4 W C 2 _ _ _ E];rfl
       ·rw[(I7 W C 2 (.slice x g.vars.length m)).block R (y5 (I0 Z.out) B.size) (by simp;omega),B.block R (I0 Z.out)]
      by_cases a4:c3=2
      ·have H0:Hid (g.vars=[]):=zh (List.length_eq_zero_iff.1 (by omega))
       have CL:=zh (d2.out [(g.fn:Int),(g.pc:Int)] g.vars (g.I1++rn) w6 (some ⟨gs,os,none⟩) 0 (by simp) (by omega) I.out (.inr ⟨rfl,H0.out⟩));have FN:=zh S;clear S
       go_wp2_with fail
       refine CL.out.mono ?_;rintro e W ⟨B,x,m,rfl,s⟩;obtain⟨E,HR⟩:=FN.out W x m B s;have k2:=x5 E 2;have p9:=z6 E 2;clear B s E
       go_wp2_with fail
       go_meet
       case rel=>
        obtain⟨A3,c9,-,h1,h2,h3,h4⟩:=HR.out;exact⟨by first|rfl|rw[a4],A3,c9,h1,h2,h3,h4⟩
      ·have CL:=zh (d2.out [(g.fn:Int),(g.pc:Int)] g.vars (g.I1++rn) w6 (some ⟨gs,os+2,none⟩) (c3-2) (by simp) (by omega) I.out (.inl rfl))
       have FN:=zh S;clear S
       go_wp2_with fail
       refine CL.out.mono ?_;rintro e W ⟨B,x,m,rfl,s⟩;obtain⟨E,HR⟩:=FN.out W x m B s;have k2:=x5 E 2;have p9:=z6 E 2;clear B s E
       go_wp2_with fail
       go_meet
       case rel=>
        obtain⟨A3,c9,-,h1,h2,h3,h4⟩:=HR.out;exact⟨by first|rfl|rw[a4],A3,c9,h1,h2,h3,h4⟩
     case rest=>
      rename World=>w7
      obtain⟨rfl,x,m,N,d4,g5,i7⟩:=hcut;have q:Hid (w7.heap[R]?=_):=zh (g5.out.trans Z.out);have x1:w7.cell? ⟨R,1,none⟩=some (.int .i64 g.vars.length):=by rw[l.out.vars];exact x5 q.out 1
      clear g5 Z d1 I m9
      go_upto_region 25 with(fail)
      have j2:2+(g.vars.length:Int)+(g.I1.length:Int)<=(c3:Int):=by omega
      have j3:2+(g.vars.length:Int)<=(c3:Int):=by omega
      have j4:(0:Int)<=2+(g.vars.length:Int):=by omega
      have j5:2+(g.vars.length:Int)<=2+(g.vars.length:Int)+(g.I1.length:Int):=by omega
      go_cut[2] (λlv W=>lv=.slice (some ⟨gs,os,none⟩) nr c3/\ ∃D t,Hid (Below wr.heap.size wr W)/\Hid (W.heap[C]?=some (.cells #[.int .i64 g.fn,.int .i64 g.pc,.slice x g.vars.length m,.slice D g.I1.length t] 95 (0,0)))/\Hid (W.heap[R]?=w7.heap[R]?)/\Hid (W.ownsRow wr.heap.size 3 1 (.slice x g.vars.length m) g.vars.length (iC g.vars))/\Hid (W.ownsRow wr.heap.size 3 1 (.slice D g.I1.length t) g.I1.length (iC g.I1))/\Hid (∀b,(Value.slice x g.vars.length m).ownBlock=some b->(Value.slice D g.I1.length t).ownBlock≠some b))
      case first=>
       have T: ∀(W:World)(D:Option Addr)(t:Nat),Below w7.heap.size w7 W->W.ownsRow w7.heap.size 3 1 (.slice D g.I1.length t) g.I1.length (iC g.I1)->W.heap[C]?=some (.cells #[.int .i64 g.fn,.int .i64 g.pc,.slice x g.vars.length m,.slice none 0 0] 95 (0,0))/\Hid (Hid (Below wr.heap.size wr (W.setCell ⟨C,3,none⟩ (.slice D g.I1.length t)))/\Hid ((W.setCell ⟨C,3,none⟩ (.slice D g.I1.length t)).heap[C]?=some (.cells #[.int .i64 g.fn,.int .i64 g.pc,.slice x g.vars.length m,.slice D g.I1.length t] 95 (0,0)))/\Hid ((W.setCell ⟨C,3,none⟩ (.slice D g.I1.length t)).heap[R]?=w7.heap[R]?)/\Hid ((W.setCell ⟨C,3,none⟩ (.slice D g.I1.length t)).ownsRow wr.heap.size 3 1 (.slice x g.vars.length m) g.vars.length (iC g.vars))/\Hid ((W.setCell ⟨C,3,none⟩ (.slice D g.I1.length t)).ownsRow wr.heap.size 3 1 (.slice D g.I1.length t) g.I1.length (iC g.I1))/\Hid (∀b,(Value.slice x g.vars.length m).ownBlock=some b->(Value.slice D g.I1.length t).ownBlock≠some b)):=λW D t B s=>by
        have E:=(B.block C (I0 d4.out)).trans d4.out;refine⟨E,zh ⟨zh (K8 (N.out.trans (B.mono N.out.size)) (Nat.le_of_eq m8.out) 3 _),zh ?_,zh ?_,zh (U5 (K1 i7.out B) E (by decide) 3 _),zh ((U5 s E (by decide) 3 _).mono N.out.size),zh λb e1 e2=>?_⟩⟩
        ·rw[y4 W C 3 _ _ _ E];rfl
        ·rw[(I7 W C 3 (.slice D g.I1.length t)).block R (y5 (I0 q.out) B.size) (by simp;omega),B.block R (I0 q.out)]
        ·have h1:=(i7.out.lt b e1).2;have h2:=(s.lt b e2).1;omega
       by_cases a4:c3=2+g.vars.length
       ·have H0:Hid (g.I1=[]):=zh (List.length_eq_zero_iff.1 (by omega))
        have CL:=zh (d2.out ([(g.fn:Int),(g.pc:Int)]++g.vars) g.I1 rn w7 (some ⟨gs,os,none⟩) 0 (by simp) (by omega) N.out (.inr ⟨rfl,H0.out⟩));have FN:=zh T;clear T
        go_wp2_with fail
        refine CL.out.mono ?_;rintro e W ⟨B,D,t,rfl,s⟩;obtain⟨E,HR⟩:=FN.out W D t B s;have k3:=x5 E 3;have q0:=z6 E 3;clear B s E
        go_wp2_with fail
        go_meet
        case rel=>
         obtain⟨h1,h2,h3,h4,h5,h6⟩:=HR.out;exact⟨by first|rfl|rw[a4],D,t,h1,h2,h3,h4,h5,h6⟩
       ·have CL:=zh (d2.out ([(g.fn:Int),(g.pc:Int)]++g.vars) g.I1 rn w7 (some ⟨gs,os+(2+g.vars.length),none⟩) (c3-(2+g.vars.length)) (by simp) (by omega) N.out (.inl (by simp<;>omega)))
        have FN:=zh T;clear T
        go_wp2_with fail
        refine CL.out.mono ?_;rintro e W ⟨B,D,t,rfl,s⟩;obtain⟨E,HR⟩:=FN.out W D t B s;have k3:=x5 E 3;have q0:=z6 E 3;clear B s E
        go_wp2_with fail
        go_meet
        case rel=>
         obtain⟨h1,h2,h3,h4,h5,h6⟩:=HR.out;exact⟨by first|rfl|rw[a4],D,t,h1,h2,h3,h4,h5,h6⟩
      case rest=>
       rename World=>w8
       obtain⟨rfl,D,t,P,a8,g6,r0,r7,r8⟩:=hcut;replace q:=zh (g6.out.trans q.out);clear g6 d4 N i7 x1 d2
       go_upto_region 26 with(fail)
       have a5:Z8 w8.drew U G (some ⟨gf,0,none⟩) L.length cp main 0 d A' c' l':=y.out.below P.out.drew;obtain⟨A5,c5,w9,r9,f9,v9,f5⟩:=Jp ZO (by decide) (by unfold jh;decide) a5.T7 y.out.T7.T6 (.below P.out.drew) P.out.drew.size (B5 y.out.lo (G3 (I0 y.out.J7))) g r0.out.drew r7.out.drew r8.out (by have:=G4 List.length e4.out;simp at this;omega);have i8:=x5 a5.J7 4;have g7:=I0 a5.J7;have n0:=(((x7 w8.heap.size w8).alloc (x6 _) (.cells #[.int .i64 g.fn,.int .i64 g.pc,.slice x g.vars.length m,.slice D g.I1.length t] 95)).cell (p:=⟨G,4,none⟩) g7).trans i8;have b7:=(f5 G _ _ _ a5.J7 (by decide)).trans a5.J7;have z4:=x5 b7 4;have n1:=z6 b7 4;have k0:=x5 a8.out 0;have k1:=x5 a8.out 1;have k2:=x5 a8.out 2;have k3:=x5 a8.out 3;have i9:Hid (Z8 (w9.setCell ⟨G,4,none⟩ (.slice A5 (l'.length+1) c5)) U G (some ⟨gf,0,none⟩) L.length cp main 0 d A5 c5 (l'++[(g,.slice x g.vars.length m,.slice D g.I1.length t)])):=zh ⟨a5.lo,by rw[y4 w9 G 4 _ _ _ b7];simp,f9.else b7 (by decide) (by decide) 4 _⟩;have j0:Hid (Below U w (w9.setCell ⟨G,4,none⟩ (.slice A5 (l'.length+1) c5))):=zh (K8 ((i0.out.trans (P.out.drew.mono (B5 y.out.lo (G3 (I0 y.out.J7))))).trans v9.N5) y.out.lo 4 _);have j6:w8.drew.heap[U]?=some (.cells #[.slice (some ⟨gf,0,none⟩) L.length cp,.int .i64 main] 26 (0,0)):=(P.out.drew.block U a7).trans e5.out;have j7:=(f5 U _ _ _ j6 (by decide)).trans j6;have j8:=zh (((I7 w9 G 4 (.slice A5 (l'.length+1) c5)).block U (I0 j7) (by simp;omega)).trans j7);have a6:=(f5 R _ _ _ q.out (by decide)).trans q.out;have g8:=zh (((I7 w9 G 4 (.slice A5 (l'.length+1) c5)).block R (I0 a6) (λe=>by injection e with e;subst e;rw[b7]at a6;injection a6 with a6;injection a6 with _ e;exact G5 e (by decide))).trans a6);clear a5 f9 v9 f5 b7 j6 j7 a6 P;refine L0 (by kernel_rfl) [(0,188,.pointer (some ⟨G,0,none⟩)),(1,189,.pointer (some ⟨G,0,none⟩)),(2,190,.pointer (some ⟨G,0,none⟩)),(3,191,.pointer (some ⟨G,4,none⟩)),(4,192,.slice A' l'.length c'),(5,193,.agg #[.int .i64 g.fn,.int .i64 g.pc,.slice x g.vars.length m,.slice D g.I1.length t]),(6,194,.slice (some ⟨w8.drew.heap.size,0,none⟩) 1 1),(7,195,.slice A5 (l'.length+1) c5),(8,196,.pointer (some ⟨G,0,none⟩)),(9,197,.pointer (some ⟨G,4,none⟩))] [] _ _ rfl rfl [6,7,10] (λz=>match z with|0=>w8.drew|1=>w8.drew.alloc (.cells #[.int .i64 g.fn,.int .i64 g.pc,.slice x g.vars.length m,.slice D g.I1.length t] 95)|2=>w9|_=>w9.setCell ⟨G,4,none⟩ (.slice A5 (l'.length+1) c5)) [(0,0),(0,1),(0,2),(1,0),(1,1),(2,0),(2,1),(3,0),(3,1),(4,0),(4,1),(5,0),(6,0),(7,1),(8,2),(9,2),(10,2)] (by kernel_rfl) (by kernel_rfl) (by rfl) rfl ?_ ?_
       ·generalize hF:J2 _ _=F
        simp[J2]at hF;subst hF
        repeat' (first|refine List.forall_mem_cons.2 ⟨?_,?_⟩|exact List.forall_mem_nil _)
        all_goals
         intro o' s;injection s with s
         subst s
        rotate_left 13
        ·exact Q6 rfl rfl rfl r9
        all_goals simp[Y7,execOp,go_sem,i8,n0,z4,n1,k0,k1,k2,k3]
       clear i8 n0 z4 n1 k0 k1 k2 k3 r9 g7;simp only[J2,z9,B4,List.append_nil,List.foldl];go_simp;generalize World.setCell _ _ _=s3 at i9 j0 j8 g8|-
       have x1:s3.cell? ⟨R,1,none⟩=some (.int .i64 g.vars.length):=by rw[l.out.vars];exact x5 g8.out 1
       have f6:([(g.fn:Int),(g.pc:Int)]++g.vars++g.I1).length=2+g.vars.length+g.I1.length:=by simp;omega
       have n2:Hid (qG w (some ⟨gs,os,none⟩) c3 (([(g.fn:Int),(g.pc:Int)]++g.vars++g.I1)++rn)):=o5;have s6:2+(g.vars.length:Int)+(g.I1.length:Int)<=(nr:Int):=by have:=e6.out;omega
       have g9:Hid (nr-(2+g.vars.length+g.I1.length)=rn.length):=zh (by have:=e6.out;omega);clear H
       go_upto_region 27 with(fail)
       by_cases a4:c3=2+g.vars.length+g.I1.length
       ·have HE:=zh (n2.out.end (by rw[f6];exact a4) (some ⟨gs,os,none⟩)).2
        clear f6
        go_wp2_with fail
        go_roundw
        case rel=>
         refine⟨j+1,wn,_,_,rn,A5,c5,_,c6,by rw[g9.out,Nat.sub_self],rfl,by go_num,b9,l8,i9,zh ?_,j0,HE,j8⟩;rw[List.map_append,e4.out,List.take_add_one,l9.out];rfl
        case measure=>simp[intOf];omega
       ·have HE:=n2.out.tail
        rw[f6]at HE;replace HE:=zh HE;clear f6
        go_wp2_with fail
        go_roundw
        case rel=>
         refine⟨j+1,wn,_,_,rn,A5,c5,_,c6,by rw[g9.out],rfl,by go_num,b9,l8,i9,zh ?_,j0,HE,j8⟩;rw[List.map_append,e4.out,List.take_add_one,l9.out];rfl
        case measure=>simp[intOf];omega
   ·obtain rfl:j=h.length:=by omega
    have V:=h9.out;rw[List.drop_length]at V;simp only[List.flatMap_nil]at V;subst V;have j9:=e4.out;rw[E7]at j9;have s7:0<h.length:=by rw[b5.out];simp
    have s4:=zh j9;clear j9
    go_wp2_with fail
    go_ret2;rw[b8.out];exact⟨i0.out,G,A',c',l',rfl,y.out,s4.out⟩
end Go.Proofs.YtalgmjmibamdfaaGreatDoor
