/- Merged. -/
import Derived.Test.YtalgmjmibamdfaaGreatDoorCO18
set_option linter.all false
set_option maxHeartbeats 16000000
set_option maxRecDepth 100000
namespace Go.Proofs.YtalgmjmibamdfaaGreatDoor
open Go.Proofs.Tryz
open Go.RowKit Tw
theorem Qb{w0 w:World}{b c:Nat}{A:Option Addr}{x:Int}{r:List Int}(h:w.heap[b]?=some (.cells #[.slice A (r.length+1) c] 22 (0,0)))(n:Below w0.heap.size w0 w)(hs:yE w0 A c (x::r)):
 Calls prog 74 #[.pointer (some ⟨b,0,none⟩)] w λe w'=>e=.returned (.int .i64 x)/\ ∃A' c',w'.heap[b]?=some (.cells #[.slice A' r.length c'] 22 (0,0))/\yE w0 A' c' r/\w.grownBy w' (some b)/\ ∃g o,A'=some ⟨g,o,none⟩:=by
 obtain⟨g,o,rfl,a,d⟩:=hs.1.at 0 x rfl;rw[Nat.add_zero]at d;replace d:=(n.cell (p:=⟨g,o,none⟩) a).trans d;have f:=hs.2;rw[z7]at f;have q:=y5 h 0;have s:=B4 h 0;have H:=zh h;have t:(0:Int)<(r.length:Int)+1:=by omega
 have u:((r.length:Int)+1==0)=false:=beq_eq_false_iff_ne.2 (by omega);have v:(1:Int)<=(r.length:Int)+1:=by omega
 by_cases i:c=1
 ·subst i
  have j:=zh (yE.end (pre:=[x]) hs rfl (some ⟨g,o,none⟩));have m:r.length=0:=by omega
  clear h hs a
  go_enter func74,ntmps74
  go_wp2_with fail
  go_ret;refine⟨rfl,some ⟨g,o,none⟩,0,?_,j.out.2,J2 w b 0 _,_,_,rfl⟩;rw[z5 w b 0 _ _ _ H.out];simp[m]
 ·have j:=zh (yE.tail (pre:=[x]) hs)
  clear h hs a
  go_enter func74,ntmps74
  go_wp2_with fail
  go_ret;refine⟨rfl,some ⟨g,o+1,none⟩,c-1,?_,j.out,J2 w b 0 _,_,_,rfl⟩;rw[z5 w b 0 _ _ _ H.out];simp
structure ZG(w0:World)(L:List Cf)(A:Option Addr)(cp main b3 b5 b6 b8:Nat)(Al:Option Addr)(cl:Nat)(ls:List Int)(mode value:Int)(Ar:Option Addr)(cr:Nat)(l:List Fm)(w:World):Prop where
 O7:Below w0.heap.size w0 w
 n3:w0.heap.size<=b3
 n5:w0.heap.size<=b5
 n6:w0.heap.size<=b6
 ne:b6≠b8
 p3:w.heap[b3]?=some (.cells #[.slice A L.length cp,.int .i64 main] 26 (0,0))
 p5:w.heap[b5]?=some (.cells #[.slice Al ls.length cl] 22 (0,0))
 p6: ∃u0 u1 u2,w.heap[b6]?=some (.cells #[u0,u1,u2] 45 (0,0))
 rf:qF w (bd w0.heap.size) b8 mode value Ar cr l
 ls:yE w0 Al cl ls
section
variable {w0 w w':World}{L:List Cf}{A Al Ar:Option Addr}{cp main b3 b5 b6 b8 cl cr:Nat}{ls:List Int}{mode value:Int}{l:List Fm}
theorem ZG.below(h:ZG w0 L A cp main b3 b5 b6 b8 Al cl ls mode value Ar cr l w)(a:Below w.heap.size w w'):ZG w0 L A cp main b3 b5 b6 b8 Al cl ls mode value Ar cr l w':=by
 obtain⟨c,d,e,b⟩:=h.p6;exact⟨h.O7.trans (a.mono h.O7.size),h.n3,h.n5,h.n6,h.ne,(a.block b3 (I7 h.p3)).trans h.p3,(a.block b5 (I7 h.p5)).trans h.p5,⟨c,d,e,(a.block b6 (I7 b)).trans b⟩,h.rf.below a,h.ls⟩
theorem ZG.grow(h:ZG w0 L A cp main b3 b5 b6 b8 Al cl ls mode value Ar cr l w){a:Option Addr}{c:Nat}{r:List Int}(m:w.grownBy w' (some b5))(q:w'.heap[b5]?=some (.cells #[.slice a r.length c] 22 (0,0)))(hs:yE w0 a c r):ZG w0 L A cp main b3 b5 b6 b8 a c r mode value Ar cr l w':=by
 obtain⟨s,u,v,o⟩:=h.p6;have i:=h.p5;have n: ∀(b:Nat)(f:Array Value)(t:Nat)(p:Nat×Nat),w.heap[b]?=some (.cells f t p)->t≠22->w'.heap[b]?=w.heap[b]?:=λb f t p d j=>m.block b (I7 d) λe=>by
  injection e with e;subst e;rw[i]at d;injection d with d;injection d with _ e;exact j e.symm
 exact⟨h.O7.grown m h.O7.size (λg e=>by injection e with e;subst e;exact h.n5),h.n3,h.n5,h.n6,h.ne,(n b3 _ _ _ h.p3 (by decide)).trans h.p3,q,⟨s,u,v,(n b6 _ _ _ o (by decide)).trans o⟩,
  ⟨h.rf.lo,(n b8 _ _ _ h.rf.K3 (by decide)).trans h.rf.K3,h.rf.T9.qn λg f t k j=>n g f t _ k (by rcases j with rfl|rfl<;>decide)⟩,hs⟩
theorem ZG.fld(h:ZG w0 L A cp main b3 b5 b6 b8 Al cl ls mode value Ar cr l w){j:Nat}{u:Value}{m v:Int}{Ar':Option Addr}{cr':Nat}{l':List Fm}(a:(#[.int .i64 mode,.int .i64 value,.slice Ar l.length cr]:Array Value).setIfInBounds j u= #[.int .i64 m,.int .i64 v,.slice Ar' l'.length cr'])(hf:S8 (w.setCell ⟨b8,j,none⟩ u) (bd w0.heap.size) 42 Ar' cr' l'):
 ZG w0 L A cp main b3 b5 b6 b8 Al cl ls m v Ar' cr' l' (w.setCell ⟨b8,j,none⟩ u):=by
 obtain⟨o,p,q,f⟩:=h.p6;have i:=J2 w b8 j u;have n: ∀(b:Nat)(c:Array Value)(t:Nat)(d:Nat×Nat),w.heap[b]?=some (.cells c t d)->b≠b8->(w.setCell ⟨b8,j,none⟩ u).heap[b]?=w.heap[b]?:=λb c t d a r=>i.block b (I7 a) λe=>r (F7 e);have k: ∀(b:Nat)(c:Array Value)(t:Nat)(d:Nat×Nat),w.heap[b]?=some (.cells c t d)->t≠45->b≠b8:=λb c t d a s e=>by
  subst e;rw[h.rf.K3]at a;injection a with a;injection a with _ e;exact s e.symm
 refine⟨h.O7.grown i h.O7.size (λg e=>by injection e with e;subst e;exact h.rf.lo),h.n3,h.n5,h.n6,h.ne,(n b3 _ _ _ h.p3 (k _ _ _ _ h.p3 (by decide))).trans h.p3,(n b5 _ _ _ h.p5 (k _ _ _ _ h.p5 (by decide))).trans h.p5,⟨o,p,q,(n b6 _ _ _ f h.ne).trans f⟩,⟨h.rf.lo,?_,hf⟩,h.ls⟩;rw[z5 w b8 j _ _ _ h.rf.K3,a]
theorem ZG.mv(h:ZG w0 L A cp main b3 b5 b6 b8 Al cl ls mode value Ar cr l w)(m v:Int):ZG w0 L A cp main b3 b5 b6 b8 Al cl ls m v Ar cr l ((w.setCell ⟨b8,0,none⟩ (.int .i64 m)).setCell ⟨b8,1,none⟩ (.int .i64 v)):=by
 have a:=h.fld (j:=0) (u:=.int .i64 m) (m:=m) (v:=value) (Ar':=Ar) (cr':=cr) (l':=l) rfl (h.rf.T9.else h.rf.K3 (by decide) (by decide) _ _);exact a.fld (j:=1) (u:=.int .i64 v) (m:=m) (v:=v) rfl (a.rf.T9.else a.rf.K3 (by decide) (by decide) _ _)
theorem ZS(h:ZG w0 L A cp main b3 b5 b6 b8 Al cl ls mode value Ar cr l w):(w.cell? ⟨b8,0,none⟩=some (.int .i64 mode)/\w.cell? ⟨b8,1,none⟩=some (.int .i64 value)/\w.cell? ⟨b8,2,none⟩=some (.slice Ar l.length cr))/\w.frozen? ⟨b8,0,none⟩=false/\w.frozen? ⟨b8,1,none⟩=false/\w.frozen? ⟨b8,2,none⟩=false:=
 ⟨⟨y5 h.rf.K3 0,y5 h.rf.K3 1,y5 h.rf.K3 2⟩,B4 h.rf.K3 0,B4 h.rf.K3 1,B4 h.rf.K3 2⟩
end
theorem ZG.zjG{w0 w:World}{L:List Cf}{A Al Ar:Option Addr}{cp main b3 b5 b6 b8 cl cr:Nat}{ls:List Int}{mode value:Int}{l:List Fm}(h:ZG w0 L A cp main b3 b5 b6 b8 Al cl ls mode value Ar cr l w):b5≠b6/\b6≠b5:=by
 have:b5≠b6:=λe=>by
  obtain⟨c,d,f,b⟩:=h.p6;have a:=h.p5;rw[e,b]at a;injection a with a;injection a with _ a;exact I2 a (by decide)
 exact⟨this,λe=>this e.symm⟩
theorem zcu:(Tryz.prog.info? 45).map (·.size)=some 3:=by kernel_rfl
theorem ZG.start{w:World}{L:List Cf}{A Al:Option Addr}{cp main cl:Nat}{ls:List Int}(hs:yE w Al cl ls):
 ZG w L A cp main w.heap.size (w.heap.size+1) (w.heap.size+2) (w.heap.size+3) Al cl ls 0 0 none 0 [] ((((w.alloc (.cells #[.slice A L.length cp,.int .i64 main] 26)).alloc (.cells #[.slice Al ls.length cl] 22)).alloc (.cells #[.int .i64 0,.int .i64 0,.slice none 0 0] 45)).alloc (.cells #[.int .i64 0,.int .i64 0,.slice none 0 0] 45)):=by
 generalize a:w.alloc (.cells #[.slice A L.length cp,.int .i64 main] 26)=w1;generalize b:w1.alloc (.cells #[.slice Al ls.length cl] 22)=w2;generalize c:w2.alloc (.cells #[.int .i64 0,.int .i64 0,.slice none 0 0] 45)=w3;have f:w1.heap.size=w.heap.size+1:=by rw[<-a];simp
 have g:w2.heap.size=w.heap.size+2:=by rw[<-b];simp[f]
 have k:w3.heap.size=w.heap.size+3:=by rw[<-c];simp[g]
 have i:Below w.heap.size w w1:=by rw[<-a];exact(y7 _ _).alloc (y6 _) _
 have e:Below w1.heap.size w1 w2:=by rw[<-b];exact(y7 _ _).alloc (y6 _) _
 have b3:Below w2.heap.size w2 w3:=by rw[<-c];exact(y7 _ _).alloc (y6 _) _
 have d:=(y7 w3.heap.size w3).alloc (y6 _) (.cells #[.int .i64 0,.int .i64 0,.slice none 0 0] 45);have m:w1.heap[w.heap.size]?=some (.cells #[.slice A L.length cp,.int .i64 main] 26 (0,0)):=by rw[<-a];exact y9 _ _
 have n:w2.heap[w.heap.size+1]?=some (.cells #[.slice Al ls.length cl] 22 (0,0)):=by rw[<-f,<-b];exact y9 _ _
 have o:w3.heap[w.heap.size+2]?=some (.cells #[.int .i64 0,.int .i64 0,.slice none 0 0] 45 (0,0)):=by rw[<-g,<-c];exact y9 _ _
 have j:=y9 w3 (.cells #[.int .i64 0,.int .i64 0,.slice none 0 0] 45);rw[k]at j
 exact⟨i.trans ((e.trans ((b3.trans (d.mono b3.size)).mono e.size)).mono i.size),y6 _,by omega,by omega,by omega,
  (d.block _ (by omega)).trans ((b3.block _ (by omega)).trans ((e.block _ (by omega)).trans m)),(d.block _ (by omega)).trans ((b3.block _ (by omega)).trans n),⟨_,_,_,(d.block _ (by omega)).trans o⟩,⟨(show _<=_ by simp only[bd];omega),j,Zc _ _ _ λ_ h=>h.elim⟩,hs⟩
theorem ZG.res{w0 w:World}{L:List Cf}{A Al Ar:Option Addr}{cp main b3 b5 b6 b8 cl cr:Nat}{ls:List Int}{mode value:Int}{l:List Fm}(h:ZG w0 L A cp main b3 b5 b6 b8 Al cl ls mode value Ar cr l w)(a b c:Value):
 (((w.setCell ⟨b6,0,none⟩ a).setCell ⟨b6,1,none⟩ b).setCell ⟨b6,2,none⟩ c).heap[b6]?=some (.cells #[a,b,c] 45 (0,0))/\Below w0.heap.size w0 (((w.setCell ⟨b6,0,none⟩ a).setCell ⟨b6,1,none⟩ b).setCell ⟨b6,2,none⟩ c)/\S8 (((w.setCell ⟨b6,0,none⟩ a).setCell ⟨b6,1,none⟩ b).setCell ⟨b6,2,none⟩ c) (bd w0.heap.size) 42 Ar cr l:=by
 obtain⟨i,j,k,d⟩:=h.p6;have e:=z5 w b6 0 _ _ a d;have f:=z5 _ b6 1 _ _ b e;have g:=z5 _ b6 2 _ _ c f;exact⟨g,M2 (M2 (M2 h.O7 h.n6 0 a) h.n6 1 b) h.n6 2 c,((h.rf.T9.else d (by decide) (by decide) 0 a).else e (by decide) (by decide) 1 b).else f (by decide) (by decide) 2 c⟩
theorem zbc{w0 w:World}{L:List Cf}{A Al Ar:Option Addr}{cp main b3 b5 b6 b8 cl cr:Nat}{ls:List Int}{mode value:Int}{l:List Fm}(h:ZG w0 L A cp main b3 b5 b6 b8 Al cl ls mode value Ar cr l w):(∃b c d,w.cell? ⟨b6,0,none⟩=some b/\w.cell? ⟨b6,1,none⟩=some c/\w.cell? ⟨b6,2,none⟩=some d)/\w.frozen? ⟨b6,0,none⟩=false/\w.frozen? ⟨b6,1,none⟩=false/\w.frozen? ⟨b6,2,none⟩=false:=by
 obtain⟨b,c,d,a⟩:=h.p6;exact⟨⟨b,c,d,y5 a 0,y5 a 1,y5 a 2⟩,B4 a 0,B4 a 1,B4 a 2⟩
theorem ZG.zce{w0 w w':World}{L:List Cf}{A Al Ar Ar':Option Addr}{cp main b3 b5 b6 b8 cl cr cr':Nat}{ls:List Int}{mode value:Int}{l d:List Fm}(h:ZG w0 L A cp main b3 b5 b6 b8 Al cl ls mode value Ar cr l w)(a:Below w0.heap.size w0 w')(kp: ∀(g:Nat)(c:Array Value)(t:Nat)(f:Nat×Nat),w.heap[g]?=some (.cells c t f)->t≠42->w'.heap[g]?=w.heap[g]?)(hf:S8 w' (bd w0.heap.size) 42 Ar' cr' d):
 ZG w0 L A cp main b3 b5 b6 b8 Al cl ls mode value Ar' cr' d (w'.setCell ⟨b8,2,none⟩ (.slice Ar' d.length cr'))/\w'.cell? ⟨b8,2,none⟩=some (.slice Ar l.length cr)/\w'.frozen? ⟨b8,2,none⟩=false:=by
 obtain⟨r,s,u,o⟩:=h.p6;have i:=(kp b8 _ _ _ h.rf.K3 (by decide)).trans h.rf.K3;have k:=(kp b3 _ _ _ h.p3 (by decide)).trans h.p3;have m:=(kp b5 _ _ _ h.p5 (by decide)).trans h.p5;have p:=(kp b6 _ _ _ o (by decide)).trans o;have v:=J2 w' b8 2 (.slice Ar' d.length cr');have q: ∀(b:Nat)(c:Array Value)(t:Nat)(j:Nat×Nat),w'.heap[b]?=some (.cells c t j)->t≠45->b≠b8:=λb c t j a x e=>by
  subst e;rw[i]at a;injection a with a;injection a with _ e;exact x e.symm
 have n: ∀(b:Nat)(c:Array Value)(t:Nat)(j:Nat×Nat),w'.heap[b]?=some (.cells c t j)->b≠b8->(w'.setCell ⟨b8,2,none⟩ (.slice Ar' d.length cr')).heap[b]?=w'.heap[b]?:=λb c t j a y=>v.block b (I7 a) λe=>y (F7 e);refine⟨⟨M2 a h.rf.lo 2 _,h.n3,h.n5,h.n6,h.ne,(n b3 _ _ _ k (q _ _ _ _ k (by decide))).trans k,(n b5 _ _ _ m (q _ _ _ _ m (by decide))).trans m,⟨r,s,u,(n b6 _ _ _ p h.ne).trans p⟩,⟨h.rf.lo,?_,hf.else i (by decide) (by decide) 2 _⟩,h.ls⟩,y5 i 2,B4 i 2⟩;rw[z5 w' b8 2 _ _ _ i];rfl
theorem zgJ(L:List Cf)(main:Nat)(hP:zk L main)(h4: ∀c∈L,c.J6.length<=4000)(A:Option Addr)(cp:Nat)(w:World)(hF:M3 w (.slice A L.length cp) (L.map Cf.pf)){v:Value}{xE:List (List Int)}(hv:yI w v xE)(hh:YM L xE){M:Mc}(hM:jJ L main M){Al:Option Addr}{cl:Nat}(hl:yE w Al cl (K4 M)):
 Calls prog 37 #[.agg #[.slice A L.length cp,.int .i64 main],v,.slice Al (K4 M).length cl] w λe w'=>Below w.heap.size w w'/\ ∃A' c' l',e=.returned (.tuple #[.agg #[.int .i64 M.mode,.int .i64 M.value,.slice A' l'.length c'],.bool true])/\S8 w' (bd w.heap.size) 42 A' c' l'/\l'.map Prod.fst=M.P0:=by
 have e4:=hM.yh hP;obtain⟨mode,value,t⟩:=M;simp only at e4|-
 obtain⟨rest,a1⟩: ∃r,t.flatMap frE=r:=⟨_,rfl⟩;have l4:K4 ⟨mode,value,t⟩=mode::value::(t.length:Int)::rest:=by rw[<-a1];rfl
 rw[l4]at hl|-
 have i:=zh (ZG.start (L:=L) (A:=A) (cp:=cp) (main:=main) hl);rw[show(mode::value::(t.length:Int)::rest).length=rest.length+3 from rfl]at i|-
 have HM:=zh hM;have HP:=zh hP;have H4:=zh h4;have HH:=zh hh;have h7:=zh a1;have r9:=zh e4.2;have HV:=zh hv;have HF:=zh hF;have t9:=e4.1;have b1: ¬((rest.length:Int)+3<3):=by omega
 clear hF hv hP h4 hM hh hl l4 a1 e4
 go_enter func37,ntmps37
 go_upto_region 2 with(fail)
 generalize World.alloc (World.alloc _ _) _=w1 at i|-
 obtain⟨b8,H⟩: ∃b,w.heap.size+3=b:=⟨_,rfl⟩;rw[H]at i;simp only[H];clear H;obtain⟨b6,h8⟩: ∃b,w.heap.size+2=b:=⟨_,rfl⟩;rw[h8]at i;simp only[h8];clear h8;obtain⟨b5,h9⟩: ∃b,w.heap.size+1=b:=⟨_,rfl⟩;rw[h9]at i;simp only[h9];clear h9;obtain⟨b3,e5⟩: ∃b,w.heap.size=b:=⟨_,rfl⟩;have u3:=zh e5;simp only[e5]at i;simp only[e5];clear e5;have p5:w1.cell? ⟨b5,0,none⟩=some (.slice Al (rest.length+3) cl):=y5 i.out.p5 0;have TC:=zh (Qb (r:=value::(t.length:Int)::rest) i.out.p5 i.out.O7 i.out.ls)
 go_upto_region 5 with(fail)
 clear p5 b1
 go_wp2_with fail
 refine TC.out.mono ?_;rintro e w2 ⟨rfl,A2,T,b2,b4,b7,-⟩;replace i:=zh (i.out.grow b7 b2 b4);replace TC:=zh (Qb (r:=(t.length:Int)::rest) i.out.p5 i.out.O7 i.out.ls);clear b2 b4 b7
 go_wp2_with fail
 refine TC.out.mono ?_;rintro e w3 ⟨rfl,A3,c3,b9,c0,c7,-⟩;replace i:=zh (i.out.grow c7 b9 c0);clear b9 c0 c7;obtain⟨⟨m0,m1,m2⟩,g0,g1,g2⟩:=ZS i.out;replace i:=zh (i.out.mv mode value);replace TC:=zh (Qb (r:=rest) i.out.p5 i.out.O7 i.out.ls)
 go_upto_region 6 with(fail)
 clear m0 m1 m2 g0 g1 g2;generalize World.setCell _ _ _=w4 at i TC|-
 go_wp2_with fail
 refine TC.out.mono ?_;rintro e w5 ⟨rfl,A5,c5,l6,l7,l8,l9⟩;replace i:=zh (i.out.grow l8 l6 l7);clear l6 l7 l8 TC;obtain⟨⟨m0,m1,m2⟩,g0,g1,g2⟩:=ZS i.out;have p5:=y5 i.out.p5 0;obtain⟨s3,bw,ff⟩:=(i.out.below (J5 _)).res (.int .i64 mode) (.int .i64 value) (.slice none 0 0);have e6:=zh s3;have e7:=zh bw;have e8:=zh ff;clear s3 bw ff
 rcases HM.out with⟨m4,fs,f,a0,hG⟩|⟨s0,a0⟩|⟨i0,m8,a0⟩
 case' inr.inl=>have hm:=s0
 case' inr.inr=>have hm:=i0
 case inr.inl|inr.inr=>
  simp only at hm a0;subst hm a0;have a6:=h7.out;simp only[List.flatMap_nil]at a6;subst a6
  try(simp only at m8;have u4:(value !=0)=true:=bne_iff_ne.2 m8)
  obtain⟨⟨u0,u1,u2,z0,z1,z2⟩,y0,y1,y2⟩:=zbc i.out;obtain⟨i2,i3⟩:=i.out.zjG
  go_upto_region 8 with(fail)
  go_region_law(fail)
  all_goals
   clear p5 z0 z1 z2 y0 y1 y2 i2 i3
   go_wp2_with fail
   refine F1 (zV rfl _ _ b6 _ _ _ _ rfl e6.out underlying45 rfl zcu) rfl ?_;exact⟨e7.out,none,0,[],rfl,e8.out,rfl⟩
 simp only at m4 a0;subst m4;have c8:=zh a0;have HG:=zh hG.jd;have e9:=zh l9;have u5:1<=t.length:=by rw[a0];simp
 have q1: ¬((t.length:Int)<1):=by omega
 have q2: ¬((32:Int)<(t.length:Int)):=by omega
 have p3:=y5 i.out.p3 1;clear a0 hG HM p5 e6 e7 e8 m1 m2 g0 g1 g2 l9
 go_upto_region 12 with(fail)
 clear q1 q2 p3 m0
 go_wp2_with fail
 go_loopw[11,12] (λnx kv wr=> ∃(j wn:Nat)(Al:Option Addr)(cl:Nat)(rj:List Int)(Ar:Option Addr)(cr:Nat)(l':List Fm),j<=t.length/\nx=.int .i64 wn/\kv=.int .i64 ((j+1:Nat):Int)/\Hid (∀g,t[j]?=some g->g.fn=wn)/\Hid ((t.drop j).flatMap frE=rj)/\Hid (ZG w L A cp main b3 b5 b6 b8 Al cl rj 0 value Ar cr l' wr)/\Hid (l'.map Prod.fst=t.take j)/\Hid (∃g o,Al=some ⟨g,o,none⟩)) (λ_ kv _=>t.length+1-(intOf kv).toNat)
 case atStart=>exact⟨0,main,A5,c5,rest,none,0,[],E2 _,rfl,rfl,zh (by rw[c8.out];exact HG.out.1),h7,i,zh rfl,e9⟩
 case round=>
  clear i e9 h7;obtain⟨j,wn,Al,cl,rj,Ar,cr,l',hj,rfl,rfl,f3,i4,i,i5,s1⟩:=hrel
  by_cases f4:j<t.length
  ·obtain⟨g,G⟩: ∃g,t[j]?=some g:=⟨_,y8 f4⟩
   obtain⟨cd,o,f6,m9⟩:=HG.out.2 j g (by rw[<-c8.out];exact G);obtain rfl:=f3.out g G;have s2:=r9.out g (B7 G);obtain⟨U,i6⟩: ∃r,(t.drop (j+1)).flatMap frE=r:=⟨_,rfl⟩;have s4:rj=(g.fn:Int)::(g.pc:Int)::(g.vars++g.I8++U):=by
    rw[<-i4.out,<-i6,F9 f4];have e:t[j]=g:=by rw[y8 f4]at G;injection G
    rw[e];simp[frE]
   have s5:=zh i6;have Q:=zh m9;have s6:=zh G;clear i6 G f3 i4 m9;subst s4;obtain⟨nr,c9⟩: ∃z,(g.vars++g.I8++U).length=z:=⟨_,rfl⟩;have i7:Hid (nr=g.vars.length+g.I8.length+U.length):=zh (by rw[<-c9];simp;omega);have d0:=zh c9;have q9:((j+1:Nat):Int)<=(t.length:Int):=by omega
   have TC:=zh (Qb (r:=(g.pc:Int)::(g.vars++g.I8++U)) i.out.p5 i.out.O7 i.out.ls);clear c9 s1
   go_wp2_with fail
   refine TC.out.mono ?_;rintro e w2 ⟨rfl,A2,T,b2,b4,b7,-⟩;replace i:=zh (i.out.grow b7 b2 b4);replace TC:=zh (Qb (r:=g.vars++g.I8++U) i.out.p5 i.out.O7 i.out.ls);clear b2 b4 b7
   go_wp2_with fail
   refine TC.out.mono ?_;rintro e w3 ⟨rfl,A3,c3,b9,c0,c7,s7⟩;replace i:=zh (i.out.grow c7 b9 c0);obtain⟨K,N,rfl⟩:=s7;clear b9 c0 c7 TC q9;have ba:=(y7 w3.heap.size w3).alloc (y6 _) (.cells #[.int .i64 g.fn,.int .i64 g.pc,.slice none 0 0,.slice none 0 0] 42);have x:=zh (y9 w3 (.cells #[.int .i64 g.fn,.int .i64 g.pc,.slice none 0 0,.slice none 0 0] 42));have s8:Hid (w.heap.size<=w3.heap.size):=zh i.out.O7.size;have n9:Hid (w3.heap.size≠b8/\w3.heap.size≠b5/\w3.heap.size≠b3):=zh (by have E:=I7 i.out.rf.K3;have V:=I7 i.out.p5;have h3:=I7 i.out.p3;omega);have s9:=i;have C:=zh ba;replace i:=zh (i.out.below ba)
   go_upto_region 16 with(fail)
   clear ba;generalize World.alloc _ _=w4 at x i C|-
   generalize o3:w3.heap.size=B at x s8 n9 C|-
   have d1:=zh o3;clear o3;obtain⟨gH,cH,gh,ch,rfl,t0,t1,u0,u1⟩:=zfT HV.out HH.out Q.out.fn Q.out.rch Q.out.op;replace u0:=(i.out.O7.cell (p:=⟨gH,g.fn,none⟩) t0).trans u0;replace u1:=(i.out.O7.cell (p:=⟨gh,g.pc,none⟩) t1).trans u1;have u6:g.fn<L.length:=(List.getElem?_eq_some_iff.1 Q.out.fn).1;have u7:g.pc<cd.J6.length:=(List.getElem?_eq_some_iff.1 Q.out.op).1;have k0:=y5 x.out 0;have k1:=y5 x.out 1;have q3:(0:Int)<=(g.pc:Int):=by omega
   have o4:(g.pc:Int)<(cd.J6.length:Int):=by omega
   have q4: ¬((g.pc:Int)<0):=by omega
   have q5: ¬((cd.J6.length:Int)<=(g.pc:Int)):=by omega
   have q6:(0:Int)<=(g.fn:Int):=by omega
   have q7:(g.fn:Int)<(L.length:Int):=by omega
   have q8:((g.fn:Int) !=(g.fn:Int))=false:=by simp
   have r5: ¬((f6:Int)<0):=by omega
   go_quiet (fail)
   have i8:=J9 (y7 w4.heap.size w4) nq;replace i:=zh (i.out.below i8);have i9:=C.out.size;rw[d1.out]at i9;replace C:=zh (C.out.trans (i8.mono i9));replace x:Hid ((w4.drewN nq).heap[B]?=_):=x;have o5: ∀a,(w4.drewN nq).cell? a=w4.cell? a:=λ_=>rfl;rw[<-o5]at u0 u1 k0 k1;clear i8 o5 i9;generalize World.drewN _ _=w5 at x i C u0 u1 k0 k1|-
   go_upto_region 18 with(fail)
   go_quiet (fail)
   have j0:=J9 (y7 w5.heap.size w5) nq;replace i:=zh (i.out.below j0);have j1:=C.out.size;rw[d1.out]at j1;replace C:=zh (C.out.trans (j0.mono j1));replace x:Hid ((w5.drewN nq).heap[B]?=_):=x;clear j0 j1 u0 u1 k0 k1 q4 q5 q8;generalize World.drewN _ _=w6 at x i C|-
   have p3:=y5 i.out.p3 0;obtain⟨gf,u8,vo,hv,-,j2,f0,f1,f2,g3⟩:=(HF.out.J0 (.of i.out.O7)).at (zi Q.out.fn);injection hv with a2 j3 j4
   clear j3;subst a2 j4;obtain⟨go,co,rfl,-,f7,o6⟩:=g3.at;obtain⟨o0,P⟩:=o6 g.pc o (by show(cd.J6.map Prod.fst)[g.pc]?=_;rw[G3,Q.out.op];rfl);simp only[Cf.pf,D9]at f0 f1 f2 o0 P;rw[<-Q.out.vars]at f1;have g4:=zh (And.intro o0 P);have o7:=zh (And.intro f2 (And.intro j2 f7));clear o0 P f2 g3 o6 f0
   go_upto_if 123 with(fail)
   clear f1 p3
   go_cut[11,14] (λnv hv W=> ∃wn:Nat,nv=.int .i64 wn/\hv=.int .i64 g.I8.length/\Hid (∀u,t[j+1]?=some u->u.fn=wn)/\Hid (Below w6.heap.size w6 W))
   case first=>
    by_cases g5:j+1<t.length
    ·obtain⟨u,cg,hu,rfl,j5,t2⟩:=Q.out.low (by rw[<-c8.out];exact g5)
     rw[<-c8.out]at hu;have HU:=zh hu;have hq:((j+1:Nat):Int)<(t.length:Int):=by omega
     obtain⟨u9,v0,v1,hv,-,g6,f8,-,-,-⟩:=(HF.out.J0 (.of i.out.O7)).at (zi j5);injection hv with a2 j3 j4
     clear j3;injection a2 with a2;injection a2 with a2
     subst a2 j4;simp only[Cf.pf]at f8;obtain⟨o0,P⟩:=g4.out;obtain⟨f2,-,f7⟩:=o7.out;simp only at o0 P;have p3:=y5 i.out.p3 0;have k1:=y5 x.out 1;have l1:=I7 i.out.p3;have l2:=I7 x.out;have r3:(0:Int)<=(u.fn:Int):=by omega
     have r4:(u.fn:Int)<(L.length:Int):=by have:=(List.getElem?_eq_some_iff.1 j5).1;omega
     have r6:IntKind.i64.wrap ((f6:Int)-(cg.params:Int))=(g.I8.length:Int):=by rw[show(f6:Int)-cg.params=g.I8.length by omega];exact IntWalk.i64_in _ (by omega)
     have r7:wrap64 ((f6:Int)-(cg.params:Int))=(g.I8.length:Int):=(IntWalk.i64_left _).symm.trans r6;have hA: ∀b k O,b<w6.heap.size->(w6.alloc O).cell? ⟨b,k,none⟩=w6.cell? ⟨b,k,none⟩:=λb k O y=>((y7 w6.heap.size w6).alloc (y6 _) O).cell (p:=⟨b,k,none⟩) y;clear hu t2 j5
     go_upto_region 21 with(fail)
     refine L4 (by kernel_rfl) [(0,124,.pointer (some ⟨b3,0,none⟩)),(1,125,.slice (some ⟨gf,0,none⟩) L.length cp),(2,126,.int .i64 g.fn),(3,127,.pointer (some ⟨gf,g.fn*3,none⟩)),(4,128,.pointer (some ⟨gf,g.fn*3+2,none⟩)),(5,129,.slice (some ⟨go,0,none⟩) cd.J6.length co),(6,130,.pointer (some ⟨B,1,none⟩)),(7,131,.int .i64 g.pc),(8,132,.pointer (some ⟨go,g.pc*2,none⟩)),(9,133,.agg #[.int .i64 17,.int .i64 u.fn]),(10,16,.pointer (some ⟨w6.heap.size,0,none⟩))] [] _ _ rfl rfl [10,11] (λz=>match z with|0=>w6.drew|1=>w6.drew.alloc (.cells #[.int .i64 0,.int .i64 0] 74)|_=>w6.drew.alloc (.cells #[.int .i64 17,.int .i64 u.fn] 74)) [(0,0),(0,1),(1,0),(1,1),(2,0),(2,1),(3,0),(3,1),(4,0),(4,1),(5,0),(5,1),(6,0),(6,1),(7,0),(7,1),(8,0),(8,1),(9,0),(9,1),(10,0),(11,1)] (by kernel_rfl) (by kernel_rfl) (by rfl) rfl ?_ ?_
     ·generalize hF:J8 _ _=F
      simp[J8]at hF;subst hF
      repeat' (first|refine List.forall_mem_cons.2 ⟨?_,?_⟩|exact List.forall_mem_nil _)
      all_goals
       intro o' R;injection R with R
       subst R
      all_goals simp[X9,execOp,go_sem,hA,l1,l2,j2,f7,p3,f2,k1,o0,P,q3,o4,q6,q7]
     simp only[J8,B6,C0,List.append_nil,List.foldl];go_simp;have ba:=((y7 w6.heap.size w6).alloc (y6 _) (.cells #[.int .i64 17,.int .i64 u.fn] 74)).drew;have a5:Hid ((w6.alloc (.cells #[.int .i64 17,.int .i64 u.fn] 74)).drew.heap[w6.heap.size]?=_):=zh (y9 w6 (.cells #[.int .i64 17,.int .i64 u.fn] 74));replace p3:=(ba.cell (p:=⟨b3,0,none⟩) l1).trans p3;replace f8:=(ba.cell (p:=⟨gf,u.fn*3,none⟩) g6).trans f8;have o8:=zh ba;clear ba hA f2 k1 o0 P l1 l2 g6;generalize(World.alloc _ _).drew=m at a5 o8 p3 f8|-
     generalize w6.heap.size=v2 at a5|-
     have x0:=y5 a5.out 0;have x1:=y5 a5.out 1
     go_wp2_with fail
     go_meet
     case rel=>exact⟨u.fn,rfl,rfl,zh (λu' t3=>by have:=HU.out.symm.trans t3;injection this with this;rw[this]),o8⟩
    ·have hq: ¬(((j+1:Nat):Int)<(t.length:Int)):=by omega
     have t4:=Q.out.yd (by rw[<-c8.out];omega);subst t4
     go_wp2_with fail
     go_meet
     case rel=>exact⟨_,rfl,rfl,zh (λu hu=>I2 (List.getElem?_eq_some_iff.1 hu).1 g5),zh (y7 _ _)⟩
   case rest=>
    rename World=>m
    obtain⟨wn,rfl,rfl,f3,f9⟩:=hcut;replace i:=zh (i.out.below f9.out);have j6:=C.out.size;rw[d1.out]at j6;replace C:=zh (C.out.trans (f9.out.mono j6));clear j6;replace x:=zh ((f9.out.block B (I7 x.out)).trans x.out);clear f9 g4 o7 j2 f7 r5 q3 o4 q6 q7;have o9:=i7.out;have d2:nr<=c3:=by have:=i.out.ls.2;rw[d0.out]at this;exact this
    have p0:g.vars.length+g.I8.length<=nr:=by omega
    have p5:m.cell? ⟨b5,0,none⟩=some (.slice (some ⟨K,N,none⟩) nr c3):=by rw[<-d0.out];exact y5 i.out.p5 0
    have e1:IntKind.i64.wrap ((g.vars.length:Int)+(g.I8.length:Int))=(g.vars.length:Int)+(g.I8.length:Int):=IntWalk.i64_in _ (by omega);have e2:wrap64 ((g.vars.length:Int)+(g.I8.length:Int))=(g.vars.length:Int)+(g.I8.length:Int):=(IntWalk.i64_left _).symm.trans e1;have i1: ¬((nr:Int)<(g.vars.length:Int)+(g.I8.length:Int)):=by omega
    have S:=zh (And.intro d2 p0);clear o9 d2 p0
    go_upto_region 28 with(fail)
    have a7:=zh (And.intro e1 e2);have p1:Hid (IntKind.i64.wrap (g.vars.length:Int)=(g.vars.length:Int)):=zh (IntWalk.i64_in _ ⟨Int.le_trans (by decide) (Int.natCast_nonneg _),Int.le_trans (Int.ofNat_le.2 s2.1) (by decide)⟩);clear i1 e1 e2
    go_cut[] (λW=> ∃A2 T q s X,Hid (Below m.heap.size m X)/\W=(X.setCell ⟨B,2,none⟩ (.slice A2 g.vars.length T)).setCell ⟨B,3,none⟩ (.slice q g.I8.length s)/\Hid (X.ownsRow m.heap.size 3 1 (.slice A2 g.vars.length T) g.vars.length (iC g.vars))/\Hid (X.ownsRow m.heap.size 3 1 (.slice q g.I8.length s) g.I8.length (iC g.I8))/\Hid (∀b,(Value.slice A2 g.vars.length T).ownBlock=some b->(Value.slice q g.I8.length s).ownBlock≠some b))
    case first=>
     have d3: ∀(d4 xs g7:List Int)(W:World)(A':Option Addr)(c':Nat),g.vars++g.I8++U=d4++xs++g7->xs.length<=600->Below m.heap.size m W->(A'=some ⟨K,N+d4.length,none⟩\/A'=some ⟨K,N,none⟩/\xs=[])->Calls prog 44 #[.slice A' xs.length c'] W λe w'=>Below W.heap.size W w'/\ ∃A' c',e=.returned (.slice A' xs.length c')/\w'.ownsRow W.heap.size 3 1 (.slice A' xs.length c') xs.length (iC xs):=λd4 xs g7 W A' c' e Z hW hA=>by
      rcases hA with rfl|⟨rfl,h0⟩
      ·exact jo (((QI i.out.ls.1 (pre:=d4) (mid:=xs) e c').low i.out.O7).low hW) (.inr ⟨_,_,rfl⟩) (by omega)
      ·rw[h0];exact jo (F:=λ_=>True) (.inl ⟨_,_,rfl,rfl⟩) (.inr ⟨_,_,rfl⟩) (by simp)
     have p2:Hid (∀W,Below m.heap.size m W->Calls prog 44 #[.slice (some ⟨K,N,none⟩) g.vars.length c3] W λe w'=>Below W.heap.size W w'/\ ∃A' c',e=.returned (.slice A' g.vars.length c')/\w'.ownsRow W.heap.size 3 1 (.slice A' g.vars.length c') g.vars.length (iC g.vars)):=zh (λW hW=>by
      have E:=d3 [] g.vars (g.I8++U) W (some ⟨K,N,none⟩) c3 (by simp) (by omega) hW (.inl (by simp));exact E)
     have n0:(0:Int)<=(g.vars.length:Int):=by omega
     have n1:(g.vars.length:Int)<=(nr:Int):=by have:=i7.out;omega
     have n2:(g.vars.length:Int)<=(c3:Int):=Int.ofNat_le.2 (C4 (Nat.le_add_right _ _) (C4 S.out.2 S.out.1));have n3:(g.vars.length:Int)+(g.I8.length:Int)<=(c3:Int):=by have:=Int.ofNat_le.2 (C4 S.out.2 S.out.1);rw[Int.natCast_add]at this;exact this
     have n4:(g.vars.length:Int)<=(g.vars.length:Int)+(g.I8.length:Int):=by omega
     have n5: ¬((c3:Int)<(g.vars.length:Int)):=Int.not_lt.2 n2;have n6: ¬((c3:Int)<(g.vars.length:Int)+(g.I8.length:Int)):=Int.not_lt.2 n3;have n7: ¬((g.vars.length:Int)+(g.I8.length:Int)<(g.vars.length:Int)):=Int.not_lt.2 n4;have n8:(0:Int)<=(g.vars.length:Int)+(g.I8.length:Int):=by omega
     have l5:=I7 i.out.p5;have m7:((g.vars.length:Int)+(g.I8.length:Int)).toNat=g.vars.length+g.I8.length:=by omega
     have m2:g.vars.length<=c3:=Int.ofNat_le.1 n2;have m3:g.vars.length+g.I8.length<=c3:=C4 S.out.2 S.out.1;have m5: ¬(c3<g.vars.length):=Nat.not_lt.2 m2;have m6: ¬(c3<g.vars.length+g.I8.length):=Nat.not_lt.2 m3
     by_cases d5:c3=g.vars.length
     ·have j7:g.I8=[]:=List.length_eq_zero_iff.1 (Nat.le_zero.1 (Nat.le_of_add_le_add_left (a:=g.vars.length) (b:=g.I8.length) (c:=0) (C4 S.out.2 (C4 S.out.1 (Nat.le_of_eq d5)))))
      have j8:Hid (∀W,Below m.heap.size m W->Calls prog 44 #[.slice (some ⟨K,N,none⟩) g.I8.length (c3-g.vars.length)] W λe w'=>Below W.heap.size W w'/\ ∃A' c',e=.returned (.slice A' g.I8.length c')/\w'.ownsRow W.heap.size 3 1 (.slice A' g.I8.length c') g.I8.length (iC g.I8)):=zh (λW hW=>by
       have E:=d3 g.vars g.I8 U W (some ⟨K,N,none⟩) (c3-g.vars.length) rfl (by omega) hW (.inr ⟨rfl,j7⟩);exact E)
      have j9:=zh d5;have t5:Hid (g.I8.length=0):=zh (by rw[j7];rfl);clear j7 d5;clear d3;refine W4 (D:=Value×Value×World) (by kernel_rfl) [(0,155),(1,156),(2,157),(3,158),(4,159),(5,160),(6,161),(7,162),(8,163),(9,164),(10,165),(11,166),(13,167)] [3,10,12,14] [[],[3],[3,10],[3,10,12],[3,10,12,14]] (λ_ d=>[(0,155,.slice (some ⟨K,N,none⟩) nr c3),(1,156,.int .i64 g.vars.length),(2,157,.slice (some ⟨K,N,none⟩) g.vars.length c3),(3,158,d.1),(4,159,.slice (some ⟨K,N,none⟩) nr c3),(5,160,.int .i64 g.vars.length),(6,161,.int .i64 g.vars.length),(7,162,.int .i64 g.I8.length),(8,163,.int .i64 ((g.vars.length:Int)+(g.I8.length:Int))),(9,164,.slice (some ⟨K,N,none⟩) g.I8.length (c3-g.vars.length)),(10,165,d.2.1),(11,166,.pointer (some ⟨B,2,none⟩)),(13,167,.pointer (some ⟨B,3,none⟩))]) (λ_ d=>d.2.2) (λj' d=>match j' with|0=>Below m.heap.size m d.2.2|1=>Below m.heap.size m d.2.2/\(∃A c,d.1=.slice A g.vars.length c/\d.2.2.ownsRow m.heap.size 3 1 (.slice A g.vars.length c) g.vars.length (iC g.vars))|2=>Below m.heap.size m d.2.2/\ ∃A c q s,d.1=.slice A g.vars.length c/\d.2.1=.slice q g.I8.length s/\d.2.2.ownsRow m.heap.size 3 1 (.slice A g.vars.length c) g.vars.length (iC g.vars)/\d.2.2.ownsRow m.heap.size 3 1 (.slice q g.I8.length s) g.I8.length (iC g.I8)/\ ∀b,(Value.slice A g.vars.length c).ownBlock=some b->(Value.slice q g.I8.length s).ownBlock≠some b|3=> ∃X,d.2.2=X.setCell ⟨B,2,none⟩ d.1/\Below m.heap.size m X/\ ∃A c q s,d.1=.slice A g.vars.length c/\d.2.1=.slice q g.I8.length s/\X.ownsRow m.heap.size 3 1 (.slice A g.vars.length c) g.vars.length (iC g.vars)/\X.ownsRow m.heap.size 3 1 (.slice q g.I8.length s) g.I8.length (iC g.I8)/\ ∀b,(Value.slice A g.vars.length c).ownBlock=some b->(Value.slice q g.I8.length s).ownBlock≠some b|_=> ∃X,d.2.2=(X.setCell ⟨B,2,none⟩ d.1).setCell ⟨B,3,none⟩ d.2.1/\Below m.heap.size m X/\ ∃A c q s,d.1=.slice A g.vars.length c/\d.2.1=.slice q g.I8.length s/\X.ownsRow m.heap.size 3 1 (.slice A g.vars.length c) g.vars.length (iC g.vars)/\X.ownsRow m.heap.size 3 1 (.slice q g.I8.length s) g.I8.length (iC g.I8)/\ ∀b,(Value.slice A g.vars.length c).ownBlock=some b->(Value.slice q g.I8.length s).ownBlock≠some b) [(0,0),(1,0),(2,0),(3,0),(4,0),(4,1),(5,0),(5,1),(6,0),(6,1),(7,0),(7,1),(8,0),(8,1),(9,0),(9,1),(10,1),(11,1),(11,2),(12,2),(13,3),(14,3)] (by kernel_rfl) (by kernel_rfl) (λ_ _=>rfl) (by rfl) (undef,undef,m.drew) rfl (J5 m) rfl ?_ ?_
      ·repeat' (first|refine List.forall_mem_cons.2 ⟨?_,?_⟩|exact List.forall_mem_nil _)
       all_goals
        intro o' R;injection R with R
        subst R;rintro⟨c1,T,W⟩ G
       rotate_left 3
       ·have y:Below m.heap.size m W:=G
        refine .call 44 #[.slice (some ⟨K,N,none⟩) g.vars.length c3] (by simp[J8,execOp,go_sem]) ((p2.out W y).mono ?_);rintro e w8 ⟨H,A',c',rfl,R⟩;exact⟨_,1,(.slice A' g.vars.length c',T,w8),rfl,.of (by decide) ⟨y.trans (H.mono y.size),A',c',rfl,R.mono y.size⟩ rfl rfl,rfl,rfl⟩
       rotate_left 12
       ·obtain⟨y,I,J,E,a3⟩:=G
        simp only at y E a3;subst E;refine .call 44 #[.slice (some ⟨K,N,none⟩) g.I8.length (c3-g.vars.length)] (by simp[J8,execOp,go_sem]) ((j8.out W y).mono ?_);rintro e w8 ⟨H,A',c',rfl,R⟩;exact⟨_,2,(.slice I g.vars.length J,.slice A' g.I8.length c',w8),rfl,.of (by decide) ⟨y.trans (H.mono y.size),I,J,A',c',rfl,rfl,K6 a3 H,R.mono y.size,λb e1 e2=>by have E:=(a3.lt b e1).2;have V:=(R.lt b e2).1;omega⟩ rfl rfl,rfl,rfl⟩
       rotate_left 1
       ·exact .xk rfl (by simp[J8,X9,execOp,go_sem])
       ·obtain⟨y,I,J,q,s,E,V,P,o2,ne⟩:=G
        simp only at y E V P o2;subst E V;have Z:=(y.block B (I7 x.out)).trans x.out;have x2:=y5 Z 2;have z2:=B4 Z 2;exact .qU 3 (.slice I g.vars.length J,.slice q g.I8.length s,W.setCell ⟨B,2,none⟩ (.slice I g.vars.length J)) (.of (by decide) ⟨W,rfl,y,I,J,q,s,rfl,rfl,P,o2,ne⟩ rfl rfl) (by simp[J8,X9,execOp,go_sem,x2,z2])
       ·exact .xk rfl (by simp[J8,X9,execOp,go_sem])
       ·obtain⟨X,hX,y,I,J,q,s,E,V,P,o2,ne⟩:=G
        simp only at hX E V;subst E V hX;have Z:=(y.block B (I7 x.out)).trans x.out;have x3:=y5 Z 3;have z3:=B4 Z 3;exact .qU 4 (.slice I g.vars.length J,.slice q g.I8.length s,(X.setCell ⟨B,2,none⟩ (.slice I g.vars.length J)).setCell ⟨B,3,none⟩ (.slice q g.I8.length s)) (.of (by decide) ⟨X,rfl,y,I,J,q,s,rfl,rfl,P,o2,ne⟩ rfl rfl) (by simp[J8,X9,execOp,go_sem,x3,z3])
       all_goals
        have y:Below m.heap.size m W:=by first|exact G|exact G.1
        have p6:=(y.cell (p:=⟨b5,0,none⟩) l5).trans p5;exact .xk rfl (by simp[J8,X9,execOp,go_sem,p6,a7.out.1,a7.out.2,n0,n1,n2,n3,n4,n5,n6,n7,n8,m2,m3,m5,m6,m7,j9.out,p1.out,t5.out])
      ·rintro jj ⟨c1,T,W⟩ G hd
       have hj:=hd 14 (by decide) (by decide)
       match jj,G,hj with
       |0,_,h|1,_,h|2,_,h|3,_,h=>cases h
       |4,G,_=>
        obtain⟨X,hX,y,I,J,q,s,E,V,P,o2,ne⟩:=G;simp only at hX E V;subst E V hX;have HB:=zh y;have a8:=zh P;have a9:=zh o2;have d6:=zh ne;clear hd y P o2 ne;simp only[J8,B6,C0,List.append_nil,List.foldl];go_simp
        go_wp2_with fail
        go_meet
        case rel=>exact⟨I,J,q,s,X,HB,rfl,a8,a9,d6⟩
       |n+5,_,h=>cases h
     ·have j8:Hid (∀W,Below m.heap.size m W->Calls prog 44 #[.slice (some ⟨K,N+g.vars.length,none⟩) g.I8.length (c3-g.vars.length)] W λe w'=>Below W.heap.size W w'/\ ∃A' c',e=.returned (.slice A' g.I8.length c')/\w'.ownsRow W.heap.size 3 1 (.slice A' g.I8.length c') g.I8.length (iC g.I8)):=zh (λW hW=>by
       have E:=d3 g.vars g.I8 U W (some ⟨K,N+g.vars.length,none⟩) (c3-g.vars.length) rfl (by omega) hW (.inl rfl);exact E)
      have j9:=zh d5;clear d5;clear d3;refine W4 (D:=Value×Value×World) (by kernel_rfl) [(0,155),(1,156),(2,157),(3,158),(4,159),(5,160),(6,161),(7,162),(8,163),(9,164),(10,165),(11,166),(13,167)] [3,10,12,14] [[],[3],[3,10],[3,10,12],[3,10,12,14]] (λ_ d=>[(0,155,.slice (some ⟨K,N,none⟩) nr c3),(1,156,.int .i64 g.vars.length),(2,157,.slice (some ⟨K,N,none⟩) g.vars.length c3),(3,158,d.1),(4,159,.slice (some ⟨K,N,none⟩) nr c3),(5,160,.int .i64 g.vars.length),(6,161,.int .i64 g.vars.length),(7,162,.int .i64 g.I8.length),(8,163,.int .i64 ((g.vars.length:Int)+(g.I8.length:Int))),(9,164,.slice (some ⟨K,N+g.vars.length,none⟩) g.I8.length (c3-g.vars.length)),(10,165,d.2.1),(11,166,.pointer (some ⟨B,2,none⟩)),(13,167,.pointer (some ⟨B,3,none⟩))]) (λ_ d=>d.2.2) (λj' d=>match j' with|0=>Below m.heap.size m d.2.2|1=>Below m.heap.size m d.2.2/\(∃A c,d.1=.slice A g.vars.length c/\d.2.2.ownsRow m.heap.size 3 1 (.slice A g.vars.length c) g.vars.length (iC g.vars))|2=>Below m.heap.size m d.2.2/\ ∃A c q s,d.1=.slice A g.vars.length c/\d.2.1=.slice q g.I8.length s/\d.2.2.ownsRow m.heap.size 3 1 (.slice A g.vars.length c) g.vars.length (iC g.vars)/\d.2.2.ownsRow m.heap.size 3 1 (.slice q g.I8.length s) g.I8.length (iC g.I8)/\ ∀b,(Value.slice A g.vars.length c).ownBlock=some b->(Value.slice q g.I8.length s).ownBlock≠some b|3=> ∃X,d.2.2=X.setCell ⟨B,2,none⟩ d.1/\Below m.heap.size m X/\ ∃A c q s,d.1=.slice A g.vars.length c/\d.2.1=.slice q g.I8.length s/\X.ownsRow m.heap.size 3 1 (.slice A g.vars.length c) g.vars.length (iC g.vars)/\X.ownsRow m.heap.size 3 1 (.slice q g.I8.length s) g.I8.length (iC g.I8)/\ ∀b,(Value.slice A g.vars.length c).ownBlock=some b->(Value.slice q g.I8.length s).ownBlock≠some b|_=> ∃X,d.2.2=(X.setCell ⟨B,2,none⟩ d.1).setCell ⟨B,3,none⟩ d.2.1/\Below m.heap.size m X/\ ∃A c q s,d.1=.slice A g.vars.length c/\d.2.1=.slice q g.I8.length s/\X.ownsRow m.heap.size 3 1 (.slice A g.vars.length c) g.vars.length (iC g.vars)/\X.ownsRow m.heap.size 3 1 (.slice q g.I8.length s) g.I8.length (iC g.I8)/\ ∀b,(Value.slice A g.vars.length c).ownBlock=some b->(Value.slice q g.I8.length s).ownBlock≠some b) [(0,0),(1,0),(2,0),(3,0),(4,0),(4,1),(5,0),(5,1),(6,0),(6,1),(7,0),(7,1),(8,0),(8,1),(9,0),(9,1),(10,1),(11,1),(11,2),(12,2),(13,3),(14,3)] (by kernel_rfl) (by kernel_rfl) (λ_ _=>rfl) (by rfl) (undef,undef,m.drew) rfl (J5 m) rfl ?_ ?_
      ·repeat' (first|refine List.forall_mem_cons.2 ⟨?_,?_⟩|exact List.forall_mem_nil _)
       all_goals
        intro o' R;injection R with R
        subst R;rintro⟨c1,T,W⟩ G
       rotate_left 3
       ·have y:Below m.heap.size m W:=G
        refine .call 44 #[.slice (some ⟨K,N,none⟩) g.vars.length c3] (by simp[J8,execOp,go_sem]) ((p2.out W y).mono ?_);rintro e w8 ⟨H,A',c',rfl,R⟩;exact⟨_,1,(.slice A' g.vars.length c',T,w8),rfl,.of (by decide) ⟨y.trans (H.mono y.size),A',c',rfl,R.mono y.size⟩ rfl rfl,rfl,rfl⟩
       rotate_left 12
       ·obtain⟨y,I,J,E,a3⟩:=G
        simp only at y E a3;subst E;refine .call 44 #[.slice (some ⟨K,N+g.vars.length,none⟩) g.I8.length (c3-g.vars.length)] (by simp[J8,execOp,go_sem]) ((j8.out W y).mono ?_);rintro e w8 ⟨H,A',c',rfl,R⟩;exact⟨_,2,(.slice I g.vars.length J,.slice A' g.I8.length c',w8),rfl,.of (by decide) ⟨y.trans (H.mono y.size),I,J,A',c',rfl,rfl,K6 a3 H,R.mono y.size,λb e1 e2=>by have E:=(a3.lt b e1).2;have V:=(R.lt b e2).1;omega⟩ rfl rfl,rfl,rfl⟩
       rotate_left 1
       ·exact .xk rfl (by simp[J8,X9,execOp,go_sem])
       ·obtain⟨y,I,J,q,s,E,V,P,o2,ne⟩:=G
        simp only at y E V P o2;subst E V;have Z:=(y.block B (I7 x.out)).trans x.out;have x2:=y5 Z 2;have z2:=B4 Z 2;exact .qU 3 (.slice I g.vars.length J,.slice q g.I8.length s,W.setCell ⟨B,2,none⟩ (.slice I g.vars.length J)) (.of (by decide) ⟨W,rfl,y,I,J,q,s,rfl,rfl,P,o2,ne⟩ rfl rfl) (by simp[J8,X9,execOp,go_sem,x2,z2])
       ·exact .xk rfl (by simp[J8,X9,execOp,go_sem])
       ·obtain⟨X,hX,y,I,J,q,s,E,V,P,o2,ne⟩:=G
        simp only at hX E V;subst E V hX;have Z:=(y.block B (I7 x.out)).trans x.out;have x3:=y5 Z 3;have z3:=B4 Z 3;exact .qU 4 (.slice I g.vars.length J,.slice q g.I8.length s,(X.setCell ⟨B,2,none⟩ (.slice I g.vars.length J)).setCell ⟨B,3,none⟩ (.slice q g.I8.length s)) (.of (by decide) ⟨X,rfl,y,I,J,q,s,rfl,rfl,P,o2,ne⟩ rfl rfl) (by simp[J8,X9,execOp,go_sem,x3,z3])
       all_goals
        have y:Below m.heap.size m W:=by first|exact G|exact G.1
        have p6:=(y.cell (p:=⟨b5,0,none⟩) l5).trans p5;exact .xk rfl (by simp[J8,X9,execOp,go_sem,p6,a7.out.1,a7.out.2,n0,n1,n2,n3,n4,n5,n6,n7,n8,m2,m3,m5,m6,m7,j9.out,p1.out])
      ·rintro jj ⟨c1,T,W⟩ G hd
       have hj:=hd 14 (by decide) (by decide)
       match jj,G,hj with
       |0,_,h|1,_,h|2,_,h|3,_,h=>cases h
       |4,G,_=>
        obtain⟨X,hX,y,I,J,q,s,E,V,P,o2,ne⟩:=G;simp only at hX E V;subst E V hX;have HB:=zh y;have a8:=zh P;have a9:=zh o2;have d6:=zh ne;clear hd y P o2 ne;simp only[J8,B6,C0,List.append_nil,List.foldl];go_simp
        go_wp2_with fail
        go_meet
        case rel=>exact⟨I,J,q,s,X,HB,rfl,a8,a9,d6⟩
       |n+5,_,h=>cases h
    case rest=>
     rename World=>w8
     obtain⟨A2,T,q,s,X,d7,rfl,a8,a9,d6⟩:=hcut;have Z:=(d7.out.block B (I7 x.out)).trans x.out;have d8:=z5 X B 2 _ _ (.slice A2 g.vars.length T) Z;have p4:=z5 _ B 3 _ _ (.slice q g.I8.length s) d8;have b0:Hid (((X.setCell ⟨B,2,none⟩ (.slice A2 g.vars.length T)).setCell ⟨B,3,none⟩ (.slice q g.I8.length s)).heap[B]?=some (.cells #[.int .i64 g.fn,.int .i64 g.pc,.slice A2 g.vars.length T,.slice q g.I8.length s] 42 (0,0))):=zh p4;have k4:=C.out.size;rw[d1.out]at k4;have k5:Hid (Below B w3 ((X.setCell ⟨B,2,none⟩ (.slice A2 g.vars.length T)).setCell ⟨B,3,none⟩ (.slice q g.I8.length s))):=zh (M2 (M2 (C.out.trans (d7.out.mono k4)) (y6 _) 2 _) (y6 _) 3 _);have a4:=zh (s9.out.below (by rw[d1.out];exact k5.out));have k6:=zh ((IK.below d7.out).trans ((IK.set Z (by decide) 2 (.slice A2 g.vars.length T)).trans (IK.set d8 (by decide) 3 (.slice q g.I8.length s))));have k7:=zh (X6 (X6 a8.out Z (by decide) 2 (.slice A2 g.vars.length T)) d8 (by decide) 3 (.slice q g.I8.length s));have k8:=zh (X6 (X6 a9.out Z (by decide) 2 (.slice A2 g.vars.length T)) d8 (by decide) 3 (.slice q g.I8.length s));have k9:Hid (m.heap.size<=((X.setCell ⟨B,2,none⟩ (.slice A2 g.vars.length T)).setCell ⟨B,3,none⟩ (.slice q g.I8.length s)).heap.size):=zh (by have:=d7.out.size;simpa using this);clear Z d8 p4 k4 C d7 a8 a9 x p5;generalize(World.setCell (World.setCell _ _ _) _ _)=w8 at b0 k5 a4 k6 k7 k8 k9|-
     have p5:w8.cell? ⟨b5,0,none⟩=some (.slice (some ⟨K,N,none⟩) nr c3):=by rw[<-d0.out];exact y5 a4.out.p5 0
     have f5:=B4 a4.out.p5 0;have c9:=i7.out;have d2:=S.out.1;have m1:g.vars.length+g.I8.length<=nr:=S.out.2;have m2:g.vars.length+g.I8.length<=c3:=C4 m1 d2;have n1:(g.vars.length:Int)+(g.I8.length:Int)<=(nr:Int):=by have:=Int.ofNat_le.2 m1;rw[Int.natCast_add]at this;exact this
     have n2:(g.vars.length:Int)+(g.I8.length:Int)<=(c3:Int):=by have:=Int.ofNat_le.2 m2;rw[Int.natCast_add]at this;exact this
     have n0:(0:Int)<=(g.vars.length:Int)+(g.I8.length:Int):=by omega
     have m7:((g.vars.length:Int)+(g.I8.length:Int)).toNat=g.vars.length+g.I8.length:=by omega
     have Y:Hid (nr-(g.vars.length+g.I8.length)=U.length):=zh (by omega);have d9:(g.vars++g.I8).length=g.vars.length+g.I8.length:=by simp
     have l0:Hid (yE w (some ⟨K,N,none⟩) c3 ((g.vars++g.I8)++U)):=zh a4.out.ls;have e1:=a7.out.1;have e2:=a7.out.2;clear c9 d2 m1 m2
     go_upto_region 29 with(fail)
     go_cut[] (λW=> ∃A5 c5,W=w8.setCell ⟨b5,0,none⟩ (.slice A5 U.length c5)/\Hid (yE w A5 c5 U)/\Hid (∃g o,A5=some ⟨g,o,none⟩))
     case first=>
      by_cases p7:c3=g.vars.length+g.I8.length
      ·have HE:=zh (l0.out.end (by rw[d9];exact p7) (some ⟨K,N,none⟩)).2
       clear d9
       go_wp2_with fail
       go_meet
       case rel=>exact⟨_,_,by first|(rw[<-Y.out];rfl)|(rw[<-Y.out,p7,Nat.sub_self])|(rw[Y.out]),HE,zh ⟨_,_,rfl⟩⟩
      ·have HE:=l0.out.tail
       rw[d9]at HE;replace HE:=zh HE;clear d9
       go_wp2_with fail
       go_meet
       case rel=>exact⟨_,_,by first|(rw[<-Y.out];rfl)|(rw[Y.out]),HE,zh ⟨_,_,rfl⟩⟩
     case rest=>
      clear p5 f5 n0 n1 n2 m7 d9 e1 e2 l0 Y;obtain⟨A5,c5,rfl,t6,e9⟩:=hcut;have h5:=a4.out.p5;have gr:=J2 w8 b5 0 (.slice A5 U.length c5);have e0:=zh (a4.out.grow gr (z5 w8 b5 0 _ _ _ h5) t6.out);have e3:Hid ((w8.setCell ⟨b5,0,none⟩ (.slice A5 U.length c5)).heap[B]?=_):=zh ((gr.block B (I7 b0.out) (λe=>by injection e with e;subst e;rw[h5]at b0;have:=b0.out;injection this with this;injection this with _ this;exact I2 this (by decide))).trans b0.out);have p8:=zh (k6.out.trans (IK.set h5 (by decide) 0 (.slice A5 U.length c5)));have p9:=zh (X6 k7.out h5 (by decide) 0 (.slice A5 U.length c5));have q0:=zh (X6 k8.out h5 (by decide) 0 (.slice A5 U.length c5));have r0:Hid (m.heap.size<=(w8.setCell ⟨b5,0,none⟩ (.slice A5 U.length c5)).heap.size):=zh (by have:=k9.out;simpa using this);clear h5 gr a4 b0 k6 k7 k8 k9 k5;generalize World.setCell _ _ _=w9 at e0 e3 p8 p9 q0 r0|-
      obtain⟨A6,c6,v3,r1,r2,r8,g8⟩:=XG zdi (by decide) (λ_=>by simp[xm]) e0.out.rf.T9 i.out.rf.T9.R9 p8.out r0.out i.out.O7.size g p9.out q0.out d6.out (by have:=I1 List.length i5.out;simp at this;omega);obtain⟨g9,i0,t7⟩:=e0.out.zce (e0.out.O7.trans r8.O7) g8 r2;have h6:=zh g9;obtain⟨⟨m0,m1,m2⟩,g0,g1,g2⟩:=ZS e0.out;have k0:=y5 e3.out 0;have k1:=y5 e3.out 1;have k2:=y5 e3.out 2;have k3:=y5 e3.out 3;rw[z9,List.length_singleton]at h6;clear g9 r8 g8 r2
      go_wp2_with(at_builtin;refine Lib.wpList_append_run _ rfl _ _ _ _ rfl _ _ rfl rfl _ _ r1 ?_)
      clear r1 m0 m1 m2 g0 g1 g2 k0 k1 k2 k3 i0 t7
      go_roundw
      case rel=>
       refine⟨j+1,wn,A5,c5,U,A6,c6,_,f4,rfl,by go_num,f3,s5,h6,zh ?_,e9⟩;rw[List.map_append,i5.out,List.take_add_one,s6.out];rfl
      case measure=>simp[intOf];omega
  ·obtain rfl:j=t.length:=by omega
   have a6:=i4.out;rw[List.drop_length]at a6;simp only[List.flatMap_nil]at a6;subst a6;have l3:=i5.out;rw[F6]at l3;have t8:=zh l3;clear l3;obtain⟨⟨m0,m1,m2⟩,g0,g1,g2⟩:=ZS i.out;have p5:=y5 i.out.p5 0;obtain⟨⟨u0,u1,u2,z0,z1,z2⟩,y0,y1,y2⟩:=zbc i.out;obtain⟨i2,i3⟩:=i.out.zjG;obtain⟨s3,bw,ff⟩:=(i.out.below (J5 _)).res (.int .i64 0) (.int .i64 value) (.slice Ar l'.length cr);have e6:=zh s3;have e7:=zh bw;have e8:=zh ff;have q9: ¬(((t.length+1:Nat):Int)<=(t.length:Int)):=by omega
   clear s3 bw ff
   go_upto_region 31 with(fail)
   go_region_law(fail)
   all_goals
    clear p5 z0 z1 z2 y0 y1 y2 i2 i3 m0 m1 m2 g0 g1 g2
    go_wp2_with fail
    refine F1 (zV rfl _ _ b6 _ _ _ _ rfl e6.out underlying45 rfl zcu) rfl ?_;exact⟨e7.out,Ar,cr,l',rfl,e8.out,t8.out⟩
end Go.Proofs.YtalgmjmibamdfaaGreatDoor
