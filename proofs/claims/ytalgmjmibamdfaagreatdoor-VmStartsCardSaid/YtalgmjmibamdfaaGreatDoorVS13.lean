/- Merged. -/
import Derived.Test.YtalgmjmibamdfaaGreatDoorVS12
set_option linter.all false
set_option maxHeartbeats 16000000
set_option maxRecDepth 100000
namespace Go.Proofs.YtalgmjmibamdfaaGreatDoor
open Go.Proofs.Tryz
open Go.RowKit Tw
theorem Q6{P:Program}{w w':World}{o:Oper}{a:Operand->Value}{s x:Operand}{t b:TypeId}{vs vx c:Value}(d:o.op=.call {callee:=.builtin .append,args:= #[s,x],argTypes:= #[t,b]})(hs:a s=vs)(hx:a x=vx)(e:(Builtin.append_ #[t,b] o.type #[vs,vx]).run P w=.ok c w'):
 (execOp a o).run P w=.ok (.value c) w':=by
 unfold execOp;simp only[d,resolve,invoke,builtin,Sem.run_bind,Sem.run_pure,Result.andThen_ok,List.map_toArray,List.map_cons,List.map_nil,hs,hx,e]
theorem ZE{w:World}{B c:Nat}{A:Option Addr}{mode value:Int}{l:List Fm}(h:Q8 w B 42 A c l)(hl:Qd l):
 Calls prog 11 #[.agg #[.int .i64 mode,.int .i64 value,.slice A l.length c]] w λe w'=>Below w.heap.size w w'/\ ∃A' c',e=.returned (.slice A' (K9 ⟨mode,value,l.map Prod.fst⟩).length c')/\w'.ownsRow w.heap.size 3 1 (.slice A' (K9 ⟨mode,value,l.map Prod.fst⟩).length c') (K9 ⟨mode,value,l.map Prod.fst⟩).length (iC (K9 ⟨mode,value,l.map Prod.fst⟩)):=by
 rw[Jn];have H:=zh h;have HL:=zh hl;have a7:=hl.1;clear h hl;have b:=zh (x9 w (.cells #[.int .i64 mode,.int .i64 value,.slice A l.length c] 45));have r:=zh ((x7 w.heap.size w).alloc (x6 _) (.cells #[.int .i64 mode,.int .i64 value,.slice A l.length c] 45))
 go_enter func11,ntmps11
 go_upto_region 1 with(fail)
 generalize World.alloc _ _=w0 at b r|-
 generalize O:w.heap.size=s at b r|-
 have a:=zh O;clear O;have m0:=x5 b.out 0;have m1:=x5 b.out 1;have m2:=x5 b.out 2;have t:=I0 b.out;have n:=zh (r.out.trans (((x7 w0.heap.size w0).alloc (x6 _) (.cells #[.int .i64 mode,.int .i64 value,.int .i64 l.length] 3)).mono (G3 t)));have E:=zh (World.ownsRow_lit (base:=s) (e:=3) (size:=1) w0 #[.int .i64 mode,.int .i64 value,.int .i64 l.length] 3 (G3 t) (by decide) rfl);have G:=zh ((B8 w0 (.cells #[.int .i64 mode,.int .i64 value,.int .i64 l.length] 3) t).trans b.out)
 go_upto_region 2 with(fail)
 clear m0 m1 m2;generalize World.alloc _ _=w1 at n E G|-
 generalize w0.heap.size=g1 at E|-
 have P:Hid (w1.ownsRow s 3 1 (.slice (some ⟨g1,0,none⟩) ([mode,value,(l.length:Int)]++xr (l.take 0)).length 3) ([mode,value,(l.length:Int)]++xr (l.take 0)).length (iC ([mode,value,(l.length:Int)]++xr (l.take 0)))):=E;have m2:=x5 G.out 2;clear E b r t
 go_wp2_with fail
 clear m2
 go_loopw[3,17] (λtv iv wr=> ∃(j:Nat)(f:List Int)(Q:Option Addr)(R:Nat),j<=l.length/\tv=.slice Q f.length R/\iv=.int .i64 j/\Hid (f=[mode,value,(l.length:Int)]++xr (l.take j))/\Hid (wr.ownsRow s 3 1 (.slice Q f.length R) f.length (iC f))/\Hid (Below s w wr)) (λ_ iv _=>l.length-(intOf iv).toNat)
 case atStart=>exact⟨0,_,_,_,C6 _,rfl,rfl,zh rfl,P,n⟩
 case round=>
  clear P n G;obtain⟨j,f,Q,R,hj,rfl,rfl,u,E,n⟩:=hrel
  by_cases S:j<l.length
  ·obtain⟨x,T⟩: ∃x,l[j]?=some x:=⟨_,x8 S⟩
   obtain⟨⟨fn,i,k,q⟩,vv,sv⟩:=x;obtain⟨gc,b0,rfl,-,U,⟨d0,d1,d2,d3⟩,-⟩:=H.out.at T;have g:=I0 U;rw[a.out]at g;replace d0:=(n.out.cell (p:=⟨gc,j*4,none⟩) g).trans d0;replace d1:=(n.out.cell (p:=⟨gc,j*4+1,none⟩) g).trans d1;replace d2:=(n.out.cell (p:=⟨gc,j*4+2,none⟩) g).trans d2;replace d3:=(n.out.cell (p:=⟨gc,j*4+3,none⟩) g).trans d3;obtain⟨rv,rs⟩:=H.out.T6.at T;have HV:Hid (J8 w (λ_=>True) vv k):=zh (S6 rv λ_ _=>trivial);have HS:Hid (J8 w (λ_=>True) sv q):=zh (S6 rs λ_ _=>trivial);obtain⟨V,W,rfl⟩:=HV.out.zt;obtain⟨X,Y,rfl⟩:=HS.out.zt;have b1:f.length<=3+700*j/\k.length<=64/\q.length<=600:=by
    have h1:=Zx HL.out j;have h2:=HL.out.2 _ (B0 T);have h3:=G4 List.length u.out;simp at h3 h2;omega
   have HE:=zh (QF T);have k0:(0:Int)<=(j:Int):=by omega
   have k1:(j:Int)<(l.length:Int):=by omega
   have v:=n.out.size;rw[a.out]at v;have d:=zh (x9 wr (.cells #[.int .i64 fn,.int .i64 i,.slice V k.length W,.slice X q.length Y] 42));have I:=(x7 wr.heap.size wr).alloc (x6 _) (.cells #[.int .i64 fn,.int .i64 i,.slice V k.length W,.slice X q.length Y] 42);have Z:=zh (K1 E.out I);have a0:=zh (n.out.trans (I.mono v));clear I rv rs T U g
   go_upto_region 5 with(fail)
   clear d0 d1 d2 d3;have y:wr.heap.size<(wr.alloc (.cells #[.int .i64 fn,.int .i64 i,.slice V k.length W,.slice X q.length Y] 42)).heap.size:=by simp
   generalize World.alloc _ _=m at d Z a0 y|-
   have z:s<=m.heap.size:=by omega
   generalize wr.heap.size=C at d y v|-
   have D:=zh ((I8 m).trans ((x7 m.drew.heap.size m.drew).alloc (x6 _) (.cells #[.int .i64 fn,.int .i64 i] 3)));have a2:Hid (J8 (m.drew.alloc (.cells #[.int .i64 fn,.int .i64 i] 3)) (λ_=>True) (.slice (some ⟨m.drew.heap.size,0,none⟩) 2 2) [(fn:Int),(i:Int)]):=zh (R9 (l:=[(fn:Int),(i:Int)]) (x9 m.drew _) trivial);have o1:=K1 Z.out D.out;have s1:=D.out.size;have M:=(D.out.block C y).trans d.out;obtain⟨A2,c2,w2,r2,o2,g2,-⟩:=Y9 22 o1 a2.out (by simp;omega) (B5 z s1);have b2:Below s w w2:=L3 (a0.out.trans (D.out.mono z)) o1 (x6 _) (B5 z s1) g2;have N:=(g2.block C (I0 M) (λe=>K5 o1 M (by decide) e.symm)).trans M;have J:=b2;rw[<-a.out]at J;obtain⟨A3,c3,w3,r3,o3,g3,-⟩:=Y9 22 o2 (HV.out.low J) (by simp;omega) (by have:=b2.size;rw[a.out]at this;exact this);have b3:Below s w w3:=L3 b2 o2 (x6 _) (by have:=b2.size;rw[a.out]at this;exact this) g3;have X3:=(g3.block C (I0 N) (λe=>K5 o2 N (by decide) e.symm)).trans N;have K:=b3;rw[<-a.out]at K;obtain⟨A4,c4,w4,r4,o4,g4,-⟩:=Y9 22 o3 (HS.out.low K) (by simp;omega) (by have:=b3.size;rw[a.out]at this;exact this);have b4:Below s w w4:=L3 b3 o3 (x6 _) (by have:=b3.size;rw[a.out]at this;exact this) g4;have q0:=x5 d.out 0;have q1:=x5 d.out 1;have q2:=x5 d.out 2;have q3:=x5 d.out 3;have y2:(m.alloc (.cells #[.int .i64 fn,.int .i64 i] 3)).cell? ⟨C,2,none⟩=some (.slice V k.length W):=x5 M 2;have y3:(m.alloc (.cells #[.int .i64 fn,.int .i64 i] 3)).cell? ⟨C,3,none⟩=some (.slice X q.length Y):=x5 M 3;have z2:=x5 N 2;have z3:=x5 N 3;have v3:=x5 X3 3;clear o1 s1 M o2 g2 N b2 J o3 g3 X3 b3 K g4 v y z;have a1:=zh o4;have a3:=zh b4;clear o4 b4;refine L0 (by kernel_rfl) [(0,21,.slice Q f.length R),(1,22,.pointer (some ⟨C,0,none⟩)),(2,23,.int .i64 fn),(3,24,.pointer (some ⟨C,1,none⟩)),(4,25,.int .i64 i),(5,26,.slice (some ⟨m.drew.heap.size,0,none⟩) 2 2),(6,27,.slice A2 (f.length+2) c2),(7,28,.pointer (some ⟨C,2,none⟩)),(8,29,.slice V k.length W),(9,30,.slice A3 (f.length+2+k.length) c3),(10,31,.pointer (some ⟨C,3,none⟩)),(11,32,.slice X q.length Y),(12,33,.slice A4 (f.length+2+k.length+q.length) c4)] [(13,3,.slice A4 (f.length+2+k.length+q.length) c4)] _ _ rfl rfl [5,6,9,12] (λj=>match j with|0=>m.drew|1=>m.drew.alloc (.cells #[.int .i64 fn,.int .i64 i] 3)|2=>w2|3=>w3|_=>w4) [(0,0),(0,1),(1,0),(2,0),(3,0),(4,0),(5,0),(6,1),(7,0),(7,1),(7,2),(8,0),(8,1),(8,2),(9,2),(10,0),(10,1),(10,2),(10,3),(11,0),(11,1),(11,2),(11,3),(12,3),(13,4)] (by kernel_rfl) (by kernel_rfl) (by rfl) rfl ?_ ?_
   ·generalize hF:J2 _ _=F
    simp[J2]at hF;subst hF
    repeat' (first|refine List.forall_mem_cons.2 ⟨?_,?_⟩|exact List.forall_mem_nil _)
    all_goals
     intro o ho;injection ho with ho
     subst ho
    rotate_left 7
    ·exact Q6 rfl rfl rfl r2
    rotate_left 6
    ·exact Q6 rfl rfl rfl r3
    rotate_left 8
    ·exact Q6 rfl rfl rfl r4
    all_goals simp[Y7,execOp,go_sem,q0,q1,q2,q3,y2,y3,z2,z3,v3]
   ·clear r2 r3 r4 q0 q1 q2 q3 y2 y3 z2 z3 v3
    obtain⟨L,hL⟩: ∃L,f++[(fn:Int),(i:Int)]++k++q=L:=⟨_,rfl⟩;have e4:f.length+2+k.length+q.length=L.length:=by rw[<-hL];simp;omega
    have a4:Hid (w4.ownsRow s 3 1 (.slice A4 L.length c4) L.length (iC L)):=zh (by rw[<-e4,<-hL];exact a1.out);rw[e4];have a5:=zh hL;clear e4 hL a1;simp only[J2,z9,B4,List.foldl];go_simp
    go_wp2_with fail
    go_roundw
    case rel=>exact⟨j+1,_,A4,c4,S,rfl,by go_num,zh (by rw[<-a5.out,u.out,HE.out];simp),a4,a3⟩
    case measure=>simp[intOf];omega
  ·obtain rfl:j=l.length:=by omega
   rw[E7]at u;have a6:=u.out;subst a6
   go_wp2_with fail
   go_ret;exact⟨by rw[a.out];exact n.out,Q,R,rfl,by rw[a.out];exact E.out⟩
def Fo(a:Nat)(w w':World):Prop:= ∀(b:Nat)(cs:Array Value)(t:Nat)(fr:Nat×Nat),w.heap[b]?=some (.cells cs t fr)->t≠a->t≠3->w'.heap[b]?=w.heap[b]?
theorem Fo.of{a:Nat}{w w':World}(h:Below w.heap.size w w'):Fo a w w':=λb _ _ _ d _ _=>h.block b (I0 d)
theorem Fo.trans{a:Nat}{w w' w2:World}(h:Fo a w w')(i:Fo a w' w2):Fo a w w2:=λb cs t fr d e g=>(i b cs t fr ((h b cs t fr d e g).trans d) e g).trans (h b cs t fr d e g)
theorem Fo.set{d g t:Nat}{w:World}{cs:Array Value}{fr:Nat×Nat}(i:w.heap[g]?=some (.cells cs t fr))(k:t=d\/t=3)(j:Nat)(u:Value):Fo d w (w.setCell ⟨g,j,none⟩ u):=λb _ _ _ a m n=>
 (I7 w g j u).block b (I0 a) λe=>by
  injection e with e;subst e;rw[i]at a;injection a with a;injection a with _ e;subst e
  rcases k with h|h
  ·exact m h
  ·exact n h
theorem Fo.U7{a e base size n:Nat}{w w':World}{v:Value}{xs:List Value}(g:w.ownsRow base e size v n xs)(i:e=a\/e=3)(j:w.grownBy w' v.ownBlock):Fo a w w':=λb _ _ _ d k m=>
 j.block b (I0 d) λo=>K5 g d (λe=>by subst e;rcases i with h|h;exact k h;exact m h) o.symm
structure zY(w:World)(B rb:Nat)(mode value:Int)(A:Option Addr)(c:Nat)(l:List Fm):Prop where
 lo:B<=rb
 J7:w.heap[rb]?=some (.cells #[.int .i64 mode,.int .i64 value,.slice A l.length c] 45 (0,0))
 T7:Q8 w B 42 A c l
section
variable {B rb c gc:Nat}{w w':World}{A As:Option Addr}{mode value:Int}{l low:List Fm}{x:Fm}{f:Fq}{v:Value}{cs:Nat}
theorem zY.below(h:zY w B rb mode value A c l)(a:Below w.heap.size w w'):zY w' B rb mode value A c l:=
 ⟨h.lo,(a.block rb (I0 h.J7)).trans h.J7,h.T7.below a⟩
theorem zY.hk(h:zY w B rb mode value A c l){Z:Nat}(a:Hk Z w w'):zY w' B rb mode value A c l:=
 ⟨h.lo,(a.J7 rb _ _ _ h.J7 (by unfold Q3;decide)).trans h.J7,h.T7.zr λg cs t b d=>a.J7 g cs t _ b (by unfold Q3;rcases d with rfl|rfl<;>decide)⟩
theorem zY.of(h:zY w B rb mode value A c l){l':List Fm}(a:Fo 42 w w')(hf:Q8 w' B 42 A c l')(b:l'.length=l.length):zY w' B rb mode value A c l':=
 ⟨h.lo,by rw[a rb _ _ _ h.J7 (by decide) (by decide),b];exact h.J7,hf⟩
theorem zY.bd(h:zY w B rb mode value A c l):B<=w.heap.size:=B5 h.lo (G3 (I0 h.J7))
theorem zM{g:Nat}{s:Value}(h:Q8 w B g A c (low++[(f,v,s)])):
 ∃gc a d e As cs,A=some ⟨gc,0,none⟩/\B<=gc/\w.heap[gc]?=some (.cells a g (0,0))/\v=.slice d f.vars.length e/\s=.slice As f.I1.length cs/\w.cell? ⟨gc,low.length*4,none⟩=some (.int .i64 f.fn)/\w.cell? ⟨gc,low.length*4+1,none⟩=some (.int .i64 f.pc)/\w.cell? ⟨gc,low.length*4+2,none⟩=some v/\w.cell? ⟨gc,low.length*4+3,none⟩=some s/\
  w.frozen? ⟨gc,low.length*4+1,none⟩=false/\w.frozen? ⟨gc,low.length*4+3,none⟩=false/\f.I1.length<=cs:=by
 obtain⟨gc,a,rfl,j,k,⟨m,n,o,p⟩,b⟩:=h.at (i:=low.length) (x:=(f,v,s)) (by simp);obtain⟨⟨d,e,rfl⟩,As,cs,rfl⟩:=h.T6.zt (i:=low.length) (f:=f) (v:=v) (s:=s) (by simp);exact⟨gc,a,d,e,As,cs,rfl,j,k,rfl,rfl,m,n,o,p,b _,b _,(O3 h.T6.xt.2.1).1⟩
theorem zeO{s:Value}(h:zY w B rb mode value (some ⟨gc,0,none⟩) c (low++[(f,v,s)]))(p:Nat):
 zY (w.setCell ⟨gc,low.length*4+1,none⟩ (.int .i64 p)) B rb mode value (some ⟨gc,0,none⟩) c (low++[({f with pc:=p},v,s)])/\Vo B w (w.setCell ⟨gc,low.length*4+1,none⟩ (.int .i64 p)):=by
 obtain⟨e,g,-,-,-,-,a,d,b,-⟩:=zM h.T7;injection a with a;injection a with a
 subst a;exact⟨h.of (.set b (.inl rfl) _ _) (h.T7.U4 (by decide) p) (by simp),.set b d (by unfold jh;decide) _ _⟩
theorem zc6(h:zY w B rb mode value (some ⟨gc,0,none⟩) c (low++[(f,v,.slice As f.I1.length cs)]))(k:Nat)(e:k<=f.I1.length):
 zY (w.setCell ⟨gc,low.length*4+3,none⟩ (.slice As k cs)) B rb mode value (some ⟨gc,0,none⟩) c (low++[({f with I1:=f.I1.take k},v,.slice As k cs)])/\Vo B w (w.setCell ⟨gc,low.length*4+3,none⟩ (.slice As k cs)):=by
 obtain⟨g,i,-,-,-,-,a,d,b,-⟩:=zM h.T7;injection a with a;injection a with a
 subst a;exact⟨h.of (.set b (.inl rfl) _ _) (h.T7.cut (by decide) rfl e) (by simp),.set b d (by unfold jh;decide) _ _⟩
theorem zbL{s s':Value}{S:List Int}(h:zY w B rb mode value (some ⟨gc,0,none⟩) c (low++[(f,v,s)]))(b:Below w.heap.size w w')(hs:w'.ownsRow w.heap.size 3 1 s' S.length (iC S)):
 w'.cell? ⟨gc,low.length*4+3,none⟩=some s/\w'.frozen? ⟨gc,low.length*4+3,none⟩=false/\zY (w'.setCell ⟨gc,low.length*4+3,none⟩ s') B rb mode value (some ⟨gc,0,none⟩) c (low++[({f with I1:=S},v,s')])/\Vo B w (w'.setCell ⟨gc,low.length*4+3,none⟩ s'):=by
 obtain⟨o,p,u,y,As,cs,i,n,j,z,C,D,E,F,q,G,r,-⟩:=zM h.T7;injection i with i;injection i with i
 subst i;have d:=(b.block gc (I0 j));have m:=d.trans j;refine⟨(E0 (a:=⟨gc,low.length*4+3,none⟩) d).trans q,(World.frozen?_of_block (a:=⟨gc,low.length*4+3,none⟩) d).trans r,h.of (Fo.trans (.of b) (.set m (.inl rfl) _ _)) ?_ (by simp),(Vo.of b h.bd).trans (.set m n (by unfold jh;decide) _ _)⟩;exact h.T7.stk (by decide) (w':=w') ⟨b.os,b.tape,b.output,b.size,λk t _=>b.block k t⟩ (f':={f with I1:=S}) rfl rfl rfl (hs.mono h.bd) (λg e=>.inr (hs.lt g e).1)
theorem zf2{a m:Nat}{s:Value}(h:zY w B rb mode value (some ⟨gc,0,none⟩) c (low++[(f,.slice (some ⟨a,0,none⟩) f.vars.length m,s)]))(k:Nat)(x:Int):
 zY (w.setCell ⟨a,k,none⟩ (.int .i64 x)) B rb mode value (some ⟨gc,0,none⟩) c (low++[({f with vars:=f.vars.set k x},.slice (some ⟨a,0,none⟩) f.vars.length m,s)])/\Vo B w (w.setCell ⟨a,k,none⟩ (.int .i64 x)):=by
 have b:=h.T7.T6.xt.1;simp only at b;obtain⟨o,d⟩: ∃cs,w.heap[a]?=some (.cells cs 3 (0,0)):=by
  rcases b.2 with⟨e,-⟩|⟨g,p,q,e,-,i,-⟩
  ·cases e
  ·injection e with e;injection e with e;injection e with e
   subst e;exact⟨_,i⟩
 have j:=(b.stored k (.int .i64 x)).1;have n:=I7 w a k (.int .i64 x);have r:=h.T7.je;refine⟨h.of (.set d (.inr rfl) _ _) ⟨?_,?_⟩ (by simp),.set d (b.lt a rfl).1 (by unfold jh;decide) _ _⟩
 ·have:=R7 r λg cs e i=>n.block g (I0 i) λt=>K5 b i (by decide) (by rw[t];rfl)
  simpa[List.flatMap_append,Fm.cells]using this
 ·exact h.T7.T6.yE n (f:={f with vars:=f.vars.set k x}) rfl (by
   have e:iC (f.vars.set k x)=(iC f.vars).set k (.int .i64 x):=by unfold iC;rw[List.map_set]
   simp only[List.length_set,e];exact j)
theorem zY.pop(h:zY w B rb mode value A c (low++[x])):zY (w.setCell ⟨rb,2,none⟩ (.slice A low.length c)) B rb mode value A c low/\Vo B w (w.setCell ⟨rb,2,none⟩ (.slice A low.length c)):=
 ⟨⟨h.lo,y4 w rb 2 _ _ _ h.J7,(h.T7.else h.J7 (by decide) (by decide) 2 _).pop⟩,.set h.J7 h.lo (by unfold jh;decide) _ _⟩
theorem zY.stop(h:zY w B rb mode value A c l)(m y:Int):zY (((w.setCell ⟨rb,0,none⟩ (.int .i64 m)).setCell ⟨rb,1,none⟩ (.int .i64 y)).setCell ⟨rb,2,none⟩ (.slice none 0 0)) B rb m y none 0 []/\
 Vo B w (((w.setCell ⟨rb,0,none⟩ (.int .i64 m)).setCell ⟨rb,1,none⟩ (.int .i64 y)).setCell ⟨rb,2,none⟩ (.slice none 0 0)):=by
 have a:=y4 w rb 0 _ _ (.int .i64 m) h.J7;have b:=y4 _ rb 1 _ _ (.int .i64 y) a;have d:=y4 _ rb 2 _ _ (.slice none 0 0) b;exact⟨⟨h.lo,d,ym _ _ _⟩,(Vo.set h.J7 h.lo (by unfold jh;decide) 0 _).trans ((Vo.set a h.lo (by unfold jh;decide) 1 _).trans (Vo.set b h.lo (by unfold jh;decide) 2 _))⟩
theorem qj(h:zY w B rb mode value A c l):w.cell? ⟨rb,0,none⟩=some (.int .i64 mode)/\w.cell? ⟨rb,1,none⟩=some (.int .i64 value)/\w.cell? ⟨rb,2,none⟩=some (.slice A l.length c)/\w.frozen? ⟨rb,0,none⟩=false/\w.frozen? ⟨rb,1,none⟩=false/\w.frozen? ⟨rb,2,none⟩=false:=
 ⟨x5 h.J7 0,x5 h.J7 1,x5 h.J7 2,z6 h.J7 0,z6 h.J7 1,z6 h.J7 2⟩
end
section
variable {B rb c gc fp mp:Nat}{w:World}{A As:Option Addr}{mode value:Int}{l low:List Fm}{f:Fq}{v s:Value}{cs:Nat}{fr:Nat×Nat}
theorem zfk(h:zY w B rb mode value (some ⟨gc,0,none⟩) c (low++[(f,v,.slice As f.I1.length cs)]))(r:w.heap[fp]?=some (.cells #[.pointer (some ⟨gc,low.length*4,none⟩)] 146 fr)){S:List Int}{a:Int}(hs:f.I1=S++[a])(W:f.I1.length<=2000):
 Calls prog 75 #[.pointer (some ⟨fp,0,none⟩)] w λe w'=>e=.returned (.int .i64 a)/\zY w' B rb mode value (some ⟨gc,0,none⟩) c (low++[({f with I1:=S},v,.slice As S.length cs)])/\Vo B w w':=by
 have d:f.I1.length=S.length+1:=by rw[hs];simp
 have g:=h.below (I8 w);obtain⟨j,t⟩:=zc6 g S.length (by omega);rw[hs]at j;simp only[List.take_left']at j;have J:=zh j;have K:=zh ((Vo.of (I8 w) h.bd).trans t);have b:=h.T7.T6.xt.2.1;simp only at b;obtain⟨m,rfl,X⟩:=qc b (k:=S.length) (a:=a) (by rw[hs];simp);obtain⟨L,M,Y,Z,As,cs,i,-,-,-,n,N,O,P,p,Q,u,q⟩:=zM h.T7;injection i with i;injection i with i
 injection n with n R T
 subst i n T;have y:=x5 r 0;rw[d]at p q;have U:IntKind.i64.wrap ((S.length:Int)+1-1)=(S.length:Int):=by rw[show(S.length:Int)+1-1=S.length by omega];exact IntWalk.i64_in _ (by omega)
 have V:wrap64 (S.length:Int)=(S.length:Int):=IntWalk.wrap64_in _ (by omega);have C:(0:Int)<=(S.length:Int):=by omega
 have D:(S.length:Int)<(S.length:Int)+1:=by omega
 have E: ¬((S.length:Int)+1<=(S.length:Int)):=by omega
 have G: ¬((cs:Int)<(S.length:Int)):=by omega
 have H:(S.length:Int)<=(cs:Int):=by omega
 clear h d g j t b hs R r
 go_enter func75,ntmps75
 go_upto_region 3 with(fail)
 refine L0 (by kernel_rfl) [(0,17,.pointer (some ⟨gc,low.length*4,none⟩)),(1,18,.pointer (some ⟨gc,low.length*4,none⟩)),(2,19,.pointer (some ⟨gc,low.length*4,none⟩)),(3,20,.pointer (some ⟨gc,low.length*4+3,none⟩)),(4,21,.slice (some ⟨m,0,none⟩) (S.length+1) cs),(5,22,.int .i64 S.length),(6,23,.slice (some ⟨m,0,none⟩) S.length cs),(7,24,.pointer (some ⟨gc,low.length*4,none⟩)),(8,25,.pointer (some ⟨gc,low.length*4+3,none⟩))] [] _ _ rfl rfl [9] (λz=>match z with|0=>w.drew|_=>w.drew.setCell ⟨gc,low.length*4+3,none⟩ (.slice (some ⟨m,0,none⟩) S.length cs)) [(0,0),(1,0),(2,0),(3,0),(4,0),(5,0),(6,0),(7,0),(8,0),(9,0)] (by kernel_rfl) (by kernel_rfl) (by rfl) rfl ?_ ?_
 ·generalize I:J2 _ _=F
  simp[J2]at I;subst I
  repeat' (first|refine List.forall_mem_cons.2 ⟨?_,?_⟩|exact List.forall_mem_nil _)
  all_goals
   intro o b;injection b with b
   subst b
  all_goals simp[Y7,execOp,go_sem,y,p,u,C,D,E,G,H,V]
 clear y N O P p Q u C D E G H U;simp only[J2,z9,B4,List.append_nil,List.foldl];go_simp
 go_wp2_with fail
 go_ret;exact⟨rfl,J.out,K.out⟩
theorem zd1(h:zY w B rb mode value A c l)(a:w.heap[mp]?=some (.cells #[.pointer (some ⟨rb,0,none⟩)] 145 fr))(b:Int):
 Calls prog 77 #[.int .i64 b,.pointer (some ⟨mp,0,none⟩)] w λe w'=>e=.returned (.tuple #[])/\zY w' B rb 2 b none 0 []/\Vo B w w':=by
 have d:mp≠rb:=λe=>by subst e;rw[h.J7]at a;injection a with a;injection a with _ e;exact G5 e (by decide)
 obtain⟨i,j⟩:=(h.below (I8 w)).stop 2 b;have y:=zh i;have C:=zh ((Vo.of (I8 w) h.bd).trans j);obtain⟨k,m,n,p,q,r⟩:=qj h;have t:=x5 a 0;clear h i j a
 go_enter func77,ntmps77
 go_upto_region 0 with(fail)
 refine L0 (by kernel_rfl) [(0,3,.pointer (some ⟨rb,0,none⟩)),(1,4,.pointer (some ⟨rb,0,none⟩)),(2,5,.pointer (some ⟨rb,0,none⟩)),(3,6,.int .i64 b),(4,7,.pointer (some ⟨rb,0,none⟩)),(5,8,.pointer (some ⟨rb,0,none⟩)),(7,9,.pointer (some ⟨rb,0,none⟩)),(8,10,.pointer (some ⟨rb,1,none⟩)),(10,11,.pointer (some ⟨rb,0,none⟩)),(11,12,.pointer (some ⟨rb,2,none⟩))] [] _ _ rfl rfl [6,9,12] (λz=>match z with|0=>w.drew|1=>w.drew.setCell ⟨rb,0,none⟩ (.int .i64 2)|2=>(w.drew.setCell ⟨rb,0,none⟩ (.int .i64 2)).setCell ⟨rb,1,none⟩ (.int .i64 b)|_=>((w.drew.setCell ⟨rb,0,none⟩ (.int .i64 2)).setCell ⟨rb,1,none⟩ (.int .i64 b)).setCell ⟨rb,2,none⟩ (.slice none 0 0)) [(0,0),(1,0),(1,1),(2,0),(2,1),(2,2),(3,0),(3,1),(4,0),(5,0),(6,0),(7,1),(8,1),(9,1),(10,2),(11,2),(12,2)] (by kernel_rfl) (by kernel_rfl) (by rfl) rfl ?_ ?_
 ·generalize u:J2 _ _=F
  simp[J2]at u;subst u
  repeat' (first|refine List.forall_mem_cons.2 ⟨?_,?_⟩|exact List.forall_mem_nil _)
  all_goals
   intro o g;injection g with g
   subst g
  all_goals simp[Y7,execOp,go_sem,t,k,m,n,p,q,r,d]
 clear t k m n p q r;simp only[J2,z9,B4,List.append_nil,List.foldl];go_simp;go_end0;exact⟨rfl,y.out,C.out⟩
theorem zeh(h:zY w B rb mode value (some ⟨gc,0,none⟩) c (low++[(f,v,s)]))(E:w.heap[fp]?=some (.cells #[.pointer (some ⟨gc,low.length*4,none⟩)] 146 fr))(hn:f.I1.length<=2000)(x:Int):
 Calls prog 76 #[.int .i64 x,.pointer (some ⟨fp,0,none⟩)] w λe w'=>e=.returned (.tuple #[])/\(∃s',zY w' B rb mode value (some ⟨gc,0,none⟩) c (low++[({f with I1:=f.I1++[x]},v,s')]))/\Vo B w w':=by
 obtain⟨M,N,Av,cv,As,cs,t,-,u,-,rfl,O,P,Q,R,S,z3,T⟩:=zM h.T7;injection t with t;injection t with t
 subst t;have U:=x5 E 0;have b:=h.T7.T6.xt.2.1;simp only at b;have V:=I0 E;have G:=I0 u;have J:Hid (∀W,Below w.heap.size w W->Calls prog 44 #[.slice As f.I1.length cs] W λe w'=>Below W.heap.size W w'/\ ∃i k,e=.returned (.slice i f.I1.length k)/\w'.ownsRow W.heap.size 3 1 (.slice i f.I1.length k) f.I1.length (iC f.I1)):=zh (λW X=>ju (F:=λ_=>True) (S6 (K1 b X) λ_ _=>trivial) (by
  rcases(O3 b).2 with rfl|⟨g,rfl⟩
  ·rcases O5 b with⟨e,-⟩|⟨g9,c9,e,-⟩
   ·injection e with _ _ e;exact .inl ⟨rfl,e⟩
   ·injection e with e;cases e
  ·exact .inr ⟨_,_,rfl⟩) (by omega))
 have H:=zh h;clear h b E u O P Q S
 go_enter func76,ntmps76
 go_upto_region 0 with(fail)
 refine P5 (D:=Value×Value×Nat×World) (by kernel_rfl) [(0,3),(1,4),(2,5),(3,6),(4,7),(5,8),(6,9),(7,10),(8,11),(9,12),(10,13)] [5,7,8,11] [[],[7],[5],[5,7],[5,7,8],[5,7,8,11]]
  (λ_ d=>[(0,3,.pointer (some ⟨gc,low.length*4,none⟩)),(1,4,.pointer (some ⟨gc,low.length*4,none⟩)),(2,5,.pointer (some ⟨gc,low.length*4,none⟩)),(3,6,.pointer (some ⟨gc,low.length*4+3,none⟩)),(4,7,.slice As f.I1.length cs),(5,8,d.1),(6,9,.int .i64 x),(7,10,.slice (some ⟨d.2.2.1,0,none⟩) 1 1),(8,11,d.2.1),(9,12,.pointer (some ⟨gc,low.length*4,none⟩)),(10,13,.pointer (some ⟨gc,low.length*4+3,none⟩))])
  (λ_ d=>d.2.2.2)
  (λj d=>(j<5->Below w.heap.size w d.2.2.2)/\match j with
   |0=>True
   |1=>d.2.2.2.heap[d.2.2.1]?=some (.cells #[.int .i64 x] 3 (0,0))
   |2=>(∃A c,d.1=.slice A f.I1.length c)/\d.2.2.2.ownsRow w.heap.size 3 1 d.1 f.I1.length (iC f.I1)
   |3=>d.2.2.2.heap[d.2.2.1]?=some (.cells #[.int .i64 x] 3 (0,0))/\(∃A c,d.1=.slice A f.I1.length c)/\d.2.2.2.ownsRow w.heap.size 3 1 d.1 f.I1.length (iC f.I1)
   |4=>(∃A c,d.2.1=.slice A (f.I1.length+1) c)/\d.2.2.2.ownsRow w.heap.size 3 1 d.2.1 (f.I1++[x]).length (iC (f.I1++[x]))
   |_=>(∃s',zY d.2.2.2 B rb mode value (some ⟨gc,0,none⟩) c (low++[({f with I1:=f.I1++[x]},v,s')]))/\Vo B w d.2.2.2)
  [(0,0),(0,1),(0,2),(0,3),(0,4),(1,0),(1,1),(2,0),(2,1),(3,0),(3,1),(4,0),(4,1),(5,0),(5,1),(6,0),(6,2),(7,0),(7,2),(8,3),(9,4),(10,4),(11,4)] (by kernel_rfl) (by kernel_rfl) (λ_ _=>rfl) (by rfl) (undef,undef,0,w.drew) rfl ⟨λ_=>I8 w,trivial⟩ rfl ?_ ?_
 ·repeat' (first|refine List.forall_mem_cons.2 ⟨?_,?_⟩|exact List.forall_mem_nil _)
  all_goals
   intro o b;injection b with b
   subst b;rintro⟨C,y,r,W⟩ ⟨a,m⟩;simp only at a m;replace a:=a (by decide);have Y:W.cell? ⟨fp,0,none⟩=some (.pointer (some ⟨gc,low.length*4,none⟩)):=(a.cell (p:=⟨fp,0,none⟩) V).trans U;have Z:W.cell? ⟨gc,low.length*4+3,none⟩=some (.slice As f.I1.length cs):=(a.cell (p:=⟨gc,low.length*4+3,none⟩) G).trans R
  rotate_left 13
  ·refine .call 44 #[.slice As f.I1.length cs] (by simp[J2,execOp,go_sem]) ((J.out W a).mono ?_)
   rintro e z ⟨q,i,k,rfl,b⟩;exact⟨_,2,(.slice i f.I1.length k,y,r,z),rfl,.of (by decide) ⟨λ_=>a.trans (q.mono a.size),⟨_,_,rfl⟩,b.mono a.size⟩ rfl rfl,rfl,rfl⟩
  ·refine .call 44 #[.slice As f.I1.length cs] (by simp[J2,execOp,go_sem]) ((J.out W a).mono ?_)
   rintro e z ⟨q,i,k,rfl,b⟩;exact⟨_,3,(.slice i f.I1.length k,y,r,z),rfl,.of (by decide) ⟨λ_=>a.trans (q.mono a.size),(q.block r (I0 m)).trans m,⟨_,_,rfl⟩,b.mono a.size⟩ rfl rfl,rfl,rfl⟩
  rotate_left 2
  ·have I:=a.alloc a.size (.cells #[.int .i64 x] 3)
   exact .jC 1 (C,y,W.heap.size,W.alloc (.cells #[.int .i64 x] 3)) (.of (by decide) ⟨λ_=>I,x9 W _⟩ rfl rfl) (by simp[J2,Y7,execOp,go_sem])
  ·have I:=a.alloc a.size (.cells #[.int .i64 x] 3)
   exact .jC 3 (C,y,W.heap.size,W.alloc (.cells #[.int .i64 x] 3)) (.of (by decide) ⟨λ_=>I,x9 W _,m.1,K1 m.2 ((x7 W.heap.size W).alloc (x6 _) _)⟩ rfl rfl) (by simp[J2,Y7,execOp,go_sem])
  ·obtain⟨hx,⟨i,k,rfl⟩,b⟩:=m
   have hX:J8 W (λ_=>True) (.slice (some ⟨r,0,none⟩) 1 1) [x]:=R9 (l:=[x]) hx trivial;obtain⟨A2,c2,z,K,L,g2,-⟩:=Y9 22 b hX (by simp;omega) a.size;simp only[List.length_singleton]at K L;exact .jC 4 (.slice i f.I1.length k,.slice A2 (f.I1.length+1) c2,r,z) (.of (by decide) ⟨λ_=>L3 a b (x6 _) a.size g2,⟨_,_,rfl⟩,by rw[y7];exact L⟩ rfl rfl) (Q6 (vs:=.slice i f.I1.length k) (vx:=.slice (some ⟨r,0,none⟩) 1 1) rfl (by simp[J2,go_sem]) (by simp[J2,go_sem]) K)
  rotate_left 2
  ·obtain⟨⟨i,k,rfl⟩,b⟩:=m
   obtain⟨e1,t,h5,v5⟩:=zbL H.out a b;exact .jC 5 (C,.slice i (f.I1.length+1) k,r,W.setCell ⟨gc,low.length*4+3,none⟩ (.slice i (f.I1.length+1) k)) (.of (by decide) ⟨λh=>G5 h (by decide),⟨_,h5⟩,v5⟩ rfl rfl) (by simp[J2,Y7,execOp,go_sem,e1,t])
  all_goals exact .jd rfl (by simp[J2,Y7,execOp,go_sem,Y,Z])
 ·rintro j ⟨C,y,r,W⟩ ⟨-,m⟩ hd
  have hj:=hd 11 (by decide) (by decide)
  match j,m,hj with
  |5,m,_=>
   simp only[J2,z9,B4,List.append_nil,List.foldl];go_simp;have H5:=zh m.1;have V5:=zh m.2;go_end0;exact⟨rfl,H5.out,V5.out⟩
  |0,_,h|1,_,h|2,_,h|3,_,h|4,_,h=>cases h
  |n+6,_,h=>cases h
end
end Go.Proofs.YtalgmjmibamdfaaGreatDoor
namespace Go.Proofs.YtalgmjmibamdfaaGreatDoor
open Go.RowKit Tw
def qy(x:Int):Prop:= -9223372036854775808<=x/\x<=9223372036854775807
instance (x:Int):Decidable (qy x):=by unfold qy;infer_instance
theorem Zy(x:Int):qy (IntKind.i64.wrap x):=by unfold qy;rw[IntKind.wrap_i64];omega
theorem zbC(b:Bool):qy (tr b):=by cases b<;>decide
def yJ(C:R2):Prop:= ∀o∈C,o.1.1=1->qy o.1.2
theorem yJ.U7{C D:R2}(a:yJ C)(b:yJ D):yJ (C++D):=λo c=>(List.mem_append.1 c).elim (a o) (b o)
theorem yJ.cons{C:R2}{o:Q2×Nat}(a:o.1.1=1->qy o.1.2)(b:yJ C):yJ (o::C):=λp c=>by
 rcases List.mem_cons.1 c with rfl|h
 ·exact a
 ·exact b p h
theorem yJ.nil:yJ []:=λo a=>by cases a
theorem zae: ∀(l:List Q2)(h:Nat),(∀o∈l,o.1=1->qy o.2)->yJ (jp h l)
 |[],_,_=>.nil
 |o::l,h,a=>.cons (a o (by simp)) (zae l _ λp b=>a p (by simp[b]))
section
variable {us:List Fn}
theorem zdw(t:Bs): ∀o∈yM t,o.1=1->qy o.2:=λo a=>by
 unfold yM at a
 (repeat' split at a)<;>simp at a<;>first|(subst a;simp;done)|(rcases a with rfl|rfl<;>simp;done)
theorem zdR{vs:N1}{k n:Int}{t:ByteArray}{a:Nat}(c:Hd k n t a): ∀o∈Ql us vs k n t a,o.1=1->qy o.2:=λo h b=>by
 unfold Ql at h;cases c
 case two=>simp at h;exact zdw _ o h b
 all_goals simp at h;subst h;first|(unfold qy;simp only;omega)|simp at b
theorem zd2{l:List Ex}(b: ∀a∈l,∀vs n h,yJ (N0 us vs n h a)):(∀vs n h,yJ (P6 us vs n h l))/\(∀vs n h,yJ (hdC us vs n h l))/\ ∀vs n h,yJ (sdC us vs n h l):=by
 induction l with
 |nil=>exact⟨λ_ _ _=>by rw[P6];exact .nil,λ_ _ _=>by rw[hdC];exact .nil,λ_ _ _=>by rw[sdC];exact .nil⟩
 |cons a l d=>
  have c:=b a (z5 ..);obtain⟨e,f,-⟩:=d λx g=>b x (x4 _ g);exact⟨λvs n h=>by rw[P6];exact(c _ _ _).U7 (e _ _ _),λvs n h=>by rw[hdC];exact c _ _ _,λvs n h=>by rw[sdC];exact f _ _ _⟩
theorem ze5{d:Nat}{x:Ex}(hx:Ew d x): ∀vs n h,yJ (N0 us vs n h x):=by
 induction hx with
 |mk a _ _ b=>
  intro vs n h;obtain⟨c,f,g⟩:=zd2 b;rw[N0]
  split
  ·unfold ZJ
   refine(f vs n h).U7 (.U7 ?_ (.cons (λe=>by cases e) ((g vs _ h).U7 (.cons (λe=>by cases e) (.cons (λ_=>?_) .nil)))))
   ·split
    ·exact .cons (λe=>by cases e) .nil
    ·exact .nil
   ·simp only;split<;>decide
  ·exact(c vs n h).U7 (zae _ _ (zdR a))
theorem YE{l:List Sm}(b: ∀a∈l,∀n vs m,yJ (Q4 us n vs m a).1): ∀n vs m,yJ (S3 us n vs m l).1:=by
 induction l with
 |nil=>intro _ _ _;rw[S3];exact .nil
 |cons s l c=>
  intro n vs m;rw[S3];exact(b s (z5 ..) _ _ _).U7 (c (λx d=>b x (x4 _ d)) _ _ _)
theorem zfp{d:Nat}{s:Sm}(h:Sw d s): ∀n vs m,yJ (Q4 us n vs m s).1:=by
 induction h with
 |mk _ _ _ _ g _ _ _ _ b c=>
  intro n vs m;have a:=λn h=>ze5 (us:=us) g vs n h;have f:=YE b;have i:=YE c;rw[Q4]
  repeat' split
  all_goals first
   |exact(a _ _).U7 (.cons (λe=>by cases e) .nil)
   |exact(a _ _).U7 (.cons (λe=>by cases e) ((f _ _ _).U7 (.cons (λe=>by cases e) .nil)))
   |exact(a _ _).U7 (.cons (λe=>by cases e) (f _ _ _))
   |exact(a _ _).U7 (.cons (λe=>by cases e) ((f _ _ _).U7 (.cons (λe=>by cases e) (i _ _ _))))
theorem zff{f:Fn}(h:Fw f):yJ (jk us f).I9:=
 (YE (λs a=>zfp (h.J0 s a)) _ _ _).U7 (.cons (λ_=>by decide) (.cons (λe=>by cases e) .nil))
theorem Jg(h: ∀f∈us,Fw f): ∀c∈us.map (jk us),yJ c.I9:=λc a=>by
 obtain⟨f,b,rfl⟩:=List.mem_map.1 a;exact zff (h f b)
end
def FrR(f:Fq):Prop:=(∀x∈f.vars,qy x)/\ ∀x∈f.I1,qy x
def McR(M:Mc):Prop:=qy M.value/\ ∀f∈M.O2,FrR f
theorem zdC{d a b x:Int}(c:qy b)(h:yF d a b=some x):qy x:=by
 unfold yF at h
 (repeat' split at h)<;>first|cases h|(injection h with h;subst h)
 all_goals first
  |exact Zy _
  |exact zbC _
  |skip
 unfold qy at c|-
 have e:b≠0:=by assumption
 have f:=Int.natAbs_tmod a b;have g:=Nat.mod_lt a.natAbs (show 0<b.natAbs by omega);omega
section
variable {P:List Cf}{host:T0}
theorem XQ(U: ∀c∈P,yJ c.I9)(L: ∀f xs,qy (host f xs).1/\qy (host f xs).2){v:Int}(i:qy v){fs:List Fq}{f:Fq}(h: ∀g∈fs++[f],FrR g):McR (Q1 P host v fs f).1:=by
 unfold Q1
 split
 ·exact⟨i,h⟩
 rename_i o h' A;obtain⟨d,x⟩:=o;have V:d=1->qy x:=λe=>by
  unfold jP at A;cases J:P[f.fn]? with
  |none=>rw[J]at A;cases A
  |some c=>
   rw[J]at A;exact U c (B0 J) _ (B0 A) e
 clear A;have b:FrR f:=h f (by simp);have r: ∀g∈fs,FrR g:=λg p=>h g (by simp[p]);generalize B:f.I1.take _=s;generalize t:f.I1.drop _=args;have w: ∀y∈s,qy y:=λy k=>b.2 y (List.mem_of_mem_take (B▸k));have m: ∀y∈args,qy y:=λy k=>b.2 y (List.mem_of_mem_drop (t▸k));have M:qy 0:=by decide
 have a: ∀(l:List Int)(j:Nat),(∀y∈l,qy y)->qy (l.getD j 0):=λl j W=>by
  rw[List.getD_eq_getElem?_getD];cases e:l[j]? with
  |none=>exact M
  |some y=>exact W y (B0 e)
 have V0: ∀(g:Fq),FrR g-> ∀g'∈fs++[g],FrR g':=λg p g' K=>by
  rcases List.mem_append.1 K with h|h
  ·exact r g' h
  ·rw[List.mem_singleton.1 h];exact p
 have n: ∀y,qy y-> ∀z∈s++[y],qy z:=λy k z X=>by
  rcases List.mem_append.1 X with h|h
  ·exact w z h
  ·rw[List.mem_singleton.1 h];exact k
 have fail: ∀e,qy e->McR (xw e):=λe Y=>⟨Y,λg p=>by cases p⟩;unfold M1;simp only
 by_cases N:d=1
 ·subst N;exact⟨i,V0 _ ⟨b.1,n _ (V rfl)⟩⟩
 rw[z7 N]
 by_cases O:d=2
 ·subst O;exact⟨i,V0 _ ⟨b.1,n _ (a _ _ b.1)⟩⟩
 rw[z7 O]
 by_cases Q:d=3
 ·subst Q
  refine⟨i,V0 _ ⟨λy k=>?_,w⟩⟩
  rcases List.mem_or_eq_of_mem_set k with h|h
  ·exact b.1 y h
  ·rw[h];exact a _ _ m
 rw[z7 Q]
 by_cases R:d=4
 ·subst R;exact⟨i,V0 _ ⟨b.1,w⟩⟩
 rw[z7 R]
 by_cases S:d=5
 ·subst S;exact⟨i,V0 _ ⟨b.1,n _ (Zy _)⟩⟩
 rw[z7 S]
 by_cases T:d=6
 ·subst T;exact⟨i,V0 _ ⟨b.1,n _ (zbC _)⟩⟩
 rw[z7 T]
 by_cases C:d=15
 ·subst C;exact⟨i,V0 _ ⟨b.1,w⟩⟩
 rw[z7 C]
 by_cases D:d=16
 ·subst D;exact⟨i,V0 _ ⟨b.1,w⟩⟩
 rw[z7 D]
 by_cases E:d=17
 ·rw[C5 E]
  by_cases q:fs.length+1=32
  ·rw[C5 q];exact fail 6 (by decide)
  ·rw[z7 q]
   refine⟨i,λg p=>?_⟩
   rcases List.mem_append.1 p with h|h
   ·exact V0 {f with I1:=s} ⟨b.1,w⟩ g h
   ·rw[List.mem_singleton.1 h]
    refine⟨λy k=>?_,λy k=>by cases k⟩
    rcases List.mem_append.1 k with h|h
    ·exact m y h
    ·rw[(List.mem_replicate.1 h).2];exact M
 rw[z7 E]
 by_cases F:d=18
 ·rw[C5 F]
  cases Z:fs.getLast? with
  |none=>exact⟨a _ _ m,λg p=>by cases p⟩
  |some u=>
   refine⟨i,λg p=>?_⟩;have G:=r u (List.mem_of_getLast? Z)
   rcases List.mem_append.1 p with h|h
   ·exact r g (List.dropLast_subset _ h)
   ·rw[List.mem_singleton.1 h]
    refine⟨G.1,λy k=>?_⟩
    rcases List.mem_append.1 k with h|h
    ·exact G.2 y h
    ·rw[List.mem_singleton.1 h];exact a _ _ m
 rw[z7 F]
 by_cases H:d=19
 ·subst H;exact⟨a _ _ m,V0 _ ⟨b.1,w⟩⟩
 rw[z7 H]
 by_cases I:d=20
 ·rw[C5 I]
  split
  ·exact⟨i,V0 _ ⟨b.1,n _ (L _ _).1⟩⟩
  ·exact fail _ (L _ _).2
 rw[z7 I];cases e:yF d (args.getD 0 0) (args.getD 1 0)with
 |some y=>exact⟨i,V0 _ ⟨b.1,n _ (zdC (a _ _ m) e)⟩⟩
 |none=>exact fail 17 (by decide)
theorem zaf(b: ∀c∈P,yJ c.I9)(d: ∀f xs,qy (host f xs).1/\qy (host f xs).2): ∀(a:Nat)(M:Mc),McR M->McR (L5 P host a M).1
 |0,M,h=>by
  unfold L5
  split
  ·exact h
  ·exact h
 |a+1,M,h=>by
  unfold L5
  split
  ·exact h
  ·cases e:M.O2.getLast? with
   |none=>exact h
   |some f=>
    simp only;obtain⟨l,g⟩:=List.getLast?_eq_some_iff.1 e;have i:=XQ b d h.1 (fs:=M.O2.dropLast) (f:=f) (by rw[g,List.dropLast_concat,<-g];exact h.2)
    split
    ·exact i
    ·exact zaf b d a _ i
end
end Go.Proofs.YtalgmjmibamdfaaGreatDoor
namespace Go.Proofs.YtalgmjmibamdfaaGreatDoor
open Go.Proofs.Tryz
open Go.RowKit Tw
theorem JE(w:World)(n:Nat)(z:n<=100000): ∃c,(Instr.makeSlice 22 (.int .i64 (n:Int)) (.int .i64 (n:Int))).run prog w=.ok (.slice (some ⟨w.heap.size,0,none⟩) n n) c/\c.heap[w.heap.size]?=some (.cells (S5 (List.replicate n 0)) 3 (0,0))/\Below w.heap.size w c/\n<=maxLen:=by
 obtain⟨i,m,o,p,h⟩:=info_parts Zc;obtain⟨c,d,e,a⟩:=run_make_full (P:=prog) (w:=w) w.heap.size 22 3 i (.int .i64 0) 1 underlying22 m o p .i64 .i64 n (by rw[h];omega) (by unfold maxLen;omega) (x6 _);refine⟨c,d,?_,⟨a.os,a.tape,a.output,a.size,λk q=>a.block k q (by simp)⟩,by unfold maxLen;omega⟩
 rcases e.2 with⟨r,_⟩|⟨g,s,f,b,_,t,_,_,u,v⟩
 ·cases r
 ·injection b with b _ x
  injection b with b;injection b with b
  subst b x;rw[t];have y:f.toList=(madeCells (Value.int .i64 0).cells (n*1)).toList:=by rw[<-v,List.take_of_length_le (by simp[u])]
  have:f=S5 (List.replicate n 0):=by
   apply Array.toList_inj.1;rw[y];apply List.ext_getElem?;intro j;simp[madeCells,S5,Value.cells,List.getElem?_replicate]
   by_cases l:j<n
   ·rw[List.getElem?_range l,C5 l];simp[Nat.mod_one]
   ·simp[l]
  rw[this]
theorem zef(n k:Nat)(h:k<n):(List.replicate k (-1:Int)++List.replicate (n-k) 0).set k (-1)=List.replicate (k+1) (-1)++List.replicate (n-(k+1)) 0:=by
 apply List.ext_getElem?;intro j;simp only[List.getElem?_set,List.getElem?_append,List.getElem?_replicate,y7,List.length_replicate]
 by_cases e:k=j
 ·subst e;simp;omega
 ·by_cases a:j<k
  ·simp[e,a,show j<k+1 by omega]
  ·simp[e,a,show¬j<k+1 by omega]
   by_cases b:j<n
   ·rw[C5 (by omega),C5 (by omega)]
   ·rw[z7 (by omega),z7 (by omega)]
theorem Zh(L:List Cf)(main:Nat)(hP:Z3 L main)(j2:L.length<=16)(i:Nat)(f:Cf)(hf:L[i]?=some f)(h4:f.I9.length<=4000)(A:Option Addr)(cp:Nat)(w:World)(hF:L4 w (.slice A L.length cp) (L.map Cf.pf)):
 Calls prog 73 #[.agg #[.slice A L.length cp,.int .i64 main],.int .i64 i] w λe w'=>Below w.heap.size w w'/\ ∃v hs,e=.returned (.tuple #[v,.int .i64 0])/\xZ f.I9 hs/\qQ w' v hs:=by
 have c6:=hP.xQ f (B0 hf);obtain⟨os,c7⟩:=c6.start;have f0:0<f.I9.length:=(List.getElem?_eq_some_iff.1 c7).1;have j3:i<L.length:=(List.getElem?_eq_some_iff.1 hf).1;obtain⟨g,c,vo,hv,-,hg,u0,u1,u2,b4⟩:=hF.at (X9 hf);injection hv with j4 j5 j6
 clear j5;subst j4 j6;obtain⟨go,co,rfl,-,f1,f2⟩:=b4.at;simp only[Cf.pf,C0]at u0 u1 u2;have X:=zh (heap_alloc2_old w (.cells #[.slice (some ⟨g,0,none⟩) L.length cp,.int .i64 main] 26) (.cells #[.int .i64 f.params,.int .i64 f.vars,.slice (some ⟨go,0,none⟩) f.I9.length co] 40));have F:=zh (heap_alloc2_new w (.cells #[.slice (some ⟨g,0,none⟩) L.length cp,.int .i64 main] 26) (.cells #[.int .i64 f.params,.int .i64 f.vars,.slice (some ⟨go,0,none⟩) f.I9.length co] 40));have ba:=(x7 w.heap.size w).alloc (x6 _) (.cells #[.slice (some ⟨g,0,none⟩) L.length cp,.int .i64 main] 26);have HB:=zh (ba.alloc (by simp) (.cells #[.int .i64 f.params,.int .i64 f.vars,.slice (some ⟨go,0,none⟩) f.I9.length co] 40));have v0:=(ba.cell (p:=⟨g,i*3,none⟩) hg).trans u0;have v1:=(ba.cell (p:=⟨g,i*3+1,none⟩) hg).trans u1;have v2:=(ba.cell (p:=⟨g,i*3+2,none⟩) hg).trans u2;have i0:(0:Int)<=(i:Int):=by omega
 have i1:(i:Int)<(L.length:Int):=by omega
 have HF:=zh hF;have HP:=zh hP;have j7:=zh c6;have j8:=zh c7;have j9:=zh f2;have f3:=zh f1;clear hF hP c6 c7 hf ba u0 u1 u2 b4 f2 f1 hg j2 j3
 go_enter func73,ntmps73
 go_upto_region 2 with(fail)
 clear v0 v1 v2 i0 i1;generalize World.alloc _ _=w1 at X F HB|-
 obtain⟨bf,c8⟩: ∃b,w.heap.size+1=b:=⟨_,rfl⟩;rw[c8]at F;simp only[c8];clear c8;have q2:=x5 F.out 2;have k2:((f.I9.length:Int)==0)=false:=beq_eq_false_iff_ne.2 (by omega);obtain⟨wm,f4,b5,f5,-⟩:=JE w1 f.I9.length (by omega);have a9:=zh b5;have c9:=zh f5;clear b5 f5
 go_upto_region 5 with(fail)
 clear f4 q2 k2;obtain⟨t,O⟩: ∃b,w1.heap.size=b:=⟨_,rfl⟩;have d2:Hid (t=w1.heap.size):=zh O.symm;rw[O]at a9;simp only[O];clear O;have f6:S5 (List.replicate f.I9.length 0)=S5 (List.replicate 0 (-1)++List.replicate (f.I9.length-0) 0):=by simp
 rw[f6]at a9;clear f6
 go_wp2_with fail
 go_loopw[32] (λnv wr=> ∃k:Nat,k<=f.I9.length/\nv=.int .i64 k/\Hid (wr.heap[t]?=some (.cells (S5 (List.replicate k (-1)++List.replicate (f.I9.length-k) 0)) 3 (0,0)))/\Hid (Below t wm wr)) (λnv _=>f.I9.length-(intOf nv).toNat)
 case atStart=>exact⟨0,C6 _,rfl,a9,zh (x7 _ _)⟩
 case round=>
  clear a9;obtain⟨k,hk,rfl,B,s⟩:=hrel
  by_cases Y:k<f.I9.length
  ·have k0:(0:Int)<=(k:Int):=by omega
   have k1:(k:Int)<(f.I9.length:Int):=by omega
   have fz:=z6 B.out k;have hz:wr.cell? ⟨t,k,none⟩=some (.int .i64 0):=qD B.out (by simp[List.getElem?_append,List.getElem?_replicate];omega)
   go_wp2_with fail
   go_roundw
   case rel=>exact⟨k+1,Y,by go_num,zh (by have:=Zw B.out k (-1);rw[zef _ _ Y]at this;exact this),zh (K8 s.out (x6 _) _ _)⟩
   case measure=>simp[intOf];omega
  ·obtain rfl:k=f.I9.length:=by omega
   have e0:S5 (List.replicate f.I9.length (-1)++List.replicate (f.I9.length-f.I9.length) 0)=S5 (List.replicate f.I9.length (-1)):=by simp
   rw[e0]at B;have hz:wr.cell? ⟨t,0,none⟩=some (.int .i64 (-1)):=qD B.out (by rw[List.getElem?_replicate,C5 f0]);have fz:=z6 B.out 0;have l0:(0:Int)<(f.I9.length:Int):=by omega
   have b0:=zh (Zw B.out 0 0);have d3:=zh (K8 s.out (x6 _) 0 (.int .i64 0));clear e0 B s
   go_upto_region 11 with(fail)
   generalize World.setCell _ _ _=w2 at b0 d3|-
   clear hz fz l0;have C:=zh (World.ownsRow_lit (base:=w2.heap.size) (e:=3) (size:=1) w2 (S5 [0]) 1 (x6 _) (by decide) rfl);have HA:=zh ((x7 w2.heap.size w2).alloc (x6 _) (.cells (S5 [0]) 3));have e0:S5 [0]= #[.int .i64 0]:=rfl;have e1:(S5 [0]).toList=iC [0]:=rfl;rw[e1]at C;rw[e0]at C HA;have P:Hid (t<w2.heap.size):=zh (I0 b0.out);clear e0 e1
   go_wp2_with fail
   generalize World.alloc _ _=w3 at C HA|-
   generalize w2.heap.size=U at C HA P|-
   have f7:=zh ((HA.out.block _ P.out).trans b0.out);have f8:=zh (d3.out.trans (HA.out.mono (G3 P.out)));have V:Hid (Wk f.I9 ((List.replicate f.I9.length (-1)).set 0 0) [0]):=zh (Wk.first j8.out);have b6:((List.replicate f.I9.length (-1)).set 0 0).count (-1)+1=f.I9.length:=by
    have:=jY (hs:=List.replicate f.I9.length (-1)) (k:=0) (n:=0) (by rw[List.getElem?_replicate,C5 f0]);rw[List.count_replicate_self]at this;exact this
   clear HA b0 d3
   go_loopg [9] (f.I9.length+1) (λgk tv wr=> ∃(hs td:List Int)(At:Option Addr)(ct:Nat),tv=.slice At td.length ct/\hs.count (-1)+td.length<=gk/\hs.count (-1)+td.length<=4000/\Hid (wr.heap[t]?=some (.cells (S5 hs) 3 (0,0)))/\Hid (wr.ownsRow U 3 1 (.slice At td.length ct) td.length (iC td))/\Hid (Wk f.I9 hs td)/\Hid (Below t wm wr)/\Hid (U<=wr.heap.size))
   case atStart=>exact⟨_,[0],_,_,rfl,by simp;omega,by simp;omega,f7,C,V,f8,zh (G3 (C.out.lt U rfl).2)⟩
   case round=>
    clear f7 C V f8 b6;obtain⟨hs,td,At,ct,rfl,hm,f9,B,C,V,s,k3⟩:=hrel
    rcases List.eq_nil_or_concat td with rfl|⟨E,a,e⟩
    ·go_wp2_with fail
     go_ret2;have O:=d2.out;exact⟨HB.out.trans ((c9.out.trans (by rw[O]at s;exact s.out)).mono HB.out.size),.slice (some ⟨t,0,none⟩) f.I9.length f.I9.length,hs,rfl,V.out.end,t,f.I9.length,by rw[V.out.ok.1],by rw[V.out.ok.1];exact x6 _,B.out⟩
    ·rw[List.concat_eq_append]at e
     subst e;obtain⟨k,rfl,v,b1,J⟩:=V.out.YN a (by simp);have m3:k<hs.length:=(List.getElem?_eq_some_iff.1 b1).1;have g0:hs.length=f.I9.length:=V.out.ok.1;obtain⟨⟨d,x⟩,n,hc,k4⟩: ∃o n,f.I9[k]?=some (o,n)/\v=(n:Nat):=by
      rcases V.out.ok.2 k v b1 with h|h
      ·exact G5 h J
      ·exact h
     subst k4;obtain⟨o',n',Z,d4⟩:=j7.out.J7 k (C6 _) (by omega);obtain⟨rfl,rfl⟩:(d,x)=o'/\n=n':=by rw[hc]at Z;injection Z with Z;injection Z with e1 e2;exact⟨e1,e2⟩
     obtain⟨o0,o1⟩:=j9.out k (d,x) (by show(f.I9.map Prod.fst)[k]?=_;rw[F6,hc];rfl);have G:Hid (Below w1.heap.size w1 wr):=zh (c9.out.trans (by have:=d2.out;rw[this]at s;exact s.out));have K:Hid (Below w.heap.size w wr):=zh (HB.out.trans (G.out.mono HB.out.size));replace o0:=(K.out.cell (p:=⟨go,k*2,none⟩) f3.out).trans o0;replace o1:=(K.out.cell (p:=⟨go,k*2+1,none⟩) f3.out).trans o1;simp only at o0 o1;obtain⟨m,Q⟩: ∃m,E.length=m:=⟨_,rfl⟩;have k5:(E++[(k:Int)]).length=m+1:=by simp[Q]
     rw[k5]at C hm f9|-
     obtain⟨gt,rfl⟩:=qP C.out (Nat.succ_pos _);have t0:wr.cell? ⟨gt,m,none⟩=some (.int .i64 (k:Int)):=by
      rw[C.out.cellAt m (by omega)];simp[iC,<-Q]
     have h0:=qD B.out b1;have e1:IntKind.i64.wrap ((m:Int)+1-1)=(m:Int):=by rw[show(m:Int)+1-1=m by omega];exact IntWalk.i64_in _ (by omega)
     have i0:(0:Int)<=(m:Int):=by omega
     have i1:(m:Int)<(m:Int)+1:=by omega
     have i2:(0:Int)<(m:Int)+1:=by omega
     have j0:(0:Int)<=(k:Int):=by omega
     have j1:(k:Int)<(f.I9.length:Int):=by omega
     have g1:=zh (zG C.out m (by omega));have HC:=zh hc;have b7:=zh d4;have q2:wr.cell? ⟨bf,2,none⟩=some (.slice (some ⟨go,0,none⟩) f.I9.length co):=(G.out.cell (p:=⟨bf,2,none⟩) (I0 F.out)).trans (x5 F.out 2);have k6:m<=ct:=by have:=(O3 C.out).1;omega
     have M:=zh (x9 wr (.cells #[.int .i64 d,.int .i64 x] 74));have H:=zh ((x7 wr.heap.size wr).alloc (x6 _) (.cells #[.int .i64 d,.int .i64 x] 74));clear b1 J Z g0
     go_upto_region 16 with(fail)
     clear t0 h0 e1 i0 i1 i2 q2 o0 o1 k6;generalize World.alloc _ _=wo at M H|-
     generalize g2:wr.heap.size=bo at M|-
     have m4:=zh g2;clear g2;replace G:=zh (G.out.trans (H.out.mono G.out.size));have d5:=zh ((H.out.block _ (I0 B.out)).trans B.out);have g3:=zh (K1 g1.out H.out);replace K:=zh (K.out.trans (H.out.mono K.out.size));have b8:qq (L.map Cf.pf).length f.vars f.I9.length (d,x):=by
      have:=b7.out.1;rw[C0]at this|-
      exact this
     have TC:=zh (Jf (L.map Cf.pf) (some ⟨g,0,none⟩) cp main f.vars f.I9.length d x wo b8 (by rw[C0];exact HF.out.I5 (.of K.out)));rw[C0]at TC;have p0:=(G.out.cell (p:=⟨w.heap.size,0,none⟩) (I0 X.out)).trans (x5 X.out 0);have p1:=(G.out.cell (p:=⟨w.heap.size,1,none⟩) (I0 X.out)).trans (x5 X.out 1);have d0:=x5 M.out 0;have d1:=x5 M.out 1
     go_wp2_with fail
     refine TC.out.mono ?_;rintro e w4 ⟨rfl,W⟩;obtain⟨a0,g4,a1,I⟩:=b7.out;have d6:=qY L;obtain⟨po,b2⟩: ∃z,I6 ((L.map Cf.pf).map Pf.params) (d,x)=z:=⟨_,rfl⟩;obtain⟨pu,d7⟩: ∃z,J9 (d,x)=z:=⟨_,rfl⟩;rw[<-d6,b2]at g4 a1 I;rw[d7]at a1 I;rw[b2,d7];have m5:n<=512:=by
      have:=qi (ps:=(L.map Cf.pf).map Pf.params) (by rw[d6];intro y hy;obtain⟨z,hz,rfl⟩:=List.mem_map.1 hy;exact(HP.out.xQ z hz).params) (d,x);rw[b2]at this;omega
     obtain⟨nn,k7⟩: ∃z,n-po+pu=z:=⟨_,rfl⟩;rw[k7]at a1 I;have g6:d=15\/d=16->0<=x:=λh=>(a0.2.2.1 (by show d≠1;omega)).1;have k8:=zh I;have k9:=zh g6;clear b2 d7 d6 a0 b8 I g6 TC p0 p1 d0 d1;have R:=zh ((W.block _ (I0 d5.out)).trans d5.out);have d8:=zh (K1 g3.out W);have g7:=zh ((W.block _ (I0 M.out)).trans M.out);have g8:Hid (Below t wm w4):=zh (s.out.trans ((H.out.trans (W.mono H.out.size)).mono (G3 (I0 B.out))));have l1:Hid (wo.heap.size<=w4.heap.size):=zh W.size;clear W B d5 C g3 g1 M s G K;have h0:=qD R.out (by
      show hs[k]?=some (n:Int);obtain⟨k',e,v,D,h2⟩:=V.out.YN (k:Int) (by simp);obtain rfl:k=k':=by omega
      rcases V.out.ok.2 k v D with h|⟨o,y,h3,h4⟩
      ·exact G5 h h2
      ·rw[HC.out]at h3;injection h3 with h3;injection h3 with _ h3;subst h3;rw[D,h4])
     have d0:=x5 g7.out 0;have d1:=x5 g7.out 1;have e1:IntKind.i64.wrap ((n:Int)-(po:Int))=(n:Int)-(po:Int):=IntWalk.i64_in _ (by omega);have e2:IntKind.i64.wrap ((n:Int)-(po:Int)+(pu:Int))=(n:Int)-(po:Int)+(pu:Int):=IntWalk.i64_in _ (by omega);have e3:(n:Int)-(po:Int)+(pu:Int)=(nn:Int):=by omega
     have t1: ¬((n:Int)<(po:Int)):=by omega
     have t2: ¬((256:Int)<(nn:Int)):=by omega
     have WC:=zh (zf6 k d x w4 (by omega) k9.out)
     go_wp2_with fail
     refine WC.out.mono ?_;rintro e w5 ⟨W,A5,c5,rfl,d9⟩;obtain⟨S,b3⟩: ∃z,(K2 k (d,x)).map Int.ofNat=z:=⟨_,rfl⟩;rw[b3]at d9|-
     have b9:=zh b3;have h5:=zh ((W.block _ (I0 R.out)).trans R.out);have e4:=zh (K1 d8.out W);have c0:Hid (U<=w5.heap.size):=zh (B5 k3.out (B5 H.out.size (B5 l1.out W.size)));have h6:Hid (Below t wm w5):=zh (g8.out.trans (W.mono (G3 (I0 R.out))));have h7:Hid (t<w4.heap.size/\gt<w4.heap.size):=zh ⟨I0 R.out,(d8.out.lt gt rfl).2⟩;have h8:Hid (J8 w5 (λg=>w4.heap.size<=g/\(Value.slice (some ⟨gt,0,none⟩) E.length ct).ownBlock≠some g) (.slice A5 S.length c5) S):=zh (d9.I5 λg D h2=>⟨⟨D,λe=>by injection e with e;have:=h7.out.2;simp at e;omega⟩,h2,rfl⟩);have h9:Hid (Wl f.I9 k 0 S hs E):=zh V.out.take;rw[<-Q]at e4;rw[<-Q];have i3:Hid (w5.ownsRow U 3 1 (.slice (some ⟨gt,0,none⟩) E.length ct) E.length (iC E)):=zh (by
      have:=e4.out;simp only[iC,List.map_append,Nat.mul_one]at this|-
      rw[List.take_left' (by simp)]at this;exact this)
     rw[<-Q]at hm f9;have m6:S.length<=2:=by
      rw[<-b3,C0];unfold K2
      split
      ·simp
      split
      ·simp
      split<;>simp
     clear W d9 b3 R d8 g8 WC h0 d0 d1 e1 e2 e3 t1 t2 e4
     go_wp2_with fail
     obtain⟨wa,rfl⟩: ∃wo:World,wo=wr:=⟨_,rfl⟩
     go_loopw[9,89] (λtv iv wr=> ∃(q:Nat)(u l:List Int)(A1:Option Addr)(c1:Nat),q<=S.length/\tv=.slice A1 l.length c1/\iv=.int .i64 q/\u.count (-1)+l.length<=hs.count (-1)+E.length/\Hid (wr.heap[t]?=some (.cells (S5 u) 3 (0,0)))/\Hid (wr.ownsRow U 3 1 (.slice A1 l.length c1) l.length (iC l))/\
      Hid (J8 wr (λg=>w4.heap.size<=g/\(Value.slice A1 l.length c1).ownBlock≠some g) (.slice A5 S.length c5) S)/\Hid (Wl f.I9 k q S u l)/\Hid (Below t wm wr)/\Hid (U<=wr.heap.size)) (λ_ iv _=>S.length-(intOf iv).toNat)
     case atStart=>exact⟨0,hs,E,_,_,C6 _,by rw[Q],rfl,x6 _,h5,i3,h8,h9,h6,c0⟩
     case round=>
      clear h5 i3 h8 h9 h6 c0;obtain⟨q,u,l,A1,c1,hq,rfl,rfl,l2,B,C,HI,T,s,a2⟩:=hrel
      by_cases Y:q<S.length
      ·obtain⟨y,hy⟩: ∃y,S[q]?=some y:=⟨_,x8 Y⟩
       obtain⟨j,rfl,e6⟩: ∃j:Nat,y=j/\j∈K2 k (d,x):=by
        have h:=hy;rw[<-b9.out,F6]at h;obtain⟨j,hj,rfl⟩:=Option.map_eq_some_iff.1 h;exact⟨j,rfl,B0 hj⟩
       obtain⟨oj,a3⟩:=k8.out j e6;have l3:j<f.I9.length:=(List.getElem?_eq_some_iff.1 a3).1;have c2:j<u.length:=by rw[T.out.ok.1];exact l3
       obtain⟨v,hv⟩: ∃v,u[j]?=some v:=⟨_,x8 c2⟩;obtain⟨g5,o5,e5,m7,l4⟩:=HI.out.at q _ hy;subst e5;have i0:(0:Int)<=(q:Int):=by omega
       have i1:(q:Int)<(S.length:Int):=by omega
       have j0:(0:Int)<=(j:Int):=by omega
       have j1:(j:Int)<(f.I9.length:Int):=by omega
       have jn:((j:Int)==(f.I9.length:Int))=false:=beq_eq_false_iff_ne.2 (by omega);have q2:wr.cell? ⟨bf,2,none⟩=some (.slice (some ⟨go,0,none⟩) f.I9.length co):=by
        have D:=s.out.cell (p:=⟨bf,2,none⟩) (by have:=I0 F.out;have:=d2.out;show bf<t;omega);exact D.trans ((c9.out.cell (p:=⟨bf,2,none⟩) (I0 F.out)).trans (x5 F.out 2))
       have l5:=qD B.out hv;have e7:=T.out.ok.2 j v hv
       by_cases J:v= -1
       ·subst J
        have fz:=z6 B.out j;have a4:=zh (Zw B.out j nn);have gs:=I7 wr t j (.int .i64 nn);have i4:=zh (C.out.kept gs (by
         cases e:(Value.slice A1 l.length c1).ownBlock with
         |none=>exact .inl rfl
         |some b=>exact .inr λe2=>by injection e2 with e2;have:=(C.out.lt b e).1;have:=P.out;omega))
        have i5:=zh (HI.out.I5 (F':=λg=>w4.heap.size<=g/\(Value.slice A1 l.length c1).ownBlock≠some g) λg D h2=>⟨D,by simpa using h2,gs.block g h2 λe=>by injection e with e;have:=h7.out.1;omega⟩);have i6:=zh (K8 s.out (x6 _) j (.int .i64 nn));have b6:=jY (n:=nn) hv;have a5:Hid (U<=(wr.setCell ⟨t,j,none⟩ (.int .i64 nn)).heap.size):=zh (B5 a2.out gs.size);have e8:=zh (T.out.zi3 hy a3);clear e6 a3 hv e7 B HI s C T gs hy c2 hq
        go_upto_region 29 with(fail)
        generalize World.setCell _ _ _=a6 at a4 i4 i5 i6 a5|-
        clear fz l5 l4 q2 jn i0 i1 j0 j1;have N:=zh ((x7 a6.heap.size a6).alloc (x6 _) (.cells #[.int .i64 (j:Int)] 3));have i7:=zh (K1 i4.out N.out)
        go_upto_region 30 with(at_builtin;go_must(refine L6 Zd rfl _ _ rfl U (.slice A1 l.length c1) l.length (iC l) rfl i7.out a6.heap.size 1 #[.int .i64 (j:Int)] rfl (x9 a6 _) rfl (by simp[Value.oneCell']) (by omega) (by have D:=a5.out;simp;omega) ?_);intro g9 c3 w9 a7 r c4 i8)
        have e9:t<(a6.alloc (.cells #[.int .i64 (j:Int)] 3)).heap.size:=y5 (I0 a4.out) N.out.size;have a8: ∀b,(Value.slice A1 l.length c1).ownBlock=some b->U<=b:=λb e=>(i7.out.lt b e).1;have l6:Hid (w9.heap[t]?=some (.cells (S5 (u.set j nn)) 3 (0,0))):=zh ((r.block t e9 λe=>by have:=a8 t e.symm;have:=P.out;omega).trans ((N.out.block t (I0 a4.out)).trans a4.out));have l7:Hid (w9.ownsRow U 3 1 (.slice (some ⟨g9,0,none⟩) (l++[(j:Int)]).length c3) (l++[(j:Int)]).length (iC (l++[(j:Int)]))):=zh (by simpa[iC]using a7);have l8:=zh (i5.out.I5 (w':=w9) (F':=λg=>w4.heap.size<=g/\(Value.slice (some ⟨g9,0,none⟩) (l++[(j:Int)]).length c3).ownBlock≠some g) λg D h2=>by
         have h3:=y5 h2 N.out.size;refine⟨⟨D.1,λe=>?_⟩,y5 h3 r.size,(r.block g h3 λe=>D.2 e.symm).trans (N.out.block g h2)⟩;injection e with e
         have e:g9=g:=e;subst e
         rcases c4 with h|h
         ·exact D.2 h
         ·simp at h;omega)
        have l9:Hid (Below t wm w9):=zh ((i6.out.trans (N.out.mono (G3 (I0 a4.out)))).grown r (G3 e9) λb e=>by have:=a8 b e;have:=P.out;omega);have i9:Hid (U<=w9.heap.size):=zh (B5 a5.out (B5 N.out.size r.size));clear a7 r c4 i8 e9 a8
        go_wp2_with fail
        go_roundw
        case rel=>exact⟨q+1,_,_,_,_,Y,by simp,by go_num,by simp;omega,l6,l7,l8,e8,l9,i9⟩
        case measure=>simp[intOf];omega
       ·obtain rfl:v=(nn:Int):=by
         rcases e7 with h|⟨o,y,D,h2⟩
         ·exact G5 h J
         ·rw[a3]at D;injection D with D;injection D with _ D;subst D;exact h2
        have e8:=zh (T.out.zhU hy ⟨_,hv,J⟩);clear e6 a3 hv J e7 hy
        go_wp2_with fail
        go_roundw
        case rel=>exact⟨q+1,u,l,A1,c1,by omega,rfl,by go_num,l2,B,C,HI,e8,s,a2⟩
        case measure=>simp[intOf];omega
      ·obtain rfl:q=S.length:=by omega
       have m0:Hid (Wk f.I9 u l):=zh (by have:=T.out;rw[<-b9.out]at this;exact this.done HC.out)
       go_wp2_with fail
       go_roundg (u.count (-1)+l.length)
       case measure=>omega
       case rel=>exact⟨u,l,A1,c1,rfl,x6 _,by omega,B,C,m0,s,a2⟩
end Go.Proofs.YtalgmjmibamdfaaGreatDoor
