/- Merged. -/
import Derived.Test.YtmngofgminlloaaGreatDoorCT10
set_option linter.all false
set_option maxHeartbeats 16000000
set_option maxRecDepth 100000
namespace Go.Proofs.YtmngofgminlloaaGreatDoor
open Go.Proofs.Tryz
open Go.RowKit Tw
structure yf(w0 w:World)(rb b0 b1:Nat)(v:Value)(ws:List Wd)(i en:Nat)(u0 u1 u2 u3 u4:Value):Prop where
 rd:Rq w rb v ws i en
 zD:w.heap[b0]?=some (.cells #[.int .i64 0,.int .i64 0,.string ⟨#[]⟩,.slice none 0 0,.int .i64 0] 186 (0,0))
 ex:w.heap[b1]?=some (.cells #[u0,u1,u2,u3,u4] 186 (0,0))
 gr:w0.grownBy w (some rb)
 gl:O4 w
 r0:10<rb
 z0:rb<w0.heap.size
 z1:w0.heap.size<=b0
 z2:b0<b1
 z3:b1<w.heap.size
section
variable {w0 w w':World}{rb b0 b1:Nat}{v:Value}{ws:List Wd}{i en:Nat}{u0 u1 u2 u3 u4:Value}
theorem yf.L9{b:Nat}(h:yf w0 w rb b0 b1 v ws i en u0 u1 u2 u3 u4)(d:Rq w' rb v ws b en)(a:w.grownBy w' (some rb)):yf w0 w' rb b0 b1 v ws b en u0 u1 u2 u3 u4:=by
 have e:=h.z0;have f:=h.z1;have g:=h.z2;have c:=h.z3;exact⟨d,(a.block b0 (by omega) (by simp;omega)).trans h.zD,(a.block b1 c (by simp;omega)).trans h.ex,I4 h.gr a,h.gl.of a h.r0,h.r0,e,f,g,A7 c a.size⟩
theorem yf.below(h:yf w0 w rb b0 b1 v ws i en u0 u1 u2 u3 u4)(a:Below w.heap.size w w'):yf w0 w' rb b0 b1 v ws i en u0 u1 u2 u3 u4:=h.L9 (h.rd.K7 a) (I7 a _)
theorem yf.set{b c d e v4}(h:yf w0 w rb b0 b1 v ws i en u0 u1 u2 u3 u4)(a:w.grownBy w' (some b1))(f:w'.heap[b1]?=some (.cells #[b,c,d,e,v4] 186 (0,0))):yf w0 w' rb b0 b1 v ws i en b c d e v4:=by
 have j:=h.z0;have k:=h.z1;have l:=h.z2;have m:=h.z3;have o:=h.gr.size;exact⟨h.rd.grown a (by omega),(a.block b0 (by omega) (by simp;omega)).trans h.zD,f,P5 h.gr a (by omega),h.gl.Z3 a.size (λg n=>a.block g (by have:=h.r0;omega) (by simp;have:=h.r0;omega)),h.r0,j,k,l,A7 m a.size⟩
theorem yf.Zf{k:Nat}(h:yf w0 w rb b0 b1 v ws i en u0 u1 u2 u3 u4)(j:b1<k)(a:w.grownBy w' (some k)):yf w0 w' rb b0 b1 v ws i en u0 u1 u2 u3 u4:=by
 have b:=h.z0;have c:=h.z1;have d:=h.z2;have e:=h.z3;have l:=h.gr.size;exact⟨h.rd.grown a (by omega),(a.block b0 (by omega) (by simp;omega)).trans h.zD,(a.block b1 (by omega) (by simp;omega)).trans h.ex,P5 h.gr a (by omega),h.gl.Z3 a.size (λg f=>a.block g (by have:=h.r0;omega) (by simp;have:=h.r0;omega)),h.r0,b,c,d,A7 e a.size⟩
theorem yf.s0(h:yf w0 w rb b0 b1 v ws i en u0 u1 u2 u3 u4)(x):yf w0 (w.setCell ⟨b1,0,none⟩ x) rb b0 b1 v ws i en x u1 u2 u3 u4:=h.set (I8 _ _ _ _) (by simpa using A6 w b1 0 _ _ x h.ex)
theorem yf.s1(h:yf w0 w rb b0 b1 v ws i en u0 u1 u2 u3 u4)(x):yf w0 (w.setCell ⟨b1,1,none⟩ x) rb b0 b1 v ws i en u0 x u2 u3 u4:=h.set (I8 _ _ _ _) (by simpa using A6 w b1 1 _ _ x h.ex)
theorem yf.s2(h:yf w0 w rb b0 b1 v ws i en u0 u1 u2 u3 u4)(x):yf w0 (w.setCell ⟨b1,2,none⟩ x) rb b0 b1 v ws i en u0 u1 x u3 u4:=h.set (I8 _ _ _ _) (by simpa using A6 w b1 2 _ _ x h.ex)
theorem yf.s3(h:yf w0 w rb b0 b1 v ws i en u0 u1 u2 u3 u4)(x):yf w0 (w.setCell ⟨b1,3,none⟩ x) rb b0 b1 v ws i en u0 u1 u2 x u4:=h.set (I8 _ _ _ _) (by simpa using A6 w b1 3 _ _ x h.ex)
theorem yf.s4(h:yf w0 w rb b0 b1 v ws i en u0 u1 u2 u3 u4)(x):yf w0 (w.setCell ⟨b1,4,none⟩ x) rb b0 b1 v ws i en u0 u1 u2 u3 x:=h.set (I8 _ _ _ _) (by simpa using A6 w b1 4 _ _ x h.ex)
theorem yf.start(b:Rq w rb v ws i en)(c:O4 w)(d:10<rb)(e:w0.grownBy w (some rb))(f:rb<w0.heap.size)(g:w0.heap.size<=b0)(a:b0<w.heap.size)
 (h:w.heap[b0]?=some (.cells #[.int .i64 0,.int .i64 0,.string ⟨#[]⟩,.slice none 0 0,.int .i64 0] 186 (0,0))) (u0 u1 u2 u3 u4:Value):
 yf w0 (w.alloc (.cells #[u0,u1,u2,u3,u4] 186)) rb b0 w.heap.size v ws i en u0 u1 u2 u3 u4:=
 ⟨b.K7 ((x8 _ _).alloc (x7 _) _),(C4 w _ a).trans h,A5 w _,I4 e (I7 ((x8 _ _).alloc (x7 _) _) _),c.to ((x8 _ _).alloc (x7 _) _),d,f,g,a,by simp⟩
end
def ExR(w:World)(rb:Nat)(v:Value)(ws:List Wd)(en:Nat)(r:Re)(e:Ending)(w':World):Prop:=
 match r with
 |.ex x j=> ∃A c,e=.returned (.agg #[.int .i64 x.I9,.int .i64 x.n,.string x.K0,.slice A x.args.length c,.int .i64 x.pos])/\J7 w' (λg=>w.heap.size<=g) (.slice A x.args.length c) x.args/\Rq w' rb v ws j en/\w.grownBy w' (some rb)
 |.J9 j=>e=Y3 ws en j/\w.grownBy w' (some rb)
 |.xH _ _=>False
def ArR(w:World)(rb:Nat)(v:Value)(ws:List Wd)(en:Nat)(r:Re)(e:Ending)(w':World):Prop:=
 match r with
 |.xH l j=> ∃A c,e=.returned (.slice A l.length c)/\J7 w' (λg=>w.heap.size<=g) (.slice A l.length c) l/\Rq w' rb v ws j en/\w.grownBy w' (some rb)
 |.J9 j=>e=Y3 ws en j/\w.grownBy w' (some rb)
 |.ex _ _=>False
def Xx(rb:Nat)(v:Value)(ws:List Wd)(en m i:Nat):Prop:=
 ∀r,Dc ws en (.lvl m i) r-> ∀w,Rq w rb v ws i en->O4 w->Calls prog 224 #[.pointer (some ⟨rb,0,none⟩),.int .i64 m] w λe w'=>ExR w rb v ws en r e w'
def UnC(rb:Nat)(v:Value)(ws:List Wd)(en i:Nat):Prop:=
 ∀r,Dc ws en (.zk i) r-> ∀w,Rq w rb v ws i en->O4 w->Calls prog 239 #[.pointer (some ⟨rb,0,none⟩)] w λe w'=>ExR w rb v ws en r e w'
def ze3(rb:Nat)(v:Value)(ws:List Wd)(en i:Nat):Prop:=
 ∀r,Dc ws en (.zk i) r->K8 ws i≠1->K8 ws i≠2-> ∀w,Rq w rb v ws i en->O4 w->Calls prog 245 #[.pointer (some ⟨rb,0,none⟩)] w λe w'=>ExR w rb v ws en r e w'
def zeO(rb:Nat)(v:Value)(ws:List Wd)(en i:Nat):Prop:=
 ∀r,Dc ws en (.args 0 i) r-> ∀w,Rq w rb v ws i en->O4 w->Calls prog 248 #[.pointer (some ⟨rb,0,none⟩)] w λe w'=>ArR w rb v ws en r e w'
theorem R1{s:ByteArray}(h:s.data.toList≠[]):s.toList≠[]:=by rw[C7];exact h
theorem yf.qi{w0 w:World}{rb b0 b1:Nat}{v:Value}{ws:List Wd}{b en:Nat}{x:Ex}{A:Option Addr}{c:Nat}{F:Nat->Prop}
 (h:yf w0 w rb b0 b1 v ws b en (.int .i64 x.I9) (.int .i64 x.n) (.string x.K0) (.slice A x.args.length c) (.int .i64 x.pos)) (e:J7 w F (.slice A x.args.length c) x.args) (d: ∀g,F g->w0.heap.size<=g/\g≠b0):
 ExR w0 rb v ws en (.ex x b) (.returned (.agg #[.int .i64 x.I9,.int .i64 x.n,.string x.K0,.slice A x.args.length c,.int .i64 x.pos]))
  (((((w.setCell ⟨b0,0,none⟩ (.int .i64 x.I9)).setCell ⟨b0,1,none⟩ (.int .i64 x.n)).setCell ⟨b0,2,none⟩ (.string x.K0)).setCell ⟨b0,3,none⟩ (.slice A x.args.length c)).setCell ⟨b0,4,none⟩ (.int .i64 x.pos)):=by
 have a:=xB w b0 (.int .i64 x.I9) (.int .i64 x.n) (.string x.K0) (.slice A x.args.length c) (.int .i64 x.pos);have j:=h.z0;have f:=h.z1;exact⟨A,c,rfl,e.grown a (λg h=>(d g h).2) (λg h=>(d g h).1),h.rd.grown a (by omega),P5 h.gr a f⟩
theorem zce(s:ByteArray)(hs:s.size<=18)(w)(a:O4 w):Calls prog 247 #[.string s] w λe w'=>e=.returned (.int .i64 (jv s))/\Below w.heap.size w w':=by
 have c:=qh (zii s hs w a);clear hs a
 go_enter func247,ntmps247
 go_wp2_with fail
 refine c.out.mono ?_;rintro e f ⟨⟨g,rfl⟩,b⟩;have d:=qh b;clear b
 go_wp2_with fail
 go_ret;exact⟨rfl,d.out⟩
theorem zk1{w}{rb:Nat}{v ws}{i en:Nat}{t:Int}(h:Rq w rb v ws i en)(c:jV ws i=.ok t):
 Calls prog 140 #[.pointer (some ⟨rb,0,none⟩)] w λe w'=>e=.returned (.int .i64 t)/\Rq w' rb v ws (i+2) en/\w.grownBy w' (some rb):=by
 unfold jV at c
 by_cases j:J3 ws i jX=true
 ·rw[C8 j]at c
  have p:=qh (jH jX (R1 (by decide)) h j);obtain⟨n,d⟩: ∃t,J3 ws (i+1) zaf=t:=⟨_,rfl⟩;have q:=qh d;rw[d]at c;have o:=qh c;clear h j c d
  go_enter func140,ntmps140
  go_wp2_with fail
  refine p.out.mono ?_;rintro e x ⟨rfl,a,b⟩;have r:=qh a;have s:=qh b;clear a b
  go_wp2_with fail
  refine(Z5 zaf (R1 (by decide)) n r.out q.out).mono ?_;rintro e y ⟨rfl,a,b⟩;have f:=qh a;have g:=qh (I4 s.out b);clear a b;cases n with
  |true=>
   obtain rfl:(1:Int)=t:=by have:=o.out;simpa using this
   go_wp2_with fail
   go_ret;exact⟨rfl,by simpa using f.out,g.out⟩
  |false=>
   have k:J3 ws (i+1) Xt=true/\(2:Int)=t:=by
    have:=o.out;simp only[C2,if_false]at this
    split at this
    ·rename_i h;exact⟨h,by injection this⟩
    ·cases this
   obtain⟨k,rfl⟩:=k;have u:=qh k;clear k;simp only[C2,if_false]at f
   go_wp2_with fail
   refine(jH Xt (R1 (by decide)) f.out u.out).mono ?_;rintro e z ⟨rfl,a,b⟩;have l:=qh a;have m:=qh (I4 g.out b);clear a b
   go_wp2_with fail
   go_ret;exact⟨rfl,l.out,m.out⟩
 ·rw[B5 j]at c;cases c
theorem zia{w}{rb:Nat}{v ws}{i en j:Nat}(h:Rq w rb v ws i en)(b:jV ws i=.J9 j):
 Calls prog 140 #[.pointer (some ⟨rb,0,none⟩)] w λe w'=>e=Y3 ws en j/\w.grownBy w' (some rb):=by
 unfold jV at b;obtain⟨p,a⟩: ∃t,J3 ws i jX=t:=⟨_,rfl⟩;cases p with
 |false=>
  rw[B5 (by rw[a];decide)]at b;obtain rfl:i=j:=by injection b
  have l:=qh (jl jX (R1 (by decide)) h a);clear h b a
  go_enter func140,ntmps140
  go_wp2_with fail
  refine l.out.mono ?_;rintro e q ⟨rfl,c⟩;have m:=qh c;clear c;unfold Y3
  go_wp2_with fail
  exact⟨rfl,rfl,m.out⟩
 |true=>
  rw[C8 a]at b;have l:=qh (jH jX (R1 (by decide)) h a);have d:J3 ws (i+1) zaf=false/\J3 ws (i+1) Xt=false/\i+1=j:=by
   split at b
   ·cases b
   ·rename_i d
    split at b
    ·cases b
    ·rename_i k
     exact⟨by simpa using d,by simpa using k,by injection b⟩
  obtain⟨d,k,rfl⟩:=d;have r:=qh d;have s:=qh k;clear h b a d k
  go_enter func140,ntmps140
  go_wp2_with fail
  refine l.out.mono ?_;rintro e q ⟨rfl,f,c⟩;have u:=qh f;have m:=qh c;clear f c
  go_wp2_with fail
  refine(Z5 zaf (R1 (by decide)) false u.out r.out).mono ?_;rintro e x ⟨rfl,f,c⟩;have g:=qh f;have n:=qh (I4 m.out c);clear f c;simp only[C2,if_false]at g
  go_wp2_with fail
  refine(jl Xt (R1 (by decide)) g.out s.out).mono ?_;rintro e y ⟨rfl,c⟩;have o:=qh (I4 n.out c);clear c;unfold Y3
  go_wp2_with fail
  exact⟨rfl,rfl,o.out⟩
def U9{s:ByteArray}{l}(h:s.data.toList=l):s=⟨l.toArray⟩:=by
 cases s with|mk d=>subst h;simp
def zbl(s:ByteArray)(w):Calls prog 162 #[.string s] w λe w'=>e=.returned (.int .i64 (lv s.data.toList))/\w=w':=by
 by_cases a:s.data.toList=[124,124]
 ·have e:=U9 a
  subst e;clear a
  go_enter func162,ntmps162
  go_wp2_with fail
  go_ret;exact⟨rfl,rfl⟩
 by_cases b:s.data.toList=[38,38]
 ·have e:=U9 b
  subst e;clear a b
  go_enter func162,ntmps162
  go_wp2_with fail
  go_ret;exact⟨rfl,rfl⟩
 by_cases c:s.data.toList=[60]
 ·have e:=U9 c
  subst e;clear a b c
  go_enter func162,ntmps162
  go_wp2_with fail
  go_ret;exact⟨rfl,rfl⟩
 by_cases f:s.data.toList=[60,61]
 ·have e:=U9 f
  subst e;clear a b c f
  go_enter func162,ntmps162
  go_wp2_with fail
  go_ret;exact⟨rfl,rfl⟩
 by_cases g:s.data.toList=[62]
 ·have e:=U9 g
  subst e;clear a b c f g
  go_enter func162,ntmps162
  go_wp2_with fail
  go_ret;exact⟨rfl,rfl⟩
 by_cases i:s.data.toList=[62,61]
 ·have e:=U9 i
  subst e;clear a b c f g i
  go_enter func162,ntmps162
  go_wp2_with fail
  go_ret;exact⟨rfl,rfl⟩
 by_cases j:s.data.toList=[61,61]
 ·have e:=U9 j
  subst e;clear a b c f g i j
  go_enter func162,ntmps162
  go_wp2_with fail
  go_ret;exact⟨rfl,rfl⟩
 by_cases l:s.data.toList=[33,61]
 ·have e:=U9 l
  subst e;clear a b c f g i j l
  go_enter func162,ntmps162
  go_wp2_with fail
  go_ret;exact⟨rfl,rfl⟩
 by_cases m:s.data.toList=[43]
 ·have e:=U9 m
  subst e;clear a b c f g i j l m
  go_enter func162,ntmps162
  go_wp2_with fail
  go_ret;exact⟨rfl,rfl⟩
 by_cases n:s.data.toList=[45]
 ·have e:=U9 n
  subst e;clear a b c f g i j l m n
  go_enter func162,ntmps162
  go_wp2_with fail
  go_ret;exact⟨rfl,rfl⟩
 by_cases d:s.data.toList=[42]
 ·have e:=U9 d
  subst e;clear a b c f g i j l m n d
  go_enter func162,ntmps162
  go_wp2_with fail
  go_ret;exact⟨rfl,rfl⟩
 by_cases h:s.data.toList=[47]
 ·have e:=U9 h
  subst e;clear a b c f g i j l m n d h
  go_enter func162,ntmps162
  go_wp2_with fail
  go_ret;exact⟨rfl,rfl⟩
 by_cases k:s.data.toList=[37]
 ·have e:=U9 k
  subst e;clear a b c f g i j l m n d h k
  go_enter func162,ntmps162
  go_wp2_with fail
  go_ret;exact⟨rfl,rfl⟩
 have o:lv s.data.toList=0:=by unfold lv;simp[a,b,c,f,g,i,j,l,m,n,d,h,k]
 have u:(s.toList==[124,124])=false:=by rw[B0,C7];exact a
 have v:(s.toList==[38,38])=false:=by rw[B0,C7];exact b
 have x:(s.toList==[60])=false:=by rw[B0,C7];exact c
 have y:(s.toList==[60,61])=false:=by rw[B0,C7];exact f
 have z:(s.toList==[62])=false:=by rw[B0,C7];exact g
 have A:(s.toList==[62,61])=false:=by rw[B0,C7];exact i
 have B:(s.toList==[61,61])=false:=by rw[B0,C7];exact j
 have C:(s.toList==[33,61])=false:=by rw[B0,C7];exact l
 have D:(s.toList==[43])=false:=by rw[B0,C7];exact m
 have E:(s.toList==[45])=false:=by rw[B0,C7];exact n
 have p:(s.toList==[42])=false:=by rw[B0,C7];exact d
 have q:(s.toList==[47])=false:=by rw[B0,C7];exact h
 have r:(s.toList==[37])=false:=by rw[B0,C7];exact k
 have t:=qh o;clear o a b c f g i j l m n d h k
 go_enter func162,ntmps162
 go_wp2_with fail
 go_ret;exact⟨by rw[t.out];rfl,rfl⟩
def zcR{s:ByteArray}: ∀vs(i:Nat),s∈vs.map Prod.fst-> ∃k,k<vs.length/\Lib.idxFromS (vs.map Prod.fst) s i=((i+k:Nat):Int)/\vs[k]?=some (s,zL vs s)
 |[],i,h=>by cases h
 |(n,z)::l,i,h=>by
  by_cases a:n=s
  ·subst a
   exact⟨0,by simp,by simp[Lib.idxFromS],by simp[zL]⟩
  ·have b:s∈l.map Prod.fst:=by
    rcases List.mem_cons.1 h with e|e
    ·exact H9 e.symm a
    ·exact e
   obtain⟨k,c,d,f⟩:=zcR l (i+1) b;refine⟨k+1,by simpa using c,?_,?_⟩
   ·simp only[List.map_cons,Lib.idxFromS,B5 a]
    rw[d];congr 1;omega
   ·have:zL ((n,z)::l) s=zL l s:=by unfold zL;rw[List.find?_cons_of_neg (by simpa using a)]
    rw[this];simpa using f
def ZE{w:World}{base e size n c:Nat}{a xs}(h:w.ownsRow base e size (.slice a n c) n xs)(j:0<n): ∃g,a=some ⟨g,0,none⟩:=by
 rcases h.2 with⟨_,k⟩|⟨g,b,d,f,_⟩
 ·omega
 ·injection f with i;exact⟨g,i⟩
def zij(s:ByteArray)(F:Nat->Prop)(w)(i:Nat)(U V)(vs:P4)(a:Nat)(ops us)(hs:s∈vs.map Prod.fst)(y:vs.length<=1000)(h:zu w w i U V vs a ops us F):
 Calls prog 227 #[.pointer (some ⟨i,0,none⟩),.string s] w λe w'=>e=.returned (.int .i64 (zL vs s))/\zu w w' i U V vs a ops us F:=by
 obtain⟨k,z,l,o⟩:=zcR vs 0 hs;rw[Nat.zero_add]at l;obtain⟨⟨-,q,r,-,-⟩,-,-,-,-⟩:=jq h.st;have f:=h.st.rn;have g:=h.st.ra;obtain⟨b,t⟩:=ZE f (by omega);obtain⟨m,u⟩:=ZE g (by omega);rw[t]at q f;rw[u]at r g;have c: ∀j,j<(vs.map Prod.fst).length->w.drew.cell? ⟨b,0+j,none⟩=some (.string ((vs.map Prod.fst).getD j ByteArray.empty)):=by
  intro j p;rw[C6]at p;have n:=f.cellAt j (by omega);have v:w.cell? ⟨b,0+j,none⟩=w.cell? ⟨b,j,none⟩:=by rw[Nat.zero_add]
  refine(show w.drew.cell? ⟨b,0+j,none⟩=w.cell? ⟨b,0+j,none⟩ from rfl).trans (v.trans (n.trans ?_));simp[qn,G2,x9 p,List.getD_eq_getElem?_getD]
 have d:=qh (Tryz.slices_Index_string b 0 vs.length V.cn (vs.map Prod.fst) s w.drew (by simp) (by omega) c);rw[show(vs.map Prod.fst).take vs.length=vs.map Prod.fst from by rw[List.take_of_length_le (by simp)],show Lib.idxOfS (vs.map Prod.fst) s=(k:Int) from l]at d;have A:w.drew.cell? ⟨m,k,none⟩=some (.int .i64 (zL vs s)):=by
  have n:=g.cellAt k (by omega);refine(show w.drew.cell? ⟨m,k,none⟩=w.cell? ⟨m,k,none⟩ from rfl).trans (n.trans ?_);simp[qo,G2,o]
 have x:=qh (h.below (M2 _));have B:(0:Int)<=(k:Int):=by omega
 have C:(k:Int)<(vs.length:Int):=by omega
 clear h c l o f g hs
 go_enter func227,ntmps227
 go_upto_region 1 with(fail)
 go_region_law(first|(go_simp;go_at_call 230;refine d.out.mono ?_;rintro e D ⟨rfl,rfl⟩))
 all_goals
  go_wp2_with fail
  go_ret;exact⟨rfl,x.out⟩
def zjI(ops:List zv)(a b:zv):ops++[a]++[b]=ops++[a,b]:=by simp
def zov(s:ByteArray)(F:Nat->Prop)(w:World)(c:Nat)(U:Value)(V:Mv)(vs:P4)(a:Nat)(ops:List zv)(us:List Fn)(hs:3<=lv s.data.toList)(A:ops.length+2<=400000000000)(h:zu w w c U V vs a ops us F):
 Calls prog 241 #[.pointer (some ⟨c,0,none⟩),.string s] w λe w'=>e=.returned (.tuple #[])/\ ∃l,zu w w' c U l vs a (ops++zbN s.data.toList) us F:=by
 have m:=qh h;clear h;have g:s.data.toList=[43]\/s.data.toList=[45]\/s.data.toList=[42]\/s.data.toList=[47]\/s.data.toList=[37]\/s.data.toList=[60]\/s.data.toList=[62,61]\/s.data.toList=[61,61]\/s.data.toList=[33,61]\/s.data.toList=[62]\/s.data.toList=[60,61]:=Classical.byContradiction λj=>by
  simp only[not_or]at j;obtain⟨n,o,p,q,r,t,u,v,x,y,i⟩:=j;unfold lv at hs;simp only[n,o,p,q,r,t,u,v,x,y,i,or_self,if_false]at hs
  repeat' split at hs
  all_goals omega
 clear hs
 rcases g with h|h|h|h|h|h|h|h|h|h|h
 all_goals
  have e:=U9 h;subst e;clear h
  go_enter func241,ntmps241
  go_wp2_with fail
  refine(qy _ 0 F _ c U V vs a ops us (by omega) m.out).mono ?_;rintro e B ⟨rfl,k,d⟩;have b:=qh d;clear d
  go_wp2_with fail
  first
   |(go_end0;exact⟨rfl,k,b.out⟩)
   |(refine(qy 6 0 F _ c U k vs a _ us (by simp;omega) b.out.Z8).mono ?_
     rintro e C ⟨rfl,z,d⟩;have f:=qh (b.out.next d);rw[zjI]at f;clear d
     go_wp2_with fail
     go_end0;exact⟨rfl,z,f.out⟩)
def YU(a s:ByteArray):(a.toList==s.toList)=decide (a=s):=by
 rw[C7,C7,F7];simp only[beq_iff_eq,F1];constructor
 ·intro h;exact ByteArray.ext (Array.toList_inj.1 h)
 ·rintro rfl;rfl
def zdL(N:Nat)(p:Addr)(s:ByteArray)(w:World):Prop:=
 ∀(q:ByteArray×Int)(W:World),Below w.heap.size w W->Calls prog N #[.agg #[.string q.1,.int .i64 q.2],.pointer (some p)] W λe a=>e=.returned (.bool (decide (q.1=s)))/\Below W.heap.size W a
def zi7(p:Nat)(s:ByteArray)(w)(e:p<w.heap.size)(h:w.cell? ⟨p,2,none⟩=some (.string s)):zdL 204 ⟨p,0,none⟩ s w:=by
 intro q W c;have f:W.cell? ⟨p,2,none⟩=some (.string s):=(c.cell (p:=⟨p,2,none⟩) e).trans h;have i:=c.size;have d:p<W.heap.size:=by omega
 have g:=A5 W (.cells #[.string q.1,.int .i64 q.2] 201);have a:=(x8 W.heap.size W).alloc (x7 _) (.cells #[.string q.1,.int .i64 q.2] 201);have b:=qh a;have j:(W.alloc (.cells #[.string q.1,.int .i64 q.2] 201)).cell? ⟨W.heap.size,0,none⟩=some (.string q.1):=x6 g 0;have k:=(a.cell (p:=⟨p,2,none⟩) d).trans f;have l:=qh (YU q.1 s);clear c h e g a f i
 go_enter func204,ntmps204
 go_upto_region 1 with(fail)
 generalize W.alloc _=m at b j k|-
 go_wp2_with fail
 go_ret;rw[<-l.out];exact⟨rfl,b.out⟩
def zkm(p:Nat)(s:ByteArray)(w)(e:p<w.heap.size)(h:w.cell? ⟨p,1,none⟩=some (.string s)):zdL 166 ⟨p,0,none⟩ s w:=by
 intro q W c;have f:W.cell? ⟨p,1,none⟩=some (.string s):=(c.cell (p:=⟨p,1,none⟩) e).trans h;have i:=c.size;have d:p<W.heap.size:=by omega
 have g:=A5 W (.cells #[.string q.1,.int .i64 q.2] 201);have a:=(x8 W.heap.size W).alloc (x7 _) (.cells #[.string q.1,.int .i64 q.2] 201);have b:=qh a;have j:(W.alloc (.cells #[.string q.1,.int .i64 q.2] 201)).cell? ⟨W.heap.size,0,none⟩=some (.string q.1):=x6 g 0;have k:=(a.cell (p:=⟨p,1,none⟩) d).trans f;have l:=qh (YU q.1 s);clear c h e g a f i
 go_enter func166,ntmps166
 go_upto_region 1 with(fail)
 generalize W.alloc _=m at b j k|-
 go_wp2_with fail
 go_ret;rw[<-l.out];exact⟨rfl,b.out⟩
def ziS(p:Nat)(s:ByteArray)(w)(e:p<w.heap.size)(h:w.cell? ⟨p,0,none⟩=some (.string s)):zdL 114 ⟨p,0,none⟩ s w:=by
 intro q W c;have f:W.cell? ⟨p,0,none⟩=some (.string s):=(c.cell (p:=⟨p,0,none⟩) e).trans h;have i:=c.size;have d:p<W.heap.size:=by omega
 have g:=A5 W (.cells #[.string q.1,.int .i64 q.2] 201);have a:=(x8 W.heap.size W).alloc (x7 _) (.cells #[.string q.1,.int .i64 q.2] 201);have b:=qh a;have j:(W.alloc (.cells #[.string q.1,.int .i64 q.2] 201)).cell? ⟨W.heap.size,0,none⟩=some (.string q.1):=x6 g 0;have k:=(a.cell (p:=⟨p,0,none⟩) d).trans f;have l:=qh (YU q.1 s);clear c h e g a f i
 go_enter func114,ntmps114
 go_upto_region 1 with(fail)
 generalize W.alloc _=m at b j k|-
 go_wp2_with fail
 go_ret;rw[<-l.out];exact⟨rfl,b.out⟩
def ZI(w:World)(A:Option Addr)(env:P1):Prop:= ∀(i:Nat)(q:ByteArray×Int),env.reverse[i]?=some q-> ∃g,A=some ⟨g,0,none⟩/\g<w.heap.size/\w.cell? ⟨g,i*2,none⟩=some (.string q.1)/\w.cell? ⟨g,i*2+1,none⟩=some (.int .i64 q.2)
def ZI.K7{w w' A env}(h:ZI w A env)(a:Below w.heap.size w w'):ZI w' A env:=λi q c=>by
 obtain⟨g,d,b,e,f⟩:=h i q c;exact⟨g,d,A7 b a.size,(a.cell (p:=⟨g,i*2,none⟩) b).trans e,(a.cell (p:=⟨g,i*2+1,none⟩) b).trans f⟩
def zmv(env:P1)(s:ByteArray)(z:Int):Prop:=(∃(i:Nat)(t:Int),env.reverse[i]?=some (s,t)/\z=i)\/((∀q∈env,q.1≠s)/\z= -1)
def zkl(p)(s:ByteArray)(A)(c:Nat)(env w)(v:ZI w A env)(x:zdL 204 p s w)(I:env.length<=1000):
 Calls prog 164 #[.slice A env.length c,.func (.func 204) #[] #[.pointer (some p)]] w λe w'=> ∃z:Int,e=.returned (.int .i64 z)/\zmv env s z/\Below w.heap.size w w':=by
 have E:=qh v;have F:=qh x;clear v x
 go_enter func164,ntmps164
 go_wp2_with fail
 go_loopw[8] (λi wr=> ∃j:Nat,j<=env.length/\i=.int .i64 j/\Hid (∀(m:Nat)(q:ByteArray×Int),m<j->env.reverse[m]?=some q->q.1≠s)/\Hid (Below w.heap.size w wr)) (λi _=>env.length-(intOf i).toNat)
 case atStart=>exact⟨0,D0 _,rfl,qh (λm q h=>H9 h (Nat.not_lt_zero m)),qh (x8 _ _)⟩
 case round=>
  obtain⟨j,J,rfl,y,b⟩:=hrel
  by_cases o:j<env.length
  ·obtain⟨q,f⟩: ∃q,env.reverse[j]?=some q:=⟨_,x9 (by simpa using o)⟩
   obtain⟨g,rfl,r,B,C⟩:=E.out j q f;have K:=(b.out.cell (p:=⟨g,j*2,none⟩) r).trans B;have L:=(b.out.cell (p:=⟨g,j*2+1,none⟩) r).trans C;have D:=qh f;clear f B C r;have M:(0:Int)<=(j:Int):=by omega
   have N:(j:Int)<(env.length:Int):=by omega
   go_wp2_with fail
   refine(F.out q wr b.out).mono ?_;rintro e O ⟨rfl,k⟩;have l:=qh (b.out.trans (k.mono b.out.size));clear k
   by_cases d:q.1=s
   ·have n:decide (q.1=s)=true:=decide_eq_true d
    rw[n];have t:=qh d;clear d n
    go_wp2_with fail
    go_ret;exact⟨j,rfl,.inl ⟨j,q.2,by rw[D.out,<-t.out],rfl⟩,l.out⟩
   ·have n:decide (q.1=s)=false:=G1 d
    rw[n];have t:=qh d;clear d n
    go_wp2_with fail
    go_roundw
    case rel=>exact⟨j+1,by omega,by go_num,qh (λm G u a=>by
     rcases E0 m j with h|h
     ·exact y.out m G h a
     ·obtain rfl:m=j:=by omega
      rw[D.out]at a;rw[<-F6 a];exact t.out),l⟩
    case measure=>simp[intOf];omega
  ·have H:j=env.length:=by omega
   go_wp2_with fail
   go_ret;exact⟨-1,rfl,.inr ⟨λq f=>by
    obtain⟨m,u⟩:=List.mem_iff_getElem?.1 (List.mem_reverse.2 f);exact y.out m q (by have:=(List.getElem?_eq_some_iff.1 u).1;simp at this;omega) u,rfl⟩,b.out⟩
def zjh(p)(s:ByteArray)(A)(c:Nat)(env w)(v:ZI w A env)(x:zdL 166 p s w)(I:env.length<=1000):
 Calls prog 164 #[.slice A env.length c,.func (.func 166) #[] #[.pointer (some p)]] w λe w'=> ∃z:Int,e=.returned (.int .i64 z)/\zmv env s z/\Below w.heap.size w w':=by
 have E:=qh v;have F:=qh x;clear v x
 go_enter func164,ntmps164
 go_wp2_with fail
 go_loopw[8] (λi wr=> ∃j:Nat,j<=env.length/\i=.int .i64 j/\Hid (∀(m:Nat)(q:ByteArray×Int),m<j->env.reverse[m]?=some q->q.1≠s)/\Hid (Below w.heap.size w wr)) (λi _=>env.length-(intOf i).toNat)
 case atStart=>exact⟨0,D0 _,rfl,qh (λm q h=>H9 h (Nat.not_lt_zero m)),qh (x8 _ _)⟩
 case round=>
  obtain⟨j,J,rfl,y,b⟩:=hrel
  by_cases o:j<env.length
  ·obtain⟨q,f⟩: ∃q,env.reverse[j]?=some q:=⟨_,x9 (by simpa using o)⟩
   obtain⟨g,rfl,r,B,C⟩:=E.out j q f;have K:=(b.out.cell (p:=⟨g,j*2,none⟩) r).trans B;have L:=(b.out.cell (p:=⟨g,j*2+1,none⟩) r).trans C;have D:=qh f;clear f B C r;have M:(0:Int)<=(j:Int):=by omega
   have N:(j:Int)<(env.length:Int):=by omega
   go_wp2_with fail
   refine(F.out q wr b.out).mono ?_;rintro e O ⟨rfl,k⟩;have l:=qh (b.out.trans (k.mono b.out.size));clear k
   by_cases d:q.1=s
   ·have n:decide (q.1=s)=true:=decide_eq_true d
    rw[n];have t:=qh d;clear d n
    go_wp2_with fail
    go_ret;exact⟨j,rfl,.inl ⟨j,q.2,by rw[D.out,<-t.out],rfl⟩,l.out⟩
   ·have n:decide (q.1=s)=false:=G1 d
    rw[n];have t:=qh d;clear d n
    go_wp2_with fail
    go_roundw
    case rel=>exact⟨j+1,by omega,by go_num,qh (λm G u a=>by
     rcases E0 m j with h|h
     ·exact y.out m G h a
     ·obtain rfl:m=j:=by omega
      rw[D.out]at a;rw[<-F6 a];exact t.out),l⟩
    case measure=>simp[intOf];omega
  ·have H:j=env.length:=by omega
   go_wp2_with fail
   go_ret;exact⟨-1,rfl,.inr ⟨λq f=>by
    obtain⟨m,u⟩:=List.mem_iff_getElem?.1 (List.mem_reverse.2 f);exact y.out m q (by have:=(List.getElem?_eq_some_iff.1 u).1;simp at this;omega) u,rfl⟩,b.out⟩
def ziU(p)(s:ByteArray)(A)(c:Nat)(env w)(v:ZI w A env)(x:zdL 114 p s w)(I:env.length<=1000):
 Calls prog 164 #[.slice A env.length c,.func (.func 114) #[] #[.pointer (some p)]] w λe w'=> ∃z:Int,e=.returned (.int .i64 z)/\zmv env s z/\Below w.heap.size w w':=by
 have E:=qh v;have F:=qh x;clear v x
 go_enter func164,ntmps164
 go_wp2_with fail
 go_loopw[8] (λi wr=> ∃j:Nat,j<=env.length/\i=.int .i64 j/\Hid (∀(m:Nat)(q:ByteArray×Int),m<j->env.reverse[m]?=some q->q.1≠s)/\Hid (Below w.heap.size w wr)) (λi _=>env.length-(intOf i).toNat)
 case atStart=>exact⟨0,D0 _,rfl,qh (λm q h=>H9 h (Nat.not_lt_zero m)),qh (x8 _ _)⟩
 case round=>
  obtain⟨j,J,rfl,y,b⟩:=hrel
  by_cases o:j<env.length
  ·obtain⟨q,f⟩: ∃q,env.reverse[j]?=some q:=⟨_,x9 (by simpa using o)⟩
   obtain⟨g,rfl,r,B,C⟩:=E.out j q f;have K:=(b.out.cell (p:=⟨g,j*2,none⟩) r).trans B;have L:=(b.out.cell (p:=⟨g,j*2+1,none⟩) r).trans C;have D:=qh f;clear f B C r;have M:(0:Int)<=(j:Int):=by omega
   have N:(j:Int)<(env.length:Int):=by omega
   go_wp2_with fail
   refine(F.out q wr b.out).mono ?_;rintro e O ⟨rfl,k⟩;have l:=qh (b.out.trans (k.mono b.out.size));clear k
   by_cases d:q.1=s
   ·have n:decide (q.1=s)=true:=decide_eq_true d
    rw[n];have t:=qh d;clear d n
    go_wp2_with fail
    go_ret;exact⟨j,rfl,.inl ⟨j,q.2,by rw[D.out,<-t.out],rfl⟩,l.out⟩
   ·have n:decide (q.1=s)=false:=G1 d
    rw[n];have t:=qh d;clear d n
    go_wp2_with fail
    go_roundw
    case rel=>exact⟨j+1,by omega,by go_num,qh (λm G u a=>by
     rcases E0 m j with h|h
     ·exact y.out m G h a
     ·obtain rfl:m=j:=by omega
      rw[D.out]at a;rw[<-F6 a];exact t.out),l⟩
    case measure=>simp[intOf];omega
  ·have H:j=env.length:=by omega
   go_wp2_with fail
   go_ret;exact⟨-1,rfl,.inr ⟨λq f=>by
    obtain⟨m,u⟩:=List.mem_iff_getElem?.1 (List.mem_reverse.2 f);exact y.out m q (by have:=(List.getElem?_eq_some_iff.1 u).1;simp at this;omega) u,rfl⟩,b.out⟩
def zjl(p)(s:ByteArray)(A)(c:Nat)(env)(j:U7 env)(w)(k:ZI w A env)(l:zdL 114 p s w)(u:env.length<=1000):
 Calls prog 113 #[.slice A env.length c,.func (.func 114) #[] #[.pointer (some p)]] w λe w'=>e=.returned (.bool (decide (L5 env s≠0)))/\Below w.heap.size w w':=by
 have v:=qh (ziU p s A c env w k l u);have m:=qh j;clear k l j
 go_enter func113,ntmps113
 go_wp2_with fail
 refine v.out.mono ?_;rintro e y ⟨z,rfl,n,a⟩;have b:=qh a;have o:=qh n;clear a n
 by_cases q:0<=z
 ·have g:=qh q
  go_wp2_with fail
  go_ret;refine⟨?_,b.out⟩
  rcases o.out with⟨i,t,d,f⟩|⟨d,f⟩
  ·have r:=List.mem_reverse.1 (B7 d)
   have:=QP m.out.1 r;have x:=m.out.2 _ r;simp only at x;rw[decide_eq_true (by omega)];rfl
  ·have:=g.out;omega
 ·have h:z<0:=by omega
  have g:=qh h;clear q
  go_wp2_with fail
  go_ret;refine⟨?_,b.out⟩
  rcases o.out with⟨i,t,d,f⟩|⟨d,f⟩
  ·have:=g.out;omega
  ·subst f
   rw[QC d];rfl
def zd0(N:Nat)(p:Addr)(s:ByteArray)(w:World):Prop:=
 ∀(f:Fn)(a b c:Option Addr)(d g h:Nat)(W:World),Below w.heap.size w W->Calls prog N #[.agg #[.string f.J2,.slice a f.J1.length d,.slice b f.K4.length g,.int .i64 f.out,.slice c f.J0.length h,.int .i64 f.pos],.pointer (some p)] W λe i=>e=.returned (.bool (decide (f.J2=s)))/\Below W.heap.size W i
def zhb(p:Nat)(s:ByteArray)(w)(m:p<w.heap.size)(h:w.cell? ⟨p,2,none⟩=some (.string s)):zd0 206 ⟨p,0,none⟩ s w:=by
 intro f c d e g i j W k;have n:W.cell? ⟨p,2,none⟩=some (.string s):=(k.cell (p:=⟨p,2,none⟩) m).trans h;have q:=k.size;have l:p<W.heap.size:=by omega
 have o:=A5 W (.cells #[.string f.J2,.slice c f.J1.length g,.slice d f.K4.length i,.int .i64 f.out,.slice e f.J0.length j,.int .i64 f.pos] 32);have a:=(x8 W.heap.size W).alloc (x7 _) (.cells #[.string f.J2,.slice c f.J1.length g,.slice d f.K4.length i,.int .i64 f.out,.slice e f.J0.length j,.int .i64 f.pos] 32);have b:=qh a;have r:(W.alloc (.cells #[.string f.J2,.slice c f.J1.length g,.slice d f.K4.length i,.int .i64 f.out,.slice e f.J0.length j,.int .i64 f.pos] 32)).cell? ⟨W.heap.size,0,none⟩=some (.string f.J2):=x6 o 0;have t:=(a.cell (p:=⟨p,2,none⟩) l).trans n;have u:=qh (YU f.J2 s);clear k h m o a n q
 go_enter func206,ntmps206
 go_upto_region 1 with(fail)
 generalize W.alloc _=v at b r t|-
 go_wp2_with fail
 go_ret;rw[<-u.out];exact⟨rfl,b.out⟩
def ziT(p:Nat)(s:ByteArray)(w)(m:p<w.heap.size)(h:w.cell? ⟨p,0,none⟩=some (.string s)):zd0 63 ⟨p,0,none⟩ s w:=by
 intro f c d e g i j W k;have n:W.cell? ⟨p,0,none⟩=some (.string s):=(k.cell (p:=⟨p,0,none⟩) m).trans h;have q:=k.size;have l:p<W.heap.size:=by omega
 have o:=A5 W (.cells #[.string f.J2,.slice c f.J1.length g,.slice d f.K4.length i,.int .i64 f.out,.slice e f.J0.length j,.int .i64 f.pos] 32);have a:=(x8 W.heap.size W).alloc (x7 _) (.cells #[.string f.J2,.slice c f.J1.length g,.slice d f.K4.length i,.int .i64 f.out,.slice e f.J0.length j,.int .i64 f.pos] 32);have b:=qh a;have r:(W.alloc (.cells #[.string f.J2,.slice c f.J1.length g,.slice d f.K4.length i,.int .i64 f.out,.slice e f.J0.length j,.int .i64 f.pos] 32)).cell? ⟨W.heap.size,0,none⟩=some (.string f.J2):=x6 o 0;have t:=(a.cell (p:=⟨p,0,none⟩) l).trans n;have u:=qh (YU f.J2 s);clear k h m o a n q
 go_enter func63,ntmps63
 go_upto_region 1 with(fail)
 generalize W.alloc _=v at b r t|-
 go_wp2_with fail
 go_ret;rw[<-u.out];exact⟨rfl,b.out⟩
def zoy(us:List Fn)(s:ByteArray)(z:Int):Prop:=(∃(i:Nat)(f:Fn),us[i]?=some f/\S3 us s=some f/\z=i)\/(S3 us s=none/\z= -1)
def Xu{us}{s:ByteArray}{j:Nat}{f}(b:us[j]?=some f)(hs:f.J2=s)(c: ∀(m:Nat)(g:Fn),m<j->us[m]?=some g->g.J2≠s):S3 us s=some f:=by
 unfold S3;rw[List.find?_eq_some_iff_getElem];have a:=(List.getElem?_eq_some_iff.1 b).1;refine⟨by simp[hs],j,a,(List.getElem?_eq_some_iff.1 b).2,λm d=>?_⟩;have:=c m us[m] d (x9 (by omega));simpa using this
def jM{us}{s:ByteArray}(a: ∀(m:Nat)(g:Fn),us[m]?=some g->g.J2≠s):S3 us s=none:=by
 unfold S3;rw[List.find?_eq_none];intro g b;obtain⟨m,c⟩:=List.mem_iff_getElem?.1 b;simpa using a m g c
def zj1(p)(s:ByteArray)(A)(c:Nat)(F:Nat->Prop)(us w)(D:U2 w F (.slice A us.length c) us)(E:zd0 206 p s w)(W:us.length<=281474976710656):
 Calls prog 112 #[.slice A us.length c,.func (.func 206) #[] #[.pointer (some p)]] w λe w'=> ∃z:Int,e=.returned (.int .i64 z)/\zoy us s z/\Below w.heap.size w w':=by
 have G:=qh D;have H:=qh E;clear D E
 go_enter func112,ntmps112
 go_wp2_with fail
 go_loopw[8] (λi wr=> ∃j:Nat,j<=us.length/\i=.int .i64 j/\Hid (∀(m:Nat)(g:Fn),m<j->us[m]?=some g->g.J2≠s)/\Hid (Below w.heap.size w wr)) (λi _=>us.length-(intOf i).toNat)
 case atStart=>exact⟨0,D0 _,rfl,qh (λm q h=>H9 h (Nat.not_lt_zero m)),qh (x8 _ _)⟩
 case round=>
  obtain⟨j,X,rfl,u,b⟩:=hrel
  by_cases v:j<us.length
  ·obtain⟨f,x⟩: ∃q,us[j]?=some q:=⟨_,x9 v⟩
   obtain⟨g,a,I,J,K,L,M,N,rfl,d,-,-,-,k⟩:=G.out.at j f x;have O:=(b.out.cell (p:=⟨g,a+j*6,none⟩) d).trans (k 0 _ rfl);have P:=(b.out.cell (p:=⟨g,a+j*6+1,none⟩) d).trans (k 1 _ rfl);have Q:=(b.out.cell (p:=⟨g,a+j*6+2,none⟩) d).trans (k 2 _ rfl);have R:=(b.out.cell (p:=⟨g,a+j*6+3,none⟩) d).trans (k 3 _ rfl);have S:=(b.out.cell (p:=⟨g,a+j*6+4,none⟩) d).trans (k 4 _ rfl);have T:=(b.out.cell (p:=⟨g,a+j*6+5,none⟩) d).trans (k 5 _ rfl);have y:=qh x;clear x k d;have Y:(0:Int)<=(j:Int):=by omega
   have Z:(j:Int)<(us.length:Int):=by omega
   go_wp2_with fail
   refine(H.out f I K M J L N wr b.out).mono ?_;rintro e w8 ⟨rfl,o⟩;have r:=qh (b.out.trans (o.mono b.out.size));clear o O P Q R S T
   by_cases n:f.J2=s
   ·have t:decide (f.J2=s)=true:=decide_eq_true n
    rw[t];have B:=qh n;clear n t
    go_wp2_with fail
    go_ret;exact⟨j,rfl,.inl ⟨j,f,y.out,Xu y.out B.out u.out,rfl⟩,r.out⟩
   ·have t:decide (f.J2=s)=false:=G1 n
    rw[t];have B:=qh n;clear n t
    go_wp2_with fail
    go_roundw
    case rel=>exact⟨j+1,by omega,by go_num,qh (λm U C l=>by
     rcases E0 m j with h|h
     ·exact u.out m U h l
     ·obtain rfl:m=j:=by omega
      rw[y.out]at l;rw[<-F6 l];exact B.out),r⟩
    case measure=>simp[intOf];omega
  ·have V:j=us.length:=by omega
   go_wp2_with fail
   go_ret;exact⟨-1,rfl,.inr ⟨jM (λm g C=>u.out m g (by have:=(List.getElem?_eq_some_iff.1 C).1;omega) C),rfl⟩,b.out⟩
def zkb(p)(s:ByteArray)(A)(c:Nat)(F:Nat->Prop)(us w)(D:U2 w F (.slice A us.length c) us)(E:zd0 63 p s w)(W:us.length<=281474976710656):
 Calls prog 112 #[.slice A us.length c,.func (.func 63) #[] #[.pointer (some p)]] w λe w'=> ∃z:Int,e=.returned (.int .i64 z)/\zoy us s z/\Below w.heap.size w w':=by
 have G:=qh D;have H:=qh E;clear D E
 go_enter func112,ntmps112
 go_wp2_with fail
 go_loopw[8] (λi wr=> ∃j:Nat,j<=us.length/\i=.int .i64 j/\Hid (∀(m:Nat)(g:Fn),m<j->us[m]?=some g->g.J2≠s)/\Hid (Below w.heap.size w wr)) (λi _=>us.length-(intOf i).toNat)
 case atStart=>exact⟨0,D0 _,rfl,qh (λm q h=>H9 h (Nat.not_lt_zero m)),qh (x8 _ _)⟩
 case round=>
  obtain⟨j,X,rfl,u,b⟩:=hrel
  by_cases v:j<us.length
  ·obtain⟨f,x⟩: ∃q,us[j]?=some q:=⟨_,x9 v⟩
   obtain⟨g,a,I,J,K,L,M,N,rfl,d,-,-,-,k⟩:=G.out.at j f x;have O:=(b.out.cell (p:=⟨g,a+j*6,none⟩) d).trans (k 0 _ rfl);have P:=(b.out.cell (p:=⟨g,a+j*6+1,none⟩) d).trans (k 1 _ rfl);have Q:=(b.out.cell (p:=⟨g,a+j*6+2,none⟩) d).trans (k 2 _ rfl);have R:=(b.out.cell (p:=⟨g,a+j*6+3,none⟩) d).trans (k 3 _ rfl);have S:=(b.out.cell (p:=⟨g,a+j*6+4,none⟩) d).trans (k 4 _ rfl);have T:=(b.out.cell (p:=⟨g,a+j*6+5,none⟩) d).trans (k 5 _ rfl);have y:=qh x;clear x k d;have Y:(0:Int)<=(j:Int):=by omega
   have Z:(j:Int)<(us.length:Int):=by omega
   go_wp2_with fail
   refine(H.out f I K M J L N wr b.out).mono ?_;rintro e w8 ⟨rfl,o⟩;have r:=qh (b.out.trans (o.mono b.out.size));clear o O P Q R S T
   by_cases n:f.J2=s
   ·have t:decide (f.J2=s)=true:=decide_eq_true n
    rw[t];have B:=qh n;clear n t
    go_wp2_with fail
    go_ret;exact⟨j,rfl,.inl ⟨j,f,y.out,Xu y.out B.out u.out,rfl⟩,r.out⟩
   ·have t:decide (f.J2=s)=false:=G1 n
    rw[t];have B:=qh n;clear n t
    go_wp2_with fail
    go_roundw
    case rel=>exact⟨j+1,by omega,by go_num,qh (λm U C l=>by
     rcases E0 m j with h|h
     ·exact u.out m U h l
     ·obtain rfl:m=j:=by omega
      rw[y.out]at l;rw[<-F6 l];exact B.out),r⟩
    case measure=>simp[intOf];omega
  ·have V:j=us.length:=by omega
   go_wp2_with fail
   go_ret;exact⟨-1,rfl,.inr ⟨jM (λm g C=>u.out m g (by have:=(List.getElem?_eq_some_iff.1 C).1;omega) C),rfl⟩,b.out⟩
def QK{us}{s:ByteArray}{j:Nat}{f}(b:us[j]?=some f)(hs:f.J2=s)(c: ∀(m:Nat)(g:Fn),m<j->us[m]?=some g->g.J2≠s):zP us s=j:=by
 unfold zP;have a:=(List.getElem?_eq_some_iff.1 b).1;rw[List.findIdx_eq a];refine⟨by rw[(List.getElem?_eq_some_iff.1 b).2];simpa using hs,λm d=>?_⟩;simpa using c m us[m] d (x9 (by omega))
def znB(us:List Fn)(s:ByteArray)(z:Int):Prop:=S3 us s=none\/z=zP us s
def zmM(p:Nat)(s:ByteArray)(w)(m:p<w.heap.size)(h:w.cell? ⟨p,2,none⟩=some (.string s)):zd0 240 ⟨p,0,none⟩ s w:=by
 intro f c d e g i j W k;have n:W.cell? ⟨p,2,none⟩=some (.string s):=(k.cell (p:=⟨p,2,none⟩) m).trans h;have q:=k.size;have l:p<W.heap.size:=by omega
 have o:=A5 W (.cells #[.string f.J2,.slice c f.J1.length g,.slice d f.K4.length i,.int .i64 f.out,.slice e f.J0.length j,.int .i64 f.pos] 32);have a:=(x8 W.heap.size W).alloc (x7 _) (.cells #[.string f.J2,.slice c f.J1.length g,.slice d f.K4.length i,.int .i64 f.out,.slice e f.J0.length j,.int .i64 f.pos] 32);have b:=qh a;have r:(W.alloc (.cells #[.string f.J2,.slice c f.J1.length g,.slice d f.K4.length i,.int .i64 f.out,.slice e f.J0.length j,.int .i64 f.pos] 32)).cell? ⟨W.heap.size,0,none⟩=some (.string f.J2):=x6 o 0;have t:=(a.cell (p:=⟨p,2,none⟩) l).trans n;have u:=qh (YU f.J2 s);clear k h m o a n q
 go_enter func240,ntmps240
 go_upto_region 1 with(fail)
 generalize W.alloc _=v at b r t|-
 go_wp2_with fail
 go_ret;rw[<-u.out];exact⟨rfl,b.out⟩
def zmu(p)(s:ByteArray)(A)(c:Nat)(F:Nat->Prop)(us w)(C:U2 w F (.slice A us.length c) us)(D:zd0 240 p s w)(W:us.length<=281474976710656):
 Calls prog 112 #[.slice A us.length c,.func (.func 240) #[] #[.pointer (some p)]] w λe w'=> ∃z:Int,e=.returned (.int .i64 z)/\znB us s z/\Below w.heap.size w w':=by
 have G:=qh C;have H:=qh D;clear C D
 go_enter func112,ntmps112
 go_wp2_with fail
 go_loopw[8] (λi wr=> ∃j:Nat,j<=us.length/\i=.int .i64 j/\Hid (∀(m:Nat)(g:Fn),m<j->us[m]?=some g->g.J2≠s)/\Hid (Below w.heap.size w wr)) (λi _=>us.length-(intOf i).toNat)
 case atStart=>exact⟨0,D0 _,rfl,qh (λm q h=>H9 h (Nat.not_lt_zero m)),qh (x8 _ _)⟩
 case round=>
  obtain⟨j,X,rfl,u,b⟩:=hrel
  by_cases v:j<us.length
  ·obtain⟨f,x⟩: ∃q,us[j]?=some q:=⟨_,x9 v⟩
   obtain⟨g,a,I,J,K,L,M,N,rfl,d,-,-,-,k⟩:=G.out.at j f x;have O:=(b.out.cell (p:=⟨g,a+j*6,none⟩) d).trans (k 0 _ rfl);have P:=(b.out.cell (p:=⟨g,a+j*6+1,none⟩) d).trans (k 1 _ rfl);have Q:=(b.out.cell (p:=⟨g,a+j*6+2,none⟩) d).trans (k 2 _ rfl);have R:=(b.out.cell (p:=⟨g,a+j*6+3,none⟩) d).trans (k 3 _ rfl);have S:=(b.out.cell (p:=⟨g,a+j*6+4,none⟩) d).trans (k 4 _ rfl);have T:=(b.out.cell (p:=⟨g,a+j*6+5,none⟩) d).trans (k 5 _ rfl);have E:=qh x;clear x k d;have Y:(0:Int)<=(j:Int):=by omega
   have Z:(j:Int)<(us.length:Int):=by omega
   go_wp2_with fail
   refine(H.out f I K M J L N wr b.out).mono ?_;rintro e w8 ⟨rfl,o⟩;have r:=qh (b.out.trans (o.mono b.out.size));clear o O P Q R S T
   by_cases n:f.J2=s
   ·have t:decide (f.J2=s)=true:=decide_eq_true n
    rw[t];have y:=qh n;clear n t
    go_wp2_with fail
    go_ret;exact⟨j,rfl,.inr (by rw[QK E.out y.out u.out]),r.out⟩
   ·have t:decide (f.J2=s)=false:=G1 n
    rw[t];have y:=qh n;clear n t
    go_wp2_with fail
    go_roundw
    case rel=>exact⟨j+1,by omega,by go_num,qh (λm U B l=>by
     rcases E0 m j with h|h
     ·exact u.out m U h l
     ·obtain rfl:m=j:=by omega
      rw[E.out]at l;rw[<-F6 l];exact y.out),r⟩
    case measure=>simp[intOf];omega
  ·have V:j=us.length:=by omega
   go_wp2_with fail
   go_ret;exact⟨-1,rfl,.inl (jM (λm g B=>u.out m g (by have:=(List.getElem?_eq_some_iff.1 B).1;omega) B)),b.out⟩
def T0:ByteArray:=⟨#[109,97,105,110]⟩
def zpz(w:World):Prop:=
 ∀(f:Fn)(a b c:Option Addr)(d g h:Nat)(W:World),Below w.heap.size w W->Calls prog 142 #[.agg #[.string f.J2,.slice a f.J1.length d,.slice b f.K4.length g,.int .i64 f.out,.slice c f.J0.length h,.int .i64 f.pos]] W λe i=>e=.returned (.bool (decide (f.J2=T0)))/\Below W.heap.size W i
def zg1(w):zpz w:=by
 intro f b c d e g h W j;have i:=A5 W (.cells #[.string f.J2,.slice b f.J1.length e,.slice c f.K4.length g,.int .i64 f.out,.slice d f.J0.length h,.int .i64 f.pos] 32);have a:=qh ((x8 W.heap.size W).alloc (x7 _) (.cells #[.string f.J2,.slice b f.J1.length e,.slice c f.K4.length g,.int .i64 f.out,.slice d f.J0.length h,.int .i64 f.pos] 32));have k:(W.alloc (.cells #[.string f.J2,.slice b f.J1.length e,.slice c f.K4.length g,.int .i64 f.out,.slice d f.J0.length h,.int .i64 f.pos] 32)).cell? ⟨W.heap.size,0,none⟩=some (.string f.J2):=x6 i 0;have l:Hid ((f.J2.toList==[109,97,105,110])=decide (f.J2=T0)):=qh (by
  rw[<-YU f.J2 T0];congr 1;rw[C7];rfl)
 clear j i
 go_enter func142,ntmps142
 go_upto_region 1 with(fail)
 generalize W.alloc _=m at a k|-
 go_wp2_with fail
 go_ret;rw[<-l.out];exact⟨rfl,a.out⟩
def zh5(s:ByteArray)(u:s=T0)(A)(c:Nat)(F:Nat->Prop)(us w)(D:U2 w F (.slice A us.length c) us)(W:us.length<=281474976710656):
 Calls prog 112 #[.slice A us.length c,.func (.func 142) #[] #[]] w λe w'=> ∃z:Int,e=.returned (.int .i64 z)/\znB us s z/\Below w.heap.size w w':=by
 subst u;have G:=qh D;have H:=qh (zg1 w);clear D
 go_enter func112,ntmps112
 go_wp2_with fail
 go_loopw[8] (λi wr=> ∃j:Nat,j<=us.length/\i=.int .i64 j/\Hid (∀(m:Nat)(g:Fn),m<j->us[m]?=some g->g.J2≠T0)/\Hid (Below w.heap.size w wr)) (λi _=>us.length-(intOf i).toNat)
 case atStart=>exact⟨0,D0 _,rfl,qh (λm q h=>H9 h (Nat.not_lt_zero m)),qh (x8 _ _)⟩
 case round=>
  obtain⟨j,X,rfl,v,b⟩:=hrel
  by_cases x:j<us.length
  ·obtain⟨f,y⟩: ∃q,us[j]?=some q:=⟨_,x9 x⟩
   obtain⟨g,a,I,J,K,L,M,N,rfl,d,-,-,-,k⟩:=G.out.at j f y;have O:=(b.out.cell (p:=⟨g,a+j*6,none⟩) d).trans (k 0 _ rfl);have P:=(b.out.cell (p:=⟨g,a+j*6+1,none⟩) d).trans (k 1 _ rfl);have Q:=(b.out.cell (p:=⟨g,a+j*6+2,none⟩) d).trans (k 2 _ rfl);have R:=(b.out.cell (p:=⟨g,a+j*6+3,none⟩) d).trans (k 3 _ rfl);have S:=(b.out.cell (p:=⟨g,a+j*6+4,none⟩) d).trans (k 4 _ rfl);have T:=(b.out.cell (p:=⟨g,a+j*6+5,none⟩) d).trans (k 5 _ rfl);have E:=qh y;clear y k d;have Y:(0:Int)<=(j:Int):=by omega
   have Z:(j:Int)<(us.length:Int):=by omega
   go_wp2_with fail
   refine(H.out f I K M J L N wr b.out).mono ?_;rintro e w8 ⟨rfl,o⟩;have r:=qh (b.out.trans (o.mono b.out.size));clear o O P Q R S T
   by_cases n:f.J2=T0
   ·have t:decide (f.J2=T0)=true:=decide_eq_true n
    rw[t];have B:=qh n;clear n t
    go_wp2_with fail
    go_ret;exact⟨j,rfl,.inr (by rw[QK E.out B.out v.out]),r.out⟩
   ·have t:decide (f.J2=T0)=false:=G1 n
    rw[t];have B:=qh n;clear n t
    go_wp2_with fail
    go_roundw
    case rel=>exact⟨j+1,by omega,by go_num,qh (λm U C l=>by
     rcases E0 m j with h|h
     ·exact v.out m U h l
     ·obtain rfl:m=j:=by omega
      rw[E.out]at l;rw[<-F6 l];exact B.out),r⟩
    case measure=>simp[intOf];omega
  ·have V:j=us.length:=by omega
   go_wp2_with fail
   go_ret;exact⟨-1,rfl,.inl (jM (λm g C=>v.out m g (by have:=(List.getElem?_eq_some_iff.1 C).1;omega) C)),b.out⟩
end Go.Proofs.YtmngofgminlloaaGreatDoor
namespace Go.Proofs.YtmngofgminlloaaGreatDoor
open Go.RowKit Tw
mutual
def Qn:Ex->Nat
 |.mk _ _ _ xs _=>jw xs+1
def jw:List Ex->Nat
 |[]=>0
 |a::l=>Qn a+jw l
end
mutual
def smN:Sm->Nat
 |.mk _ _ a b e _=>Qn a+qL b+qL e+1
def qL:List Sm->Nat
 |[]=>0
 |s::l=>smN s+qL l
end
def fnN(f:Fn):Nat:=f.J1.length+qL f.J0+1
def zgq:List Fn->Nat
 |[]=>0
 |f::l=>fnN f+zgq l
def ze5{ws}{en j:Nat}{a b}:Qn (Y9 ws en j a b)=Qn a+Qn b+1:=by
 unfold Y9;rw[Qn,jw,jw,jw];omega
def zcd{f}: ∀{l},f∈l->fnN f<=zgq l
 |[],h=>by cases h
 |a::l,h=>by
  rw[zgq]
  rcases List.mem_cons.1 h with rfl|h
  ·omega
  ·have:=zcd h;omega
def qx:Qe->Re->Prop
 |.lvl _ i,.ex x j=>Qn x+i<=j
 |.zk i,.ex x j=>Qn x+i<=j
 |.rest _ a i,.ex x j=>Qn x+i<=Qn a+j
 |.args _ i,.xH l j=>jw l+i<j
 |_,_=>True
def De.L0{ws}{en:Nat}{q r}(h:De ws en q r):qx q r:=by
 induction h with
 | @lvl6 i r _ f=>
   cases r with
   |ex x j=>exact f
   |xH=>trivial
   |J9=>trivial
 | @lvl n i j a r l _ _ d e=>
   cases r with
   |ex x k=>simp only[qx]at*;omega
   |xH=>trivial
   |J9=>trivial
 |stop _=>simp only[qx];omega
 | @go n j m a b r o c _ _ d e=>
   cases r with
   |ex x k=>simp only[qx,ze5]at*;omega
   |xH=>trivial
   |J9=>trivial
 |jx c _ p d=>simp only[qx,ze5]at*;omega
 |neg c _ f=>simp only[qx,Qn,jw]at*;omega
 |not c _ f=>simp only[qx,Qn,jw]at*;omega
 |par c _ g f=>simp only[qx]at*;omega
 |tru c=>simp only[qx,Qn,jw]at*;omega
 |fls c=>simp only[qx,Qn,jw]at*;omega
 |X0 c _ _ _ f=>simp only[qx,Qn]at*;omega
 |num c=>simp only[qx,Qn,jw]at*;omega
 |qE c _=>simp only[qx,Qn,jw]at*;omega
 |call c _ _ f=>simp only[qx,Qn]at*;omega
 |U4 g=>simp only[qx,jw]at*;omega
 |first g _ _ d e=>simp only[qx,jw]at*;omega
 |next g s _ _ d e=>simp only[qx,jw]at*;omega
 |_=>trivial
def Qv:Qs->Rs->Prop
 |.zO i,.st s j=>smN s+i<=j
 |.block i,.Zn l j=>qL l+i<j
 |.qj i,.Zn l j=>qL l+i<j
 |_,_=>True
def Ds.L0{ws}{en:Nat}{q r}(h:Ds ws en q r):Qv q r:=by
 induction h with
 | @simp i j x _ _ _ a e=>
   have c:=a.L0;have:=zcE ws i;simp only[qx,Qv,smN,qL]at*;omega
 |whil _ a _ d=>have c:=a.L0;simp only[qx,Qv,smN,qL]at*;omega
 |if0 _ a _ _ d=>have c:=a.L0;simp only[qx,Qv,smN,qL]at*;omega
 |ifE _ a _ _ _ _ d b=>have c:=a.L0;simp only[qx,Qv,smN]at*;omega
 |ifI _ a _ _ _ _ d b=>have c:=a.L0;simp only[qx,Qv,smN,qL]at*;omega
 | @block i r _ _ d=>
   cases r with
   |Zn l j=>simp only[Qv]at*;omega
   |st=>trivial
   |J9=>trivial
 |done e=>simp only[Qv,qL];omega
 |qw _ _ _ f b=>simp only[Qv,qL]at*;omega
 |_=>trivial
def Df.L0{ws}{en i:Nat}{f}{j:Nat}(a:WsZ ws)(h:Df ws en i (.fn f j)):fnN f+i<=j:=by
 cases h with
 |fn e g k b l c=>
  obtain⟨m,-⟩:=b.zB a _ _ _ rfl;have d:=c.L0;simp only[Qv]at d;simp only[fnN];omega
def Du.L0{ws}{en i:Nat}{r}(a:WsZ ws)(h:Du ws en i r): ∀l,r=.xL l->i<=ws.length->zgq l+i<=ws.length:=by
 induction h with
 |done _=>rintro l e c;cases e;rw[zgq];omega
 |qw c b _ d=>
  rintro l e f;cases e;have g:=b.L0 a;have j:=d _ rfl (b.zB a).2.1;rw[zgq];omega
 |_=>rintro l e;cases e
theorem Zs: ∀(h:Nat)l,(Xe h l).length=l.length
 |_,[]=>rfl
 |h,o::l=>by rw[Xe,A8,Zs (h-1) l,A8]
theorem zgv(t:Bs):(zbN t).length<=2:=by
 unfold zbN;repeat' split
 all_goals simp
theorem Ja(us vs)(k n:Int)(t:ByteArray)(a:Nat):(qa us vs k n t a).length<=2:=by
 unfold qa;repeat' split
 all_goals first|exact zgv _|simp
theorem zcS(n h:Nat)(z:Bool)(a b):(YE n h z a b).length<=a.length+b.length+4:=by
 unfold YE;cases z<;>simp<;>omega
section
variable {us:List Fn}{vs:P4}
mutual
theorem yG: ∀x(n h:Nat),(O7 us vs n h x).length<=5*Qn x
 |.mk k nn t xs p,n,h=>by
  rw[O7,Qn]
  split
  ·have a:=zcS n h (decide (lv t.data.toList=1)) (hdC us vs n h xs) (sdC us vs (n+(hdC us vs n h xs).length+(if decide (lv t.data.toList=1)then 1 else 0)+1) h xs)
   have b:=zi0 xs n (n+(hdC us vs n h xs).length+(if decide (lv t.data.toList=1)then 1 else 0)+1) h;omega
  ·have a:=Jl xs n h
   have b:=Ja us vs k nn t xs.length;rw[A9,Zs];omega
theorem Jl: ∀xs(n h:Nat),(zh us vs n h xs).length<=5*jw xs
 |[],n,h=>by rw[zh];exact D0 _
 |a::l,n,h=>by
  have b:=yG a n h;have c:=Jl l (n+(O7 us vs n h a).length) (h+1);rw[zh,jw,A9];omega
theorem zke: ∀xs(n h:Nat),(hdC us vs n h xs).length<=5*jw xs
 |[],n,h=>by rw[hdC];exact D0 _
 |a::l,n,h=>by have b:=yG a n h;rw[hdC,jw];omega
theorem zi0: ∀xs(n b h:Nat),(hdC us vs n h xs).length+(sdC us vs b h xs).length<=5*jw xs
 |[],n,b,h=>by rw[hdC,sdC];exact D0 _
 |a::l,n,b,h=>by have c:=yG a n h;have d:=zke l b h;rw[hdC,sdC,jw];omega
end
mutual
theorem zkg: ∀s(n m:Nat)vs,(Z9 us n vs m s).1.length<=5*smN s
 |.mk k nm a J0 M9 p,n,m,vs=>by
  have b:=yG (us:=us) (vs:=vs) a n 0;have c:=xS J0 (n+(O7 us vs n 0 a).length+1) m vs;have d:=xS M9 (n+(O7 us vs n 0 a).length+(X9 us (n+(O7 us vs n 0 a).length+1) vs m J0).1.length+2) (X9 us (n+(O7 us vs n 0 a).length+1) vs m J0).2 vs;rw[Z9,smN]
  repeat' split
  all_goals
   simp only[A9,A8,B1];omega
theorem xS: ∀l(n m:Nat)vs,(X9 us n vs m l).1.length<=5*qL l
 |[],n,m,vs=>by rw[X9];exact D0 _
 |s::l,n,m,vs=>by
  have a:=zkg s n m vs;have b:=xS l (n+(Z9 us n vs m s).1.length) (Z9 us n vs m s).2.2 (Z9 us n vs m s).2.1;rw[X9,qL];simp only[A9];omega
end
end
inductive YH(q:Bool):Ex->Ex->Prop
 |mk {a b:Ex} (hk:a.I9=b.I9) (hp:q=true->a.pos=b.pos) (hl:a.args.length=b.args.length) (hn:a.I9=1\/a.I9=2\/a.I9=8->a.n=b.n) (ht:a.I9=3\/a.I9=7\/a.I9=6->a.K0=b.K0)
  (hr: ∀(k:Nat)(x y:Ex),a.args[k]?=some x->b.args[k]?=some y->YH q x y):YH q a b
inductive Jt(q:Bool):Sm->Sm->Prop
 |mk {a b:Sm} (hk:a.I9=b.I9) (hp:q=true->a.pos=b.pos) (he:YH q a.a b.a) (hn:a.I9<=2->a.J2=b.J2)
  (hb:a.I9=3\/a.I9=4->a.J0.length=b.J0.length) (hb2:a.I9=3\/a.I9=4-> ∀(k:Nat)(x y:Sm),a.J0[k]?=some x->b.J0[k]?=some y->Jt q x y)
  (hl:a.I9=3->a.M9.length=b.M9.length) (hl2:a.I9=3-> ∀(k:Nat)(x y:Sm),a.M9[k]?=some x->b.M9[k]?=some y->Jt q x y):Jt q a b
def zew(q:Bool)(l m:List Sm):Prop:=l.length=m.length/\ ∀(k:Nat)(x y:Sm),l[k]?=some x->m[k]?=some y->Jt q x y
structure zoa(q:Bool)(f g:Fn):Prop where
 J2:f.J2=g.J2
 J1:f.J1=g.J1
 K4:f.K4=g.K4
 out:f.out=g.out
 pos:q=true->f.pos=g.pos
 J0:zew q f.J0 g.J0
def zk7(q:Bool)(l m:List Fn):Prop:=l.length=m.length/\ ∀(k:Nat)(x y:Fn),l[k]?=some x->m[k]?=some y->zoa q x y
def Jq{α:Type}{l:List α}{k:Nat}{x y:α}(b:l[k]?=some x)(a:l[k]?=some y):x=y:=by rw[b]at a;exact F6 a
def YH.zae(q:Bool)(a:Ex):YH q a a:=by
 cases a with|mk k n t xs p=>
 refine .mk rfl (λ_=>rfl) rfl (λ_=>rfl) (λ_=>rfl) λi x y b c=>?_
 obtain rfl:=Jq b c;have d:x∈xs:=B7 b;exact YH.zae q x
 termination_by SizeOf.sizeOf a
 decreasing_by
 have:=List.sizeOf_lt_of_mem d;simp;omega
def Jt.zae(q:Bool)(a:Sm):Jt q a a:=by
 cases a with|mk k n a J0 M9 p=>
 refine .mk rfl (λ_=>rfl) (YH.zae q _) (λ_=>rfl) (λ_=>rfl) (λ_ i x y b c=>?_) (λ_=>rfl) (λ_ i x y b c=>?_)
 ·obtain rfl:=Jq b c
  have d:x∈J0:=B7 b;exact Jt.zae q x
 ·obtain rfl:=Jq b c
  have d:x∈M9:=B7 b;exact Jt.zae q x
 termination_by SizeOf.sizeOf a
 decreasing_by
 all_goals
  have:=List.sizeOf_lt_of_mem d;simp;omega
def zew.zae(q:Bool)(l:List Sm):zew q l l:=⟨rfl,λ_ x _ a b=>by obtain rfl:=Jq a b;exact Jt.zae q x⟩
def zk7.zae(q:Bool)(l:List Fn):zk7 q l l:=⟨rfl,λ_ x _ a b=>by obtain rfl:=Jq a b;exact⟨rfl,rfl,rfl,rfl,λ_=>rfl,zew.zae q _⟩⟩
end Go.Proofs.YtmngofgminlloaaGreatDoor
