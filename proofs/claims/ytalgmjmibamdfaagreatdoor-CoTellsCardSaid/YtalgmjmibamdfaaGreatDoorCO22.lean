/- Merged. -/
import Derived.Test.YtalgmjmibamdfaaGreatDoorCO21c
set_option linter.all false
set_option maxHeartbeats 16000000
set_option maxRecDepth 100000
namespace Go.Proofs.YtalgmjmibamdfaaGreatDoor
open Go.RowKit Tw
structure Ko where
 L:List Cf
 main:Nat
 M:Mc
 sl:Nat
structure yx(k:Ko):Prop where
 pg:zk k.L k.main
 l16:k.L.length<=16
 l4: ∀c∈k.L,c.J6.length<=4000
 rg: ∀c∈k.L,ZH c.J6
 m:jJ k.L k.main k.M
 r:McR k.M
 go:0<k.sl->k.M.mode=0
 hi:k.sl<=9223372036854775807
section
variable (hf:R4)(fuel:Nat)
def Ja(k:Ko):Ko:=if 0<k.sl then{k with sl:=k.sl-1}else{k with M:=(S1 k.L hf fuel k.M).1,sl:=if(S1 k.L hf fuel k.M).2=1 then(S1 k.L hf fuel k.M).1.value.toNat else 0}
def coL(i:Nat)(k:Ko):List (List Int):=if 0<k.sl then[]else(qt k.L hf fuel k.M).map λx=>(i:Int)::x.1::x.2
def coR(i:Nat)(k:Ko):List Int:=if 0<k.sl then[]else if k.M.mode=0 then[(i:Int)]else[]
def qR(ks:List Ko)(j:Nat):List (List Int):=(List.range j).flatMap λi=>match ks[i]? with|some k=>coL hf fuel i k|none=>[]
end
def U6(ks:List Ko)(j:Nat):List Int:=(List.range j).flatMap λi=>match ks[i]? with|some k=>coR i k|none=>[]
section
variable {hf:R4}{fuel j:Nat}{ks:List Ko}{k:Ko}
theorem xL(h:ks[j]?=some k):qR hf fuel ks (j+1)=qR hf fuel ks j++coL hf fuel j k:=by
 unfold qR;rw[List.range_succ,List.flatMap_append];simp[h]
theorem qW(h:ks[j]?=some k):U6 ks (j+1)=U6 ks j++coR j k:=by
 unfold U6;rw[List.range_succ,List.flatMap_append];simp[h]
theorem zdy(P:List Cf)(hf:R4)(n:Nat)(M:Mc):(qt P hf n M).length<=n:=by
 induction n generalizing M with
 |zero=>unfold qt;split<;>simp
 |succ n a=>
  unfold qt
  split
  ·simp
  ·split
   ·simp
   ·simp
   ·rename_i m f b c
    obtain rfl:n=m:=Nat.succ.inj b;simp only[z9];have d:=Zp P f;have:=a (R5 P hf M.value M.P0.dropLast f).1
    split
    ·simp;omega
    ·omega
theorem QS(hf:R4)(fuel:Nat)(ks:List Ko)(j:Nat):(qR hf fuel ks j).length<=j*fuel:=by
 induction j with
 |zero=>simp[qR]
 |succ j a=>
  unfold qR;rw[List.range_succ,List.flatMap_append,z9,Nat.succ_mul];refine Nat.add_le_add a ?_;simp only[List.flatMap_cons,List.flatMap_nil,List.append_nil]
  split
  ·unfold coL
   split
   ·simp
   ·rw[D9];exact zdy _ _ _ _
  ·simp
theorem YY{P:List Cf}{v:Int}{fs:List Fq}{f:Fq}{o:S3}{l xs:List Int}(h:(M8 P hf v fs f o l xs).2=true):(M8 P hf v fs f o l xs).1.mode=0:=by
 have b: ∀(c:Prop)[Decidable c](x y:Mc×Bool),x.2=false->y.2=false->(if c then x else y).2=false:=by intros;split<;>assumption
 by_cases a:o.1=19
 ·unfold M8
  simp[a]
 ·have:(M8 P hf v fs f o l xs).2=false:=by
   unfold M8;simp only[B5 a]
   repeat' (first|rfl|refine b _ _ _ ?_ ?_)
   all_goals(split<;>rfl)
  rw[this]at h;cases h
theorem QV(ks:List Ko)(j:Nat):(U6 ks j).length<=j:=by
 induction j with
 |zero=>simp[U6]
 |succ j a=>
  unfold U6 at a|-
  rw[List.range_succ,List.flatMap_append,z9];refine Nat.add_le_add a ?_;simp only[List.flatMap_cons,List.flatMap_nil,List.append_nil]
  split
  ·unfold coR;split
   ·simp
   ·split<;>simp
  ·simp
theorem zaq(P:List Cf)(hf:R4)(n:Nat)(M:Mc):(S1 P hf n M).2=1->(S1 P hf n M).1.mode=0:=by
 induction n generalizing M with
 |zero=>unfold S1;split<;>simp
 |succ n b=>
  unfold S1
  split
  ·simp
  ·split
   ·simp
   ·simp
   ·rename_i m f c d
    obtain rfl:n=m:=Nat.succ.inj c;simp only
    split
    ·rename_i a
     intro _;unfold R5 at a|-
     split at a
     ·cases a
     ·exact YY a
    ·exact b _
theorem yx.round(h:yx k)(hf:R4)(b: ∀f xs,qX (hf f xs).1/\qX (hf f xs).2)(fuel:Nat):yx (Ja hf fuel k):=by
 unfold Ja
 split
 ·rename_i a
  exact⟨h.pg,h.l16,h.l4,h.rg,h.m,h.r,λ_=>h.go a,by have:=h.hi;simp only;omega⟩
 ·refine⟨h.pg,h.l16,h.l4,h.rg,zbv h.pg hf fuel k.M h.m,Xz h.rg b fuel k.M h.r,λa=>?_,?_⟩
  ·simp only at a|-
   split at a
   ·rename_i c;exact zaq _ _ _ _ c
   ·omega
  ·have:=(Xz h.rg b fuel k.M h.r).1
   unfold qX at this;simp only
   split<;>omega
end
theorem Hk.of{Z:Nat}{w w':World}(h:Below w.heap.size w w')(b:Z<=w.heap.size):Hk Z w w':=
 ⟨h.os,h.tape,h.output,λk a=>h.block k (by omega),h.size,λk _ _ _ a _=>h.block k (I7 a)⟩
theorem Hk.trans{Z:Nat}{w w' w2:World}(h:Hk Z w w')(a:Hk Z w' w2):Hk Z w w2:=
 ⟨a.os.trans h.os,a.tape.trans h.tape,a.output.trans h.output,λk b=>(a.low k b).trans (h.low k b),C4 h.size a.size,λk d t e b f=>(a.K3 k d t e ((h.K3 k d t e b f).trans b) f).trans (h.K3 k d t e b f)⟩
theorem Qh.hk{Z:Nat}{w w':World}(h:Qh Z w.heap.size w w'):Hk Z w w':=⟨h.os,h.tape,h.output,h.low,h.size,λk b t d a e=>h.K3 k b t d (I7 a) a e⟩
section
variable {w w':World}
theorem Ti.hk{Z:Nat}(h:Hk Z w w'){g:Nat}(a:Ti w g):w'.heap[g]?=w.heap[g]?:=h.K3 g _ _ _ a.choose_spec (by unfold xo;decide)
theorem Hk.zhS{Z:Nat}(h:Hk Z w w'){v:Value}{F:Nat->Prop}{l:List Int}(hi:K9 w (λg=>Ti w g/\F g) v l):K9 w' (λg=>Ti w' g/\F g) v l:=
 hi.J0 λg a b=>⟨⟨⟨a.1.choose,(a.1.hk h).trans a.1.choose_spec⟩,a.2⟩,z6 b h.size,a.1.hk h⟩
def JT(w:World)(F:Nat->Prop)(A:Option Addr)(c:Nat)(l:List Int):Prop:=K9 w (λg=>Ti w g/\F g) (.slice A l.length c) l/\l.length<=c
theorem JT.hk{Z:Nat}(h:Hk Z w w'){A:Option Addr}{c:Nat}{F:Nat->Prop}{l:List Int}(hi:JT w F A c l):JT w' F A c l:=⟨h.zhS hi.1,hi.2⟩
theorem JT.sl{A:Option Addr}{c:Nat}{F:Nat->Prop}{l:List Int}(hi:JT w F A c l):yE w A c l:=⟨hi.1.J0 λg _ a=>⟨trivial,a,rfl⟩,hi.2⟩
theorem XD{base c:Nat}{A:Option Addr}{l:List Int}(h:w.ownsRow base 3 1 (.slice A l.length c) l.length (iC l)):JT w (λg=>base<=g) A c l:=⟨Xy h,(N9 h).1⟩
theorem JT.imp{A:Option Addr}{c:Nat}{F F':Nat->Prop}{l:List Int}(hi:JT w F A c l)(h: ∀g,g<w.heap.size->F g->F' g):JT w F' A c l:=⟨hi.1.J0 λg a b=>⟨⟨a.1,h g b a.2⟩,b,rfl⟩,hi.2⟩
end
abbrev Kv:Type:=Ko×Value×Value
def Kv.cells(b:Kv):List Value:=[b.2.1,.int .i64 b.1.main,b.2.2,.int .i64 b.1.sl]
structure xh(w:World)(F:Nat->Prop)(b:Kv):Prop where
 f: ∃A c,b.2.1=.slice A b.1.L.length c
 fi:M3 w b.2.1 (b.1.L.map Cf.pf)
 s: ∃A c,b.2.2=.slice A (K4 b.1.M).length c/\JT w F A c (K4 b.1.M)
theorem xh.hk{Z:Nat}{w w':World}(h:Hk Z w w'){F:Nat->Prop}{b:Kv}(hi:xh w F b):xh w' F b:=
 ⟨hi.f,hi.fi.J0 h.xi,by obtain⟨A,c,a,d⟩:=hi.s;exact⟨A,c,a,d.hk h⟩⟩
theorem xh.imp{w:World}{F F':Nat->Prop}{b:Kv}(h:xh w F b)(hf: ∀g,g<w.heap.size->F g->F' g):xh w F' b:=⟨h.f,h.fi,by obtain⟨A,c,a,d⟩:=h.s;exact⟨A,c,a,d.imp hf⟩⟩
structure X7(w:World)(A:Option Addr)(c:Nat)(l:List Kv):Prop where
 cap:l.length<=c
 jd: ∀b∈l,xh w (λ_=>True) b
 ok: ∀b∈l,yx b.1
 K3:(l=[]/\A=none/\c=0)\/ ∃g cs,A=some ⟨g,0,none⟩/\w.heap[g]?=some (.cells cs 61 (0,0))/\ ∀j u,(l.flatMap Kv.cells)[j]?=some u->w.cell? ⟨g,j,none⟩=some u
section
variable {w w':World}{A:Option Addr}{c:Nat}{l:List Kv}
theorem X7.hk{Z:Nat}(h:Hk Z w w')(hi:X7 w A c l):X7 w' A c l:=by
 refine⟨hi.cap,λb f=>(hi.jd b f).hk h,hi.ok,?_⟩
 rcases hi.K3 with i|⟨g,k,m,d,n⟩
 ·exact .inl i
 ·have e:=h.K3 g _ _ _ d (by unfold xo;decide)
  exact .inr ⟨g,k,m,e.trans d,λj u o=>(E9 (a:=⟨g,j,none⟩) e).trans (n j u o)⟩
theorem X7.at(h:X7 w A c l){i:Nat}{b:Kv}(a:l[i]?=some b): ∃g,A=some ⟨g,0,none⟩/\g<w.heap.size/\(∀j u,b.cells[j]?=some u->w.cell? ⟨g,i*4+j,none⟩=some u)/\xh w (λ_=>True) b/\yx b.1:=by
 have d:=B7 a
 rcases h.K3 with⟨rfl,-⟩|⟨g,n,e,f,k⟩
 ·cases a
 ·exact⟨g,e,I7 f,λj u m=>k _ u (Q6 Kv.cells 4 (λ_=>rfl) l i b a j u m),h.jd b d,h.ok b d⟩
theorem X7.get(h:X7 w A c l){i:Nat}{b:Kv}(o:l[i]?=some b): ∃(g:Nat)(L:List Cf)(main:Nat)(M:Mc)(sl:Nat)(a:Option Addr)(d:Nat)(e:Option Addr)(f:Nat),b=(⟨L,main,M,sl⟩,.slice a L.length d,.slice e (K4 M).length f)/\A=some ⟨g,0,none⟩/\g<w.heap.size/\(w.cell? ⟨g,i*4,none⟩=some (.slice a L.length d)/\w.cell? ⟨g,i*4+1,none⟩=some (.int .i64 main)/\w.cell? ⟨g,i*4+2,none⟩=some (.slice e (K4 M).length f)/\w.cell? ⟨g,i*4+3,none⟩=some (.int .i64 sl))/\M3 w (.slice a L.length d) (L.map Cf.pf)/\JT w (λ_=>True) e f (K4 M)/\yx ⟨L,main,M,sl⟩:=by
 obtain⟨g,p,q,j,r,s⟩:=h.at o;obtain⟨⟨L,main,M,sl⟩,u,v⟩:=b;obtain⟨⟨a,d,k⟩,m,e,f,n,t⟩:=r;simp only at k n m;subst k n;exact⟨g,L,main,M,sl,a,d,e,f,rfl,p,q,⟨j 0 _ rfl,j 1 _ rfl,j 2 _ rfl,j 3 _ rfl⟩,m,t,s⟩
theorem X7.ql{base:Nat}(h:w.ownsRow base 61 4 (.slice A l.length c) l.length (l.flatMap Kv.cells)){F:Nat->Prop}(d: ∀b∈l,xh w F b)(f: ∀b∈l,yx b.1):X7 w A c l:=by
 refine⟨(N9 h).1,λb i=>(d b i).imp λ_ _ _=>trivial,f,?_⟩
 rcases N8 h with⟨j,k⟩|⟨g,m,e,-,s,n⟩
 ·injection j with o _ p
  exact .inl ⟨List.length_eq_zero_iff.1 k,o,p⟩
 ·obtain⟨q,a⟩:=zC h (g:=g) (by rw[e];rfl)
  injection e with r t u
  exact .inr ⟨g,q,r,a,n⟩
theorem Ys{α:Type}(f:α->List Value)(b:Nat)(hf: ∀a,(f a).length=b){x y:α}{j:Nat}{u:Value}(d:j<b)(e:(f x).set j u=f y): ∀(l:List α)(i:Nat),l[i]?=some x->(l.flatMap f).set (i*b+j) u=(l.set i y).flatMap f
 |[],_,h=>by cases h
 |a::l,0,h=>by
  injection h with h
  subst h;simp only[List.flatMap_cons,List.set_cons_zero,Nat.zero_mul,Nat.zero_add];rw[List.set_append_left _ _ (by rw[hf];exact d),e]
 |a::l,i+1,h=>by
  simp only[List.flatMap_cons,List.set_cons_succ];rw[List.set_append_right _ _ (by rw[hf,Nat.succ_mul];omega),hf,show(i+1)*b+j-b=i*b+j by rw[Nat.succ_mul];omega,Ys f b hf d e l i (by simpa using h)]
end
structure xn(Z lv:Nat)(F:Nat->Prop)(w:World)(rs:List (List Int)):Prop where
 row: ∃(A:Option Addr)(c:Nat)(vs:List Value),w.heap[lv]?=some (.cells #[.slice A rs.length c] 55 (0,0))/\w.ownsRow Z 22 1 (.slice A rs.length c) rs.length vs/\vs.length=rs.length/\ ∀(i:Nat)(v:Value),vs[i]?=some v-> ∃r,rs[i]?=some r/\r.length<=1000/\K9 w (λg=>Ti w g/\F g) v r
section
variable {Z lv:Nat}{F F':Nat->Prop}{w w':World}{rs:List (List Int)}
theorem xn.J0(h:xn Z lv F w rs)(d: ∀(g:Nat)(a:Array Value)(t:Nat),w.heap[g]?=some (.cells a t (0,0))->t=55\/t=22\/(t=3/\F g)->w'.heap[g]?=w.heap[g]?)(m: ∀g,Ti w g->F g->F' g):xn Z lv F' w' rs:=by
 refine⟨?_⟩;obtain⟨A,c,n,f,o,p,q⟩:=h.row;refine⟨A,c,n,(d lv _ _ f (.inl rfl)).trans f,M4 o λg a _ j=>d g a _ j (.inr (.inl rfl)),p,λi v s=>?_⟩;obtain⟨r,u,x,y⟩:=q i v s;refine⟨r,u,x,y.J0 λg ⟨⟨a,b⟩,k⟩ j=>?_⟩;have e:=d g a _ b (.inr (.inr ⟨rfl,k⟩));exact⟨⟨⟨a,e.trans b⟩,m g ⟨a,b⟩ k⟩,I7 (e.trans b),e⟩
theorem xn.below(h:xn Z lv F w rs)(a:Below w.heap.size w w'):xn Z lv F w' rs:=h.J0 (λg d t b _=>a.block g (I7 b)) λ_ _ h=>h
theorem xn.start(h:xn Z lv F w rs):xn Z lv (λg=>g<w.heap.size) w rs:=h.J0 (λ_ _ _ _ _=>rfl) λg h _=>I7 h.choose_spec
theorem xn.ZF(h:xn Z lv F w rs):xn Z lv (λ_=>True) w rs:=h.J0 (λ_ _ _ _ _=>rfl) λ_ _ _=>trivial
end
end Go.Proofs.YtalgmjmibamdfaaGreatDoor
namespace Go.Proofs.YtalgmjmibamdfaaGreatDoor
open Go.Proofs.Tryz
open Go.RowKit Tw
theorem yN{P:Program}{w:World}{t e size:Nat}(E:R1 P t e size)(m:TypeId){base:Nat}{v:Value}{n:Nat}{xs:List Value}(b:w.ownsRow base e size v n xs){H c:Nat}{d:Array Value}(f:w.heap[H]?=some (.cells d e (0,0)))(o:d.size=size)(p: ∀u∈d.toList,u.oneCell'=true)(q:n+1<=500000000000)(a:base<=w.heap.size):
 ∃g cap w',(Builtin.append_ #[t,t] m #[v,.slice (some ⟨H,0,none⟩) 1 c]).run P w=.ok (.slice (some ⟨g,0,none⟩) (n+1) cap) w'/\w'.ownsRow base e size (.slice (some ⟨g,0,none⟩) (n+1) cap) (n+1) (xs++d.toList)/\w.grownBy w' v.ownBlock/\(v.ownBlock=some g\/g=w.heap.size):=by
 obtain⟨i,z,r,s,j,k,l⟩:=E.get;obtain⟨x,h,w',y,A,B,C,-⟩:=run_append_lies (P:=P) w t m base e i z size i.bytes E.ut r s j rfl l E.pos v n xs b ⟨H,0,none⟩ 1 c d.toList (by simp[o]) (World.news_of_block f) p (by omega) (by unfold maxLen;omega) (qV k q) a w.heap.size rfl;exact⟨x,h,w',y,A,B,C⟩
theorem zdd:R1 prog 55 22 1:=⟨underlying55,by kernel_rfl,by decide⟩
structure LgW(Z Za lv:Nat)(F:Nat->Prop)(w:World)(rs:List (List Int))(i f:Int)(xs:List Int)(Ax:Option Addr)(cx:Nat)(ty ty':TypeId)(A:Option Addr)(c:Nat)(A':Option Addr)(c' g cap:Nat)(w2 w4:World):Prop where
 zju:(Builtin.append_ #[22,22] ty #[.slice (some ⟨w.heap.size,0,none⟩) 2 2,.slice Ax xs.length cx]).run prog (w.alloc (.cells #[.int .i64 i,.int .i64 f] 3))=.ok (.slice A' (2+xs.length) c') w2
 zjC:(Builtin.append_ #[55,55] ty' #[.slice A rs.length c,.slice (some ⟨w2.heap.size,0,none⟩) 1 1]).run prog (w2.alloc (.cells #[.slice A' (2+xs.length) c'] 22))=.ok (.slice (some ⟨g,0,none⟩) (rs.length+1) cap) w4
 c0:w.cell? ⟨lv,0,none⟩=some (.slice A rs.length c)
 c1:(w.alloc (.cells #[.int .i64 i,.int .i64 f] 3)).cell? ⟨lv,0,none⟩=some (.slice A rs.length c)
 c2:w2.cell? ⟨lv,0,none⟩=some (.slice A rs.length c)
 c3:(w2.alloc (.cells #[.slice A' (2+xs.length) c'] 22)).cell? ⟨lv,0,none⟩=some (.slice A rs.length c)
 c4:w4.cell? ⟨lv,0,none⟩=some (.slice A rs.length c)
 f4:w4.frozen? ⟨lv,0,none⟩=false
 lg:xn Za lv (λk=>F k\/w.heap.size<=k) (w4.setCell ⟨lv,0,none⟩ (.slice (some ⟨g,0,none⟩) (rs.length+1) cap)) (rs++[i::f::xs])
 hk:Hk Z w (w4.setCell ⟨lv,0,none⟩ (.slice (some ⟨g,0,none⟩) (rs.length+1) cap))
 b2:Below w.heap.size w w2
 ex: ∀k,k<Za->k≠lv->(w4.setCell ⟨lv,0,none⟩ (.slice (some ⟨g,0,none⟩) (rs.length+1) cap)).heap[k]?=w.heap[k]?
 b4: ∀(k:Nat)(cs:Array Value)(t:Nat)(fr:Nat×Nat),w.heap[k]?=some (.cells cs t fr)->t≠22->w4.heap[k]?=w.heap[k]?
theorem xn.W8{Z E lv:Nat}{F:Nat->Prop}{w:World}{rs:List (List Int)}(h:xn E lv F w rs)(G:E<=w.heap.size)(H:Z<=E)(S:Z<=lv)(i f:Int){Ax:Option Addr}{cx:Nat}{xs:List Int}(hx:K9 w (Ti w) (.slice Ax xs.length cx) xs)(a5:xs.length<=600)(hr:rs.length<10000000)(ty I:TypeId):
 ∃A c A' c' g cap w2 w4,LgW Z E lv F w rs i f xs Ax cx ty I A c A' c' g cap w2 w4:=by
 obtain⟨A,c,T,m,hO,J,U⟩:=h.row;have u:=I7 m;have B:=(y7 w.heap.size w).alloc (y6 _) (.cells #[.int .i64 i,.int .i64 f] 3);have K:=World.ownsRow_lit (base:=w.heap.size) (e:=3) (size:=1) w #[.int .i64 i,.int .i64 f] 2 (y6 _) (by decide) rfl;obtain⟨A',c',w2,r1,V,W,-⟩:=Z6 (xs:=[i,f]) (ys:=xs) ty K ((hx.J0 λg _ P=>⟨trivial,z6 P B.size,B.block g P⟩:K9 _ (λ_=>True) _ xs)) (by omega) B.size;have Q:Below w.heap.size w w2:=B.grown W B.size (λk a=>(K.lt k a).1);have L:w2.ownsRow w.heap.size 3 1 (.slice A' (2+xs.length) c') (2+xs.length) (iC (i::f::xs)):=V;have x:=Q.alloc Q.size (.cells #[.slice A' (2+xs.length) c'] 22);have y:=M4 hO λg b _ hg=>x.block g (I7 hg);obtain⟨g,cap,w4,r2,X,z,a4⟩:=yN (c:=1) zdd I y (y9 w2 (.cells #[.slice A' (2+xs.length) c'] 22)) rfl (by simp[Value.oneCell']) (by omega) (C4 G x.size);have R: ∀(k:Nat)(b:Array Value)(t:Nat)(n:Nat×Nat),w.heap[k]?=some (.cells b t n)->t≠22->w4.heap[k]?=w.heap[k]?:=λk b t n a C=>by
  have M:=x.block k (I7 a);refine(z.block k (z6 (I7 a) x.size) λe=>?_).trans M;obtain⟨Y,d⟩:=zC hO e.symm;rw[a]at d;injection d with d
  injection d with _ d
  exact C d
 have q:=(R lv _ _ _ m (by decide)).trans m;have s:Below E w w4:=(x.mono G).grown z (C4 G x.size) λk a=>(y.lt k a).1;have o:=(s.mono H).trans ((y7 Z w4).grown (J2 w4 lv 0 (.slice (some ⟨g,0,none⟩) (rs.length+1) cap)) (C4 H (C4 G s.size)) λk a=>by injection a with a;subst a;exact S);have s5: ∀(k:Nat)(b:Array Value)(t:Nat)(n:Nat×Nat),w4.heap[k]?=some (.cells b t n)->t≠55->(w4.setCell ⟨lv,0,none⟩ (.slice (some ⟨g,0,none⟩) (rs.length+1) cap)).heap[k]?=w4.heap[k]?:=λk b t n a C=>(J2 w4 lv 0 _).block k (I7 a) λe=>by
  injection e with e
  subst e;rw[q]at a;injection a with a
  injection a with _ a
  exact C a.symm
 have k5: ∀(k:Nat)(b:Array Value)(t:Nat)(n:Nat×Nat),w.heap[k]?=some (.cells b t n)->t≠22->t≠55->(w4.setCell ⟨lv,0,none⟩ (.slice (some ⟨g,0,none⟩) (rs.length+1) cap)).heap[k]?=w.heap[k]?:=λk b t n a h1 P=>(s5 k b t n ((R k b t n a h1).trans a) P).trans (R k b t n a h1);refine⟨A,c,A',c',g,cap,w2,w4,r1,r2,y5 m 0,(B.cell (p:=⟨lv,0,none⟩) u).trans (y5 m 0),(Q.cell (p:=⟨lv,0,none⟩) u).trans (y5 m 0),(x.cell (p:=⟨lv,0,none⟩) u).trans (y5 m 0),y5 q 0,B4 q 0,⟨some ⟨g,0,none⟩,cap,T++[.slice A' (2+xs.length) c'],?_,?_,by simp[J],λj v N=>?_⟩,⟨o.os,o.tape,o.output,λk a=>o.block k a,o.size,λk b t n a C=>k5 k b t n a (λe=>C (.inl e)) λe=>C (.inr e)⟩,Q,λk a a0=>((J2 w4 lv 0 _).block k (z6 a (C4 G s.size)) λe=>a0 (by injection e)).trans (s.block k a),R⟩
 ·rw[z9];exact z5 w4 lv 0 _ _ _ q
 ·rw[z9]
  exact M4 X λk b _ a=>s5 k b _ _ a (by decide)
 ·rcases E5 j T.length with hj|hj
  ·rw[List.getElem?_append_left hj]at N
   obtain⟨r,O,h6,h7⟩:=U j v N;refine⟨r,by rw[List.getElem?_append_left (by omega)];exact O,h6,h7.J0 λk ⟨⟨b,D⟩,hf⟩ a=>?_⟩;have he:=k5 k b _ _ D (by decide) (by decide);exact⟨⟨⟨b,he.trans D⟩,.inl hf⟩,I7 (he.trans D),he⟩
  ·obtain rfl:j=T.length:=by have:=(List.getElem?_eq_some_iff.1 N).1;simp at this;omega
   rw[List.getElem?_append_right (y6 _),Nat.sub_self]at N;obtain rfl:.slice A' (2+xs.length) c'=v:=by simpa using N
   refine⟨i::f::xs,by rw[J,List.getElem?_append_right (y6 _),Nat.sub_self];rfl,by simp;omega,?_⟩;have e2:2+xs.length=(i::f::xs).length:=by simp;omega
   have hI:=Xy (l:=i::f::xs) (e2▸L);rw[<-e2]at hI;refine hI.J0 λk ⟨⟨b,D⟩,a1⟩ a=>?_;have M:=(D4 w2 (.cells #[.slice A' (2+xs.length) c'] 22) a).trans D;have d:w4.heap[k]?=some (.cells b 3 (0,0)):=(z.block k (I7 M) λe=>by
    obtain⟨Y,d⟩:=zC y e.symm;rw[M]at d;injection d with d
    injection d with _ d
    exact I2 d (by decide)).trans M
   have O:=(s5 k b _ _ d (by decide)).trans d;exact⟨⟨⟨b,O⟩,.inr a1⟩,I7 O,O.trans D.symm⟩
structure WhI(Z Za B:Nat)(w0:World)(Z0 b:Nat)(An:Option Addr)(nn cn lv:Nat)(F0:Nat->Prop)(r0:List (List Int))(who:Int)(bs:List (Nat×Array Value×Nat))(w:World)(S:Nat->Prop)(t:List (Int×List Int)):Prop where
 ho:Yc Z w0 Z0 b An nn cn w
 lg:xn Za lv (λk=>(k<B/\F0 k)\/S k) w (r0++t.map λx=>who::x.1::x.2)
 sz:JP w ⟨B,S⟩
 bx: ∀x∈bs,w.heap[x.1]?=some (.cells x.2.1 x.2.2 (0,0))
 sB: ∀k,S k->B<=k
 bw:B<=w.heap.size
structure RdS(Z Za Z0 b lv:Nat)(w0:World)(An:Option Addr)(cn:Nat)(ans:List Int):Prop where
 za:Z<=Za
 zl:Z<=lv
 z0:w0.heap.size=Z0
 zz:Z0<=Z
 bz:b<Z
 an:K9 w0 (λ_=>True) (.slice An ans.length cn) ans
 nn:ans.length<=4611686018427387904
structure WhS(Z Za B Z0 b lv:Nat)(r0:List (List Int))(bs:List (Nat×Array Value×Nat))(w0:World)(An:Option Addr)(cn:Nat)(ans:List Int):Prop extends RdS Z Za Z0 b lv w0 An cn ans where
 ab:Za<=B
 r0:r0.length<=1000000
 bs: ∀x∈bs,x.1<B/\(¬xo x.2.2\/(x.1<Za/\x.1≠lv))
section
variable {Z Za B Z0 b nn cn lv:Nat}{w0 w w':World}{An:Option Addr}{F0:Nat->Prop}{r0:List (List Int)}{who:Int}{bs:List (Nat×Array Value×Nat)}{S:Nat->Prop}{t:List (Int×List Int)}{ans:List Int}
theorem Yc.hk(h:Yc Z w0 Z0 b An nn cn w)(c:b<Z)(d:Z0<=Z)(a:Hk Z w w'):Yc Z w0 Z0 b An nn cn w':=
 ⟨C4 h.sz a.size,h.O7.trans ⟨a.os,a.tape,a.output,a.size,λk e=>a.low k (by omega)⟩,C4 h.z0 a.size,(a.low b c).trans h.K3⟩
theorem WhI.J0(h:WhI Z Za B w0 Z0 b An nn cn lv F0 r0 who bs w S t)(hs:WhS Z Za B Z0 b lv r0 bs w0 An cn ans)(a:Vo ⟨B,S⟩ w w'):WhI Z Za B w0 Z0 b An nn cn lv F0 r0 who bs w' S t:=by
 have c:Z0<=B:=C4 hs.zz (C4 hs.za hs.ab);refine⟨⟨C4 h.ho.sz a.O7.size,h.ho.O7.trans (a.O7.mono c),C4 h.ho.z0 a.O7.size,(a.K3 b _ _ _ h.ho.K3 (by simp[xm])).trans h.ho.K3⟩,h.lg.J0 (λg j u d i=>?_) (λ_ _ h=>h),a.szs h.sz,λx f=>(a.O7.block x.1 (hs.bs x f).1).trans (h.bx x f),h.sB,C4 h.bw a.O7.size⟩
 rcases i with rfl|rfl|⟨rfl,e|e⟩
 ·exact a.K3 g _ _ _ d (by simp[xm])
 ·exact a.K3 g _ _ _ d (by simp[xm])
 ·exact a.O7.block g e.1
 ·exact a.K3 g _ _ _ d (by simp[xm,e])
theorem WhI.call{i:World}{f:Int}{xs:List Int}(h:WhI Z Za B w0 Z0 b An nn cn lv F0 r0 who bs w S t)(hs:WhS Z Za B Z0 b lv r0 bs w0 An cn ans)(r:xn Za lv (λk=>((k<B/\F0 k)\/S k)\/w.heap.size<=k) i ((r0++t.map λx=>who::x.1::x.2)++[who::f::xs]))(l:Hk Z w i)(m: ∀k,k<Za->k≠lv->i.heap[k]?=w.heap[k]?)(n:Below i.heap.size i w'):
 (∃p,WhI Z Za B w0 Z0 b An nn cn lv F0 r0 who bs w' p (t++[(f,xs)])/\ ∀k,p k->S k\/w.heap.size<=k)/\Hk Z w w':=by
 have o:=C4 h.ho.sz l.size;have a:Hk Z w w':=l.trans (.of n o);refine⟨⟨λk=>S k\/(w.heap.size<=k/\Ti w' k),⟨h.ho.hk hs.bz hs.zz a,?_,λk c=>?_,λx j=>?_,λk c=>?_,C4 h.bw a.size⟩,λk c=>c.imp id And.left⟩,a⟩
 ·rw[List.map_append,<-B9]
  refine(r.below n).J0 (λ_ _ _ _ _=>rfl) λg s e=>?_
  rcases e with(e|e)|e
  ·exact .inl e
  ·exact .inr (.inl e)
  ·exact .inr (.inr ⟨e,s⟩)
 ·rcases c with d|⟨-,d⟩
  ·obtain⟨u,q⟩:=h.sz k d
   exact⟨u,(a.K3 k _ _ _ q (by unfold xo;decide)).trans q⟩
  ·exact d
 ·rcases(hs.bs x j).2 with d|⟨d,v⟩
  ·exact(a.K3 x.1 _ _ _ (h.bx x j) d).trans (h.bx x j)
  ·exact((n.block x.1 (z6 (I7 (h.bx x j)) l.size)).trans (m x.1 d v)).trans (h.bx x j)
 ·rcases c with d|⟨d,-⟩
  ·exact h.sB k d
  ·exact C4 h.bw d
end
theorem ziL{Z Za B Z0 b cn lv J:Nat}{F0:Nat->Prop}{w0 w:World}{An:Option Addr}{r0:List (List Int)}{who f:Int}{bs:List (Nat×Array Value×Nat)}{S:Nat->Prop}{t:List (Int×List Int)}{ans xs:List Int}{y:Option Addr}{z:Nat}(h:WhI Z Za B w0 Z0 b An ans.length cn lv F0 r0 who bs w S t)(hs:WhS Z Za B Z0 b lv r0 bs w0 An cn ans)(ht:Hid (t.length<1000000))(m:w.heap[J]?=some (.cells #[.func (.func 40) #[] #[.pointer (some ⟨b,0,none⟩)]] 52 (0,0)))(hx:K9 w (Ti w) (.slice y xs.length z) xs)(C:xs.length<=600)(h0:0<=f)(K:f<=100):
 Calls prog 20 #[.int .i64 who,.int .i64 f,.slice y xs.length z,.pointer (some ⟨lv,0,none⟩),.pointer (some ⟨J,0,none⟩)] w λe w'=>e=.returned (.tuple #[.int .i64 (M1 ans f xs).1,.int .i64 (M1 ans f xs).2])/\(∃X,WhI Z Za B w0 Z0 b An ans.length cn lv F0 r0 who bs w' X (t++[(f,xs)])/\ ∀k,X k->S k\/w.heap.size<=k)/\Hk Z w w':=by
 have n:Below w.heap.size w w.drew:=J5 w;have D:(r0++t.map λx=>who::x.1::x.2).length<10000000:=by have:=hs.r0;have:=ht.out;simp;omega
 have a:=h.lg.below n;have p:Za<=w.drew.heap.size:=C4 hs.ab h.bw;have q:K9 w.drew (Ti w.drew) (.slice y xs.length z) xs:=hx.J0 λg ⟨cs,hc⟩ M=>⟨⟨cs,hc⟩,M,rfl⟩;have r:Hk Z w w.drew:=.of n h.ho.sz;have s:w.drew.heap.size=w.heap.size:=rfl;generalize E:w.drew=N at a p q r s;obtain⟨A,c,Y,c',g,F,O,P,L⟩:=a.W8 p hs.za hs.zl who f q C D 22 55;have H:=zh h;have v:=zh hs;have HX:=zh hx;have i:=zh L;obtain⟨rs,u⟩: ∃rs,(r0++t.map λx=>who::x.1::x.2)=rs:=⟨_,rfl⟩;have Q:=zh u;rw[u]at i D;have r1:=i.out.zju;have r2:=i.out.zjC;have c0:=i.out.c0;have c1:=i.out.c1;have c2:=i.out.c2;have c3:=i.out.c3;have c4:=i.out.c4;have f4:=i.out.f4;have R:=zh r;have G:=zh E;have T:=zh s;clear h hs hx L u n a p q r E s
 go_enter func20,ntmps20
 go_upto_region 1 with(fail)
 refine L4 (by kernel_rfl) [(0,10,.slice A rs.length c),(1,11,.int .i64 who),(2,12,.int .i64 f),(3,13,.slice (some ⟨N.heap.size,0,none⟩) 2 2),(4,14,.slice y xs.length z),(5,15,.slice Y (2+xs.length) c'),(6,16,.slice (some ⟨O.heap.size,0,none⟩) 1 1),(7,17,.slice (some ⟨g,0,none⟩) (rs.length+1) F)] [] [(0,10),(1,11),(2,12),(3,13),(4,14),(5,15),(6,16),(7,17)] [] (by rfl) (by rfl) [3,5,6,7,8] (λj=>match j with|0=>N|1=>N.alloc (.cells #[.int .i64 who,.int .i64 f] 3)|2=>O|3=>O.alloc (.cells #[.slice Y (2+xs.length) c'] 22)|4=>P|_=>P.setCell ⟨lv,0,none⟩ (.slice (some ⟨g,0,none⟩) (rs.length+1) F)) [(0,0),(0,1),(0,2),(0,3),(1,0),(2,0),(3,0),(4,0),(4,1),(5,1),(6,2),(7,3),(8,4)] (by kernel_rfl) (by kernel_rfl) (by rfl) G.out.symm ?_ ?_
 ·generalize hF:J8 _ _=FF
  simp[J8]at hF;subst hF
  repeat' (first|refine List.forall_mem_cons.2 ⟨?_,?_⟩|exact List.forall_mem_nil _)
  all_goals
   intro o U;injection U with U
   subst U
  rotate_left 9
  ·exact O4 rfl rfl rfl r1
  rotate_left 1
  ·exact O4 rfl rfl rfl r2
  all_goals simp[X9,execOp,go_sem,c0,c1,c2,c3,c4,f4]
 ·simp only[J8,B6,C0,List.append_nil,List.foldl]
  go_simp;have a:=i.out.lg;have d:=R.out.trans i.out.hk;have l:=i.out.ex;generalize P.setCell _ _=w5 at a d l|-
  rw[<-Q.out,T.out]at a;rw[<-G.out]at l;have V:=zh a;have HK:=zh d;have W:Hid (∀k,k<Za->k≠lv->w5.heap[k]?=w.heap[k]?):=zh l;have a0:=y5 ((d.K3 J _ _ _ m (by unfold xo;decide)).trans m) 0;have HC:=zh (zd1 (H.out.ho.hk v.out.bz v.out.zz d) v.out.z0 v.out.an v.out.nn f xs y z ((HX.out.J0 λg K M=>⟨trivial,z6 M d.size,d.K3 g _ _ _ K.choose_spec (by unfold xo;decide)⟩:K9 w5 (λ_=>True) _ xs)) C h0 K);clear r1 r2 c0 c1 c2 c3 c4 f4 a d l i m
  go_wp2_with fail
  refine HC.out.mono ?_;rintro e w' ⟨rfl,I⟩;have HE:=zh (H.out.call v.out V.out HK.out W.out I);clear I HC
  go_wp2_with fail
  go_ret2;exact⟨rfl,HE.out⟩
def bsR(c d a lv b:Nat)(who:Int):List (Nat×Array Value×Nat):=[(c,#[.int .i64 who],3),(d,#[.func (.func 20) #[] #[.pointer (some ⟨lv,0,none⟩),.pointer (some ⟨a,0,none⟩)]],66),(a,#[.func (.func 40) #[] #[.pointer (some ⟨b,0,none⟩)]],52)]
def bsC(a c d lv b:Nat)(who:Int):List (Nat×Array Value×Nat):=[(a,#[.int .i64 who],3),(c,#[.pointer (some ⟨lv,0,none⟩)],69),(d,#[.func (.func 40) #[] #[.pointer (some ⟨b,0,none⟩)]],52)]
theorem zkt{Z Za B Z0 b cn lv d g j:Nat}{w0:World}{An:Option Addr}{r0:List (List Int)}{who:Int}{ans:List Int}{F0:Nat->Prop}{ex:List (Nat×Array Value×Nat)}(hs:WhS Z Za B Z0 b lv r0 ((bsR d g j lv b who)++ex) w0 An cn ans):zT Z B 45 #[.pointer (some ⟨g,0,none⟩),.pointer (some ⟨d,0,none⟩)] (M1 ans) (WhI Z Za B w0 Z0 b An ans.length cn lv F0 r0 who ((bsR d g j lv b who)++ex))where
 le:=C4 hs.za hs.ab
 J0:=λh q=>h.J0 hs q
 sz:=λh=>h.sz
 call:=λf r A c w S t s h k i u v=>by
  have a:=h.bx;simp only[bsR,B6,List.forall_mem_cons]at a;obtain⟨l,m,n,-⟩:=a;have z:=y5 l 0;have C:=y5 m 0;have o:=zh (ziL h hs s n k i u v);clear l m n h hs k;show Calls _ _ #[.int .i64 f,.slice A r.length c,.pointer (some ⟨g,0,none⟩),.pointer (some ⟨d,0,none⟩)] _ _
  go_enter func45,ntmps45
  go_wp2_with fail
  refine o.out.mono ?_;rintro e w' ⟨rfl,p⟩;have x:=zh p;clear p o
  go_wp2_with fail
  go_ret2;exact⟨rfl,x.out⟩
 eg:=λargs w=>by
  have y:=func45;unfold callFunc;simp[y];rfl
theorem zjZ{Z Za B Z0 b cn lv F m G:Nat}{w0:World}{An:Option Addr}{r0:List (List Int)}{who:Int}{ans:List Int}{F0:Nat->Prop}{ex:List (Nat×Array Value×Nat)}(hs:WhS Z Za B Z0 b lv r0 ((bsC F m G lv b who)++ex) w0 An cn ans):zT Z B 46 #[.pointer (some ⟨m,0,none⟩),.pointer (some ⟨F,0,none⟩),.pointer (some ⟨G,0,none⟩)] (M1 ans) (WhI Z Za B w0 Z0 b An ans.length cn lv F0 r0 who ((bsC F m G lv b who)++ex))where
 le:=C4 hs.za hs.ab
 J0:=λh hv=>h.J0 hs hv
 sz:=λh=>h.sz
 call:=λf xs T U w S t ht h V I h0 W=>by
  have J:=h.bx;simp only[bsC,B6,List.forall_mem_cons]at J;obtain⟨x0,x1,x2,-⟩:=J;have r:Below w.heap.size w w.drew:=J5 w;have K:(r0++t.map λx=>who::x.1::x.2).length<10000000:=by have:=hs.r0;have:=ht.out;simp;omega
  have d:=h.lg.below r;have s:Za<=w.drew.heap.size:=C4 hs.ab h.bw;have u:K9 w.drew (Ti w.drew) (.slice T xs.length U) xs:=V.J0 λg ⟨cs,hc⟩ X=>⟨⟨cs,hc⟩,X,rfl⟩;have v:Hk Z w w.drew:=.of r h.ho.sz;have y:w.drew.heap.size=w.heap.size:=rfl;have Y:w.drew.heap[F]?=_:=x0;have M:w.drew.heap[m]?=_:=x1;generalize N:w.drew=O at d s u v y Y M;obtain⟨A,c,A',c',g,P,w2,w4,L⟩:=d.W8 s hs.za hs.zl who f u I K 22 55;have H:=zh h;have D:=zh hs;have HX:=zh V;have i:=zh L;obtain⟨rs,z⟩: ∃rs,(r0++t.map λx=>who::x.1::x.2)=rs:=⟨_,rfl⟩;have a0:=zh z;rw[z]at i K;have r1:=i.out.zju;have r2:=i.out.zjC;have c0:=i.out.c0;have c1:=i.out.c1;have c2:=i.out.c2;have c3:=i.out.c3;have c4:=i.out.c4;have f4:=i.out.f4;have a1:=zh v;have Q:=zh N;have a2:=zh y;have d0:=y5 Y 0;have E:=y5 M 0;have n:=I7 M;have b1:=(y7 O.heap.size O).alloc (y6 _) (.cells #[.int .i64 who,.int .i64 f] 3);have e1:=(b1.cell (p:=⟨m,0,none⟩) n).trans E;have e2:=(i.out.b2.cell (p:=⟨m,0,none⟩) n).trans E;have b3:=i.out.b2.alloc i.out.b2.size (.cells #[.slice A' (2+xs.length) c'] 22);have e3:=(b3.cell (p:=⟨m,0,none⟩) n).trans E;have e4:=(E9 (a:=⟨m,0,none⟩) (i.out.b4 m _ _ _ M (by decide))).trans E;have hp:=I7 (h.lg.row.choose_spec.choose_spec.choose_spec.1);have C:=x2;clear h hs V L z r d s u v N y x0 x1 x2 Y M b1 b3 n;show Calls _ _ #[.int .i64 f,.slice T xs.length U,.pointer (some ⟨m,0,none⟩),.pointer (some ⟨F,0,none⟩),.pointer (some ⟨G,0,none⟩)] _ _
  go_enter func46,ntmps46
  go_upto_region 1 with(fail)
  refine L4 (by kernel_rfl) [(0,9,.pointer (some ⟨lv,0,none⟩)),(1,10,.pointer (some ⟨lv,0,none⟩)),(2,11,.pointer (some ⟨lv,0,none⟩)),(3,12,.slice A rs.length c),(4,13,.int .i64 who),(5,14,.int .i64 f),(6,15,.slice (some ⟨O.heap.size,0,none⟩) 2 2),(7,16,.slice T xs.length U),(8,17,.slice A' (2+xs.length) c'),(9,18,.slice (some ⟨w2.heap.size,0,none⟩) 1 1),(10,19,.slice (some ⟨g,0,none⟩) (rs.length+1) P),(11,20,.pointer (some ⟨lv,0,none⟩))] [] [(0,9),(1,10),(2,11),(3,12),(4,13),(5,14),(6,15),(7,16),(8,17),(9,18),(10,19),(11,20)] [] (by rfl) (by rfl) [6,8,9,10,12] (λj=>match j with|0=>O|1=>O.alloc (.cells #[.int .i64 who,.int .i64 f] 3)|2=>w2|3=>w2.alloc (.cells #[.slice A' (2+xs.length) c'] 22)|4=>w4|_=>w4.setCell ⟨lv,0,none⟩ (.slice (some ⟨g,0,none⟩) (rs.length+1) P)) [(0,0),(0,1),(0,2),(0,3),(0,4),(1,0),(1,1),(1,2),(1,3),(2,0),(2,1),(2,2),(2,3),(3,0),(3,1),(3,2),(3,3),(4,0),(5,0),(6,0),(7,0),(7,1),(8,1),(9,2),(10,3),(11,4),(12,4)] (by kernel_rfl) (by kernel_rfl) (by rfl) Q.out.symm ?_ ?_
  ·generalize hF:J8 _ _=FF
   simp[J8]at hF;subst hF
   repeat' (first|refine List.forall_mem_cons.2 ⟨?_,?_⟩|exact List.forall_mem_nil _)
   all_goals
    intro o ho;injection ho with ho
    subst ho
   rotate_left 22
   ·exact O4 rfl rfl rfl r1
   rotate_left 1
   ·exact O4 rfl rfl rfl r2
   all_goals simp[X9,execOp,go_sem,c0,c1,c2,c3,c4,f4,d0,E,e1,e2,e3,e4,hp]
  ·simp only[J8,B6,C0,List.append_nil,List.foldl]
   go_simp;have d:=i.out.lg;have l:=a1.out.trans i.out.hk;have q:=i.out.ex;generalize w4.setCell _ _=w5 at d l q|-
   rw[<-a0.out,a2.out]at d;rw[<-Q.out]at q;have a3:=zh d;have HK:=zh l;have a4:Hid (∀k,k<Za->k≠lv->w5.heap[k]?=w.heap[k]?):=zh q;have a5:=y5 ((l.K3 G _ _ _ C (by unfold xo;decide)).trans C) 0;have HC:=zh (zd1 (H.out.ho.hk D.out.bz D.out.zz l) D.out.z0 D.out.an D.out.nn f xs T U ((HX.out.J0 λg W X=>⟨trivial,z6 X l.size,l.K3 g _ _ _ W.choose_spec (by unfold xo;decide)⟩:K9 w5 (λ_=>True) _ xs)) I h0 W);clear r1 r2 c0 c1 c2 c3 c4 f4 d l q i C d0 E e1 e2 e3 e4 hp
   go_wp2_with fail
   refine HC.out.mono ?_;rintro e w' ⟨rfl,R⟩;have HE:=zh (H.out.call D.out a3.out HK.out a4.out R);clear R HC
   go_wp2_with fail
   go_ret2;exact⟨rfl,HE.out⟩
 eg:=λargs w=>by
  have hf:=func46;unfold callFunc;simp[hf];rfl
theorem YR{w:World}{A:Option Addr}{c:Nat}{l:List Kv}(h:X7 w A c l)(hl:l.length<=16):Calls prog 23 #[.slice A l.length c] w λe w'=>e=.returned (.int .i64 0)/\Below w.heap.size w w':=by
 have H:=zh h;clear h
 go_enter func23,ntmps23
 go_wp2_with fail
 go_loopw[10] (λi wr=> ∃j:Nat,j<=l.length/\i=.int .i64 j/\Hid (Below w.heap.size w wr)) (λi _=>l.length-(intOf i).toNat)
 case atStart=>exact⟨0,E2 _,rfl,zh (y7 _ _)⟩
 case round=>
  obtain⟨j,hj,rfl,f⟩:=hrel
  by_cases x:j<l.length
  ·obtain⟨b,I⟩: ∃b,l[j]?=some b:=⟨_,y8 x⟩
   obtain⟨g,L,d,M,v,y,z,J,K,rfl,rfl,r,⟨B,D,E,F⟩,N,O,P⟩:=H.out.get I;replace B:=(f.out.cell (p:=⟨g,j*4,none⟩) r).trans B;replace D:=(f.out.cell (p:=⟨g,j*4+1,none⟩) r).trans D;replace E:=(f.out.cell (p:=⟨g,j*4+2,none⟩) r).trans E;replace F:=(f.out.cell (p:=⟨g,j*4+3,none⟩) r).trans F;have S:=z6 r f.out.size;have s:=zh (N.J0 (.of f.out));have o:=zh (O.sl.low f.out);have t:=zh P;clear N O P I
   go_upto_region 6 with(fail)
   have q:=zh (y9 wr (.cells #[.slice y L.length z,.int .i64 d,.slice J (K4 M).length K,.int .i64 v] 61));have k:=(y7 wr.heap.size wr).alloc (y6 _) (.cells #[.slice y L.length z,.int .i64 d,.slice J (K4 M).length K,.int .i64 v] 61);have a:=zh (f.out.trans (k.mono f.out.size));replace s:=zh (s.out.J0 (.of k));replace o:=zh (o.out.low k);clear k B D E F;generalize World.alloc _ _=T at q a s o|-
   generalize wr.heap.size=U at q|-
   have C:=N6 q.out;have Q:=zh (zec L d t.out.pg t.out.l16 t.out.l4 y z T s.out t.out.m o.out)
   go_wp2_with fail
   refine Q.out.mono ?_;rintro e w2 ⟨rfl,n⟩;have u:=I7 q.out;replace q:=zh ((n.block U u).trans q.out);replace o:=zh (o.out.low n);replace a:=zh (a.out.trans (n.mono a.out.size));clear Q C n s u;have C:=N6 q.out;obtain⟨gs,os,rfl,V,R⟩:=o.out.1.at 0 M.mode rfl;have W:=o.out.2;have X:0<(K4 M).length:=by unfold K4;simp
   rw[Nat.add_zero]at R;have Y:=I7 q.out
   by_cases Z:0<v
   ·have G:=t.out.go Z
    simp only at G;rw[G]at R;clear G
    go_wp2_with fail
    go_roundw
    case rel=>exact⟨j+1,by omega,by go_num,a⟩
    case measure=>simp[intOf];omega
   ·obtain rfl:v=0:=by omega
    go_wp2_with fail
    go_roundw
    case rel=>exact⟨j+1,by omega,by go_num,a⟩
    case measure=>simp[intOf];omega
  ·go_wp2_with fail
   go_ret;exact⟨rfl,f.out⟩
theorem yu:R1 prog 56 61 4:=⟨underlying56,by kernel_rfl,by decide⟩
theorem zdO{P:Program}{w:World}{t e size:Nat}(E:R1 P t e size)(o:TypeId){base:Nat}{v:Value}{n:Nat}{xs:List Value}(b:w.ownsRow base e size v n xs){g c k:Nat}{ys:List Value}(p:ys.length=k*size)(q: ∀j u,ys[j]?=some u->w.cell? ⟨g,j,none⟩=some u)(r: ∀u∈ys,u.oneCell'=true)(s:0<k)(x:n+k<=500000000000)(a:base<=w.heap.size):
 ∃f cap w',(Builtin.append_ #[t,t] o #[v,.slice (some ⟨g,0,none⟩) k c]).run P w=.ok (.slice (some ⟨f,0,none⟩) (n+k) cap) w'/\w'.ownsRow base e size (.slice (some ⟨f,0,none⟩) (n+k) cap) (n+k) (xs++ys)/\w.grownBy w' v.ownBlock:=by
 obtain⟨i,z,y,A,h,l,m⟩:=E.get;obtain⟨f,d,w',B,C,D,G,-⟩:=run_append_lies (P:=P) w t o base e i z size i.bytes E.ut y A h rfl m E.pos v n xs b ⟨g,0,none⟩ k c ys (by rw[p]) (λj u F=>by rw[Addr.add_lit,Nat.zero_add];exact q j u F) r s (by unfold maxLen;omega) (qV l x) a w.heap.size rfl;exact⟨f,d,w',B,C,D⟩
theorem zd0{α:Type}(f:α->List Value)(sz:Nat)(hf: ∀a,(f a).length=sz)(l:List α):(l.flatMap f).length=l.length*sz:=by
 induction l with
 |nil=>simp
 |cons a l b=>rw[List.flatMap_cons,z9,b,hf,z7,Nat.succ_mul];omega
theorem X7.Y0{w:World}{A:Option Addr}{c:Nat}{l:List Kv}(h:X7 w A c l): ∀u∈l.flatMap Kv.cells,u.oneCell'=true:=λu a=>by
 obtain⟨b,d,a⟩:=List.mem_flatMap.1 a;obtain⟨⟨A,c,e⟩,-,g,i,f,-⟩:=h.jd b d;simp only[Kv.cells,E7,List.mem_nil_iff,or_false]at a
 rcases a with rfl|rfl|rfl|rfl
 ·rw[e];rfl
 ·rfl
 ·rw[f];rfl
 ·rfl
theorem zcV{w:World}{A:Option Addr}{c:Nat}{l:List Kv}(h:X7 w A c l)(v:l.length<=16):Calls prog 43 #[.slice A l.length c] w λe w'=> ∃A' c',e=.returned (.slice A' l.length c')/\w'.ownsRow w.heap.size 61 4 (.slice A' l.length c') l.length (l.flatMap Kv.cells)/\Below w.heap.size w w':=by
 rcases h.K3 with⟨a,rfl,rfl⟩|⟨g,I,rfl,k,m⟩
 ·rw[a]
  clear h v a;simp only[B1];have n:=Lib.run_eql_slice_nil (P:=prog) w 56 61 none 0 0 0 0 yu.ut
  go_enter func43,ntmps43
  go_wp2_with fail
  go_ret;exact⟨none,0,rfl,G5 _ _ _ _,y7 _ _⟩
 ·have b:=(y7 w.heap.size w).alloc (y6 _) (.cells #[] 61)
  have f:=World.ownsRow_made (e:=61) (size:=4) (base:=w.heap.size) w #[] 0 (y6 _) (by decide) rfl;have d: ∃A' c' w',(Builtin.append_ #[56,56] 56 #[.slice (some ⟨w.heap.size,0,none⟩) 0 0,.slice (some ⟨g,0,none⟩) l.length c]).run prog (w.alloc (.cells #[] 61))=.ok (.slice A' l.length c') w'/\w'.ownsRow w.heap.size 61 4 (.slice A' l.length c') l.length (l.flatMap Kv.cells)/\Below w.heap.size w w':=by
   rcases Nat.eq_zero_or_pos l.length with a|a
   ·obtain rfl:=List.length_eq_zero_iff.1 a
    obtain⟨i,z,x,n,y,B,C⟩:=yu.get;exact⟨_,_,_,run_append_nothing _ _ _ 56 _ i yu.ut x _ 0 0 (y6 _) _ (.ofSlice _ yu.ut ⟨g,0,none⟩ 0 c [] (by simp) (λj u h=>by simp at h) (λ_ h=>by cases h)),f,b⟩
   ·obtain⟨J,D,w',r,o,E⟩:=zdO yu 56 f (c:=c) (zd0 Kv.cells 4 (λ_=>rfl) l) (λj u F=>(b.cell (p:=⟨g,j,none⟩) (I7 k)).trans (m j u F)) h.Y0 a (by omega) b.size
    rw[Nat.zero_add]at r o;exact⟨_,_,w',r,o,L8 b f (y6 _) b.size E⟩
  obtain⟨A',c',w',r,o,t⟩:=d;have G:=zh o;have H:=zh t;have n:=Lib.run_eql_slice_nil (P:=prog) w 56 61 (some ⟨g,0,none⟩) l.length c 0 0 yu.ut;clear h k m b f o t
  go_enter func43,ntmps43
  go_wp2_with(at_builtin;refine Lib.wpList_append_run _ rfl _ _ _ _ rfl _ _ rfl rfl _ _ r ?_)
  go_ret;exact⟨A',c',rfl,G.out,H.out⟩
theorem zcF{x y m sl:Value}{k:Int}(v:sl=.int .i64 k){l:List Int}{f a:Option Addr}{g b:Nat}{m':Value}(w:World)(h:yE w f g l)(B:yE w a b l)(L:l.length<=30000)(hx:x.oneCell'=true)(M:y.oneCell'=true)(N:m.oneCell'=true)(G:m'.oneCell'=true):
 Calls prog 42 #[.agg #[x,m,.slice f l.length g,sl],.agg #[y,m',.slice a l.length b,sl]] w λe w'=>e=.returned (.bool true)/\Below w.heap.size w w':=by
 subst v;have z:=(y7 w.heap.size w).alloc (y6 _) (.cells #[x,m,.slice f l.length g,.int .i64 k] 61);have t:=z.alloc z.size (.cells #[y,m',.slice a l.length b,.int .i64 k] 61);have j:=y9 w (.cells #[x,m,.slice f l.length g,.int .i64 k] 61);have n:=y9 (w.alloc (.cells #[x,m,.slice f l.length g,.int .i64 k] 61)) (.cells #[y,m',.slice a l.length b,.int .i64 k] 61);have i:=(D4 (w.alloc (.cells #[x,m,.slice f l.length g,.int .i64 k] 61)) (.cells #[y,m',.slice a l.length b,.int .i64 k] 61) (I7 j)).trans j;have o:=zh t;have d:=zh i;have c:=zh n;have E:=zh (h.low t);have p:=zh (B.low t);clear z t j n i h B
 go_enter func42,ntmps42
 go_upto_region 1 with(fail)
 rw[show(w.alloc (.cells #[x,m,.slice f l.length g,.int .i64 k] 61)).heap.size=w.heap.size+1 by simp]at c;generalize World.alloc _ _=H at d c o E p|-
 generalize q:w.heap.size+1=I at c|-
 generalize r:w.heap.size=J at d o q|-
 clear q;have s:=zh r;clear r;have C:=N6 d.out;have K:=N6 c.out;have F:=zh (ZU l f a g b (λ_=>True) (λ_=>True) H E.out.1 p.out.1 (by omega))
 go_wp2_with fail
 refine F.out.mono ?_;rintro e O ⟨rfl,u⟩;have D:=N6 ((u.block J (I7 d.out)).trans d.out);have P:=N6 ((u.block I (I7 c.out)).trans c.out);have A:=zh (o.out.trans (u.mono (by rw[<-s.out]at o|-;exact o.out.size)));clear F C K u
 go_wp2_with fail
 go_ret;exact⟨rfl,by rw[s.out];exact A.out⟩
theorem zbi{w:World}{A A':Option Addr}{c c':Nat}{l l':List Kv}(h:X7 w A c l)(h':X7 w A' c' l')(S:l.map Prod.fst=l'.map Prod.fst)(hl:l.length<=16):Calls prog 18 #[.slice A l.length c,.slice A' l'.length c'] w λe w'=>e=.returned (.bool true)/\Below w.heap.size w w':=by
 have T:l'.length=l.length:=by have:=I1 List.length S;simpa using this.symm
 rw[T];have H:=zh h;have H':=zh h';have HE:=zh S;have HN:=zh T;clear h h' S T
 go_enter func18,ntmps18
 go_wp2_with fail
 refine Calls.mono (R:=λe w'=>e=.returned (.bool true)/\Below w.heap.size w w') ?_ ?_
 ·go_enter func41,ntmps41
  go_wp2_with fail
  go_loopw[17] (λi wr=> ∃j:Nat,j<=l.length/\i=.int .i64 j/\Hid (Below w.heap.size w wr)) (λi _=>l.length-(intOf i).toNat)
  case atStart=>exact⟨0,E2 _,rfl,zh (y7 _ _)⟩
  case round=>
   obtain⟨j,hj,rfl,f⟩:=hrel
   by_cases U:j<l.length
   ·obtain⟨b,o⟩: ∃b,l[j]?=some b:=⟨_,y8 U⟩
    obtain⟨b',r⟩: ∃b,l'[j]?=some b:=⟨_,y8 (by have:=HN.out;omega)⟩;have J:b.1=b'.1:=by
     have P:(l.map Prod.fst)[j]?=some b.1:=by rw[G3,o];rfl
     rw[HE.out,G3,r]at P;injection P with P
     exact P.symm
    obtain⟨g,L,k,M,D,V,W,As,cs,rfl,rfl,s,⟨X,Y,Z,q3⟩,-,hS,hO⟩:=H.out.get o;obtain⟨q,L',a0,M',a2,t,u,K,N,rfl,rfl,d,⟨E,F,G,I⟩,-,O,-⟩:=H'.out.get r;simp only[Ko.mk.injEq]at J;obtain⟨rfl,rfl,rfl,rfl⟩:=J;replace X:=(f.out.cell (p:=⟨g,j*4,none⟩) s).trans X;replace Y:=(f.out.cell (p:=⟨g,j*4+1,none⟩) s).trans Y;replace Z:=(f.out.cell (p:=⟨g,j*4+2,none⟩) s).trans Z;replace q3:=(f.out.cell (p:=⟨g,j*4+3,none⟩) s).trans q3;replace E:=(f.out.cell (p:=⟨q,j*4,none⟩) d).trans E;replace F:=(f.out.cell (p:=⟨q,j*4+1,none⟩) d).trans F;replace G:=(f.out.cell (p:=⟨q,j*4+2,none⟩) d).trans G;replace I:=(f.out.cell (p:=⟨q,j*4+3,none⟩) d).trans I;replace s:=z6 s f.out.size;replace d:=z6 d f.out.size;have v:=zh (hS.sl.low f.out);have n:=zh (O.sl.low f.out);clear hS O o r;have HL:=zh (YT hO.pg hO.m);clear hO
    go_upto_region 6 with(fail)
    have z:=zh (y9 wr (.cells #[.slice V L.length W,.int .i64 k,.slice As (K4 M).length cs,.int .i64 D] 61));have a:=(y7 wr.heap.size wr).alloc (y6 _) (.cells #[.slice V L.length W,.int .i64 k,.slice As (K4 M).length cs,.int .i64 D] 61);replace f:=zh (f.out.trans (a.mono f.out.size));replace v:=zh (v.out.low a);replace n:=zh (n.out.low a);replace E:=(a.cell (p:=⟨q,j*4,none⟩) d).trans E;replace F:=(a.cell (p:=⟨q,j*4+1,none⟩) d).trans F;replace G:=(a.cell (p:=⟨q,j*4+2,none⟩) d).trans G;replace I:=(a.cell (p:=⟨q,j*4+3,none⟩) d).trans I;replace d:=z6 d a.size;clear a X Y Z q3 s;generalize World.alloc _ _=Q at z f v n E F G I d|-
    generalize wr.heap.size=k1 at z|-
    go_upto_region 7 with(fail)
    have B:=zh (y9 Q (.cells #[.slice t L.length u,.int .i64 k,.slice K (K4 M).length N,.int .i64 D] 61));have a:=(y7 Q.heap.size Q).alloc (y6 _) (.cells #[.slice t L.length u,.int .i64 k,.slice K (K4 M).length N,.int .i64 D] 61);replace z:=zh ((a.block k1 (I7 z.out)).trans z.out);replace f:=zh (f.out.trans (a.mono f.out.size));replace v:=zh (v.out.low a);replace n:=zh (n.out.low a);clear a E F G I d;generalize World.alloc _ _=w2 at z B f v n|-
    generalize Q.heap.size=k2 at B|-
    have C:=N6 z.out;have C2:=N6 B.out;have SC:=zh (zcF (sl:=.int .i64 D) rfl (x:=.slice V L.length W) (y:=.slice t L.length u) (m:=.int .i64 k) (m':=.int .i64 k) w2 v.out n.out HL.out rfl rfl rfl rfl)
    go_wp2_with fail
    refine SC.out.mono ?_;rintro e w3 ⟨rfl,o⟩;have a1:=zh (f.out.trans (o.mono f.out.size));clear SC C C2 o
    go_wp2_with fail
    go_roundw
    case rel=>exact⟨j+1,by omega,by go_num,a1⟩
    case measure=>simp[intOf];omega
   ·go_wp2_with fail
    go_ret;exact⟨rfl,f.out⟩
 ·rintro e w' ⟨rfl,o⟩
  have f:=zh o;clear o
  go_wp2_with fail
  go_ret;exact⟨rfl,f.out⟩
def zb6(w:World)(A:Option Addr)(rs:List (List Int)):Prop:= ∀(i:Nat)(r:List Int),rs[i]?=some r-> ∃(g:Nat)(a:Option Addr)(c:Nat),A=some ⟨g,0,none⟩/\g<w.heap.size/\w.cell? ⟨g,i,none⟩=some (.slice a r.length c)/\r.length<=1000/\K9 w (λ_=>True) (.slice a r.length c) r
theorem zb6.low{w w':World}{A:Option Addr}{rs:List (List Int)}(h:zb6 w A rs)(b:Below w.heap.size w w'):zb6 w' A rs:=λi r e=>by
 obtain⟨g,a,c,f,d,j,k,l⟩:=h i r e;exact⟨g,a,c,f,z6 d b.size,(b.cell (p:=⟨g,i,none⟩) d).trans j,k,l.low b⟩
theorem xn.R9{Z lv:Nat}{F:Nat->Prop}{w:World}{rs:List (List Int)}(h:xn Z lv F w rs): ∃A c,w.heap[lv]?=some (.cells #[.slice A rs.length c] 55 (0,0))/\rs.length<=c/\zb6 w A rs:=by
 obtain⟨A,c,l,m,d,u,n⟩:=h.row;refine⟨A,c,m,(N9 d).1,λi r f=>?_⟩;obtain⟨x,-⟩:=List.getElem?_eq_some_iff.1 f;obtain⟨v,j⟩: ∃v,l[i]?=some v:=⟨_,y8 (by omega)⟩;obtain⟨y,b,o,k⟩:=n i v j;rw[f]at b;injection b with b
 subst b;obtain⟨a,p,rfl⟩:=k.zM
 rcases N8 d with⟨-,z⟩|⟨g,q,e,-,s,t⟩
 ·omega
 injection e with e
 exact⟨g,a,p,e,s,t i _ j,o,k.any⟩
theorem zfa{w:World}{A A':Option Addr}{c c':Nat}{rs:List (List Int)}(h:zb6 w A rs)(o:zb6 w A' rs)(B:rs.length<=c)(u:rs.length<=c')(C:rs.length<=100000000):Calls prog 22 #[.slice A rs.length c,.slice A' rs.length c',.func (.func 12) #[] #[]] w λe w'=>e=.returned (.bool true)/\Below w.heap.size w w':=by
 have H:=zh h;have v:=zh o;clear h o
 go_enter func22,ntmps22
 go_wp2_with fail
 go_loopw[17] (λi wr=> ∃j:Nat,j<=rs.length/\i=.int .i64 j/\Hid (Below w.heap.size w wr)) (λi _=>rs.length-(intOf i).toNat)
 case atStart=>exact⟨0,E2 _,rfl,zh (y7 _ _)⟩
 case round=>
  obtain⟨j,D,rfl,b⟩:=hrel
  by_cases f:j<rs.length
  ·obtain⟨r,k⟩: ∃r,rs[j]?=some r:=⟨_,y8 f⟩
   obtain⟨g,a,x,rfl,E,q,l,p⟩:=H.out.low b.out j r k;obtain⟨F,y,m,rfl,z,G,-,d⟩:=v.out.low b.out j r k;have s:=zh (ZU r a y x m (λ_=>True) (λ_=>True) wr p d (by omega));clear k p d l
   go_wp2_with fail
   refine s.out.mono ?_;rintro e I ⟨rfl,t⟩;have n:=zh (b.out.trans (t.mono b.out.size));clear s t
   go_wp2_with fail
   go_roundw
   case rel=>exact⟨j+1,by omega,by go_num,n⟩
   case measure=>simp[intOf];omega
  ·go_wp2_with fail
   go_ret;exact⟨rfl,b.out⟩
def Kv.pc(b:Kv):List Value:=[b.2.1,.int .i64 b.1.main]
structure zao(w:World)(A:Option Addr)(c:Nat)(l:List Kv):Prop where
 cap:l.length<=c
 jd: ∀b∈l,(∃A c,b.2.1=.slice A b.1.L.length c)/\M3 w b.2.1 (b.1.L.map Cf.pf)/\yx b.1/\b.1.M=L0 b.1.L b.1.main/\b.1.sl=0
 K3:(l=[]/\A=none/\c=0)\/ ∃g,A=some ⟨g,0,none⟩/\g<w.heap.size/\ ∀j u,(l.flatMap Kv.pc)[j]?=some u->w.cell? ⟨g,j,none⟩=some u
section
variable {w w':World}{A:Option Addr}{c:Nat}{l:List Kv}
theorem zao.low(h:zao w A c l)(d:Below w.heap.size w w'):zao w' A c l:=by
 refine⟨h.cap,λb i=>?_,?_⟩
 ·obtain⟨e,a,f⟩:=h.jd b i
  exact⟨e,a.J0 (.of d),f⟩
 ·rcases h.K3 with k|⟨g,e,a,f⟩
  ·exact .inl k
  ·exact .inr ⟨g,e,z6 a d.size,λj u m=>(d.cell (p:=⟨g,j,none⟩) a).trans (f j u m)⟩
theorem zao.get(h:zao w A c l){i:Nat}{b:Kv}(e:l[i]?=some b): ∃(g:Nat)(L:List Cf)(main:Nat)(a:Option Addr)(d:Nat)(vs:Value),b=(⟨L,main,L0 L main,0⟩,.slice a L.length d,vs)/\A=some ⟨g,0,none⟩/\g<w.heap.size/\(w.cell? ⟨g,i*2,none⟩=some (.slice a L.length d)/\w.cell? ⟨g,i*2+1,none⟩=some (.int .i64 main))/\M3 w (.slice a L.length d) (L.map Cf.pf)/\yx ⟨L,main,L0 L main,0⟩:=by
 obtain⟨⟨a,d,f⟩,j,k,m,n⟩:=h.jd b (B7 e);obtain⟨⟨L,main,M,r⟩,s,vs⟩:=b;simp only at f j k m n;subst f m n
 rcases h.K3 with⟨rfl,-⟩|⟨g,p,q,o⟩
 ·cases e
 ·exact⟨g,L,main,a,d,vs,rfl,p,q,⟨o _ _ (Q6 Kv.pc 2 (λ_=>rfl) l i _ e 0 _ rfl),o _ _ (Q6 Kv.pc 2 (λ_=>rfl) l i _ e 1 _ rfl)⟩,j,k⟩
end
theorem xh.J0{w w':World}{F:Nat->Prop}{b:Kv}(h:xh w F b)(j: ∀(k:Nat)(a:Array Value)(t:Nat)(d:Nat×Nat),w.heap[k]?=some (.cells a t d)->t≠61->w'.heap[k]?=w.heap[k]?):xh w' F b:=by
 refine⟨h.f,h.fi.J0 ⟨λg a t d m n=>j g a t d m (by rcases n with rfl|rfl<;>decide)⟩,?_⟩;obtain⟨A,c,o,p,q⟩:=h.s;exact⟨A,c,o,p.J0 λg ⟨⟨a,i⟩,r⟩ m=>by
  have e:=j g a _ _ i (by decide);exact⟨⟨⟨a,e.trans i⟩,r⟩,I7 (e.trans i),e⟩,q⟩
theorem ZK{w:World}{base:Nat}{A:Option Addr}{c:Nat}{l:List Kv}{b:Kv}{V:Array Value}{F:Nat->Prop}(z:TypeId)(B:w.ownsRow base 61 4 (.slice A l.length c) l.length (l.flatMap Kv.cells))(q:base<=w.heap.size)(E: ∀x∈l,xh w F x)(hi:xh w F b)(M:l.length<=1000)(r:V.toList=b.cells):
 ∃g cap w',(Builtin.append_ #[56,56] z #[.slice A l.length c,.slice (some ⟨w.heap.size,0,none⟩) 1 1]).run prog (w.alloc (.cells V 61))=.ok (.slice (some ⟨g,0,none⟩) (l.length+1) cap) w'/\
  w'.ownsRow base 61 4 (.slice (some ⟨g,0,none⟩) (l++[b]).length cap) (l++[b]).length ((l++[b]).flatMap Kv.cells)/\(∀x∈l++[b],xh w' F x)/\Below base w w'/\ ∀(k:Nat)(i:Array Value)(t:Nat)(p:Nat×Nat),w.heap[k]?=some (.cells i t p)->t≠61->w'.heap[k]?=w.heap[k]?:=by
 have d:=(y7 w.heap.size w).alloc (y6 _) (.cells V 61);have j:=M4 B λg i _ G=>d.block g (I7 G);have s:V.size=4:=by rw[<-Array.length_toList,r];rfl
 have v: ∀u∈V.toList,u.oneCell'=true:=by
  rw[r];obtain⟨⟨A,c,v⟩,-,N,O,y,-⟩:=hi;intro u C;simp only[Kv.cells,E7,List.mem_nil_iff,or_false]at C
  rcases C with rfl|rfl|rfl|rfl
  ·rw[v];rfl
  ·rfl
  ·rw[y];rfl
  ·rfl
 obtain⟨H,m,D,I,n,o,-⟩:=yN (c:=1) yu z j (y9 w (.cells V 61)) s v (by omega) (C4 q d.size);have a: ∀(k:Nat)(i:Array Value)(t:Nat)(p:Nat×Nat),w.heap[k]?=some (.cells i t p)->t≠61->D.heap[k]?=w.heap[k]?:=λk i t p h J=>by
  have y:=d.block k (I7 h);refine(o.block k (z6 (I7 h) d.size) λe=>?_).trans y;obtain⟨K,f⟩:=zC B e.symm;rw[h]at f;injection f with f
  injection f with _ f
  exact J f
 refine⟨H,m,D,I,?_,λx L=>?_,L8 (d.mono q) j (y6 _) (C4 q d.size) o,a⟩
 ·rw[z9,List.flatMap_append]
  rw[r]at n;simpa using n
 ·rcases List.mem_append.1 L with h|h
  ·exact(E x h).J0 a
  ·rw[List.mem_singleton.1 h];exact hi.J0 a
theorem zhH{w:World}{A:Option Addr}{c:Nat}{l:List Kv}(h:zao w A c l)(hl:l.length<=16):Calls prog 17 #[.slice A l.length c] w λe w'=> ∃A' c' l',e=.returned (.tuple #[.slice A' l.length c',.int .i64 0])/\X7 w' A' c' l'/\l'.map Prod.fst=l.map Prod.fst/\Below w.heap.size w w':=by
 have H:=zh h;clear h
 go_enter func17,ntmps17
 go_wp2_with fail
 go_loopw[4,13] (λo i wr=> ∃(d:List Kv)(A':Option Addr)(c':Nat),d.length<=l.length/\i=.int .i64 d.length/\o=.slice A' d.length c'/\Hid (d.map Prod.fst=(l.map Prod.fst).take d.length)/\Hid (∀b∈d,xh wr (λ_=>True) b)/\Hid (wr.ownsRow w.heap.size 61 4 (.slice A' d.length c') d.length (d.flatMap Kv.cells))/\Hid (Below w.heap.size w wr)) (λ_ i _=>l.length-(intOf i).toNat)
 case atStart=>exact⟨[],none,0,E2 _,rfl,rfl,zh rfl,zh (λ_ h=>by cases h),zh (G5 _ _ _ _),zh (y7 _ _)⟩
 case round=>
  obtain⟨d,A',c',hj,rfl,rfl,D,HK,N,O⟩:=hrel;obtain⟨j,r⟩: ∃j,d.length=j:=⟨_,rfl⟩;have p:=zh r;rw[r]at D N hj|-
  clear r
  by_cases E:j<l.length
  ·obtain⟨b,F⟩: ∃b,l[j]?=some b:=⟨_,y8 E⟩
   obtain⟨g,L,a,z,B,vs,rfl,rfl,hg,⟨q0,q1⟩,hF,hO⟩:=(H.out.low O.out).get F;have R:=zh F;have s:=zh hF;have u:=zh hO;clear F hF hO;have v:=zh (y9 wr (.cells #[.slice z L.length B,.int .i64 a] 26));have Q:=(y7 wr.heap.size wr).alloc (y6 _) (.cells #[.slice z L.length B,.int .i64 a] 26);have f:=zh (O.out.trans (Q.mono O.out.size));have m:=zh Q
   go_upto_region 7 with(fail)
   replace s:=zh (s.out.J0 (.of Q));have q:=I7 v.out;clear Q q0 q1;generalize World.alloc _ _=w1 at v f m s q|-
   have HZ:=zh m.out.size;generalize S:wr.heap.size=pb at v q|-
   clear S;have C:=N6 v.out;have SC:=zh (zbq L a u.out.pg u.out.l16 u.out.l4 z B w1 s.out)
   go_wp2_with fail
   refine SC.out.mono ?_;rintro e w2 ⟨n,As,G,rfl,y⟩;obtain⟨T,rfl⟩:=qA y (by unfold K4;simp);have HS:=zh ((XD y).imp (F':=λ_=>True) λ_ _ _=>trivial);replace v:=zh ((n.block pb q).trans v.out);replace s:=zh (s.out.J0 (.of n));replace f:=zh (f.out.trans (n.mono f.out.size));replace m:=zh (m.out.trans (n.mono HZ.out));clear SC C n y q;have C:=N6 v.out;have a2:=Lib.run_eql_slice_nil (P:=prog) w2 22 3 (some ⟨T,0,none⟩) (K4 (L0 L a)).length G 0 0 underlying22;rw[<-p.out]at N;have I: ∀x∈d,xh w2 (λ_=>True) x:=λx U=>(HK.out x U).J0 λk G t fr hk _=>m.out.block k (I7 hk);obtain⟨g9,a1,w3,r3,J,K,M,-⟩:=ZK (b:=(⟨L,a,L0 L a,0⟩,.slice z L.length B,.slice (some ⟨T,0,none⟩) (K4 (L0 L a)).length G)) (V:= #[.slice z L.length B,.int .i64 a,.slice (some ⟨T,0,none⟩) (K4 (L0 L a)).length G,.int .i64 0]) 56 (M4 N.out λg G _ hg=>m.out.block g (I7 hg)) f.out.size I ⟨⟨z,B,rfl⟩,s.out,_,_,rfl,HS.out⟩ (by have:=p.out;omega) rfl;have W:=zh J;have X:=zh K;have Y:=zh (f.out.trans M);have e9:d.length+1=j+1:=by rw[p.out]
   rw[p.out]at r3;clear J K M I
   go_wp2_with(at_builtin;refine Lib.wpList_append_run _ rfl _ _ _ _ rfl _ _ rfl rfl _ _ r3 ?_)
   go_roundw
   case rel=>
    refine⟨_,_,_,?_,?_,?_,zh ?_,X,W,Y⟩
    ·rw[z9,p.out];exact E
    ·rw[z9,p.out];simp only[List.length_singleton];go_num
    ·rw[z9,p.out];rfl
    ·rw[z9,p.out,List.map_append,D.out]
     have Z:=R.out;rw[List.length_singleton,List.take_add_one,G3,Z];rfl
   case measure=>simp[intOf];omega
  ·obtain rfl:j=l.length:=by omega
   rw[List.take_of_length_le (by simp)]at D;have a0:=zh (X7.ql (A:=A') (c:=c') (l:=d) (by rw[p.out];exact N.out) HK.out λb F=>by
    obtain⟨x,U,e⟩: ∃x∈l,x.1=b.1:=by
     have:b.1∈l.map Prod.fst:=by rw[<-D.out];exact G8 F
     exact List.mem_map.1 this
    rw[<-e];exact(H.out.jd x U).2.2.1)
   go_wp2_with fail
   go_ret2;exact⟨A',c',d,rfl,a0.out,D.out,O.out⟩
def zex(Z Za Z0 b lv cn:Nat)(w0:World)(An:Option Addr)(F0:Nat->Prop)(ex:List (Nat×Array Value×Nat))(ans:List Int)(L:List Cf)(M:Mc)(fuel:Nat)(who:Int)(rs:List (List Int))(w:World)(e:Ending)(w':World):Prop:=
 ∃a c,e=.returned (.tuple #[.slice a (K4 (S1 L (M1 ans) fuel M).1).length c,.int .i64 (S1 L (M1 ans) fuel M).2,.int .i64 0])/\JT w' (λg=>w.heap.size<=g) a c (K4 (S1 L (M1 ans) fuel M).1)/\Hk Z w w'/\Yc Z w0 Z0 b An ans.length cn w'/\xn Za lv (λk=>F0 k\/w.heap.size<=k) w' (rs++(qt L (M1 ans) fuel M).map λx=>who::x.1::x.2)/\ ∀x∈ex,w'.heap[x.1]?=some (.cells x.2.1 x.2.2 (0,0))
section
variable {Z Za Z0 b lv cn:Nat}{w0 w:World}{An:Option Addr}{F0:Nat->Prop}{ans:List Int}{L:List Cf}{main sl fuel:Nat}{M:Mc}{rs:List (List Int)}{Af As:Option Addr}{cf cs:Nat}{bs ex:List (Nat×Array Value×Nat)}{who:Int}
theorem WhS.mk0(c:RdS Z Za Z0 b lv w0 An cn ans)(d:Za<=w.heap.size)(e:rs.length<=1000000)(f: ∀x∈bs++ex,w.heap[x.1]?=some (.cells x.2.1 x.2.2 (0,0)))(g: ∀x∈bs,¬xo x.2.2)(h: ∀x∈ex,x.1<Za/\x.1≠lv):WhS Z Za w.heap.size Z0 b lv rs (bs++ex) w0 An cn ans:=
 ⟨c,d,e,λx a=>⟨I7 (f x a),(List.mem_append.1 a).imp (g x) (h x)⟩⟩
theorem WhI.mk0(a:Yc Z w0 Z0 b An ans.length cn w)(c:xn Za lv F0 w rs)(d: ∀x∈bs,w.heap[x.1]?=some (.cells x.2.1 x.2.2 (0,0))):WhI Z Za w.heap.size w0 Z0 b An ans.length cn lv F0 rs who bs w (bd w.heap.size).S []:=
 ⟨a,by rw[List.map_nil,List.append_nil];exact c.J0 (λ_ _ _ _ _=>rfl) λg h e=>.inl ⟨I7 h.choose_spec,e⟩,λ_ h=>h.elim,d,λ_ h=>h.elim,y6 _⟩
theorem zbQ.rd{e:Ending}{w':World}(c:zbQ L Z w.heap.size (M1 ans) (WhI Z Za w.heap.size w0 Z0 b An ans.length cn lv F0 rs who (bs++ex)) [] fuel M w e w'):zex Z Za Z0 b lv cn w0 An F0 ex ans L M fuel who rs w e w':=by
 obtain⟨d,f,h,i,j,S,a⟩:=c;exact⟨d,f,h,XD i,j.hk,a.ho,a.lg.J0 (λ_ _ _ _ _=>rfl) λg _ k=>k.imp And.right (a.sB g),λx l=>a.bx x (List.mem_append_right _ l)⟩
theorem zgG(i:RdS Z Za Z0 b lv w0 An cn ans)(c:yx ⟨L,main,M,sl⟩)(j:M3 w (.slice Af L.length cf) (L.map Cf.pf)){F:Nat->Prop}(hs:JT w F As cs (K4 M))(k:Za<=w.heap.size)(l:Yc Z w0 Z0 b An ans.length cn w)(n:xn Za lv F0 w rs)(s:rs.length<=900000)(o:fuel<=1000){d f p:Nat}(a: ∀x∈bsR d f p lv b who++ex,w.heap[x.1]?=some (.cells x.2.1 x.2.2 (0,0)))(q: ∀x∈ex,x.1<Za/\x.1≠lv):
 Calls prog 24 #[.agg #[.slice Af L.length cf,.int .i64 main],.slice As (K4 M).length cs,.int .i64 fuel,.func (.func 45) #[] #[.pointer (some ⟨f,0,none⟩),.pointer (some ⟨d,0,none⟩)]] w (zex Z Za Z0 b lv cn w0 An F0 ex ans L M fuel who rs w):=by
 have r:=WhS.mk0 (rs:=rs) i k (by omega) a (λx g=>by
  simp only[bsR,E7,List.mem_nil_iff,or_false]at g
  rcases g with rfl|rfl|rfl<;>(unfold xo;simp)) q
 exact(zdX (B:=bd w.heap.size) L main c.pg c.l16 c.l4 Af cf (zkt (F0:=F0) r) w (y6 _) j c.m hs.sl fuel (by omega) (t:=[]) (zh (by simp;omega)) (.mk0 l n a)).mono λe u h=>zbQ.rd h
theorem zgX(j:RdS Z Za Z0 b lv w0 An cn ans)(a:yx ⟨L,main,M,sl⟩)(k:M3 w (.slice Af L.length cf) (L.map Cf.pf)){F:Nat->Prop}(hs:JT w F As cs (K4 M))(l:Za<=w.heap.size)(n:Yc Z w0 Z0 b An ans.length cn w)(o:xn Za lv F0 w rs)(u:rs.length<=900000)(p:fuel<=1000){d f g:Nat}(c: ∀x∈bsC d f g lv b who++ex,w.heap[x.1]?=some (.cells x.2.1 x.2.2 (0,0)))(q: ∀x∈ex,x.1<Za/\x.1≠lv):
 Calls prog 15 #[.agg #[.slice Af L.length cf,.int .i64 main],.slice As (K4 M).length cs,.int .i64 fuel,.func (.func 46) #[] #[.pointer (some ⟨f,0,none⟩),.pointer (some ⟨d,0,none⟩),.pointer (some ⟨g,0,none⟩)]] w (zex Z Za Z0 b lv cn w0 An F0 ex ans L M fuel who rs w):=by
 have s:=WhS.mk0 (rs:=rs) j l (by omega) c (λx i=>by
  simp only[bsC,E7,List.mem_nil_iff,or_false]at i
  rcases i with rfl|rfl|rfl<;>(unfold xo;simp)) q
 exact(zgN (B:=bd w.heap.size) L main a.pg a.l16 a.l4 a.rg Af cf (zjZ (F0:=F0) s) (yW ans) w (y6 _) k a.m a.r hs.sl fuel (by omega) (t:=[]) (zh (by simp;omega)) (.mk0 n o c)).mono λe v h=>zbQ.rd h
end
end Go.Proofs.YtalgmjmibamdfaaGreatDoor
