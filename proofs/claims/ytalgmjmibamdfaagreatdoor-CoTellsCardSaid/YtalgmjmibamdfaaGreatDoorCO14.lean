/- Merged. -/
import Derived.Test.YtalgmjmibamdfaaGreatDoorCO13
set_option linter.all false
set_option maxHeartbeats 16000000
set_option maxRecDepth 100000
namespace Go.Proofs.YtalgmjmibamdfaaGreatDoor
open Go.RowKit Tw
def qX(x:Int):Prop:= -9223372036854775808<=x/\x<=9223372036854775807
instance (x:Int):Decidable (qX x):=by unfold qX;infer_instance
theorem QY(x:Int):qX (IntKind.i64.wrap x):=by unfold qX;rw[IntKind.wrap_i64];omega
theorem zdZ(b:Bool):qX (tr b):=by cases b<;>decide
def ZH(C:T5):Prop:= ∀o∈C,o.1.1=1->qX o.1.2
theorem ZH.W8{C D:T5}(a:ZH C)(b:ZH D):ZH (C++D):=λo c=>(List.mem_append.1 c).elim (a o) (b o)
theorem ZH.cons{C:T5}{o:S3×Nat}(a:o.1.1=1->qX o.1.2)(b:ZH C):ZH (o::C):=λp c=>by
 rcases List.mem_cons.1 c with rfl|h
 ·exact a
 ·exact b p h
theorem ZH.nil:ZH []:=λo a=>by cases a
theorem za6: ∀(l:List S3)(h:Nat),(∀o∈l,o.1=1->qX o.2)->ZH (jZ h l)
 |[],_,_=>.nil
 |o::l,h,a=>.cons (a o (by simp)) (za6 l _ λp b=>a p (by simp[b]))
section
variable {us:List Fn}
theorem ze4(t:Bs): ∀o∈ZC t,o.1=1->qX o.2:=λo a=>by
 unfold ZC at a
 (repeat' split at a)<;>simp at a<;>first|(subst a;simp;done)|(rcases a with rfl|rfl<;>simp;done)
theorem zeG{vs:O5}{k n:Int}{t:ByteArray}{len:Nat}(b:Hd k n t len): ∀o∈Jj us vs k n t len,o.1=1->qX o.2:=λo h a=>by
 unfold Jj at h;cases b
 case two=>simp at h;exact ze4 _ o h a
 all_goals simp at h;subst h;first|(unfold qX;simp only;omega)|simp at a
theorem zey{l:List Ex}(b: ∀a∈l,∀vs n h,ZH (O3 us vs n h a)):(∀vs n h,ZH (R2 us vs n h l))/\(∀vs n h,ZH (hdC us vs n h l))/\ ∀vs n h,ZH (sdC us vs n h l):=by
 induction l with
 |nil=>exact⟨λ_ _ _=>by rw[R2];exact .nil,λ_ _ _=>by rw[hdC];exact .nil,λ_ _ _=>by rw[sdC];exact .nil⟩
 |cons a l d=>
  have c:=b a (B2 ..);obtain⟨e,f,-⟩:=d λx g=>b x (y4 _ g);exact⟨λvs n h=>by rw[R2];exact(c _ _ _).W8 (e _ _ _),λvs n h=>by rw[hdC];exact c _ _ _,λvs n h=>by rw[sdC];exact f _ _ _⟩
theorem zgU{d:Nat}{x:Ex}(hx:Ew d x): ∀vs n h,ZH (O3 us vs n h x):=by
 induction hx with
 |mk a _ _ b=>
  intro vs n h;obtain⟨c,f,g⟩:=zey b;rw[O3]
  split
  ·unfold QE
   refine(f vs n h).W8 (.W8 ?_ (.cons (λe=>by cases e) ((g vs _ h).W8 (.cons (λe=>by cases e) (.cons (λ_=>?_) .nil)))))
   ·split
    ·exact .cons (λe=>by cases e) .nil
    ·exact .nil
   ·simp only;split<;>decide
  ·exact(c vs n h).W8 (za6 _ _ (zeG a))
theorem zaj{l:List Sm}(b: ∀a∈l,∀n vs m,ZH (S4 us n vs m a).1): ∀n vs m,ZH (U3 us n vs m l).1:=by
 induction l with
 |nil=>intro _ _ _;rw[U3];exact .nil
 |cons s l c=>
  intro n vs m;rw[U3];exact(b s (B2 ..) _ _ _).W8 (c (λx d=>b x (y4 _ d)) _ _ _)
theorem zgC{d:Nat}{s:Sm}(h:Sw d s): ∀n vs m,ZH (S4 us n vs m s).1:=by
 induction h with
 |mk _ _ _ _ g _ _ _ _ b c=>
  intro n vs m;have a:=λn h=>zgU (us:=us) g vs n h;have f:=zaj b;have i:=zaj c;rw[S4]
  repeat' split
  all_goals first
   |exact(a _ _).W8 (.cons (λe=>by cases e) .nil)
   |exact(a _ _).W8 (.cons (λe=>by cases e) ((f _ _ _).W8 (.cons (λe=>by cases e) .nil)))
   |exact(a _ _).W8 (.cons (λe=>by cases e) (f _ _ _))
   |exact(a _ _).W8 (.cons (λe=>by cases e) ((f _ _ _).W8 (.cons (λe=>by cases e) (i _ _ _))))
theorem zhl{f:Fn}(h:Fw f):ZH (jM us f).J6:=
 (zaj (λs a=>zgC (h.J7 s a)) _ _ _).W8 (.cons (λ_=>by decide) (.cons (λe=>by cases e) .nil))
theorem Xv(h: ∀f∈us,Fw f): ∀c∈us.map (jM us),ZH c.J6:=λc a=>by
 obtain⟨f,b,rfl⟩:=List.mem_map.1 a;exact zhl (h f b)
end
def FrR(f:Fq):Prop:=(∀x∈f.vars,qX x)/\ ∀x∈f.I8,qX x
def McR(M:Mc):Prop:=qX M.value/\ ∀f∈M.P0,FrR f
theorem zfl{d a b x:Int}(c:qX b)(h:Zv d a b=some x):qX x:=by
 unfold Zv at h
 (repeat' split at h)<;>first|cases h|(injection h with h;subst h)
 all_goals first
  |exact QY _
  |exact zdZ _
  |skip
 unfold qX at c|-
 have e:b≠0:=by assumption
 have f:=Int.natAbs_tmod a b;have g:=Nat.mod_lt a.natAbs (show 0<b.natAbs by omega);omega
section
variable {P:List Cf}{host:R4}
theorem YA(U: ∀c∈P,ZH c.J6)(L: ∀f xs,qX (host f xs).1/\qX (host f xs).2){v:Int}(i:qX v){fs:List Fq}{f:Fq}(h: ∀g∈fs++[f],FrR g):McR (R5 P host v fs f).1:=by
 unfold R5
 split
 ·exact⟨i,h⟩
 rename_i o h' A;obtain⟨d,x⟩:=o;have V:d=1->qX x:=λe=>by
  unfold xw at A;cases J:P[f.fn]? with
  |none=>rw[J]at A;cases A
  |some c=>
   rw[J]at A;exact U c (B7 J) _ (B7 A) e
 clear A;have b:FrR f:=h f (by simp);have r: ∀g∈fs,FrR g:=λg p=>h g (by simp[p]);generalize B:f.I8.take _=s;generalize t:f.I8.drop _=args;have w: ∀y∈s,qX y:=λy k=>b.2 y (List.mem_of_mem_take (B▸k));have m: ∀y∈args,qX y:=λy k=>b.2 y (List.mem_of_mem_drop (t▸k));have M:qX 0:=by decide
 have a: ∀(l:List Int)(j:Nat),(∀y∈l,qX y)->qX (l.getD j 0):=λl j W=>by
  rw[List.getD_eq_getElem?_getD];cases e:l[j]? with
  |none=>exact M
  |some y=>exact W y (B7 e)
 have Y0: ∀(g:Fq),FrR g-> ∀g'∈fs++[g],FrR g':=λg p g' K=>by
  rcases List.mem_append.1 K with h|h
  ·exact r g' h
  ·rw[List.mem_singleton.1 h];exact p
 have n: ∀y,qX y-> ∀z∈s++[y],qX z:=λy k z X=>by
  rcases List.mem_append.1 X with h|h
  ·exact w z h
  ·rw[List.mem_singleton.1 h];exact k
 have fail: ∀e,qX e->McR (yf e):=λe Y=>⟨Y,λg p=>by cases p⟩;unfold M8;simp only
 by_cases N:d=1
 ·subst N;exact⟨i,Y0 _ ⟨b.1,n _ (V rfl)⟩⟩
 rw[B5 N]
 by_cases O:d=2
 ·subst O;exact⟨i,Y0 _ ⟨b.1,n _ (a _ _ b.1)⟩⟩
 rw[B5 O]
 by_cases Q:d=3
 ·subst Q
  refine⟨i,Y0 _ ⟨λy k=>?_,w⟩⟩
  rcases List.mem_or_eq_of_mem_set k with h|h
  ·exact b.1 y h
  ·rw[h];exact a _ _ m
 rw[B5 Q]
 by_cases R:d=4
 ·subst R;exact⟨i,Y0 _ ⟨b.1,w⟩⟩
 rw[B5 R]
 by_cases S:d=5
 ·subst S;exact⟨i,Y0 _ ⟨b.1,n _ (QY _)⟩⟩
 rw[B5 S]
 by_cases T:d=6
 ·subst T;exact⟨i,Y0 _ ⟨b.1,n _ (zdZ _)⟩⟩
 rw[B5 T]
 by_cases C:d=15
 ·subst C;exact⟨i,Y0 _ ⟨b.1,w⟩⟩
 rw[B5 C]
 by_cases D:d=16
 ·subst D;exact⟨i,Y0 _ ⟨b.1,w⟩⟩
 rw[B5 D]
 by_cases E:d=17
 ·rw[E1 E]
  by_cases q:fs.length+1=32
  ·rw[E1 q];exact fail 6 (by decide)
  ·rw[B5 q]
   refine⟨i,λg p=>?_⟩
   rcases List.mem_append.1 p with h|h
   ·exact Y0 {f with I8:=s} ⟨b.1,w⟩ g h
   ·rw[List.mem_singleton.1 h]
    refine⟨λy k=>?_,λy k=>by cases k⟩
    rcases List.mem_append.1 k with h|h
    ·exact m y h
    ·rw[(List.mem_replicate.1 h).2];exact M
 rw[B5 E]
 by_cases F:d=18
 ·rw[E1 F]
  cases Z:fs.getLast? with
  |none=>exact⟨a _ _ m,λg p=>by cases p⟩
  |some u=>
   refine⟨i,λg p=>?_⟩;have G:=r u (List.mem_of_getLast? Z)
   rcases List.mem_append.1 p with h|h
   ·exact r g (List.dropLast_subset _ h)
   ·rw[List.mem_singleton.1 h]
    refine⟨G.1,λy k=>?_⟩
    rcases List.mem_append.1 k with h|h
    ·exact G.2 y h
    ·rw[List.mem_singleton.1 h];exact a _ _ m
 rw[B5 F]
 by_cases H:d=19
 ·subst H;exact⟨a _ _ m,Y0 _ ⟨b.1,w⟩⟩
 rw[B5 H]
 by_cases I:d=20
 ·rw[E1 I]
  split
  ·exact⟨i,Y0 _ ⟨b.1,n _ (L _ _).1⟩⟩
  ·exact fail _ (L _ _).2
 rw[B5 I];cases e:Zv d (args.getD 0 0) (args.getD 1 0)with
 |some y=>exact⟨i,Y0 _ ⟨b.1,n _ (zfl (a _ _ m) e)⟩⟩
 |none=>exact fail 17 (by decide)
theorem Xz(a: ∀c∈P,ZH c.J6)(b: ∀f xs,qX (host f xs).1/\qX (host f xs).2): ∀(fuel:Nat)(M:Mc),McR M->McR (S1 P host fuel M).1
 |0,M,h=>by
  unfold S1
  split
  ·exact h
  ·exact h
 |fuel+1,M,h=>by
  unfold S1
  split
  ·exact h
  ·cases e:M.P0.getLast? with
   |none=>exact h
   |some f=>
    simp only;obtain⟨l,d⟩:=List.getLast?_eq_some_iff.1 e;have g:=YA a b h.1 (fs:=M.P0.dropLast) (f:=f) (by rw[d,List.dropLast_concat,<-d];exact h.2)
    split
    ·exact g
    ·exact Xz a b fuel _ g
end
end Go.Proofs.YtalgmjmibamdfaaGreatDoor
namespace Go.Proofs.YtalgmjmibamdfaaGreatDoor
open Go.Proofs.Tryz
open Go.RowKit Tw
theorem XE(w:World)(n:Nat)(z:n<=100000): ∃c,(Instr.makeSlice 22 (.int .i64 (n:Int)) (.int .i64 (n:Int))).run prog w=.ok (.slice (some ⟨w.heap.size,0,none⟩) n n) c/\c.heap[w.heap.size]?=some (.cells (U5 (List.replicate n 0)) 3 (0,0))/\Below w.heap.size w c/\n<=maxLen:=by
 obtain⟨i,m,o,p,h⟩:=info_parts ZW;obtain⟨c,d,e,a⟩:=run_make_full (P:=prog) (w:=w) w.heap.size 22 3 i (.int .i64 0) 1 underlying22 m o p .i64 .i64 n (by rw[h];omega) (by unfold maxLen;omega) (y6 _);refine⟨c,d,?_,⟨a.os,a.tape,a.output,a.size,λk q=>a.block k q (by simp)⟩,by unfold maxLen;omega⟩
 rcases e.2 with⟨r,_⟩|⟨g,s,f,b,_,t,_,_,u,v⟩
 ·cases r
 ·injection b with b _ x
  injection b with b;injection b with b
  subst b x;rw[t];have y:f.toList=(madeCells (Value.int .i64 0).cells (n*1)).toList:=by rw[<-v,List.take_of_length_le (by simp[u])]
  have:f=U5 (List.replicate n 0):=by
   apply Array.toList_inj.1;rw[y];apply List.ext_getElem?;intro j;simp[madeCells,U5,Value.cells,List.getElem?_replicate]
   by_cases l:j<n
   ·rw[List.getElem?_range l,E1 l];simp[Nat.mod_one]
   ·simp[l]
  rw[this]
theorem zfw(n k:Nat)(h:k<n):(List.replicate k (-1:Int)++List.replicate (n-k) 0).set k (-1)=List.replicate (k+1) (-1)++List.replicate (n-(k+1)) 0:=by
 apply List.ext_getElem?;intro j;simp only[List.getElem?_set,List.getElem?_append,List.getElem?_replicate,z9,List.length_replicate]
 by_cases e:k=j
 ·subst e;simp;omega
 ·by_cases a:j<k
  ·simp[e,a,show j<k+1 by omega]
  ·simp[e,a,show¬j<k+1 by omega]
   by_cases b:j<n
   ·rw[E1 (by omega),E1 (by omega)]
   ·rw[B5 (by omega),B5 (by omega)]
theorem QH(L:List Cf)(main:Nat)(hP:zk L main)(j2:L.length<=16)(i:Nat)(f:Cf)(hf:L[i]?=some f)(h4:f.J6.length<=4000)(A:Option Addr)(cp:Nat)(w:World)(hF:M3 w (.slice A L.length cp) (L.map Cf.pf)):
 Calls prog 73 #[.agg #[.slice A L.length cp,.int .i64 main],.int .i64 i] w λe w'=>Below w.heap.size w w'/\ ∃v hs,e=.returned (.tuple #[v,.int .i64 0])/\yQ f.J6 hs/\jA w' v hs:=by
 have c6:=hP.yF f (B7 hf);obtain⟨os,c7⟩:=c6.start;have f0:0<f.J6.length:=(List.getElem?_eq_some_iff.1 c7).1;have j3:i<L.length:=(List.getElem?_eq_some_iff.1 hf).1;obtain⟨g,c,vo,hv,-,hg,u0,u1,u2,b4⟩:=hF.at (zi hf);injection hv with j4 j5 j6
 clear j5;subst j4 j6;obtain⟨go,co,rfl,-,f1,f2⟩:=b4.at;simp only[Cf.pf,D9]at u0 u1 u2;have X:=zh (heap_alloc2_old w (.cells #[.slice (some ⟨g,0,none⟩) L.length cp,.int .i64 main] 26) (.cells #[.int .i64 f.params,.int .i64 f.vars,.slice (some ⟨go,0,none⟩) f.J6.length co] 40));have F:=zh (heap_alloc2_new w (.cells #[.slice (some ⟨g,0,none⟩) L.length cp,.int .i64 main] 26) (.cells #[.int .i64 f.params,.int .i64 f.vars,.slice (some ⟨go,0,none⟩) f.J6.length co] 40));have ba:=(y7 w.heap.size w).alloc (y6 _) (.cells #[.slice (some ⟨g,0,none⟩) L.length cp,.int .i64 main] 26);have HB:=zh (ba.alloc (by simp) (.cells #[.int .i64 f.params,.int .i64 f.vars,.slice (some ⟨go,0,none⟩) f.J6.length co] 40));have v0:=(ba.cell (p:=⟨g,i*3,none⟩) hg).trans u0;have v1:=(ba.cell (p:=⟨g,i*3+1,none⟩) hg).trans u1;have v2:=(ba.cell (p:=⟨g,i*3+2,none⟩) hg).trans u2;have i0:(0:Int)<=(i:Int):=by omega
 have i1:(i:Int)<(L.length:Int):=by omega
 have HF:=zh hF;have HP:=zh hP;have j7:=zh c6;have j8:=zh c7;have j9:=zh f2;have f3:=zh f1;clear hF hP c6 c7 hf ba u0 u1 u2 b4 f2 f1 hg j2 j3
 go_enter func73,ntmps73
 go_upto_region 2 with(fail)
 clear v0 v1 v2 i0 i1;generalize World.alloc _ _=w1 at X F HB|-
 obtain⟨bf,c8⟩: ∃b,w.heap.size+1=b:=⟨_,rfl⟩;rw[c8]at F;simp only[c8];clear c8;have q2:=y5 F.out 2;have k2:((f.J6.length:Int)==0)=false:=beq_eq_false_iff_ne.2 (by omega);obtain⟨wm,f4,b5,f5,-⟩:=XE w1 f.J6.length (by omega);have a9:=zh b5;have c9:=zh f5;clear b5 f5
 go_upto_region 5 with(fail)
 clear f4 q2 k2;obtain⟨t,O⟩: ∃b,w1.heap.size=b:=⟨_,rfl⟩;have d2:Hid (t=w1.heap.size):=zh O.symm;rw[O]at a9;simp only[O];clear O;have f6:U5 (List.replicate f.J6.length 0)=U5 (List.replicate 0 (-1)++List.replicate (f.J6.length-0) 0):=by simp
 rw[f6]at a9;clear f6
 go_wp2_with fail
 go_loopw[32] (λnv wr=> ∃k:Nat,k<=f.J6.length/\nv=.int .i64 k/\Hid (wr.heap[t]?=some (.cells (U5 (List.replicate k (-1)++List.replicate (f.J6.length-k) 0)) 3 (0,0)))/\Hid (Below t wm wr)) (λnv _=>f.J6.length-(intOf nv).toNat)
 case atStart=>exact⟨0,E2 _,rfl,a9,zh (y7 _ _)⟩
 case round=>
  clear a9;obtain⟨k,hk,rfl,B,s⟩:=hrel
  by_cases Y:k<f.J6.length
  ·have k0:(0:Int)<=(k:Int):=by omega
   have k1:(k:Int)<(f.J6.length:Int):=by omega
   have fz:=B4 B.out k;have hz:wr.cell? ⟨t,k,none⟩=some (.int .i64 0):=jh B.out (by simp[List.getElem?_append,List.getElem?_replicate];omega)
   go_wp2_with fail
   go_roundw
   case rel=>exact⟨k+1,Y,by go_num,zh (by have:=QG B.out k (-1);rw[zfw _ _ Y]at this;exact this),zh (M2 s.out (y6 _) _ _)⟩
   case measure=>simp[intOf];omega
  ·obtain rfl:k=f.J6.length:=by omega
   have e0:U5 (List.replicate f.J6.length (-1)++List.replicate (f.J6.length-f.J6.length) 0)=U5 (List.replicate f.J6.length (-1)):=by simp
   rw[e0]at B;have hz:wr.cell? ⟨t,0,none⟩=some (.int .i64 (-1)):=jh B.out (by rw[List.getElem?_replicate,E1 f0]);have fz:=B4 B.out 0;have l0:(0:Int)<(f.J6.length:Int):=by omega
   have b0:=zh (QG B.out 0 0);have d3:=zh (M2 s.out (y6 _) 0 (.int .i64 0));clear e0 B s
   go_upto_region 11 with(fail)
   generalize World.setCell _ _ _=w2 at b0 d3|-
   clear hz fz l0;have C:=zh (World.ownsRow_lit (base:=w2.heap.size) (e:=3) (size:=1) w2 (U5 [0]) 1 (y6 _) (by decide) rfl);have HA:=zh ((y7 w2.heap.size w2).alloc (y6 _) (.cells (U5 [0]) 3));have e0:U5 [0]= #[.int .i64 0]:=rfl;have e1:(U5 [0]).toList=iC [0]:=rfl;rw[e1]at C;rw[e0]at C HA;have P:Hid (t<w2.heap.size):=zh (I7 b0.out);clear e0 e1
   go_wp2_with fail
   generalize World.alloc _ _=w3 at C HA|-
   generalize w2.heap.size=U at C HA P|-
   have f7:=zh ((HA.out.block _ P.out).trans b0.out);have f8:=zh (d3.out.trans (HA.out.mono (I0 P.out)));have V:Hid (Wk f.J6 ((List.replicate f.J6.length (-1)).set 0 0) [0]):=zh (Wk.first j8.out);have b6:((List.replicate f.J6.length (-1)).set 0 0).count (-1)+1=f.J6.length:=by
    have:=xS (hs:=List.replicate f.J6.length (-1)) (k:=0) (n:=0) (by rw[List.getElem?_replicate,E1 f0]);rw[List.count_replicate_self]at this;exact this
   clear HA b0 d3
   go_loopg [9] (f.J6.length+1) (λgk tv wr=> ∃(hs td:List Int)(At:Option Addr)(ct:Nat),tv=.slice At td.length ct/\hs.count (-1)+td.length<=gk/\hs.count (-1)+td.length<=4000/\Hid (wr.heap[t]?=some (.cells (U5 hs) 3 (0,0)))/\Hid (wr.ownsRow U 3 1 (.slice At td.length ct) td.length (iC td))/\Hid (Wk f.J6 hs td)/\Hid (Below t wm wr)/\Hid (U<=wr.heap.size))
   case atStart=>exact⟨_,[0],_,_,rfl,by simp;omega,by simp;omega,f7,C,V,f8,zh (I0 (C.out.lt U rfl).2)⟩
   case round=>
    clear f7 C V f8 b6;obtain⟨hs,td,At,ct,rfl,hm,f9,B,C,V,s,k3⟩:=hrel
    rcases List.eq_nil_or_concat td with rfl|⟨E,a,e⟩
    ·go_wp2_with fail
     go_ret2;have O:=d2.out;exact⟨HB.out.trans ((c9.out.trans (by rw[O]at s;exact s.out)).mono HB.out.size),.slice (some ⟨t,0,none⟩) f.J6.length f.J6.length,hs,rfl,V.out.end,t,f.J6.length,by rw[V.out.ok.1],by rw[V.out.ok.1];exact y6 _,B.out⟩
    ·rw[List.concat_eq_append]at e
     subst e;obtain⟨k,rfl,v,b1,J⟩:=V.out.zaT a (by simp);have m3:k<hs.length:=(List.getElem?_eq_some_iff.1 b1).1;have g0:hs.length=f.J6.length:=V.out.ok.1;obtain⟨⟨d,x⟩,n,hc,k4⟩: ∃o n,f.J6[k]?=some (o,n)/\v=(n:Nat):=by
      rcases V.out.ok.2 k v b1 with h|h
      ·exact I2 h J
      ·exact h
     subst k4;obtain⟨o',n',Z,d4⟩:=j7.out.K3 k (E2 _) (by omega);obtain⟨rfl,rfl⟩:(d,x)=o'/\n=n':=by rw[hc]at Z;injection Z with Z;injection Z with e1 e2;exact⟨e1,e2⟩
     obtain⟨o0,o1⟩:=j9.out k (d,x) (by show(f.J6.map Prod.fst)[k]?=_;rw[G3,hc];rfl);have G:Hid (Below w1.heap.size w1 wr):=zh (c9.out.trans (by have:=d2.out;rw[this]at s;exact s.out));have K:Hid (Below w.heap.size w wr):=zh (HB.out.trans (G.out.mono HB.out.size));replace o0:=(K.out.cell (p:=⟨go,k*2,none⟩) f3.out).trans o0;replace o1:=(K.out.cell (p:=⟨go,k*2+1,none⟩) f3.out).trans o1;simp only at o0 o1;obtain⟨m,Q⟩: ∃m,E.length=m:=⟨_,rfl⟩;have k5:(E++[(k:Int)]).length=m+1:=by simp[Q]
     rw[k5]at C hm f9|-
     obtain⟨gt,rfl⟩:=qA C.out (Nat.succ_pos _);have t0:wr.cell? ⟨gt,m,none⟩=some (.int .i64 (k:Int)):=by
      rw[C.out.cellAt m (by omega)];simp[iC,<-Q]
     have h0:=jh B.out b1;have e1:IntKind.i64.wrap ((m:Int)+1-1)=(m:Int):=by rw[show(m:Int)+1-1=m by omega];exact IntWalk.i64_in _ (by omega)
     have i0:(0:Int)<=(m:Int):=by omega
     have i1:(m:Int)<(m:Int)+1:=by omega
     have i2:(0:Int)<(m:Int)+1:=by omega
     have j0:(0:Int)<=(k:Int):=by omega
     have j1:(k:Int)<(f.J6.length:Int):=by omega
     have g1:=zh (zZ C.out m (by omega));have HC:=zh hc;have b7:=zh d4;have q2:wr.cell? ⟨bf,2,none⟩=some (.slice (some ⟨go,0,none⟩) f.J6.length co):=(G.out.cell (p:=⟨bf,2,none⟩) (I7 F.out)).trans (y5 F.out 2);have k6:m<=ct:=by have:=(N9 C.out).1;omega
     have M:=zh (y9 wr (.cells #[.int .i64 d,.int .i64 x] 74));have H:=zh ((y7 wr.heap.size wr).alloc (y6 _) (.cells #[.int .i64 d,.int .i64 x] 74));clear b1 J Z g0
     go_upto_region 16 with(fail)
     clear t0 h0 e1 i0 i1 i2 q2 o0 o1 k6;generalize World.alloc _ _=wo at M H|-
     generalize g2:wr.heap.size=bo at M|-
     have m4:=zh g2;clear g2;replace G:=zh (G.out.trans (H.out.mono G.out.size));have d5:=zh ((H.out.block _ (I7 B.out)).trans B.out);have g3:=zh (K6 g1.out H.out);replace K:=zh (K.out.trans (H.out.mono K.out.size));have b8:jb (L.map Cf.pf).length f.vars f.J6.length (d,x):=by
      have:=b7.out.1;rw[D9]at this|-
      exact this
     have TC:=zh (Xd (L.map Cf.pf) (some ⟨g,0,none⟩) cp main f.vars f.J6.length d x wo b8 (by rw[D9];exact HF.out.J0 (.of K.out)));rw[D9]at TC;have p0:=(G.out.cell (p:=⟨w.heap.size,0,none⟩) (I7 X.out)).trans (y5 X.out 0);have p1:=(G.out.cell (p:=⟨w.heap.size,1,none⟩) (I7 X.out)).trans (y5 X.out 1);have d0:=y5 M.out 0;have d1:=y5 M.out 1
     go_wp2_with fail
     refine TC.out.mono ?_;rintro e w4 ⟨rfl,W⟩;obtain⟨a0,g4,a1,I⟩:=b7.out;have d6:=jE L;obtain⟨po,b2⟩: ∃z,J4 ((L.map Cf.pf).map Pf.params) (d,x)=z:=⟨_,rfl⟩;obtain⟨pu,d7⟩: ∃z,L3 (d,x)=z:=⟨_,rfl⟩;rw[<-d6,b2]at g4 a1 I;rw[d7]at a1 I;rw[b2,d7];have m5:n<=512:=by
      have:=qL (ps:=(L.map Cf.pf).map Pf.params) (by rw[d6];intro y hy;obtain⟨z,hz,rfl⟩:=List.mem_map.1 hy;exact(HP.out.yF z hz).params) (d,x);rw[b2]at this;omega
     obtain⟨nn,k7⟩: ∃z,n-po+pu=z:=⟨_,rfl⟩;rw[k7]at a1 I;have g6:d=15\/d=16->0<=x:=λh=>(a0.2.2.1 (by show d≠1;omega)).1;have k8:=zh I;have k9:=zh g6;clear b2 d7 d6 a0 b8 I g6 TC p0 p1 d0 d1;have R:=zh ((W.block _ (I7 d5.out)).trans d5.out);have d8:=zh (K6 g3.out W);have g7:=zh ((W.block _ (I7 M.out)).trans M.out);have g8:Hid (Below t wm w4):=zh (s.out.trans ((H.out.trans (W.mono H.out.size)).mono (I0 (I7 B.out))));have l1:Hid (wo.heap.size<=w4.heap.size):=zh W.size;clear W B d5 C g3 g1 M s G K;have h0:=jh R.out (by
      show hs[k]?=some (n:Int);obtain⟨k',e,v,D,h2⟩:=V.out.zaT (k:Int) (by simp);obtain rfl:k=k':=by omega
      rcases V.out.ok.2 k v D with h|⟨o,y,h3,h4⟩
      ·exact I2 h h2
      ·rw[HC.out]at h3;injection h3 with h3;injection h3 with _ h3;subst h3;rw[D,h4])
     have d0:=y5 g7.out 0;have d1:=y5 g7.out 1;have e1:IntKind.i64.wrap ((n:Int)-(po:Int))=(n:Int)-(po:Int):=IntWalk.i64_in _ (by omega);have e2:IntKind.i64.wrap ((n:Int)-(po:Int)+(pu:Int))=(n:Int)-(po:Int)+(pu:Int):=IntWalk.i64_in _ (by omega);have e3:(n:Int)-(po:Int)+(pu:Int)=(nn:Int):=by omega
     have t1: ¬((n:Int)<(po:Int)):=by omega
     have t2: ¬((256:Int)<(nn:Int)):=by omega
     have WC:=zh (zgE k d x w4 (by omega) k9.out)
     go_wp2_with fail
     refine WC.out.mono ?_;rintro e w5 ⟨W,A5,c5,rfl,d9⟩;obtain⟨S,b3⟩: ∃z,(L5 k (d,x)).map Int.ofNat=z:=⟨_,rfl⟩;rw[b3]at d9|-
     have b9:=zh b3;have h5:=zh ((W.block _ (I7 R.out)).trans R.out);have e4:=zh (K6 d8.out W);have c0:Hid (U<=w5.heap.size):=zh (C4 k3.out (C4 H.out.size (C4 l1.out W.size)));have h6:Hid (Below t wm w5):=zh (g8.out.trans (W.mono (I0 (I7 R.out))));have h7:Hid (t<w4.heap.size/\gt<w4.heap.size):=zh ⟨I7 R.out,(d8.out.lt gt rfl).2⟩;have h8:Hid (K9 w5 (λg=>w4.heap.size<=g/\(Value.slice (some ⟨gt,0,none⟩) E.length ct).ownBlock≠some g) (.slice A5 S.length c5) S):=zh (d9.J0 λg D h2=>⟨⟨D,λe=>by injection e with e;have:=h7.out.2;simp at e;omega⟩,h2,rfl⟩);have h9:Hid (Wl f.J6 k 0 S hs E):=zh V.out.take;rw[<-Q]at e4;rw[<-Q];have i3:Hid (w5.ownsRow U 3 1 (.slice (some ⟨gt,0,none⟩) E.length ct) E.length (iC E)):=zh (by
      have:=e4.out;simp only[iC,List.map_append,Nat.mul_one]at this|-
      rw[List.take_left' (by simp)]at this;exact this)
     rw[<-Q]at hm f9;have m6:S.length<=2:=by
      rw[<-b3,D9];unfold L5
      split
      ·simp
      split
      ·simp
      split<;>simp
     clear W d9 b3 R d8 g8 WC h0 d0 d1 e1 e2 e3 t1 t2 e4
     go_wp2_with fail
     obtain⟨wa,rfl⟩: ∃wo:World,wo=wr:=⟨_,rfl⟩
     go_loopw[9,89] (λtv iv wr=> ∃(q:Nat)(u l:List Int)(A1:Option Addr)(c1:Nat),q<=S.length/\tv=.slice A1 l.length c1/\iv=.int .i64 q/\u.count (-1)+l.length<=hs.count (-1)+E.length/\Hid (wr.heap[t]?=some (.cells (U5 u) 3 (0,0)))/\Hid (wr.ownsRow U 3 1 (.slice A1 l.length c1) l.length (iC l))/\
      Hid (K9 wr (λg=>w4.heap.size<=g/\(Value.slice A1 l.length c1).ownBlock≠some g) (.slice A5 S.length c5) S)/\Hid (Wl f.J6 k q S u l)/\Hid (Below t wm wr)/\Hid (U<=wr.heap.size)) (λ_ iv _=>S.length-(intOf iv).toNat)
     case atStart=>exact⟨0,hs,E,_,_,E2 _,by rw[Q],rfl,y6 _,h5,i3,h8,h9,h6,c0⟩
     case round=>
      clear h5 i3 h8 h9 h6 c0;obtain⟨q,u,l,A1,c1,hq,rfl,rfl,l2,B,C,HI,T,s,a2⟩:=hrel
      by_cases Y:q<S.length
      ·obtain⟨y,hy⟩: ∃y,S[q]?=some y:=⟨_,y8 Y⟩
       obtain⟨j,rfl,e6⟩: ∃j:Nat,y=j/\j∈L5 k (d,x):=by
        have h:=hy;rw[<-b9.out,G3]at h;obtain⟨j,hj,rfl⟩:=Option.map_eq_some_iff.1 h;exact⟨j,rfl,B7 hj⟩
       obtain⟨oj,a3⟩:=k8.out j e6;have l3:j<f.J6.length:=(List.getElem?_eq_some_iff.1 a3).1;have c2:j<u.length:=by rw[T.out.ok.1];exact l3
       obtain⟨v,hv⟩: ∃v,u[j]?=some v:=⟨_,y8 c2⟩;obtain⟨g5,o5,e5,m7,l4⟩:=HI.out.at q _ hy;subst e5;have i0:(0:Int)<=(q:Int):=by omega
       have i1:(q:Int)<(S.length:Int):=by omega
       have j0:(0:Int)<=(j:Int):=by omega
       have j1:(j:Int)<(f.J6.length:Int):=by omega
       have jn:((j:Int)==(f.J6.length:Int))=false:=beq_eq_false_iff_ne.2 (by omega);have q2:wr.cell? ⟨bf,2,none⟩=some (.slice (some ⟨go,0,none⟩) f.J6.length co):=by
        have D:=s.out.cell (p:=⟨bf,2,none⟩) (by have:=I7 F.out;have:=d2.out;show bf<t;omega);exact D.trans ((c9.out.cell (p:=⟨bf,2,none⟩) (I7 F.out)).trans (y5 F.out 2))
       have l5:=jh B.out hv;have e7:=T.out.ok.2 j v hv
       by_cases J:v= -1
       ·subst J
        have fz:=B4 B.out j;have a4:=zh (QG B.out j nn);have gs:=J2 wr t j (.int .i64 nn);have i4:=zh (C.out.kept gs (by
         cases e:(Value.slice A1 l.length c1).ownBlock with
         |none=>exact .inl rfl
         |some b=>exact .inr λe2=>by injection e2 with e2;have:=(C.out.lt b e).1;have:=P.out;omega))
        have i5:=zh (HI.out.J0 (F':=λg=>w4.heap.size<=g/\(Value.slice A1 l.length c1).ownBlock≠some g) λg D h2=>⟨D,by simpa using h2,gs.block g h2 λe=>by injection e with e;have:=h7.out.1;omega⟩);have i6:=zh (M2 s.out (y6 _) j (.int .i64 nn));have b6:=xS (n:=nn) hv;have a5:Hid (U<=(wr.setCell ⟨t,j,none⟩ (.int .i64 nn)).heap.size):=zh (C4 a2.out gs.size);have e8:=zh (T.out.zkH hy a3);clear e6 a3 hv e7 B HI s C T gs hy c2 hq
        go_upto_region 29 with(fail)
        generalize World.setCell _ _ _=a6 at a4 i4 i5 i6 a5|-
        clear fz l5 l4 q2 jn i0 i1 j0 j1;have N:=zh ((y7 a6.heap.size a6).alloc (y6 _) (.cells #[.int .i64 (j:Int)] 3));have i7:=zh (K6 i4.out N.out)
        go_upto_region 30 with(at_builtin;go_must(refine M7 ZQ rfl _ _ rfl U (.slice A1 l.length c1) l.length (iC l) rfl i7.out a6.heap.size 1 #[.int .i64 (j:Int)] rfl (y9 a6 _) rfl (by simp[Value.oneCell']) (by omega) (by have D:=a5.out;simp;omega) ?_);intro g9 c3 w9 a7 r c4 i8)
        have e9:t<(a6.alloc (.cells #[.int .i64 (j:Int)] 3)).heap.size:=z6 (I7 a4.out) N.out.size;have a8: ∀b,(Value.slice A1 l.length c1).ownBlock=some b->U<=b:=λb e=>(i7.out.lt b e).1;have l6:Hid (w9.heap[t]?=some (.cells (U5 (u.set j nn)) 3 (0,0))):=zh ((r.block t e9 λe=>by have:=a8 t e.symm;have:=P.out;omega).trans ((N.out.block t (I7 a4.out)).trans a4.out));have l7:Hid (w9.ownsRow U 3 1 (.slice (some ⟨g9,0,none⟩) (l++[(j:Int)]).length c3) (l++[(j:Int)]).length (iC (l++[(j:Int)]))):=zh (by simpa[iC]using a7);have l8:=zh (i5.out.J0 (w':=w9) (F':=λg=>w4.heap.size<=g/\(Value.slice (some ⟨g9,0,none⟩) (l++[(j:Int)]).length c3).ownBlock≠some g) λg D h2=>by
         have h3:=z6 h2 N.out.size;refine⟨⟨D.1,λe=>?_⟩,z6 h3 r.size,(r.block g h3 λe=>D.2 e.symm).trans (N.out.block g h2)⟩;injection e with e
         have e:g9=g:=e;subst e
         rcases c4 with h|h
         ·exact D.2 h
         ·simp at h;omega)
        have l9:Hid (Below t wm w9):=zh ((i6.out.trans (N.out.mono (I0 (I7 a4.out)))).grown r (I0 e9) λb e=>by have:=a8 b e;have:=P.out;omega);have i9:Hid (U<=w9.heap.size):=zh (C4 a5.out (C4 N.out.size r.size));clear a7 r c4 i8 e9 a8
        go_wp2_with fail
        go_roundw
        case rel=>exact⟨q+1,_,_,_,_,Y,by simp,by go_num,by simp;omega,l6,l7,l8,e8,l9,i9⟩
        case measure=>simp[intOf];omega
       ·obtain rfl:v=(nn:Int):=by
         rcases e7 with h|⟨o,y,D,h2⟩
         ·exact I2 h J
         ·rw[a3]at D;injection D with D;injection D with _ D;subst D;exact h2
        have e8:=zh (T.out.zjq hy ⟨_,hv,J⟩);clear e6 a3 hv J e7 hy
        go_wp2_with fail
        go_roundw
        case rel=>exact⟨q+1,u,l,A1,c1,by omega,rfl,by go_num,l2,B,C,HI,e8,s,a2⟩
        case measure=>simp[intOf];omega
      ·obtain rfl:q=S.length:=by omega
       have m0:Hid (Wk f.J6 u l):=zh (by have:=T.out;rw[<-b9.out]at this;exact this.done HC.out)
       go_wp2_with fail
       go_roundg (u.count (-1)+l.length)
       case measure=>omega
       case rel=>exact⟨u,l,A1,c1,rfl,y6 _,by omega,B,C,m0,s,a2⟩
end Go.Proofs.YtalgmjmibamdfaaGreatDoor
