/- Merged. -/
import Derived.Test.YtalgmjmibamdfaaGreatDoorVS08
import Derived.Laws.CopyOwn
set_option linter.all false
set_option maxHeartbeats 16000000
set_option maxRecDepth 100000
namespace Go.Proofs.YtalgmjmibamdfaaGreatDoor
open Go.Proofs.Tryz
open Go.RowKit Tw
theorem zfX:S1 prog 38 74 2:=⟨underlying38,by kernel_rfl,by decide⟩
theorem Y2(d a:Int)(F:Nat->Prop)(w:World)(k:Nat)(U:Value)(V:Mv)(vs:N1)(i:Nat)(ops:List Q2)(us:List Fn)(y:ops.length<=400000000000)(h:T4 w w k U V vs i ops us F):
 Calls prog 59 #[.pointer (some ⟨k,0,none⟩),.int .i64 d,.int .i64 a] w λe w'=>e=.returned (.int .i64 ops.length)/\ ∃q,T4 w w' k U q vs i (ops++[(d,a)]) us F:=by
 have l:=(x7 w.heap.size w).alloc (x6 _) (.cells #[.int .i64 d,.int .i64 a] 74);have z:=zh h;have j:=zh (h.below l);have r:=h.lt;obtain⟨⟨-,-,-,-,o⟩,-,-,-,s⟩:=zE h.st;have t:(w.alloc (.cells #[.int .i64 d,.int .i64 a] 74)).cell? ⟨k,4,none⟩=some (.slice V.Ao ops.length V.co):=(zE j.out.st).1.2.2.2.2;clear l h
 go_enter func59,ntmps59
 go_upto_region 2 with(at_builtin;go_must(refine L6 zfX rfl _ _ rfl k (.slice V.Ao ops.length V.co) ops.length (X2 ops) rfl j.out.st.ro w.heap.size 1 #[.int .i64 d,.int .i64 a] rfl (x9 w _) rfl (by simp[Value.oneCell']) (by omega) (by simp;omega) ?_);intro g u A c b m n;have f:=j.out.put c b;have v:=(x5 f.1 4);have x:=z6 f.1 4)
 have p:=zh f.2;clear f c b m n v x o s t;generalize World.setCell _ _ _=B at p|-
 have o:=(zE p.out.st).1.2.2.2.2;rw[y7]at o;simp only[y6,y9,Nat.zero_add]at o
 go_wp2_with fail
 go_ret;exact⟨by simp,_,p.out⟩
theorem yz(i:Nat)(d a:Int)(F:Nat->Prop)(w:World)(c:Nat)(U:Value)(V:Mv)(vs:N1)(b:Nat)(ops:List Q2)(us:List Fn)(hi:ops[i]?=some (d,a))(n:ops.length<=400000000000)(h:T4 w w c U V vs b ops us F):
 Calls prog 131 #[.pointer (some ⟨c,0,none⟩),.int .i64 i] w λe w'=>e=.returned (.tuple #[])/\T4 w w' c U V vs b (ops.set i (d,(ops.length:Int))) us F:=by
 obtain⟨g,j,o,p,f⟩:=h.zgH hi (ops.length:Int);have k:=zh (f.below (I8 _));obtain⟨⟨-,-,-,-,l⟩,-,-,-,-⟩:=zE h.st;have m:i<ops.length:=by rcases D6 i ops.length with h|h;exact h;rw[B9 h]at hi;cases hi
 rw[j]at l;have q:(0:Int)<=(i:Int):=by omega
 have r:(i:Int)<(ops.length:Int):=by omega
 clear h f hi
 go_enter func131,ntmps131
 go_region_law(fail)
 all_goals
  go_end0;exact⟨rfl,k.out⟩
theorem zao{s:ByteArray}{l:List UInt8}(h:s.data.toList=l):s=⟨l.toArray⟩:=by
 cases s with|mk d=>subst h;simp
theorem XK{s:ByteArray}: ∀(vs:N1)(i:Nat),s∈vs.map Prod.fst-> ∃k,k<vs.length/\Lib.idxFromS (vs.map Prod.fst) s i=((i+k:Nat):Int)/\vs[k]?=some (s,zR vs s)
 |[],i,h=>by cases h
 |(n,z)::l,i,h=>by
  by_cases a:n=s
  ·subst a
   exact⟨0,by simp,by simp[Lib.idxFromS],by simp[zR]⟩
  ·have b:s∈l.map Prod.fst:=by
    rcases List.mem_cons.1 h with e|e
    ·exact G5 e.symm a
    ·exact e
   obtain⟨k,c,d,f⟩:=XK l (i+1) b;refine⟨k+1,by simpa using c,?_,?_⟩
   ·simp only[List.map_cons,Lib.idxFromS,z7 a]
    rw[d];congr 1;omega
   ·have:zR ((n,z)::l) s=zR l s:=by unfold zR;rw[List.find?_cons_of_neg (by simpa using a)]
    rw[this];simpa using f
theorem qP{w:World}{base e size n c:Nat}{a:Option Addr}{xs:List Value}(h:w.ownsRow base e size (.slice a n c) n xs)(j:0<n): ∃g,a=some ⟨g,0,none⟩:=by
 rcases h.2 with⟨_,k⟩|⟨g,b,d,f,_⟩
 ·omega
 ·injection f with i;exact⟨g,i⟩
theorem zcU(s:ByteArray)(F:Nat->Prop)(w:World)(i:Nat)(U:Value)(V:Mv)(vs:N1)(a:Nat)(ops:List Q2)(us:List Fn)(hs:s∈vs.map Prod.fst)(y:vs.length<=1000)(h:T4 w w i U V vs a ops us F):
 Calls prog 132 #[.pointer (some ⟨i,0,none⟩),.string s] w λe w'=>e=.returned (.int .i64 (zR vs s))/\T4 w w' i U V vs a ops us F:=by
 obtain⟨k,z,l,o⟩:=XK vs 0 hs;rw[Nat.zero_add]at l;obtain⟨⟨-,q,r,-,-⟩,-,-,-,-⟩:=zE h.st;have f:=h.st.rn;have g:=h.st.ra;obtain⟨b,t⟩:=qP f (by omega);obtain⟨m,u⟩:=qP g (by omega);rw[t]at q f;rw[u]at r g;have c: ∀j,j<(vs.map Prod.fst).length->w.drew.cell? ⟨b,0+j,none⟩=some (.string ((vs.map Prod.fst).getD j ByteArray.empty)):=by
  intro j p;rw[C0]at p;have n:=f.cellAt j (by omega);have v:w.cell? ⟨b,0+j,none⟩=w.cell? ⟨b,j,none⟩:=by rw[Nat.zero_add]
  refine(show w.drew.cell? ⟨b,0+j,none⟩=w.cell? ⟨b,0+j,none⟩ from rfl).trans (v.trans (n.trans ?_));simp[X5,F6,x8 p,List.getD_eq_getElem?_getD]
 have d:=zh (Tryz.slices_Index_string b 0 vs.length V.cn (vs.map Prod.fst) s w.drew (by simp) (by omega) c);rw[show(vs.map Prod.fst).take vs.length=vs.map Prod.fst from by rw[List.take_of_length_le (by simp)],show Lib.idxOfS (vs.map Prod.fst) s=(k:Int) from l]at d;have A:w.drew.cell? ⟨m,k,none⟩=some (.int .i64 (zR vs s)):=by
  have n:=g.cellAt k (by omega);refine(show w.drew.cell? ⟨m,k,none⟩=w.cell? ⟨m,k,none⟩ from rfl).trans (n.trans ?_);simp[X6,F6,o]
 have x:=zh (h.below (I8 _));have B:(0:Int)<=(k:Int):=by omega
 have C:(k:Int)<(vs.length:Int):=by omega
 clear h c l o f g hs
 go_enter func132,ntmps132
 go_upto_region 1 with(fail)
 go_region_law(first|(go_simp;go_at_call 163;refine d.out.mono ?_;rintro e D ⟨rfl,rfl⟩))
 all_goals
  go_wp2_with fail
  go_ret;exact⟨rfl,x.out⟩
theorem zea(ops:List Q2)(a b:Q2):ops++[a]++[b]=ops++[a,b]:=by simp
theorem zhA(s:ByteArray)(F:Nat->Prop)(w:World)(c:Nat)(U:Value)(V:Mv)(vs:N1)(a:Nat)(ops:List Q2)(us:List Fn)(hs:3<=lv s.data.toList)(A:ops.length+2<=400000000000)(h:T4 w w c U V vs a ops us F):
 Calls prog 162 #[.pointer (some ⟨c,0,none⟩),.string s] w λe w'=>e=.returned (.tuple #[])/\ ∃l,T4 w w' c U l vs a (ops++yM s.data.toList) us F:=by
 have m:=zh h;clear h;have g:s.data.toList=[43]\/s.data.toList=[45]\/s.data.toList=[42]\/s.data.toList=[47]\/s.data.toList=[37]\/s.data.toList=[60]\/s.data.toList=[62,61]\/s.data.toList=[61,61]\/s.data.toList=[33,61]\/s.data.toList=[62]\/s.data.toList=[60,61]:=Classical.byContradiction λj=>by
  simp only[not_or]at j;obtain⟨n,o,p,q,r,t,u,v,x,y,i⟩:=j;unfold lv at hs;simp only[n,o,p,q,r,t,u,v,x,y,i,or_self,if_false]at hs
  repeat' split at hs
  all_goals omega
 clear hs
 rcases g with h|h|h|h|h|h|h|h|h|h|h
 all_goals
  have e:=zao h;subst e;clear h
  go_enter func162,ntmps162
  go_wp2_with fail
  refine(Y2 _ 0 F _ c U V vs a ops us (by omega) m.out).mono ?_;rintro e B ⟨rfl,k,d⟩;have b:=zh d;clear d
  go_wp2_with fail
  first
   |(go_end0;exact⟨rfl,k,b.out⟩)
   |(refine(Y2 6 0 F _ c U k vs a _ us (by simp;omega) b.out.zQ).mono ?_
     rintro e C ⟨rfl,z,d⟩;have f:=zh (b.out.next d);rw[zea]at f;clear d
     go_wp2_with fail
     go_end0;exact⟨rfl,z,f.out⟩)
theorem Xe.fn{us:List Fn}{s:ByteArray}{z:Int}(h:Xe us (λf=>decide (f.K3=s)) z){f:Fn}(hf:f∈us)(hs:f.K3=s):z=ql us s:=by
 obtain⟨i,x,rfl,b,c,d⟩:=h.yes hf (decide_eq_true hs);have a:=(List.getElem?_eq_some_iff.1 b).1;unfold ql;rw[(List.findIdx_eq a).2 ⟨by rw[(List.getElem?_eq_some_iff.1 b).2];exact c,λm e=>d m us[m] e (x8 (by omega))⟩]
def zK:ByteArray:=⟨#[109,97,105,110]⟩
theorem zcW(w:World):zdV 56 #[] zK w:=by
 refine⟨λargs w=>?_,λf c d e g h i W j=>?_⟩
 ·have k:=func56
  unfold callFunc;simp[k];rfl
 ·have a:=zh ((x7 W.heap.size W).alloc (x6 _) (.cells (f.cs c d e g h i) 91))
  have D:=O1 (x9 W (.cells (f.cs c d e g h i) 91));have l:=zh (QM f.K3);clear j;simp only[Array.append_empty]
  go_in
  go_upto_region 1 with(fail)
  generalize W.alloc _=m at a D|-
  go_wp2_with fail
  go_ret;exact⟨G4 (λb=>Ending.returned (Value.bool b)) l.out,a.out⟩
end Go.Proofs.YtalgmjmibamdfaaGreatDoor
namespace Go.Proofs.YtalgmjmibamdfaaGreatDoor
open Go.RowKit Tw
theorem yh: ∀(h:Nat)(l:List Q2),(jp h l).length=l.length
 |_,[]=>rfl
 |h,o::l=>by rw[jp,y6,yh (h-1) l,y6]
theorem zb7(t:Bs):(yM t).length<=2:=by
 unfold yM;repeat' split
 all_goals simp
theorem ZA(us:List Fn)(vs:N1)(k n:Int)(t:ByteArray)(a:Nat):(Ql us vs k n t a).length<=2:=by
 unfold Ql;repeat' split
 all_goals first|exact zb7 _|simp
theorem zcR(n h:Nat)(z:Bool)(a b:R2):(ZJ n h z a b).length<=a.length+b.length+4:=by
 unfold ZJ;cases z<;>simp<;>omega
section
variable {us:List Fn}
theorem zc7{vs:N1}{n h:Nat}{k nn:Int}{t:ByteArray}{a:Ex}{p:Int}(b:k≠6):(N0 us vs n h (.mk k nn t [a] p)).length<=(N0 us vs n h a).length+2:=by
 rw[N0,z7 (λe=>b e.1)];have:=ZA us vs k nn t ([a]:List Ex).length;simp only[P6,y7,yh,y9];omega
theorem zcm{vs:N1}{n h:Nat}{t:ByteArray}{a b:Ex}{p:Int}{d f:Nat}(i: ∀n h,(N0 us vs n h a).length<=d)(g: ∀n h,(N0 us vs n h b).length<=f):(N0 us vs n h (.mk 6 0 t [a,b] p)).length<=d+f+(if lv t.data.toList<=2 then 4 else 2):=by
 have k:=i n h;rw[N0]
 by_cases c:lv t.data.toList<=2
 ·rw[C5 ⟨rfl,c⟩,C5 c]
  have j:=g (n+(N0 us vs n h a).length+(if decide (lv t.data.toList=1)then 1 else 0)+1) h;have:=zcR n h (decide (lv t.data.toList=1)) (hdC us vs n h [a,b]) (sdC us vs (n+(hdC us vs n h [a,b]).length+(if decide (lv t.data.toList=1)then 1 else 0)+1) h [a,b]);simp only[hdC,sdC]at this|-
  omega
 ·rw[z7 (λe=>c e.2),z7 c]
  have j:=g (n+(N0 us vs n h a).length) (h+1);have:=ZA us vs 6 0 t ([a,b]:List Ex).length;simp only[P6,y7,yh,y9];omega
theorem zdo{vs:N1}{n h:Nat}{t:ByteArray}{a b:Ex}{p:Int}{c d:Nat}(e: ∀n h,(N0 us vs n h a).length<=c)(f: ∀n h,(N0 us vs n h b).length<=d):(N0 us vs n h (.mk 6 0 t [a,b] p)).length<=c+d+4:=by
 have:=zcm (n:=n) (h:=h) (t:=t) (p:=p) e f
 split at this<;>omega
def yO(us:List Fn)(l:List Sm)(k:Nat):Prop:= ∀(n:Nat)(a:N1)(m:Nat),(S3 us n a m l).1.length<=k
theorem yO.cons{s:Sm}{l:List Sm}{a b:Nat}(h: ∀(n:Nat)(vs:N1)(m:Nat),(Q4 us n vs m s).1.length<=a)(c:yO us l b):yO us (s::l) (a+b):=λn vs m=>by
 have d:=h n vs m;have e:=c (n+(Q4 us n vs m s).1.length) (Q4 us n vs m s).2.1 (Q4 us n vs m s).2.2;rw[S3];simp only[y7];omega
theorem yO.U7{l r:List Sm}{a b:Nat}:yO us l a->yO us r b->yO us (l++r) (a+b):=by
 intro i j
 induction l generalizing a with
 |nil=>intro n g m;have:=j n g m;simp only[B4];omega
 |cons s l k=>
  intro n g m;have e:=i n g m;rw[S3]at e;simp only[y7]at e;have o: ∀d c f,(S3 us d c f (l++r)).1.length<=(S3 us d c f l).1.length+b:=by
   intro d c f;clear e i k
   induction l generalizing d c f with
   |nil=>have:=j d c f;simp only[B4];omega
   |cons s l h=>
    have:=h (d+(Q4 us d c f s).1.length) (Q4 us d c f s).2.1 (Q4 us d c f s).2.2;simp only[z9,S3,y7];omega
  have p:=o (n+(Q4 us n g m s).1.length) (Q4 us n g m s).2.1 (Q4 us n g m s).2.2;rw[z9,S3];simp only[y7];omega
theorem yd{k:Int}{nm:ByteArray}{a:Ex}{p:Int}(b:k≠3)(c:k≠4)(n:Nat)(vs:N1)(m:Nat):(Q4 us n vs m (.mk k nm a [] [] p)).1.length<=(N0 us vs n 0 a).length+1:=by
 rw[Q4]
 repeat' split
 all_goals first|(exact G5 ‹k=3› b)|(exact G5 ‹k=4› c)|(simp only[y7,y6,y9];omega)
end
end Go.Proofs.YtalgmjmibamdfaaGreatDoor
namespace Go.Proofs.YtalgmjmibamdfaaGreatDoor
open Go.Proofs.Tryz
open Go.RowKit Tw
theorem Xs: ∀(h:Nat)(l:List Q2),(jp h l).map Prod.fst=l
 |_,[]=>rfl
 |h,o::l=>by rw[jp,List.map_cons,Xs (h-1) l]
theorem QJ{us:List Fn}{vs:N1}{a:Ex}: ∀(l:List Ex)(n h:Nat),P6 us vs n h (l++[a])=P6 us vs n h l++N0 us vs (n+(P6 us vs n h l).length) (h+l.length) a
 |[],n,h=>by simp[P6]
 |b::l,n,h=>by
  rw[z9,P6,P6,QJ l];simp only[B2,y7,y6];rw[show n+(N0 us vs n h b).length+(P6 us vs (n+(N0 us vs n h b).length) (h+1) l).length=n+((N0 us vs n h b).length+(P6 us vs (n+(N0 us vs n h b).length) (h+1) l).length) by omega,show h+1+l.length=h+(l.length+1) by omega]
theorem zd8{us:List Fn}{vs:N1}{xs:List Ex}{j n h:Nat}{a:Ex}(b:xs[j]?=some a):P6 us vs n h (xs.take (j+1))=P6 us vs n h (xs.take j)++N0 us vs (n+(P6 us vs n h (xs.take j)).length) (h+j) a:=by
 rw[List.take_add_one,b];have c:j<xs.length:=by rcases D6 j xs.length with g|g;exact g;rw[B9 g]at b;cases b
 have:=QJ (us:=us) (vs:=vs) (a:=a) (xs.take j) n h;rw[show(xs.take j).length=j by rw[G8];omega]at this;exact this
theorem zdB{us:List Fn}{vs:N1}{n h:Nat}(xs:List Ex)(j:Nat):(P6 us vs n h (xs.take j)).length<=(P6 us vs n h xs).length:=by
 induction xs generalizing j n h with
 |nil=>simp
 |cons a l b=>
  cases j with
  |zero=>simp[P6]
  |succ j=>rw[List.take_succ_cons,P6,P6,y7,y7];exact Nat.add_le_add_left (b j) _
theorem Sg.XY{us:List Fn}{a:T9}{k n:Int}{t:ByteArray}{c:Nat}{σ τ:Int}(h:Sg us a k n t c σ τ):(k=1\/k=2\/k=3\/k=4\/k=5\/k=6\/k=7\/k=8)/\c<=2/\(k=6->c=2)/\(k=6->t.data.toList=[38,38]\/t.data.toList=[124,124]\/3<=lv t.data.toList)/\(k=3->t∈a)/\(k=7-> ∃f∈us,f.K3=t)/\(k=8->0<=n/\n<=15):=by
 cases h<;>simp<;>first|assumption|omega|exact⟨_,‹_›,‹_›⟩|exact⟨‹_›,‹_›⟩|skip
 rename_i h
 rcases h with rfl|rfl<;>simp
theorem zbc{us:List Fn}{vs:N1}{n h:Nat}{k nn:Int}{t:ByteArray}{xs:List Ex}{p:Int}(a: ¬(k=6/\lv t.data.toList<=2)):(N0 us vs n h (.mk k nn t xs p)).map Prod.fst=(P6 us vs n h xs).map Prod.fst++Ql us vs k nn t xs.length:=by
 rw[N0,z7 a,List.map_append,Xs]
theorem xb{α:Type}(l r:List α)(a b:α):(l++a::r).set l.length b=l++b::r:=by simp
theorem T4.jg{w0 w:World}{e:Nat}{U:Value}{V:Mv}{vs:N1}{a:Nat}{ops:List Q2}{us:List Fn}{F:Nat->Prop}(h:T4 w0 w e U V vs a ops us F){k:Nat}{b:Array Value}{t:Nat}{c:Nat×Nat}(d:w0.heap[k]?=some (.cells b t c))(f:t≠9)(g:t≠3)(i:t≠74)(j:t≠127):w.heap[k]?=some (.cells b t c):=
 (h.kp.J7 k b t c d f g i j).trans d
theorem T4.al{w0 w:World}{b:Nat}{U:Value}{V:Mv}{vs:N1}{a:Nat}{ops:List Q2}{us:List Fn}{F:Nat->Prop}(h:T4 w0 w b U V vs a ops us F)(c:Obj):T4 w0 (w.alloc c) b U V vs a ops us F:=h.below ((x7 _ _).alloc (x6 _) c)
theorem T4.zdb{w0 w:World}{c:Nat}{U:Value}{V:Mv}{vs:N1}{a:Nat}{ops:List Q2}{us:List Fn}{F:Nat->Prop}{v:Value}{l:List Ex}(h:T4 w0 w c U V vs a ops us F)(d:M9 w0 F v l):M9 w F v l:=
 d.I5 (λg b e=>⟨b,y5 e h.N5.size,h.N5.block g (h.fb g b)⟩)
theorem T4.zh1{w0 w:World}{c:Nat}{U:Value}{V:Mv}{vs:N1}{a:Nat}{ops:List Q2}{us:List Fn}{F:Nat->Prop}{v:Value}{l:List Sm}(h:T4 w0 w c U V vs a ops us F)(d:L7 w0 F v l):L7 w F v l:=
 d.I5 (λg b e=>⟨b,y5 e h.N5.size,h.N5.block g (h.fb g b)⟩)
theorem T4.QT{w0 w:World}{b:Nat}{U:Value}{V:Mv}{vs:N1}{a:Nat}{ops ops':List Q2}{us:List Fn}{F:Nat->Prop}(h:T4 w0 w b U V vs a ops us F)(e:ops=ops'):T4 w0 w b U V vs a ops' us F:=e▸h
def CmE(us:List Fn)(left:Nat):Prop:=
 ∀(x:Ex)(A:Option Addr)(c:Nat)(F:Nat->Prop)(w:World)(g:Nat)(i:Option Addr)(j:Nat)(V:Mv)(d:N1)(b:Nat)(a:List Q2)(h:Nat)(f:T9)(k:Int),Xw us f left k x->(∀s∈f,s∈d.map Prod.fst)->d.length<=1000->us.length<=16->M9 w F (.slice A x.args.length c) x.args->a.length+(N0 us d a.length h x).length<=400000->T4 w w g (.slice i us.length j) V d b a us F->
  Calls prog 130 #[.pointer (some ⟨g,0,none⟩),.agg #[.int .i64 x.M0,.int .i64 x.n,.string x.N4,.slice A x.args.length c,.int .i64 x.pos]] w λe l=>e=.returned (.tuple #[])/\ ∃m,T4 w l g (.slice i us.length j) m d b (a++(N0 us d a.length h x).map Prod.fst) us F
theorem zbT(us:List Fn)(left:Nat)(ih:CmE us left):CmE us (left+1):=by
 intro x A c F w E A0 c0 V d b a h c4 ty hx hv e8 e9 hA c1 hF;cases hx with
 | @mk _ k n t v p σ _ hs _ f0=>
 obtain⟨f1,c5,f2,h6,h3,h7,h8⟩:=hs.XY;have IH:=zh ih;have HV:=zh hv;have a5:=zh f0;have f3:=zh f1;have c6:=zh f2;have a6:=zh e9;have a7:=zh e8;clear ih hv f0 hs e9 e8 f1 f2;simp only[Ex.M0,Ex.n,Ex.N4,Ex.args,Ex.pos]at hA|-
 by_cases a8:k=6/\(t.data.toList=[38,38]\/t.data.toList=[124,124])
 ·obtain⟨rfl,e0⟩:=a8
  clear h3 h7 h8 h6 c5;obtain⟨P,S,rfl⟩: ∃P S,v=[P,S]:=by
   match v,c6.out rfl with
   |[P,S],_=>exact⟨P,S,rfl⟩
  have c7:=zh (a5.out P (by simp));have h4:=zh (a5.out S (by simp));obtain⟨Z,zc,hZ⟩: ∃(Z:List Q2)(zc:Int),(t.data.toList=[38,38]/\Z=[]/\zc=0)\/(t.data.toList=[124,124]/\Z=[(6,0)]/\zc=1):=by
   rcases e0 with e0|e0
   ·exact⟨_,_,.inl ⟨e0,rfl,rfl⟩⟩
   ·exact⟨_,_,.inr ⟨e0,rfl,rfl⟩⟩
  obtain⟨M,hM⟩: ∃M,(N0 us d a.length h P).map Prod.fst++Z=M:=⟨_,rfl⟩;obtain⟨L2,a9⟩: ∃L2,(N0 us d (a.length+M.length+1) h S).map Prod.fst=L2:=⟨_,rfl⟩;have c8:(N0 us d (a.length+M.length+1) h S).length=L2.length:=by rw[<-a9,C0]
  have hN:(N0 us d a.length h (.mk 6 n t [P,S] p)).map Prod.fst=M++(16,((a.length+M.length+L2.length+2:Nat):Int))::(L2++[(15,((a.length+M.length+L2.length+3:Nat):Int)),(1,zc)]):=by
   rw[<-c8,<-a9,<-hM]
   rcases hZ with⟨e,rfl,rfl⟩|⟨e,rfl,rfl⟩
   all_goals
    rw[N0,C5 (by rw[e];decide)];simp[ZJ,hdC,sdC,e,show lv ([38,38]:Bs)=2 from by decide,show lv ([124,124]:Bs)=1 from by decide,Nat.add_assoc]
  have HN:=zh hN;have f4:=G4 List.length hN;simp only[C0,y7,y6,y9]at f4;have h5:(N0 us d a.length h P).length<=M.length/\M.length<=(N0 us d a.length h P).length+1:=by
   have:=G4 List.length hM;rw[y7,C0]at this
   rcases hZ with⟨-,rfl,-⟩|⟨-,rfl,-⟩<;>simp at this<;>omega
  have H:Hid (a.length+M.length+L2.length+3<=400000/\a.length+(N0 us d a.length h P).length<=400000/\(N0 us d (a.length+M.length+1) h S).length=L2.length):=zh ⟨by omega,by omega,c8⟩;have b5:=zh hM;have h9:=zh a9;clear hN hM a9 c8 h5 f4 c1 a5 c6 f3 e0;have HA:=zh hA;simp only[y6,y9,Nat.zero_add,Nat.reduceAdd]at HA|-
  have I:=zh (x9 w (.cells #[.int .i64 6,.int .i64 n,.string t,.slice A 2 c,.int .i64 p] 172));have HF:=zh (hF.al (.cells #[.int .i64 6,.int .i64 n,.string t,.slice A 2 c,.int .i64 p] 172));have T:=(x7 w.heap.size w).alloc (x6 _) (.cells #[.int .i64 6,.int .i64 n,.string t,.slice A 2 c,.int .i64 p] 172);obtain⟨g,q,Ba,da,rfl,b6,hg,Y,q0,q1,q2,q3,q4⟩:=M9.at (l:=[P,S]) HA.out 0 P rfl;obtain⟨g2,off2,Bb,db,e2,-,-,f5,r0,r1,r2,r3,r4⟩:=M9.at (l:=[P,S]) HA.out 1 S rfl;obtain⟨rfl,rfl⟩:g=g2/\q=off2:=by injection e2 with e2;injection e2 with e2 e3;exact⟨e2,e3⟩
  simp only[Nat.zero_mul,Nat.one_mul,Nat.add_zero]at q0 q1 q2 q3 q4 r0 r1 r2 r3 r4;have B:=hF.fb g b6;have c9:=zh Y;have i0:=zh f5;have b0:=(T.cell (p:=⟨g,q,none⟩) hg).trans q0;have b1:=(T.cell (p:=⟨g,q+1,none⟩) hg).trans q1;have b2:=(T.cell (p:=⟨g,q+2,none⟩) hg).trans q2;have b3:=(T.cell (p:=⟨g,q+3,none⟩) hg).trans q3;have b4:=(T.cell (p:=⟨g,q+4,none⟩) hg).trans q4;clear hA hF T Y f5 e2 q0 q1 q2 q3 q4
  rcases hZ with⟨e0,rfl,rfl⟩|⟨e0,rfl,rfl⟩
  all_goals
   have e:=zao e0;subst e;clear e0
   go_enter func130,ntmps130
   go_upto_region 1 with(fail)
   generalize w.alloc _=wa at I HF b0 b1 b2 b3 b4|-
   generalize w.heap.size=nb at I|-
   have C:=O1 I.out
   go_wp2_with fail
   refine(IH.out P Ba da F wa E A0 c0 V d b a h c4 _ c7.out HV.out a7.out a6.out (HF.out.zdb c9.out) H.out.2.1 HF.out.zQ).mono ?_;rintro e w1 ⟨rfl,V1,d0⟩;have U:=zh (d0.jg I.out (by decide) (by decide) (by decide) (by decide));have d1:=zh (HF.out.next d0);clear d0 C;have C:=O1 U.out;clear b0 b1 b2 b3 b4
   go_wp2_with fail
   first
    |(have d2:=zh (d1.out.QT (ops':=a++M) (by rw[<-b5.out,List.append_nil]))
      have d3:=U;obtain⟨V2,rfl⟩: ∃V2,V2=V1:=⟨_,rfl⟩)
    |(refine(Y2 6 0 F _ E _ V1 d b _ us (by have:=H.out.2.1;rw[y7,C0];omega) d1.out.zQ).mono ?_
      rintro e w2 ⟨rfl,V2,d4⟩;have d3:=zh (d4.jg U.out (by decide) (by decide) (by decide) (by decide));have d2:=zh ((d1.out.next d4).QT (ops':=a++M) (by rw[<-b5.out];simp));clear d4 C;have C:=O1 d3.out
      go_wp2_with fail)
   refine(Y2 16 0 F _ E _ V2 d b _ us (by have:=H.out;simp only[y7,y6,y9];omega) d2.out.zQ).mono ?_;rintro e w3 ⟨rfl,V3,d5⟩;have f6:=zh (d5.jg d3.out (by decide) (by decide) (by decide) (by decide));have J:=zh (d2.out.next d5);clear d5 C;have C:=O1 f6.out;have b0:=(J.out.N5.cell (p:=⟨g,q+5,none⟩) B).trans r0;have b1:=(J.out.N5.cell (p:=⟨g,q+5+1,none⟩) B).trans r1;have b2:=(J.out.N5.cell (p:=⟨g,q+5+2,none⟩) B).trans r2;have b3:=(J.out.N5.cell (p:=⟨g,q+5+3,none⟩) B).trans r3;have b4:=(J.out.N5.cell (p:=⟨g,q+5+4,none⟩) B).trans r4;have j3:Hid ((a++M).length=a.length+M.length):=zh (y7 ..)
   first
    |(rw[show(a++(N0 us d a.length h P).map Prod.fst++[(6,0)]:List Q2)=a++M from by rw[<-b5.out];simp])
    |(try rw[show(a++(N0 us d a.length h P).map Prod.fst:List Q2)=a++M from by rw[<-b5.out];simp])
   obtain⟨nP,b7⟩: ∃nP:Nat,(a++M).length=nP:=⟨_,rfl⟩;have f7:=zh b7;rw[b7];have j4:Hid (nP=a.length+M.length):=zh (by rw[<-b7,y7]);clear b7
   go_wp2_with fail
   refine(IH.out S Bb db F w3 E A0 c0 V3 d b _ h c4 _ h4.out HV.out a7.out a6.out (J.out.zdb i0.out) (by have:=H.out;simp only[y7,y6,y9,Nat.zero_add];omega) J.out.zQ).mono ?_;rintro e w4 ⟨rfl,V4,K⟩;rw[show(a++M++[(16,0)]:List Q2).length=a.length+M.length+1 from by simp only[y7,y6,y9]<;>omega,h9.out]at K;have b8:=zh (K.jg f6.out (by decide) (by decide) (by decide) (by decide));have f8:=zh (J.out.next K);clear K C;have C:=O1 b8.out;clear b0 b1 b2 b3 b4
   go_wp2_with fail
   refine(Y2 15 0 F _ E _ V4 d b _ us (by have:=H.out;simp only[y7,y6,y9];omega) f8.out.zQ).mono ?_;rintro e w5 ⟨rfl,V5,d6⟩;have f9:=zh (d6.jg b8.out (by decide) (by decide) (by decide) (by decide));have i1:=zh (f8.out.next d6);clear d6 C;have C:=O1 f9.out;obtain⟨nQ,d7⟩: ∃nQ:Nat,(a++M++[(16,0)]++L2).length=nQ:=⟨_,rfl⟩;have d8:Hid (nQ=a.length+M.length+1+L2.length):=zh (by rw[<-d7];simp only[y7,y6,y9]<;>omega);rw[d7];clear d7;have c2:=zh (i1.out.QT (ops':=(a++M)++(16,0)::(L2++[(15,0)])) (by simp))
   go_wp2_with fail
   refine(yz nP 16 0 F _ E _ V5 d b _ us (by rw[<-f7.out];simp) (by have:=H.out;simp only[y7,y6,y9];omega) c2.out.zQ).mono ?_;rintro e w6 ⟨rfl,b9⟩;rw[<-f7.out,xb]at b9;have g0:=zh (b9.jg f9.out (by decide) (by decide) (by decide) (by decide));have g1:=zh (c2.out.next b9);clear b9 C;have C:=O1 g0.out
   go_wp2_with fail
   refine(Y2 1 _ F _ E _ V5 d b _ us (by have:=H.out;simp only[y7,y6,y9];omega) g1.out.zQ).mono ?_;rintro e w7 ⟨rfl,V7,d9⟩;have i2:=zh (d9.jg g0.out (by decide) (by decide) (by decide) (by decide));have g3:=zh (g1.out.next d9);clear d9 C;have C:=O1 i2.out;obtain⟨t1,e4⟩: ∃t1:Nat,((a++M)++(16,0)::(L2++[(15,0)]):List Q2).length=t1:=⟨_,rfl⟩;have i3:Hid (t1=nQ+1):=zh (by rw[<-e4,d8.out];simp only[y7,y6,y9]<;>omega);rw[e4]at g3;clear e4;have c3:=zh (g3.out.QT (ops':=((a++M)++(16,(t1:Int))::L2)++(15,0)::[(1,_)]) (by rw[B2,B2,B2];simp;rfl));have g4:Hid (((a++M)++(16,(t1:Int))::L2:List Q2).length=nQ):=zh (by rw[d8.out];simp only[y7,y6,y9]<;>omega)
   go_wp2_with fail
   refine(yz nQ 15 0 F _ E _ V7 d b _ us (by rw[<-g4.out];simp) (by have:=H.out;simp only[y7,y6,y9];omega) c3.out.zQ).mono ?_;rintro e w8 ⟨rfl,a1⟩;rw[<-g4.out,xb]at a1
   go_wp2_with fail
   (try simp only[Exit.inBlock,Exit.then]);refine E1 (results_none rfl _ _ _) rfl ?_
   refine⟨rfl,V7,(c3.out.next a1).QT ?_⟩;rw[HN.out];have e1:(t1:Int)=((a.length+M.length+L2.length+2:Nat):Int):=by rw[i3.out,d8.out];omega
   rw[e1];simp only[B2,z9,B4,y7,y6,y9]
   first|(congr 6<;>omega)|(congr 7<;>omega)|(congr 8<;>omega)|(congr 9<;>omega)|(congr 10<;>omega)
 have Q: ¬(k=6/\t.data.toList=[38,38]):=λe=>a8 ⟨e.1,.inl e.2⟩;have a2: ¬(k=6/\t.data.toList=[124,124]):=λe=>a8 ⟨e.1,.inr e.2⟩;clear a8;have hl: ¬(k=6/\lv t.data.toList<=2):=by
  rintro⟨rfl,h2⟩
  rcases h6 rfl with e|e|e
  ·exact Q ⟨rfl,e⟩
  ·exact a2 ⟨rfl,e⟩
  ·omega
 have hN:(N0 us d a.length h (.mk k n t v p)).map Prod.fst=(P6 us d a.length h v).map Prod.fst++Ql us d k n t v.length:=zbc hl;have HN:=zh hN;have g5:Hid (k=6->3<=lv t.data.toList):=zh (λe=>Decidable.byContradiction λh=>hl ⟨e,by omega⟩);have H3:=zh h3;have H7:=zh h7;have H8:=zh h8;have i4:=zh Q;have i5:=zh a2;have j5:v.length<=2:=c5;have HL:Hid (a.length+(P6 us d a.length h v).length+(Ql us d k n t v.length).length<=400000):=zh (by have:=G4 List.length hN;simp only[C0,y7]at this;omega);have j6:a.length<=400000:=by have:=HL.out;omega
 clear hN hl h3 h7 h8 Q a2 h6 c5 c1 c6;have HA:=zh hA;have I:=zh (x9 w (.cells #[.int .i64 k,.int .i64 n,.string t,.slice A v.length c,.int .i64 p] 172));have HF:=zh (hF.al (.cells #[.int .i64 k,.int .i64 n,.string t,.slice A v.length c,.int .i64 p] 172));clear hA hF
 go_enter func130,ntmps130
 go_upto_region 1 with(fail)
 generalize w.alloc _=wa at I HF|-
 generalize w.heap.size=nb at I|-
 go_cut[21] (λu W=>u=.bool false/\W=wa)
 case first=>
  have C:=O1 I.out
  by_cases a3:k=6
  ·have e1:(t.toList==[38,38])=false:=by rw[y8,C4];exact λe=>i4.out ⟨a3,e⟩
   have e2:(t.toList==[124,124])=false:=by rw[y8,C4];exact λe=>i5.out ⟨a3,e⟩
   subst a3
   go_wp2_with fail
   all_goals
    go_meet
    case rel=>exact⟨rfl,rfl⟩
  ·have e6:(k==6)=false:=beq_eq_false_iff_ne.2 a3
   clear a3
   go_wp2_with fail
   all_goals
    go_meet
    case rel=>exact⟨rfl,rfl⟩
 case rest=>
  obtain⟨rfl,hw⟩:=hcut;subst hw;have C:=O1 I.out;have g6:Hid (T4 w wc E (.slice A0 us.length c0) V d b (a++(P6 us d a.length h (v.take 0)).map Prod.fst) us F):=zh (HF.out.QT (by simp[P6]))
  go_wp2_with fail
  clear C HF
  go_loopw[58] (λi wr=> ∃(j:Nat)(X:Mv),j<=v.length/\i=.int .i64 j/\Hid (T4 w wr E (.slice A0 us.length c0) X d b (a++(P6 us d a.length h (v.take j)).map Prod.fst) us F)/\Hid (wr.heap[nb]?=some (.cells #[.int .i64 k,.int .i64 n,.string t,.slice A v.length c,.int .i64 p] 172 (0,0)))) (λi _=>v.length-(intOf i).toNat)
  case atStart=>exact⟨0,V,C6 _,rfl,g6,I⟩
  case round=>
   clear g6 I;obtain⟨j,X,hj,rfl,HR,I⟩:=hrel
   by_cases i6:j<v.length
   ·obtain⟨y,hy⟩: ∃y,v[j]?=some y:=⟨_,x8 i6⟩
    obtain⟨g,q,A',c',rfl,b6,hg,Y,q0,q1,q2,q3,q4⟩:=HA.out.at j y hy;have B:=HR.out.fb g b6;have b0:=(HR.out.N5.cell (p:=⟨g,q+j*5,none⟩) B).trans q0;have b1:=(HR.out.N5.cell (p:=⟨g,q+j*5+1,none⟩) B).trans q1;have b2:=(HR.out.N5.cell (p:=⟨g,q+j*5+2,none⟩) B).trans q2;have b3:=(HR.out.N5.cell (p:=⟨g,q+j*5+3,none⟩) B).trans q3;have b4:=(HR.out.N5.cell (p:=⟨g,q+j*5+4,none⟩) B).trans q4;have c7:=zh (a5.out y (B0 hy));have c9:=zh Y;have e5:=zd8 (us:=us) (vs:=d) (n:=a.length) (h:=h) hy;have i7:Hid ((a++(P6 us d a.length h (v.take j)).map Prod.fst).length+(N0 us d (a++(P6 us d a.length h (v.take j)).map Prod.fst).length (h+j) y).length<=400000):=zh (by
     have h1:=HL.out;have h2:=zdB (us:=us) (vs:=d) (n:=a.length) (h:=h) v (j+1);rw[e5,y7]at h2;rw[y7,C0];omega)
    have i8:=zh e5;clear hy Y q0 q1 q2 q3 q4 b6 B e5;have k0:(0:Int)<=(j:Int):=by omega
    have k1:(j:Int)<(v.length:Int):=by omega
    go_upto_region 17 with(fail)
    clear b0 b1 b2 b3 b4;have e7:=zh (x9 wr (.cells #[.int .i64 y.M0,.int .i64 y.n,.string y.N4,.slice A' y.args.length c',.int .i64 y.pos] 172));have U:=zh ((B8 wr (.cells #[.int .i64 y.M0,.int .i64 y.n,.string y.N4,.slice A' y.args.length c',.int .i64 y.pos] 172) (I0 I.out)).trans I.out);have m:=zh (HR.out.al (.cells #[.int .i64 y.M0,.int .i64 y.n,.string y.N4,.slice A' y.args.length c',.int .i64 y.pos] 172));clear HR I;generalize wr.alloc _=wb at e7 U m|-
    generalize wr.heap.size=ny at e7|-
    have D:=O1 e7.out
    go_wp2_with fail
    refine(IH.out y A' c' F wb E A0 c0 X d b _ (h+j) c4 _ c7.out HV.out a7.out a6.out (m.out.zdb c9.out) i7.out m.out.zQ).mono ?_;rintro e w4 ⟨rfl,V4,K⟩;have b8:=zh (K.jg U.out (by decide) (by decide) (by decide) (by decide));have i9:Hid (T4 w w4 E (.slice A0 us.length c0) V4 d b (a++(P6 us d a.length h (v.take (j+1))).map Prod.fst) us F):=zh ((m.out.next K).QT (by
     rw[i8.out,List.map_append,B2,y7,C0]))
    clear K D
    go_wp2_with fail
    go_roundw
    case rel=>exact⟨j+1,V4,by omega,by go_num,i9,b8⟩
    case measure=>simp[intOf];omega
   ·have g7:j=v.length:=by omega
    have m:=zh (show T4 w wr E (.slice A0 us.length c0) X d b (a++(P6 us d a.length h v).map Prod.fst) us F by have:=HR.out;rwa [g7,E7]at this);have G:Hid ((a++(P6 us d a.length h v).map Prod.fst).length+2<=400000000):=zh (by
     have h1:=HL.out;rw[y7,C0];omega)
    clear HR g7;obtain⟨L,hL⟩: ∃L,a++(P6 us d a.length h v).map Prod.fst=L:=⟨_,rfl⟩;have O:Hid (a++(N0 us d a.length h (.mk k n t v p)).map Prod.fst=L++Ql us d k n t v.length):=zh (by rw[HN.out,<-hL,B2]);rw[hL]at m G;clear hL HN;have C:=O1 I.out;have hk:=f3.out
    go_upto_region 19 with(fail)
    rcases hk with rfl|rfl|rfl|rfl|rfl|rfl|rfl|rfl
    ·go_wp2_with fail
     refine(Y2 1 n F _ E _ X d b _ us (by have:=G.out;omega) m.out.zQ).mono ?_;rintro e w9 ⟨rfl,R,r⟩
     go_wp2_with fail
     go_end0;exact⟨rfl,R,(m.out.next r).QT (by rw[O.out];rfl)⟩
    ·go_wp2_with fail
     refine(Y2 1 n F _ E _ X d b _ us (by have:=G.out;omega) m.out.zQ).mono ?_;rintro e w9 ⟨rfl,R,r⟩
     go_wp2_with fail
     go_end0;exact⟨rfl,R,(m.out.next r).QT (by rw[O.out];rfl)⟩
    ·have hs:t∈d.map Prod.fst:=HV.out t (H3.out rfl)
     have j0:=zh hs;clear hs
     go_wp2_with fail
     refine(zcU t F _ E _ X d b _ us j0.out a7.out m.out.zQ).mono ?_;rintro e w8 ⟨rfl,a1⟩;have a4:=zh (m.out.next a1);clear a1 C
     go_wp2_with fail
     refine(Y2 2 (zR d t) F _ E _ X d b _ us (by have:=G.out;omega) a4.out.zQ).mono ?_;rintro e w9 ⟨rfl,R,r⟩
     go_wp2_with fail
     go_end0;exact⟨rfl,R,(a4.out.next r).QT (by rw[O.out];rfl)⟩
    ·go_wp2_with fail
     refine(Y2 5 0 F _ E _ X d b _ us (by have:=G.out;omega) m.out.zQ).mono ?_;rintro e w9 ⟨rfl,R,r⟩
     go_wp2_with fail
     go_end0;exact⟨rfl,R,(m.out.next r).QT (by rw[O.out];rfl)⟩
    ·go_wp2_with fail
     refine(Y2 6 0 F _ E _ X d b _ us (by have:=G.out;omega) m.out.zQ).mono ?_;rintro e w9 ⟨rfl,R,r⟩
     go_wp2_with fail
     go_end0;exact⟨rfl,R,(m.out.next r).QT (by rw[O.out];rfl)⟩
    ·go_wp2_with fail
     refine(zhA t F _ E _ X d b _ us (by first|exact g5.out rfl|exact g5.out trivial) (by have:=G.out;omega) m.out.zQ).mono ?_;rintro e w9 ⟨rfl,R,r⟩
     go_wp2_with fail
     go_end0;exact⟨rfl,R,(m.out.next r).QT (by rw[O.out];rfl)⟩
    ·have j7: ∀(fn:Go.Fn)(first g8:Array Value)(w:World),(Instr.makeFunc fn first g8).run prog w=.ok (.func fn first g8) w:=λ_ _ _ _=>rfl
     have m0:=(zE m.out.st).1.1;have j1:=zh (H7.out rfl);have j2:=zh (zcI (N:=161) (o:=2) (s:=t) (by simp) (I0 I.out) (by rw[C.1];rfl))
     go_wp2_with fail
     refine(YT (c:=c0) m.out.xQ j2.out a6.out).mono ?_;rintro e w8 ⟨z,rfl,hz,g9⟩;obtain⟨f,hf,h0⟩:=j1.out;obtain rfl:=hz.fn hf h0;clear hf h0;have a4:=zh (m.out.below g9);clear hz g9 C m0
     go_wp2_with fail
     refine(Y2 17 (ql us t:Int) F _ E _ X d b _ us (by have:=G.out;omega) a4.out.zQ).mono ?_;rintro e w9 ⟨rfl,R,r⟩
     go_wp2_with fail
     go_end0;exact⟨rfl,R,(a4.out.next r).QT (by rw[O.out];rfl)⟩
    ·obtain⟨j8,j9⟩:=H8.out rfl
     go_wp2_with fail
     refine(Y2 20 (n*8+(v.length:Int)) F _ E _ X d b _ us (by have:=G.out;omega) m.out.zQ).mono ?_;rintro e w9 ⟨rfl,R,r⟩
     go_wp2_with fail
     go_end0;exact⟨rfl,R,(m.out.next r).QT (by rw[O.out];rfl)⟩
theorem zeD(us:List Fn): ∀left,CmE us left
 |0=>λ_ _ _ _ _ _ _ _ _ _ _ _ _ _ _ hx=>nomatch hx
 |left+1=>zbT us left (zeD us left)
def N7(us:List Fn):Nat->N1->Nat->List Sm->R2×N1×Nat
 |_,vs,m,[]=>([],vs,m)
 |n,vs,m,s::l=>((Q4 us n vs m s).1++(N7 us (n+(Q4 us n vs m s).1.length) (Q4 us n vs m s).2.1 (Q4 us n vs m s).2.2 l).1,(N7 us (n+(Q4 us n vs m s).1.length) (Q4 us n vs m s).2.1 (Q4 us n vs m s).2.2 l).2)
theorem Ja(us:List Fn): ∀(l:List Sm)(n:Nat)(vs:N1)(m:Nat),S3 us n vs m l=((N7 us n vs m l).1,(N7 us n vs m l).2.2)
 |[],n,vs,m=>by rw[S3,N7]
 |s::l,n,vs,m=>by rw[S3,N7,Ja us l]
theorem QI(us:List Fn)(s:Sm): ∀(l:List Sm)(n:Nat)(vs:N1)(m:Nat),N7 us n vs m (l++[s])=((N7 us n vs m l).1++(Q4 us (n+(N7 us n vs m l).1.length) (N7 us n vs m l).2.1 (N7 us n vs m l).2.2 s).1,(Q4 us (n+(N7 us n vs m l).1.length) (N7 us n vs m l).2.1 (N7 us n vs m l).2.2 s).2)
 |[],n,vs,m=>by simp[N7]
 |a::l,n,vs,m=>by
  rw[z9,N7,QI us s l,N7];simp only[y7,B2,Nat.add_assoc]
theorem zdO(us:List Fn)(s:Sm)(n:Nat)(vs:N1)(m:Nat): ∃pre,(Q4 us n vs m s).2.1=vs++pre:=by
 cases s with|mk k b a J0 P2 p=>
 rw[Q4]
 repeat' split
 all_goals first|exact⟨_,rfl⟩|exact⟨[],by simp⟩
theorem Xz(us:List Fn): ∀(l:List Sm)(n:Nat)(vs:N1)(m:Nat),∃pre,(N7 us n vs m l).2.1=vs++pre
 |[],n,vs,m=>⟨[],by simp[N7]⟩
 |s::l,n,vs,m=>by
  obtain⟨a,b⟩:=zdO us s n vs m;obtain⟨c,d⟩:=Xz us l (n+(Q4 us n vs m s).1.length) (Q4 us n vs m s).2.1 (Q4 us n vs m s).2.2;exact⟨a++c,by rw[N7];simp only;rw[d,b,B2]⟩
theorem zap(us:List Fn): ∀(l:List Sm)(j n:Nat)(vs:N1)(m:Nat),(N7 us n vs m (l.take j)).1.length<=(N7 us n vs m l).1.length
 |[],j,n,vs,m=>by simp
 |s::l,0,n,vs,m=>by simp[N7]
 |s::l,j+1,n,vs,m=>by
  rw[List.take_succ_cons,N7,N7,y7,y7];exact Nat.add_le_add_left (zap us l j _ _ _) _
theorem zdD{us:List Fn}(g:(us.map Fn.K3).Nodup){d:Nat}{s:Sm}{e j:T9}{m i:Nat}{r:Bool}(h:Sx us (Bx us d) d s e m j i r)(n:Nat)(vs:N1):(Q4 us n vs m s).2.2=i/\(zf e vs m->zf j (Q4 us n vs m s).2.1 i):=by
 have:=zcO (ps:=us.map λf=>f.I4.length) (nv:=0) (C:=[]) rfl g (λl e m j i r h n vs=>by
  obtain⟨a,b,c⟩:=JH (ps:=us.map λf=>f.I4.length) (nv:=0) (C:=[]) rfl g h n vs;exact⟨a,b,λp q t=>c p q (by omega)⟩) h n vs
 exact⟨this.1,this.2.2.1⟩
theorem O3{w:World}{base e size n c:Nat}{A:Option Addr}{xs:List Value}(h:w.ownsRow base e size (.slice A n c) n xs):n<=c/\(A=none\/ ∃g,A=some ⟨g,0,none⟩):=by
 rcases h.2 with⟨a,f⟩|⟨g,i,j,a,f,m,k,o,p,q⟩
 ·injection a with b l d;exact⟨by omega,.inl b⟩
 ·injection a with b l d;subst d;exact⟨k,.inr ⟨g,b⟩⟩
theorem T4.cut{w0 w:World}{a:Nat}{U:Value}{V:Mv}{vs pre:N1}{c:Nat}{ops:List Q2}{us:List Fn}{F:Nat->Prop}(h:T4 w0 w a U V (vs++pre) c ops us F):
 T4 w0 ((w.setCell ⟨a,1,none⟩ (.slice V.An vs.length V.cn)).setCell ⟨a,2,none⟩ (.slice V.Aa vs.length V.ca)) a U V vs c ops us F:=by
 have g:=zG h.st.rn vs.length (by simp);have i:=zG h.st.ra vs.length (by simp);have o:=h.st.ro;have p:(X5 (vs++pre)).take (vs.length*1)=X5 vs:=by simp[X5]
 have q:(X6 (vs++pre)).take (vs.length*1)=X6 vs:=by simp[X6]
 rw[p]at g;rw[q]at i;have d:=h.st.J7;have f:=y4 w a 1 _ _ (.slice V.An vs.length V.cn) d;have r:=y4 _ a 2 _ _ (.slice V.Aa vs.length V.ca) f;have b: ∀{e n j:Nat}{v:Value}{xs:List Value},w.ownsRow a e j v n xs->e≠127->((w.setCell ⟨a,1,none⟩ (.slice V.An vs.length V.cn)).setCell ⟨a,2,none⟩ (.slice V.Aa vs.length V.ca)).ownsRow a e j v n xs:=λk l=>by
  have m:=k.kept (I7 w a 1 (.slice V.An vs.length V.cn)) (.inr (K5 k d l));exact m.kept (I7 _ a 2 _) (.inr (K5 m f l))
 refine h.QU ⟨by simpa using r,b g (by decide),b i (by decide),b o (by decide)⟩ (K8 (K8 (x7 a w) (x6 _) 1 _) (x6 _) 2 _) ((Kp.set d (by simp)).trans (Kp.set f (by simp)))
theorem T4.zjc{w0 w:World}{a:Nat}{U:Value}{V:Mv}{vs pre:N1}{c:Nat}{ops:List Q2}{us:List Fn}{F:Nat->Prop}(h:T4 w0 w a U V (vs++pre) c ops us F):
 T4 w0 ((w.setCell ⟨a,2,none⟩ (.slice V.Aa vs.length V.ca)).setCell ⟨a,1,none⟩ (.slice V.An vs.length V.cn)) a U V vs c ops us F:=by
 have g:=zG h.st.rn vs.length (by simp);have i:=zG h.st.ra vs.length (by simp);have o:=h.st.ro;have p:(X5 (vs++pre)).take (vs.length*1)=X5 vs:=by simp[X5]
 have q:(X6 (vs++pre)).take (vs.length*1)=X6 vs:=by simp[X6]
 rw[p]at g;rw[q]at i;have d:=h.st.J7;have f:=y4 w a 2 _ _ (.slice V.Aa vs.length V.ca) d;have r:=y4 _ a 1 _ _ (.slice V.An vs.length V.cn) f;have b: ∀{e n j:Nat}{v:Value}{xs:List Value},w.ownsRow a e j v n xs->e≠127->((w.setCell ⟨a,2,none⟩ (.slice V.Aa vs.length V.ca)).setCell ⟨a,1,none⟩ (.slice V.An vs.length V.cn)).ownsRow a e j v n xs:=λk l=>by
  have m:=k.kept (I7 w a 2 (.slice V.Aa vs.length V.ca)) (.inr (K5 k d l));exact m.kept (I7 _ a 1 _) (.inr (K5 m f l))
 refine h.QU ⟨by simpa using r,b g (by decide),b i (by decide),b o (by decide)⟩ (K8 (K8 (x7 a w) (x6 _) 2 _) (x6 _) 1 _) ((Kp.set d (by simp)).trans (Kp.set f (by simp)))
structure OkM(env:T9)(vs:N1)(m:Nat):Prop where
 m64:m<=64
 el:env.length<=m
 ok:zf env vs m
def CmS(us:List Fn)(left:Nat):Prop:=
 ∀(s:Sm)(i j k:Option Addr)(l m o:Nat)(F:Nat->Prop)(w:World)(h:Nat)(p:Option Addr)(q:Nat)(V:Mv)(d:N1)(b:Nat)(c:List Q2)(f g:T9)(t:Nat)(r:Bool),Sx us (Bx us left) left s f b g t r->OkM f d b->zbK us->M9 w F (.slice i s.a.args.length l) s.a.args->L7 w F (.slice j s.J0.length m) s.J0->L7 w F (.slice k s.P2.length o) s.P2->c.length+(Q4 us c.length d b s).1.length<=400000->T4 w w h (.slice p us.length q) V d b c us F->
  Calls prog 102 #[.pointer (some ⟨h,0,none⟩),.agg #[.int .i64 s.M0,.string s.K3,.int .i64 s.a.M0,.int .i64 s.a.n,.string s.a.N4,.slice i s.a.args.length l,.int .i64 s.a.pos,.slice j s.J0.length m,.slice k s.P2.length o,.int .i64 s.pos]] w λe u=>e=.returned (.tuple #[])/\ ∃v,T4 w u h (.slice p us.length q) v (Q4 us c.length d b s).2.1 (Q4 us c.length d b s).2.2 (c++(Q4 us c.length d b s).1.map Prod.fst) us F
def CmB(us:List Fn)(left:Nat):Prop:=
 ∀(l:List Sm)(B:Option Addr)(d:Nat)(F:Nat->Prop)(w:World)(h:Nat)(i:Option Addr)(j:Nat)(V:Mv)(c:N1)(a:Nat)(b:List Q2)(f g:T9)(k:Nat)(r:Bool),Bx us left l f a g k r->OkM f c a->zbK us->l.length<=281474976710656->L7 w F (.slice B l.length d) l->b.length+(S3 us b.length c a l).1.length<=400000->T4 w w h (.slice i us.length j) V c a b us F->
  Calls prog 58 #[.pointer (some ⟨h,0,none⟩),.slice B l.length d] w λe m=>e=.returned (.tuple #[])/\ ∃n,T4 w m h (.slice i us.length j) n c (S3 us b.length c a l).2 (b++(S3 us b.length c a l).1.map Prod.fst) us F
end Go.Proofs.YtalgmjmibamdfaaGreatDoor
namespace Go.Proofs.YtalgmjmibamdfaaGreatDoor
open Go.RowKit Tw
structure Pf where
 params:Nat
 vars:Nat
 ops:List Q2
def Cf.pf(f:Cf):Pf:=⟨f.params,f.vars,f.I9.map Prod.fst⟩
def zJ(w:World)(v:Value)(l:List Q2):Prop:=
 ∃g c a b,v=.slice (some ⟨g,0,none⟩) l.length c/\l.length<=c/\w.heap[g]?=some (.cells a 74 b)/\ ∀k o,l[k]?=some o->w.cell? ⟨g,k*2,none⟩=some (.int .i64 o.1)/\w.cell? ⟨g,k*2+1,none⟩=some (.int .i64 o.2)
def L4(w:World)(v:Value)(l:List Pf):Prop:=
 (l=[]/\ ∃a c,v=.slice a 0 c)\/ ∃g c d e,v=.slice (some ⟨g,0,none⟩) l.length c/\l.length<=c/\w.heap[g]?=some (.cells d 40 e)/\
  ∀k f,l[k]?=some f-> ∃b,w.cell? ⟨g,k*3,none⟩=some (.int .i64 f.params)/\w.cell? ⟨g,k*3+1,none⟩=some (.int .i64 f.vars)/\w.cell? ⟨g,k*3+2,none⟩=some b/\zJ w b f.ops
section
variable {w w':World}{v:Value}{row:Option Nat}
structure X1(w w':World):Prop where
 J7: ∀(g:Nat)(cs:Array Value)(t:Nat)(fr:Nat×Nat),w.heap[g]?=some (.cells cs t fr)->t=74\/t=40->w'.heap[g]?=w.heap[g]?
theorem X1.of(a:Below w.heap.size w w'):X1 w w':=⟨λg _ _ _ h _=>a.block g (I0 h)⟩
theorem X1.trans{w2:World}(h:X1 w w')(e:X1 w' w2):X1 w w2:=⟨λg a t b c d=>(e.J7 g a t b ((h.J7 g a t b c d).trans c) d).trans (h.J7 g a t b c d)⟩
theorem X1.set{b t:Nat}{h:Array Value}{i:Nat×Nat}(k:w.heap[b]?=some (.cells h t i))(l:t≠74)(m:t≠40)(j:Nat)(u:Value):X1 w (w.setCell ⟨b,j,none⟩ u):=
 ⟨λg n p o d a=>(I7 w b j u).block g (I0 d) λe=>by
  have e:g=b:=by simpa using e
  subst e;have c:=k.symm.trans d;injection c with c;injection c with _ f
  rcases a with a|a
  ·exact l (f.trans a)
  ·exact m (f.trans a)⟩
theorem zJ.I5{l:List Q2}(h:zJ w v l)(j:X1 w w'):zJ w' v l:=by
 obtain⟨g,c,m,n,e,p,d,f⟩:=h;have b:=j.J7 g _ _ _ d (.inl rfl);exact⟨g,c,m,n,e,p,b.trans d,λk o i=>⟨(E0 (a:=⟨g,k*2,none⟩) b).trans (f k o i).1,(E0 (a:=⟨g,k*2+1,none⟩) b).trans (f k o i).2⟩⟩
theorem L4.I5{l:List Pf}(h:L4 w v l)(d:X1 w w'):L4 w' v l:=by
 rcases h with h|⟨g,c,j,m,e,n,i,o⟩
 ·exact .inl h
 ·have b:=d.J7 g _ _ _ i (.inr rfl)
  refine .inr ⟨g,c,j,m,e,n,b.trans i,λk f p=>?_⟩;obtain⟨q,r,s,t,u⟩:=o k f p;exact⟨q,(E0 (a:=⟨g,k*3,none⟩) b).trans r,(E0 (a:=⟨g,k*3+1,none⟩) b).trans s,(E0 (a:=⟨g,k*3+2,none⟩) b).trans t,u.I5 d⟩
theorem zJ.at{l:List Q2}(h:zJ w v l): ∃g c,v=.slice (some ⟨g,0,none⟩) l.length c/\l.length<=c/\g<w.heap.size/\ ∀k o,l[k]?=some o->w.cell? ⟨g,k*2,none⟩=some (.int .i64 o.1)/\w.cell? ⟨g,k*2+1,none⟩=some (.int .i64 o.2):=by
 obtain⟨g,c,f,i,e,a,b,d⟩:=h;exact⟨g,c,e,a,I0 b,d⟩
theorem L4.at{l:List Pf}(h:L4 w v l){k:Nat}{f:Pf}(hf:l[k]?=some f): ∃g c a,v=.slice (some ⟨g,0,none⟩) l.length c/\l.length<=c/\g<w.heap.size/\w.cell? ⟨g,k*3,none⟩=some (.int .i64 f.params)/\w.cell? ⟨g,k*3+1,none⟩=some (.int .i64 f.vars)/\w.cell? ⟨g,k*3+2,none⟩=some a/\zJ w a f.ops:=by
 rcases h with⟨rfl,-⟩|⟨g,c,p,q,e,b,d,i⟩
 ·cases hf
 ·obtain⟨a,j,m,n,o⟩:=i k f hf
  exact⟨g,c,a,e,b,I0 d,j,m,n,o⟩
theorem L4.slice{l:List Pf}(h:L4 w v l): ∃a c,v=.slice a l.length c:=by
 rcases h with⟨rfl,a,c,rfl⟩|h
 ·exact⟨a,c,rfl⟩
 ·obtain⟨g,c,b,d,e,-⟩:=h
  exact⟨_,_,e⟩
theorem Jc{base e size n c g:Nat}{xs:List Value}(h:w.ownsRow base e size (.slice (some ⟨g,0,none⟩) n c) n xs): ∃d f,w.heap[g]?=some (.cells d e f):=by
 rcases h.2 with⟨b,_⟩|⟨l,i,j,b,m,k,_⟩
 ·cases b
 ·injection b with a;injection a with a;injection a with a;subst a;exact⟨_,_,k⟩
theorem zJ.jA{base c:Nat}{A:Option Addr}{l:List Q2}(h:w.ownsRow base 74 2 (.slice A l.length c) l.length (X2 l))(d:0<l.length):zJ w (.slice A l.length c) l:=by
 obtain⟨g,rfl⟩:=qP h d;obtain⟨e,f,i⟩:=Jc h;refine⟨g,c,e,f,rfl,(O3 h).1,i,λk o a=>?_⟩;have j:k<l.length:=(List.getElem?_eq_some_iff.1 a).1;refine⟨?_,?_⟩
 ·have b:=h.cellAt (k*2) (by omega)
  exact b.trans (U2 xD 2 (λ_=>rfl) l k o a 0 _ rfl)
 ·have b:=h.cellAt (k*2+1) (by omega)
  exact b.trans (U2 xD 2 (λ_=>rfl) l k o a 1 _ rfl)
end
def jQ(b:Pf×Value):List Value:=[.int .i64 b.1.params,.int .i64 b.1.vars,b.2]
theorem L4.jA{w:World}{base c:Nat}{A:Option Addr}{l:List (Pf×Value)}(h:w.ownsRow base 40 3 (.slice A l.length c) l.length (l.flatMap jQ))(d: ∀b∈l,zJ w b.2 b.1.ops):L4 w (.slice A l.length c) (l.map Prod.fst):=by
 rcases Nat.eq_zero_or_pos l.length with e|e
 ·have:l=[]:=List.length_eq_zero_iff.1 e
  subst this;exact .inl ⟨rfl,A,c,rfl⟩
 ·obtain⟨g,rfl⟩:=qP h e
  obtain⟨j,m,n⟩:=Jc h;refine .inr ⟨g,c,j,m,by rw[C0],by rw[C0];exact(O3 h).1,n,λk f i=>?_⟩;rw[F6]at i;obtain⟨b,a,rfl⟩:=Option.map_eq_some_iff.1 i;have o:k<l.length:=(List.getElem?_eq_some_iff.1 a).1;refine⟨b.2,?_,?_,?_,d b (B0 a)⟩
  ·exact(h.cellAt (k*3) (by omega)).trans (U2 jQ 3 (λ_=>rfl) l k b a 0 _ rfl)
  ·exact(h.cellAt (k*3+1) (by omega)).trans (U2 jQ 3 (λ_=>rfl) l k b a 1 _ rfl)
  ·exact(h.cellAt (k*3+2) (by omega)).trans (U2 jQ 3 (λ_=>rfl) l k b a 2 _ rfl)
end Go.Proofs.YtalgmjmibamdfaaGreatDoor
namespace Go.Proofs.YtalgmjmibamdfaaGreatDoor
open Go.Proofs.Tryz
open Go.RowKit Tw
section
open Go.Maps
theorem jm{fn:Func}{t u v x:Tmp}(h:fn.results= #[.tmp t,.tmp u,.tmp v,.tmp x])(a:Array Value)(P:Program)(w:World):
 (results fn a).run P w=.ok (.tuple #[a.getD t undef,a.getD u undef,a.getD v undef,a.getD x undef]) w:=by
 simp[results,h]
theorem ziu{x:Int}(a:0<=x)(b:x<128):bits BinOp.and IntKind.i64 x 7=x%8:=by
 obtain⟨n,rfl⟩: ∃n:Nat,x=n:=⟨x.toNat,by omega⟩;have h: ∀n:Fin 128,bits BinOp.and IntKind.i64 ((n:Nat):Int) 7=((n:Nat):Int)%8:=by decide
 exact h ⟨n,by omega⟩
theorem zgZ(P:List Pf)(r:Option Addr)(s:Nat)(main v:Int)(nv no:Nat)(y:Option Addr)(co:Nat)(d x:Int)(w:World)
 (hf:qq P.length nv no (d,x)) (hF:L4 w (.slice r P.length s) P):
 Calls prog 62 #[.agg #[.slice r P.length s,.int .i64 main],.agg #[.int .i64 v,.int .i64 nv,.slice y no co],.agg #[.int .i64 d,.int .i64 x]] w λe w'=>
  e=.returned (.tuple #[.int .i64 (I6 (P.map Pf.params) (d,x)),.int .i64 (J9 (d,x)),.int .i64 (U6 P.length nv no d),.bool true])/\Below w.heap.size w w':=by
 obtain⟨i,l,U,t⟩:=hf;simp only at i l U t;have V:=(x7 w.heap.size w).alloc (x6 _) (.cells #[.slice r P.length s,.int .i64 main] 26);have X:=V.alloc V.size (.cells #[.int .i64 v,.int .i64 nv,.slice y no co] 40);have b3:=X.alloc X.size (.cells #[.int .i64 d,.int .i64 x] 74);have x1:=x9 w (.cells #[.slice r P.length s,.int .i64 main] 26);have x2:=x9 (w.alloc (.cells #[.slice r P.length s,.int .i64 main] 26)) (.cells #[.int .i64 v,.int .i64 nv,.slice y no co] 40);have x3:=x9 ((w.alloc (.cells #[.slice r P.length s,.int .i64 main] 26)).alloc (.cells #[.int .i64 v,.int .i64 nv,.slice y no co] 40)) (.cells #[.int .i64 d,.int .i64 x] 74);obtain⟨w1,w2,w3,w4,w5,w6,w7,w8,w9,a7,a8,m,r1,r2,r3,r4,r5,r6,r7,r8,r9,D,E,F,n,G⟩:=zd4 (((w.alloc (.cells #[.slice r P.length s,.int .i64 main] 26)).alloc (.cells #[.int .i64 v,.int .i64 nv,.slice y no co] 40)).alloc (.cells #[.int .i64 d,.int .i64 x] 74));have H:(w.alloc (.cells #[.slice r P.length s,.int .i64 main] 26)).heap.size=w.heap.size+1:=by simp
 have I:((w.alloc (.cells #[.slice r P.length s,.int .i64 main] 26)).alloc (.cells #[.int .i64 v,.int .i64 nv,.slice y no co] 40)).heap.size=w.heap.size+2:=by simp
 have C:(((w.alloc (.cells #[.slice r P.length s,.int .i64 main] 26)).alloc (.cells #[.int .i64 v,.int .i64 nv,.slice y no co] 40)).alloc (.cells #[.int .i64 d,.int .i64 x] 74)).heap.size=w.heap.size+3:=by simp
 have R:=(G.block w.heap.size (by rw[C];omega)).trans ((B8 _ _ (by rw[I];omega)).trans ((B8 _ _ (by rw[H];omega)).trans x1));have S:=(G.block _ (by rw[C,H];omega)).trans ((B8 _ _ (by rw[I,H];omega)).trans x2);have J:=(G.block _ (by rw[C,I];omega)).trans x3;rw[C]at r1 r2 r3 r4 r5 r6 r7 r8 r9 D E F n;rw[H]at S;rw[I]at J;have hB:=(b3.trans (G.mono (by rw[C];omega)));have K:(Lit.int .i64 d).wf=true:=by
  have Y:IntKind.i64.min= -9223372036854775808:=rfl;have Z:IntKind.i64.max=9223372036854775807:=rfl;simp only[Lit.wf,Y,Z,E4,E2];omega
 obtain⟨ta,tb,tc,tk,h⟩: ∃a b c k,opT d=(a,b,c,k):=⟨_,_,_,_,rfl⟩;have lk:=zhf n d ta tb tc tk K (by rw[(zg2 i l).1,h]) (by rw[(zg2 i l).2,h]);have q2:=x9 m (.cells #[.int .i64 ta,.int .i64 tb,.int .i64 tc] 178);have L:=(x7 m.heap.size m).alloc (x6 _) (.cells #[.int .i64 ta,.int .i64 tb,.int .i64 tc] 178);have d0:m.cell? ⟨w.heap.size+2,0,none⟩=some (.int .i64 d):=x5 J 0;have M:=zh ((L.block _ (I0 R)).trans R);have z:=zh ((L.block _ (I0 S)).trans S);have A:=zh ((L.block _ (I0 J)).trans J);have o:=zh q2;have q:=zh (hB.trans (L.mono (B5 (by omega) (G3 (I0 R)))));have HX:=zh U;have HF:=zh hF;have a3:=zh h;have a4:= @run_makeMap prog;clear U hF h V X b3 x1 x2 x3 R S J H I C n G hB L q2 K
 go_enter func62,ntmps62
 go_upto_region 3 with(fail)
 clear r1 r2 r3 r4 r5 r6 r7 r8 r9 D E F lk d0 a4;generalize World.alloc _ _=W at M z A o q|-
 generalize m.heap.size=nb at o|-
 have p0:=x5 M.out 0;have f1:=x5 z.out 1;have f2:=x5 z.out 2;have o0:=x5 A.out 0;have o1:=x5 A.out 1;have a0:=x5 o.out 0;have a1:=x5 o.out 1;have a2:=x5 o.out 2;have h:=a3.out
 by_cases N:d=17
 ·subst N
  obtain⟨T,O⟩:=HX.out (by decide);obtain⟨j,rfl⟩: ∃j:Nat,x=j:=⟨x.toNat,by omega⟩;have hj:j<P.length:=by simp[U6]at O;omega
  obtain⟨f,hf⟩: ∃f,P[j]?=some f:=⟨_,x8 hj⟩;obtain⟨g,c,vo,hv,-,hg,u0,-⟩:=HF.out.at hf;injection hv with Y _ Z
  subst Y Z;have v0:=(q.out.cell (p:=⟨g,j*3,none⟩) hg).trans u0;have a5:Hid (I6 (P.map Pf.params) (17,(j:Int))=f.params):=zh (by simp[I6,hf]);have i0:(0:Int)<=(j:Int):=by omega
  have i1:(j:Int)<(P.length:Int):=by omega
  simp[opT]at h;obtain⟨rfl,rfl,rfl,rfl⟩:=h;clear hf hg u0 T O t i l
  go_wp2_with fail
  go_quiet (fail)
  go_wp2_with fail
  (try simp only[Exit.inBlock,Exit.then]);refine E1 (jm rfl _ _ _) rfl ?_
  exact⟨by rw[a5.out];simp[J9,U6],J1 q.out _⟩
 by_cases u:d=20
 ·subst u
  obtain⟨T,O⟩:=HX.out (by decide);have Q:x<128:=by simpa[U6]using O
  simp[opT]at h;obtain⟨rfl,rfl,rfl,rfl⟩:=h;have a6:=zh (ziu T Q);clear T O t i l Q
  go_wp2_with fail
  go_quiet (fail)
  go_wp2_with fail
  (try simp only[Exit.inBlock,Exit.then]);refine E1 (jm rfl _ _ _) rfl ?_
  exact⟨by simp[I6,J9,U6];rw[a6.out];omega,J1 q.out _⟩
 have B:d=1\/d=2\/d=3\/d=4\/d=5\/d=6\/d=15\/d=16\/d=18\/d=19\/d=7\/d=8\/d=9\/d=10\/d=11\/d=12\/d=13\/d=14:=by omega
 clear N u i l t
 rcases B with rfl|rfl|rfl|rfl|rfl|rfl|rfl|rfl|rfl|rfl|rfl|rfl|rfl|rfl|rfl|rfl|rfl|rfl
 all_goals
  simp[opT]at h;obtain⟨rfl,rfl,rfl,rfl⟩:=h
  go_wp2_with fail
  go_quiet (fail)
  go_wp2_with fail
  (try simp only[Exit.inBlock,Exit.then]);refine E1 (jm rfl _ _ _) rfl ?_
  exact⟨by simp[I6,J9,U6],J1 q.out _⟩
end
end Go.Proofs.YtalgmjmibamdfaaGreatDoor
namespace Go.Proofs.YtalgmjmibamdfaaGreatDoor
open Go.RowKit Tw
def OkH(C:R2)(hs:List Int):Prop:=hs.length=C.length/\ ∀(k:Nat)(v:Int),hs[k]?=some v->v= -1\/ ∃o h,C[k]?=some (o,h)/\v=(h:Nat)
def xz(hs:List Int)(k:Nat):Prop:= ∃v:Int,hs[k]?=some v/\v≠ -1
structure Yc(C:R2)(hs hs':List Int):Prop where
 old: ∀(j:Nat)(v:Int),hs[j]?=some v->v≠ -1->hs'[j]?=some v
 qF: ∀(j:Nat)(o:Q2)(h:Nat),C[j]?=some (o,h)-> ¬xz hs j->xz hs' j-> ∀i∈K2 j o,xz hs' i
 cnt:hs'.count (-1)<=hs.count (-1)
section
variable {C:R2}{hs hs1 hs':List Int}
theorem Yc.refl:Yc C hs hs:=⟨λ_ _ h _=>h,λ_ _ _ _ h a=>G5 a h,x6 _⟩
theorem Yc.mk'(h:Yc C hs hs'){i:Nat}(hi:xz hs i):xz hs' i:=by
 obtain⟨v,b,a⟩:=hi;exact⟨v,h.old i v b a,a⟩
theorem Yc.trans(h:Yc C hs hs1)(a:Yc C hs1 hs'):Yc C hs hs':=by
 refine⟨λj v c b=>a.old j v (h.old j v c b) b,λj o x d c b=>?_,B5 a.cnt h.cnt⟩
 by_cases e:xz hs1 j
 ·exact λi g=>a.mk' (h.qF j o x d c e i g)
 ·exact a.qF j o x d e b
theorem OkH.set(h:OkH C hs){k n:Nat}{o:Q2}(b:C[k]?=some (o,n)):OkH C (hs.set k (n:Int)):=by
 refine⟨by rw[List.length_set];exact h.1,λj v a=>?_⟩;rw[List.getElem?_set]at a
 split at a
 ·rename_i e;subst e
  split at a
  ·injection a with a;exact .inr ⟨o,n,b,a.symm⟩
  ·cases a
 ·exact h.2 j v a
theorem jY{k n:Nat}(b:hs[k]?=some (-1)):(hs.set k (n:Int)).count (-1)+1=hs.count (-1):=by
 induction hs generalizing k with
 |nil=>simp at b
 |cons a l c=>
  cases k with
  |zero=>
   simp at b;subst b;have: ¬((n:Int)== -1)=true:=by simp
   rw[List.set_cons_zero,List.count_cons,List.count_cons,z7 this];simp
  |succ k=>
   have:=c (k:=k) (by simpa using b);rw[List.set_cons_succ,List.count_cons,List.count_cons];omega
theorem Yc.zaG{k n:Nat}{o:Q2}(p:C[k]?=some (o,n))(d:hs[k]?=some (-1))(h:Yc C (hs.set k (n:Int)) hs')(hs1: ∀i∈K2 k o,xz hs' i):Yc C hs hs'/\xz hs' k:=by
 have g:k<hs.length:=(List.getElem?_eq_some_iff.1 d).1;have l:xz (hs.set k (n:Int)) k:=⟨n,List.getElem?_set_self g,by omega⟩;refine⟨⟨λj v b c=>?_,λj q x a b c=>?_,?_⟩,h.mk' l⟩
 ·refine h.old j v ?_ c
  by_cases e:k=j
  ·subst e;rw[d]at b;injection b with b;exact G5 b.symm c
  ·rw[List.getElem?_set_ne e];exact b
 ·by_cases e:k=j
  ·subst e;rw[p]at a;injection a with a;injection a with r t;subst r;exact hs1
  ·refine h.qF j q x a (λl=>b ?_) c
   obtain⟨v,m,s⟩:=l;rw[List.getElem?_set_ne e]at m;exact⟨v,m,s⟩
 ·have:=jY (n:=n) d
  have:=h.cnt;omega
end
structure xZ(C:R2)(hs:List Int):Prop where
 ok:OkH C hs
 start:xz hs 0
 XX: ∀(j:Nat)(o:Q2)(h:Nat),C[j]?=some (o,h)->xz hs j-> ∀i∈K2 j o,xz hs i
structure Hv where
 bb:Nat
 bf:Nat
 bh:Nat
 bp:Nat
 bw:Nat
 gh:Nat
def S5(hs:List Int):Array Value:=(hs.map (Value.int .i64)).toArray
structure HtS(w:World)(B:Hv)(P:List Pf)(Af:Option Addr)(cf:Nat)(main:Int)(f:Pf)(Ao:Option Addr)(co:Nat)(hs:List Int):Prop where
 xS:w.heap[B.bb]?=some (.cells #[.bool false] 4 (0,0))
 fn:w.heap[B.bf]?=some (.cells #[.int .i64 f.params,.int .i64 f.vars,.slice Ao f.ops.length co] 40 (0,0))
 hv:w.heap[B.bh]?=some (.cells #[.slice (some ⟨B.gh,0,none⟩) f.ops.length f.ops.length] 22 (0,0))
 pg:w.heap[B.bp]?=some (.cells #[.slice Af P.length cf,.int .i64 main] 26 (0,0))
 wk:w.heap[B.bw]?=some (.cells #[.func (.func 107) #[] #[.pointer (some ⟨B.bb,0,none⟩),.pointer (some ⟨B.bf,0,none⟩),.pointer (some ⟨B.bh,0,none⟩),.pointer (some ⟨B.bp,0,none⟩),.pointer (some ⟨B.bw,0,none⟩)]] 182 (0,0))
 row:w.heap[B.gh]?=some (.cells (S5 hs) 3 (0,0))
 zem:L4 w (.slice Af P.length cf) P
 ops:zJ w (.slice Ao f.ops.length co) f.ops
section
variable {w w':World}{B:Hv}{P:List Pf}{Af:Option Addr}{cf:Nat}{main:Int}{f:Pf}{Ao:Option Addr}{co:Nat}{hs:List Int}
theorem HtS.later(h:HtS w B P Af cf main f Ao co hs)(a:Below w.heap.size w w'):HtS w' B P Af cf main f Ao co hs:=
 ⟨(a.block _ (I0 h.xS)).trans h.xS,(a.block _ (I0 h.fn)).trans h.fn,(a.block _ (I0 h.hv)).trans h.hv,(a.block _ (I0 h.pg)).trans h.pg,(a.block _ (I0 h.wk)).trans h.wk,(a.block _ (I0 h.row)).trans h.row,h.zem.I5 (.of a),h.ops.I5 (.of a)⟩
theorem qo{w:World}{a b t i:Nat}{j d:Array Value}{k g:Nat×Nat}(l:w.heap[a]?=some (.cells j t k))(c:w.heap[b]?=some (.cells d i g))(h:t≠i):a≠b:=by
 rintro rfl;rw[l]at c;injection c with c;injection c with _ e
 exact h e
theorem HtS.set(h:HtS w B P Af cf main f Ao co hs)(k:Nat)(v:Int):HtS (w.setCell ⟨B.gh,k,none⟩ (.int .i64 v)) B P Af cf main f Ao co (hs.set k v):=by
 have hs':=I7 w B.gh k (.int .i64 v)
 have e: ∀{b:Nat}{c:Array Value}{t:Nat}{d:Nat×Nat},w.heap[b]?=some (.cells c t d)->t≠3->(w.setCell ⟨B.gh,k,none⟩ (.int .i64 v)).heap[b]?=some (.cells c t d):=λa g=>
  (hs'.block _ (I0 a) (by simpa using qo a h.row g)).trans a
 have q:X1 w (w.setCell ⟨B.gh,k,none⟩ (.int .i64 v)):=.set h.row (by decide) (by decide) k _;refine⟨e h.xS (by decide),e h.fn (by decide),e h.hv (by decide),e h.pg (by decide),e h.wk (by decide),?_,h.zem.I5 q,h.ops.I5 q⟩;have:=y4 w B.gh k _ _ (.int .i64 v) h.row;rw[this]
 congr 2
 unfold S5;simp[List.map_set]
theorem HtS.zgF(h:HtS w B P Af cf main f Ao co hs):HtS (w.setCell ⟨B.bb,0,none⟩ (.bool false)) B P Af cf main f Ao co hs:=by
 have hs':=I7 w B.bb 0 (.bool false)
 have e: ∀{b:Nat}{c:Array Value}{t:Nat}{d:Nat×Nat},w.heap[b]?=some (.cells c t d)->t≠4->(w.setCell ⟨B.bb,0,none⟩ (.bool false)).heap[b]?=some (.cells c t d):=λa g=>
  (hs'.block _ (I0 a) (by simpa using qo a h.xS g)).trans a
 have q:X1 w (w.setCell ⟨B.bb,0,none⟩ (.bool false)):=.set h.xS (by decide) (by decide) 0 _;exact⟨by simpa using y4 w B.bb 0 _ _ (.bool false) h.xS,e h.fn (by decide),e h.hv (by decide),e h.pg (by decide),e h.wk (by decide),e h.row (by decide),h.zem.I5 q,h.ops.I5 q⟩
end
end Go.Proofs.YtalgmjmibamdfaaGreatDoor
namespace Go.Proofs.YtalgmjmibamdfaaGreatDoor
open Go.Proofs.Tryz
open Go.RowKit Tw
theorem zdT{α:Type}(a b:α){n k m:Nat}(h:k+m<=n):(List.replicate k a++List.replicate (n-k) b).take k++List.replicate m a++(List.replicate k a++List.replicate (n-k) b).drop (k+m)=List.replicate (k+m) a++List.replicate (n-(k+m)) b:=by
 rw[List.take_left' (by simp),List.replicate_append_replicate,List.drop_append,List.length_replicate,List.drop_eq_nil_of_le (by simp),B4,List.drop_replicate,show n-k-(k+m-k)=n-(k+m) by omega]
abbrev zN:Value:=.int .i64 (-1)
def Q5(k n:Nat):Array Value:=(List.replicate k zN++List.replicate (n-k) (Value.int .i64 0)).toArray
theorem Zc:(Tryz.prog.info? 3).map (λi=>(i.zero,i.size,i.bytes))=some (some (Value.int .i64 0),1,8):=by kernel_rfl
theorem Xv(k n:Nat)(h:k<=n):(Q5 k n).size=n:=by simp[Q5];omega
theorem zar{w:World}{g:Nat}{sp:Addr}{k n m sl dl dc sc:Nat}(b c d:TypeId)(i:Tryz.prog.underlying b=some (.slice 3))(l:w.heap[g]?=some (.cells (Q5 k n) 3 (0,0)))(o:m=Nat.min sl dl)(f:k+m<=n)(hs: ∀j,j<m->w.cell? (sp.add j)=some zN):
 (Builtin.copy_ #[b,c] d #[.slice (some ⟨g,k,none⟩) dl dc,.slice (some sp) sl sc]).run prog w=.ok (.int .i64 m) (w.setRow g (Q5 (k+m) n)):=by
 have h:=run_copy_row (P:=prog) w b c d 3 g k dl dc sp sl sc (Q5 k n) 3 (List.replicate m zN) i (by kernel_rfl) l (by simpa using o) (λj v a=>by
  rw[List.getElem?_replicate]at a
  split at a
  ·rename_i p;rw[<-a];exact hs j p
  ·cases a) (by rw[List.length_replicate,Xv k n (by omega)];exact f) (λv a=>by rw[List.mem_replicate]at a;rw[a.2];rfl)
 rw[List.length_replicate]at h;have e:((Q5 k n).toList.take k++List.replicate m zN++(Q5 k n).toList.drop (k+m)).toArray=Q5 (k+m) n:=by
  simp only[Q5,List.toList_toArray];rw[zdT zN (Value.int .i64 0) f]
 rw[e]at h;exact h
theorem za4{w:World}{g k n:Nat}(a:w.heap[g]?=some (.cells (Q5 k n) 3 (0,0))){j:Nat}(b:j<k):w.cell? ⟨g,j,none⟩=some zN:=by
 refine(x5 a j).trans ?_;simp[Q5,List.getElem?_append,b]
theorem zhL(B J n:Nat)(w:World)(N:1<=n)(hn:n<=4000)(hx:w.heap[B]?=some (.cells #[zN] 3 (0,0))):
 Calls prog 106 #[.slice (some ⟨B,0,none⟩) 1 J,.int .i64 n] w λe w'=>e=.returned (.slice (some ⟨w.heap.size,0,none⟩) n n)/\w'.heap[w.heap.size]?=some (.cells (Q5 n n) 3 (0,0))/\Below w.heap.size w w':=by
 have c:=Tryz.bits_Mul 1 n (by decide) (by omega) w;rw[show 1*n/18446744073709551616=0 by omega,show 1*n%18446744073709551616=n by omega]at c;obtain⟨i,K,L,M,s⟩:=info_parts Zc;obtain⟨C,h,l,a⟩:=run_make_full (P:=prog) (w:=w) w.heap.size 22 3 i (.int .i64 0) 1 underlying22 K L M .i64 .i64 n (by rw[s];omega) (by unfold maxLen;omega) (x6 _);have o:C.heap[w.heap.size]?=some (.cells (Q5 0 n) 3 (0,0)):=by
  rcases l.2 with⟨D,_⟩|⟨g,O,t,p,_,Q,_,_,R,S⟩
  ·cases D
  ·injection p with p _ T
   injection p with p;injection p with p
   subst p T;rw[Q];have U:t.toList=(madeCells (Value.int .i64 0).cells (n*1)).toList:=by rw[<-S,List.take_of_length_le (by simp[R])]
   have:t=Q5 0 n:=by
    apply Array.toList_inj.1;rw[U];apply List.ext_getElem?;intro j;simp[madeCells,Q5,Value.cells,List.getElem?_replicate]
    by_cases u:j<n
    ·rw[List.getElem?_range u,C5 u];simp[Nat.mod_one]
    ·simp[u]
   rw[this]
 have G:Hid (Below w.heap.size w C):=zh ⟨a.os,a.tape,a.output,a.size,λk V=>a.block k V (by simp)⟩;have v:C.cell? ⟨B,0,none⟩=some zN:=x5 ((G.out.block _ (I0 hx)).trans hx) 0;have x:=zar (n:=n) (k:=0) (m:=1) (sp:=⟨B,0,none⟩) (sl:=1) (dl:=n) (dc:=n) (sc:=J) 22 22 3 underlying22 o (show 1=min 1 n by omega) (by omega) (λj u=>by
  obtain rfl:j=0:=by omega
  exact v)
 have y:=setRow_heap C w.heap.size (Q5 0 n) (Q5 (0+1) n) 3 _ o;have d:=zh (below_setRow G.out (x6 _) (Q5 (0+1) n));have f:=zh y;obtain⟨E,q⟩: ∃b,w.heap.size=b:=⟨_,rfl⟩;simp only[q]at h x G d f|-
 have H:=zh q;clear l a o v y K L M s hx q
 go_enter func106,ntmps106
 go_wp2_with fail
 refine c.mono ?_;rintro e w' ⟨rfl,rfl⟩;clear c
 go_wp2_with fail
 clear h x;generalize World.setRow _ _ _=w2 at f d|-
 go_loopw[8] (λI wr=> ∃k:Nat,1<=k/\k<=n/\I=.int .i64 k/\Hid (wr.heap[E]?=some (.cells (Q5 k n) 3 (0,0)))/\Hid (Below E w' wr)) (λI _=>n-(intOf I).toNat)
 case atStart=>exact⟨1,x6 _,N,rfl,f,d⟩
 case round=>
  clear f d;obtain⟨k,a0,a1,rfl,F,r⟩:=hrel
  by_cases a2:k<n
  ·have hc:=zar (w:=wr.drew) (n:=n) (k:=k) (m:=min k (n-k)) (sp:=⟨E,0,none⟩) (sl:=k) (dl:=n-k) (dc:=n-k) (sc:=n) 22 22 3 underlying22 F.out rfl (by omega) (λj u=>by
    have:=za4 (w:=wr.drew) F.out (j:=j) (by omega)
    by_cases D:j=0
    ·subst D;simpa[Addr.add]using this
    ·simpa[Addr.add,D]using this)
   have a3: ¬n=k:=by omega
   have i0:(0:Int)<=(k:Int):=by omega
   have i1:(k:Int)<=(n:Int):=by omega
   have i2:(k:Int)<(n:Int):=by omega
   go_upto_region 9 with(fail)
   go_region_law(fail)
   all_goals
    have z:=zh (setRow_heap wr.drew E (Q5 k n) (Q5 (k+min k (n-k)) n) 3 _ F.out);have A:=zh (below_setRow (r.out.trans ((I8 wr).mono (by have:=H.out;have:=r.out.size;omega))) (x6 _) (Q5 (k+min k (n-k)) n));clear hc;generalize World.setRow _ _ _=wn at z A|-
    have hw:IntKind.i64.wrap ((k:Int)+((min k (n-k):Nat):Int))=((k:Int)+((min k (n-k):Nat):Int)):=IntWalk.i64_in _ (by omega);rw[hw];go_simp
    go_roundw
    case rel=>
     exact⟨_,_,_,_,_,_,_,_,_,_,_,_,_,_,⟨k+min k (n-k),by omega,by omega,by simp,z,A⟩,rfl⟩
    case measure=>simp[intOf];omega
  ·obtain rfl:k=n:=by omega
   go_wp2_with fail
   go_ret;exact⟨rfl,F.out,r.out⟩
end Go.Proofs.YtalgmjmibamdfaaGreatDoor
