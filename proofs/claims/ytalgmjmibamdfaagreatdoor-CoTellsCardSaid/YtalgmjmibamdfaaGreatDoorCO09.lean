/- Merged. -/
import Derived.Test.YtalgmjmibamdfaaGreatDoorCO08
import Derived.Laws.CopyOwn
set_option linter.all false
set_option maxHeartbeats 16000000
set_option maxRecDepth 100000
namespace Go.Proofs.YtalgmjmibamdfaaGreatDoor
open Go.Proofs.Tryz
open Go.RowKit Tw
theorem zgQ:R1 prog 38 74 2:=⟨underlying38,by kernel_rfl,by decide⟩
theorem zj(d a:Int)(F:Nat->Prop)(w:World)(k:Nat)(U:Value)(V:Mv)(vs:O5)(i:Nat)(ops:List S3)(us:List Fn)(y:ops.length<=400000000000)(h:W6 w w k U V vs i ops us F):
 Calls prog 59 #[.pointer (some ⟨k,0,none⟩),.int .i64 d,.int .i64 a] w λe w'=>e=.returned (.int .i64 ops.length)/\ ∃q,W6 w w' k U q vs i (ops++[(d,a)]) us F:=by
 have l:=(y7 w.heap.size w).alloc (y6 _) (.cells #[.int .i64 d,.int .i64 a] 74);have z:=zh h;have j:=zh (h.below l);have r:=h.lt;obtain⟨⟨-,-,-,-,o⟩,-,-,-,s⟩:=qa h.st;have t:(w.alloc (.cells #[.int .i64 d,.int .i64 a] 74)).cell? ⟨k,4,none⟩=some (.slice V.Ao ops.length V.co):=(qa j.out.st).1.2.2.2.2;clear l h
 go_enter func59,ntmps59
 go_upto_region 2 with(at_builtin;go_must(refine M7 zgQ rfl _ _ rfl k (.slice V.Ao ops.length V.co) ops.length (zb ops) rfl j.out.st.ro w.heap.size 1 #[.int .i64 d,.int .i64 a] rfl (y9 w _) rfl (by simp[Value.oneCell']) (by omega) (by simp;omega) ?_);intro g u A c b m n;have f:=j.out.put c b;have v:=(y5 f.1 4);have x:=B4 f.1 4)
 have p:=zh f.2;clear f c b m n v x o s t;generalize World.setCell _ _ _=B at p|-
 have o:=(qa p.out.st).1.2.2.2.2;rw[z9]at o;simp only[z7,B1,Nat.zero_add]at o
 go_wp2_with fail
 go_ret;exact⟨by simp,_,p.out⟩
theorem Zk(i:Nat)(d a:Int)(F:Nat->Prop)(w:World)(c:Nat)(U:Value)(V:Mv)(vs:O5)(b:Nat)(ops:List S3)(us:List Fn)(hi:ops[i]?=some (d,a))(n:ops.length<=400000000000)(h:W6 w w c U V vs b ops us F):
 Calls prog 131 #[.pointer (some ⟨c,0,none⟩),.int .i64 i] w λe w'=>e=.returned (.tuple #[])/\W6 w w' c U V vs b (ops.set i (d,(ops.length:Int))) us F:=by
 obtain⟨g,j,o,p,f⟩:=h.zhX hi (ops.length:Int);have k:=zh (f.below (J5 _));obtain⟨⟨-,-,-,-,l⟩,-,-,-,-⟩:=qa h.st;have m:i<ops.length:=by rcases E5 i ops.length with h|h;exact h;rw[D6 h]at hi;cases hi
 rw[j]at l;have q:(0:Int)<=(i:Int):=by omega
 have r:(i:Int)<(ops.length:Int):=by omega
 clear h f hi
 go_enter func131,ntmps131
 go_region_law(fail)
 all_goals
  go_end0;exact⟨rfl,k.out⟩
theorem zbk{s:ByteArray}{l:List UInt8}(h:s.data.toList=l):s=⟨l.toArray⟩:=by
 cases s with|mk d=>subst h;simp
theorem YG{s:ByteArray}: ∀(vs:O5)(i:Nat),s∈vs.map Prod.fst-> ∃k,k<vs.length/\Lib.idxFromS (vs.map Prod.fst) s i=((i+k:Nat):Int)/\vs[k]?=some (s,qB vs s)
 |[],i,h=>by cases h
 |(n,z)::l,i,h=>by
  by_cases a:n=s
  ·subst a
   exact⟨0,by simp,by simp[Lib.idxFromS],by simp[qB]⟩
  ·have b:s∈l.map Prod.fst:=by
    rcases List.mem_cons.1 h with e|e
    ·exact I2 e.symm a
    ·exact e
   obtain⟨k,c,d,f⟩:=YG l (i+1) b;refine⟨k+1,by simpa using c,?_,?_⟩
   ·simp only[List.map_cons,Lib.idxFromS,B5 a]
    rw[d];congr 1;omega
   ·have:qB ((n,z)::l) s=qB l s:=by unfold qB;rw[List.find?_cons_of_neg (by simpa using a)]
    rw[this];simpa using f
theorem qA{w:World}{base e size n c:Nat}{a:Option Addr}{xs:List Value}(h:w.ownsRow base e size (.slice a n c) n xs)(j:0<n): ∃g,a=some ⟨g,0,none⟩:=by
 rcases h.2 with⟨_,k⟩|⟨g,b,d,f,_⟩
 ·omega
 ·injection f with i;exact⟨g,i⟩
theorem zc8(s:ByteArray)(F:Nat->Prop)(w:World)(i:Nat)(U:Value)(V:Mv)(vs:O5)(a:Nat)(ops:List S3)(us:List Fn)(hs:s∈vs.map Prod.fst)(y:vs.length<=1000)(h:W6 w w i U V vs a ops us F):
 Calls prog 132 #[.pointer (some ⟨i,0,none⟩),.string s] w λe w'=>e=.returned (.int .i64 (qB vs s))/\W6 w w' i U V vs a ops us F:=by
 obtain⟨k,z,l,o⟩:=YG vs 0 hs;rw[Nat.zero_add]at l;obtain⟨⟨-,q,r,-,-⟩,-,-,-,-⟩:=qa h.st;have f:=h.st.rn;have g:=h.st.ra;obtain⟨b,t⟩:=qA f (by omega);obtain⟨m,u⟩:=qA g (by omega);rw[t]at q f;rw[u]at r g;have c: ∀j,j<(vs.map Prod.fst).length->w.drew.cell? ⟨b,0+j,none⟩=some (.string ((vs.map Prod.fst).getD j ByteArray.empty)):=by
  intro j p;rw[D9]at p;have n:=f.cellAt j (by omega);have v:w.cell? ⟨b,0+j,none⟩=w.cell? ⟨b,j,none⟩:=by rw[Nat.zero_add]
  refine(show w.drew.cell? ⟨b,0+j,none⟩=w.cell? ⟨b,0+j,none⟩ from rfl).trans (v.trans (n.trans ?_));simp[ze,G3,y8 p,List.getD_eq_getElem?_getD]
 have d:=zh (Tryz.slices_Index_string b 0 vs.length V.cn (vs.map Prod.fst) s w.drew (by simp) (by omega) c);rw[show(vs.map Prod.fst).take vs.length=vs.map Prod.fst from by rw[List.take_of_length_le (by simp)],show Lib.idxOfS (vs.map Prod.fst) s=(k:Int) from l]at d;have A:w.drew.cell? ⟨m,k,none⟩=some (.int .i64 (qB vs s)):=by
  have n:=g.cellAt k (by omega);refine(show w.drew.cell? ⟨m,k,none⟩=w.cell? ⟨m,k,none⟩ from rfl).trans (n.trans ?_);simp[Z9,G3,o]
 have x:=zh (h.below (J5 _));have B:(0:Int)<=(k:Int):=by omega
 have C:(k:Int)<(vs.length:Int):=by omega
 clear h c l o f g hs
 go_enter func132,ntmps132
 go_upto_region 1 with(fail)
 go_region_law(first|(go_simp;go_at_call 163;refine d.out.mono ?_;rintro e D ⟨rfl,rfl⟩))
 all_goals
  go_wp2_with fail
  go_ret;exact⟨rfl,x.out⟩
theorem zfq(ops:List S3)(a b:S3):ops++[a]++[b]=ops++[a,b]:=by simp
theorem ziP(s:ByteArray)(F:Nat->Prop)(w:World)(c:Nat)(U:Value)(V:Mv)(vs:O5)(a:Nat)(ops:List S3)(us:List Fn)(hs:3<=lv s.data.toList)(A:ops.length+2<=400000000000)(h:W6 w w c U V vs a ops us F):
 Calls prog 162 #[.pointer (some ⟨c,0,none⟩),.string s] w λe w'=>e=.returned (.tuple #[])/\ ∃l,W6 w w' c U l vs a (ops++ZC s.data.toList) us F:=by
 have m:=zh h;clear h;have g:s.data.toList=[43]\/s.data.toList=[45]\/s.data.toList=[42]\/s.data.toList=[47]\/s.data.toList=[37]\/s.data.toList=[60]\/s.data.toList=[62,61]\/s.data.toList=[61,61]\/s.data.toList=[33,61]\/s.data.toList=[62]\/s.data.toList=[60,61]:=Classical.byContradiction λj=>by
  simp only[not_or]at j;obtain⟨n,o,p,q,r,t,u,v,x,y,i⟩:=j;unfold lv at hs;simp only[n,o,p,q,r,t,u,v,x,y,i,or_self,if_false]at hs
  repeat' split at hs
  all_goals omega
 clear hs
 rcases g with h|h|h|h|h|h|h|h|h|h|h
 all_goals
  have e:=zbk h;subst e;clear h
  go_enter func162,ntmps162
  go_wp2_with fail
  refine(zj _ 0 F _ c U V vs a ops us (by omega) m.out).mono ?_;rintro e B ⟨rfl,k,d⟩;have b:=zh d;clear d
  go_wp2_with fail
  first
   |(go_end0;exact⟨rfl,k,b.out⟩)
   |(refine(zj 6 0 F _ c U k vs a _ us (by simp;omega) b.out.qy).mono ?_
     rintro e C ⟨rfl,z,d⟩;have f:=zh (b.out.next d);rw[zfq]at f;clear d
     go_wp2_with fail
     go_end0;exact⟨rfl,z,f.out⟩)
theorem Yw.fn{us:List Fn}{s:ByteArray}{z:Int}(h:Yw us (λf=>decide (f.L6=s)) z){f:Fn}(hf:f∈us)(hs:f.L6=s):z=qS us s:=by
 obtain⟨i,x,rfl,b,c,d⟩:=h.yes hf (decide_eq_true hs);have a:=(List.getElem?_eq_some_iff.1 b).1;unfold qS;rw[(List.findIdx_eq a).2 ⟨by rw[(List.getElem?_eq_some_iff.1 b).2];exact c,λm e=>d m us[m] e (y8 (by omega))⟩]
def qp:ByteArray:=⟨#[109,97,105,110]⟩
theorem zd8(w:World):zfo 56 #[] qp w:=by
 refine⟨λargs w=>?_,λf c d e g h i W j=>?_⟩
 ·have k:=func56
  unfold callFunc;simp[k];rfl
 ·have a:=zh ((y7 W.heap.size W).alloc (y6 _) (.cells (f.cs c d e g h i) 91))
  have D:=N6 (y9 W (.cells (f.cs c d e g h i) 91));have l:=zh (JG f.L6);clear j;simp only[Array.append_empty]
  go_in
  go_upto_region 1 with(fail)
  generalize W.alloc _=m at a D|-
  go_wp2_with fail
  go_ret;exact⟨I1 (λb=>Ending.returned (Value.bool b)) l.out,a.out⟩
end Go.Proofs.YtalgmjmibamdfaaGreatDoor
namespace Go.Proofs.YtalgmjmibamdfaaGreatDoor
open Go.RowKit Tw
theorem yM: ∀(h:Nat)(l:List S3),(jZ h l).length=l.length
 |_,[]=>rfl
 |h,o::l=>by rw[jZ,z7,yM (h-1) l,z7]
theorem zcG(t:Bs):(ZC t).length<=2:=by
 unfold ZC;repeat' split
 all_goals simp
theorem Qn(us:List Fn)(vs:O5)(k n:Int)(t:ByteArray)(len:Nat):(Jj us vs k n t len).length<=2:=by
 unfold Jj;repeat' split
 all_goals first|exact zcG _|simp
theorem zed(n h:Nat)(z:Bool)(a b:T5):(QE n h z a b).length<=a.length+b.length+4:=by
 unfold QE;cases z<;>simp<;>omega
section
variable {us:List Fn}
theorem zdc{vs:O5}{n h:Nat}{k nn:Int}{t:ByteArray}{a:Ex}{p:Int}(b:k≠6):(O3 us vs n h (.mk k nn t [a] p)).length<=(O3 us vs n h a).length+2:=by
 rw[O3,B5 (λe=>b e.1)];have:=Qn us vs k nn t ([a]:List Ex).length;simp only[R2,z9,yM,B1];omega
theorem zds{vs:O5}{n h:Nat}{t:ByteArray}{a b:Ex}{p:Int}{d f:Nat}(i: ∀n h,(O3 us vs n h a).length<=d)(g: ∀n h,(O3 us vs n h b).length<=f):(O3 us vs n h (.mk 6 0 t [a,b] p)).length<=d+f+(if lv t.data.toList<=2 then 4 else 2):=by
 have k:=i n h;rw[O3]
 by_cases c:lv t.data.toList<=2
 ·rw[E1 ⟨rfl,c⟩,E1 c]
  have j:=g (n+(O3 us vs n h a).length+(if decide (lv t.data.toList=1)then 1 else 0)+1) h;have:=zed n h (decide (lv t.data.toList=1)) (hdC us vs n h [a,b]) (sdC us vs (n+(hdC us vs n h [a,b]).length+(if decide (lv t.data.toList=1)then 1 else 0)+1) h [a,b]);simp only[hdC,sdC]at this|-
  omega
 ·rw[B5 (λe=>c e.2),B5 c]
  have j:=g (n+(O3 us vs n h a).length) (h+1);have:=Qn us vs 6 0 t ([a,b]:List Ex).length;simp only[R2,z9,yM,B1];omega
theorem zfk{vs:O5}{n h:Nat}{t:ByteArray}{a b:Ex}{p:Int}{c d:Nat}(e: ∀n h,(O3 us vs n h a).length<=c)(f: ∀n h,(O3 us vs n h b).length<=d):(O3 us vs n h (.mk 6 0 t [a,b] p)).length<=c+d+4:=by
 have:=zds (n:=n) (h:=h) (t:=t) (p:=p) e f
 split at this<;>omega
def ZD(us:List Fn)(l:List Sm)(k:Nat):Prop:= ∀(n:Nat)(a:O5)(m:Nat),(U3 us n a m l).1.length<=k
theorem ZD.cons{s:Sm}{l:List Sm}{a b:Nat}(h: ∀(n:Nat)(vs:O5)(m:Nat),(S4 us n vs m s).1.length<=a)(c:ZD us l b):ZD us (s::l) (a+b):=λn vs m=>by
 have d:=h n vs m;have e:=c (n+(S4 us n vs m s).1.length) (S4 us n vs m s).2.1 (S4 us n vs m s).2.2;rw[U3];simp only[z9];omega
theorem ZD.W8{l r:List Sm}{a b:Nat}:ZD us l a->ZD us r b->ZD us (l++r) (a+b):=by
 intro i j
 induction l generalizing a with
 |nil=>intro n g m;have:=j n g m;simp only[C0];omega
 |cons s l k=>
  intro n g m;have e:=i n g m;rw[U3]at e;simp only[z9]at e;have o: ∀d c f,(U3 us d c f (l++r)).1.length<=(U3 us d c f l).1.length+b:=by
   intro d c f;clear e i k
   induction l generalizing d c f with
   |nil=>have:=j d c f;simp only[C0];omega
   |cons s l h=>
    have:=h (d+(S4 us d c f s).1.length) (S4 us d c f s).2.1 (S4 us d c f s).2.2;simp only[B6,U3,z9];omega
  have p:=o (n+(S4 us n g m s).1.length) (S4 us n g m s).2.1 (S4 us n g m s).2.2;rw[B6,U3];simp only[z9];omega
theorem yO{k:Int}{nm:ByteArray}{a:Ex}{p:Int}(b:k≠3)(c:k≠4)(n:Nat)(vs:O5)(m:Nat):(S4 us n vs m (.mk k nm a [] [] p)).1.length<=(O3 us vs n 0 a).length+1:=by
 rw[S4]
 repeat' split
 all_goals first|(exact I2 ‹k=3› b)|(exact I2 ‹k=4› c)|(simp only[z9,z7,B1];omega)
end
end Go.Proofs.YtalgmjmibamdfaaGreatDoor
namespace Go.Proofs.YtalgmjmibamdfaaGreatDoor
open Go.Proofs.Tryz
open Go.RowKit Tw
theorem YN: ∀(h:Nat)(l:List S3),(jZ h l).map Prod.fst=l
 |_,[]=>rfl
 |h,o::l=>by rw[jZ,List.map_cons,YN (h-1) l]
theorem JE{us:List Fn}{vs:O5}{a:Ex}: ∀(l:List Ex)(n h:Nat),R2 us vs n h (l++[a])=R2 us vs n h l++O3 us vs (n+(R2 us vs n h l).length) (h+l.length) a
 |[],n,h=>by simp[R2]
 |b::l,n,h=>by
  rw[B6,R2,R2,JE l];simp only[B9,z9,z7];rw[show n+(O3 us vs n h b).length+(R2 us vs (n+(O3 us vs n h b).length) (h+1) l).length=n+((O3 us vs n h b).length+(R2 us vs (n+(O3 us vs n h b).length) (h+1) l).length) by omega,show h+1+l.length=h+(l.length+1) by omega]
theorem zfx{us:List Fn}{vs:O5}{xs:List Ex}{j n h:Nat}{a:Ex}(b:xs[j]?=some a):R2 us vs n h (xs.take (j+1))=R2 us vs n h (xs.take j)++O3 us vs (n+(R2 us vs n h (xs.take j)).length) (h+j) a:=by
 rw[List.take_add_one,b];have c:j<xs.length:=by rcases E5 j xs.length with g|g;exact g;rw[D6 g]at b;cases b
 have:=JE (us:=us) (vs:=vs) (a:=a) (xs.take j) n h;rw[show(xs.take j).length=j by rw[I5];omega]at this;exact this
theorem zfd{us:List Fn}{vs:O5}{n h:Nat}(xs:List Ex)(j:Nat):(R2 us vs n h (xs.take j)).length<=(R2 us vs n h xs).length:=by
 induction xs generalizing j n h with
 |nil=>simp
 |cons a l b=>
  cases j with
  |zero=>simp[R2]
  |succ j=>rw[List.take_succ_cons,R2,R2,z9,z9];exact Nat.add_le_add_left (b j) _
theorem Sg.jd{us:List Fn}{a:W9}{k n:Int}{t:ByteArray}{c:Nat}{σ τ:Int}(h:Sg us a k n t c σ τ):(k=1\/k=2\/k=3\/k=4\/k=5\/k=6\/k=7\/k=8)/\c<=2/\(k=6->c=2)/\(k=6->t.data.toList=[38,38]\/t.data.toList=[124,124]\/3<=lv t.data.toList)/\(k=3->t∈a)/\(k=7-> ∃f∈us,f.L6=t)/\(k=8->0<=n/\n<=15):=by
 cases h<;>simp<;>first|assumption|omega|exact⟨_,‹_›,‹_›⟩|exact⟨‹_›,‹_›⟩|skip
 rename_i h
 rcases h with rfl|rfl<;>simp
theorem zbY{us:List Fn}{vs:O5}{n h:Nat}{k nn:Int}{t:ByteArray}{xs:List Ex}{p:Int}(a: ¬(k=6/\lv t.data.toList<=2)):(O3 us vs n h (.mk k nn t xs p)).map Prod.fst=(R2 us vs n h xs).map Prod.fst++Jj us vs k nn t xs.length:=by
 rw[O3,B5 a,List.map_append,YN]
theorem xU{α:Type}(l r:List α)(a b:α):(l++a::r).set l.length b=l++b::r:=by simp
theorem W6.jO{w0 w:World}{e:Nat}{U:Value}{V:Mv}{vs:O5}{a:Nat}{ops:List S3}{us:List Fn}{F:Nat->Prop}(h:W6 w0 w e U V vs a ops us F){k:Nat}{b:Array Value}{t:Nat}{c:Nat×Nat}(d:w0.heap[k]?=some (.cells b t c))(f:t≠9)(g:t≠3)(i:t≠74)(j:t≠127):w.heap[k]?=some (.cells b t c):=
 (h.kp.K3 k b t c d f g i j).trans d
theorem W6.al{w0 w:World}{b:Nat}{U:Value}{V:Mv}{vs:O5}{a:Nat}{ops:List S3}{us:List Fn}{F:Nat->Prop}(h:W6 w0 w b U V vs a ops us F)(c:Obj):W6 w0 (w.alloc c) b U V vs a ops us F:=h.below ((y7 _ _).alloc (y6 _) c)
theorem W6.zen{w0 w:World}{c:Nat}{U:Value}{V:Mv}{vs:O5}{a:Nat}{ops:List S3}{us:List Fn}{F:Nat->Prop}{v:Value}{l:List Ex}(h:W6 w0 w c U V vs a ops us F)(d:O2 w0 F v l):O2 w F v l:=
 d.J0 (λg b e=>⟨b,z6 e h.O7.size,h.O7.block g (h.fb g b)⟩)
theorem W6.zjB{w0 w:World}{c:Nat}{U:Value}{V:Mv}{vs:O5}{a:Nat}{ops:List S3}{us:List Fn}{F:Nat->Prop}{v:Value}{l:List Sm}(h:W6 w0 w c U V vs a ops us F)(d:N0 w0 F v l):N0 w F v l:=
 d.J0 (λg b e=>⟨b,z6 e h.O7.size,h.O7.block g (h.fb g b)⟩)
theorem W6.JS{w0 w:World}{b:Nat}{U:Value}{V:Mv}{vs:O5}{a:Nat}{ops ops':List S3}{us:List Fn}{F:Nat->Prop}(h:W6 w0 w b U V vs a ops us F)(e:ops=ops'):W6 w0 w b U V vs a ops' us F:=e▸h
def CmE(us:List Fn)(left:Nat):Prop:=
 ∀(x:Ex)(A:Option Addr)(c:Nat)(F:Nat->Prop)(w:World)(g:Nat)(i:Option Addr)(j:Nat)(V:Mv)(d:O5)(b:Nat)(a:List S3)(h:Nat)(f:W9)(k:Int),Xw us f left k x->(∀s∈f,s∈d.map Prod.fst)->d.length<=1000->us.length<=16->O2 w F (.slice A x.args.length c) x.args->a.length+(O3 us d a.length h x).length<=400000->W6 w w g (.slice i us.length j) V d b a us F->
  Calls prog 130 #[.pointer (some ⟨g,0,none⟩),.agg #[.int .i64 x.N4,.int .i64 x.n,.string x.O9,.slice A x.args.length c,.int .i64 x.pos]] w λe l=>e=.returned (.tuple #[])/\ ∃m,W6 w l g (.slice i us.length j) m d b (a++(O3 us d a.length h x).map Prod.fst) us F
end Go.Proofs.YtalgmjmibamdfaaGreatDoor
