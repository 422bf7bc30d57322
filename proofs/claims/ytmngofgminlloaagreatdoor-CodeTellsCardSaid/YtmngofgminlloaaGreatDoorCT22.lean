/- Merged. -/
import Derived.Lib.ItoaLen
import Derived.Test.YtmngofgminlloaaGreatDoorCT06
set_option linter.all false
set_option maxHeartbeats 16000000
set_option maxRecDepth 100000
namespace Go.Proofs.YtmngofgminlloaaGreatDoor
open Go.RowKit Tw
inductive zap:Bs->Nat->List Wd->Prop
 |nil {k:Nat}:zap [] k []
 |sp {c:UInt8} {l:Bs} {k:Nat} {ws:List Wd}:qZ c=true->zap l (k+1) ws->zap (c::l) k ws
 |Y5 {w l:Bs} {k c:Nat} {ws:List Wd}:Tw.ZL (w++l)=.Y5 c w.length->0<w.length->zap l (k+w.length) ws->zap (w++l) k (⟨c,⟨w.toArray⟩,k⟩::ws)
def zhJ{s:ByteArray}{k n:Nat}{w l:Bs}(h:s.data.toList.drop k=w++l)(a:w.length=n):s.extract k (k+n)=⟨w.toArray⟩:=by
 apply ByteArray.ext;rw[ByteArray.data_extract];apply Array.toList_inj.1;rw[Array.toList_extract];simp only[List.extract_eq_take_drop];rw[h,show k+n-k=n by omega,<-a,List.take_left]
def zap.lex{s:ByteArray}{l:Bs}{k:Nat}{ws}(h:zap l k ws):s.data.toList.drop k=l->k<=s.size-> ∀a,xG s k a (none,a++ws):=by
 have j:s.data.toList.length=s.size:=by rw[Array.length_toList];rfl
 induction h with
 |nil=>
  intro b g a;rw[List.append_nil];have:s.data.toList.length<=_:=List.drop_eq_nil_iff.1 b;exact .done (by omega)
 | @sp c l k ws m _ f=>
   intro b g a;have d:k<s.size:=by
    rcases E0 k s.size with h|h
    ·exact h
    ·rw[List.drop_eq_nil_iff.2 (by omega)]at b;cases b
   refine .skip d (n:=1) (by rw[b];simp[Tw.ZL,m]) (f ?_ (by omega) a);rw[<-List.drop_drop,b];rfl
 | @Y5 w l k c ws o p _ f=>
   intro b g a;have e:(s.data.toList.drop k).length=w.length+l.length:=by rw[b,A9]
   rw[I3]at e;have d:k<s.size:=by omega
   have i:=f (by rw[<-List.drop_drop,b,List.drop_left]) (by omega) (a++[⟨c,⟨w.toArray⟩,k⟩]);rw[B9]at i;refine .Y5 d (n:=w.length) (k:=c) (by rw[b];exact o) ?_;rw[zhJ b rfl];exact i
def zap.ziH{s:ByteArray}{ws}(h:zap s.data.toList 0 ws):xG s 0 [] (none,ws):=by
 have:=h.lex (s:=s) rfl (D0 _) [];simpa using this
def XL(l:Bs):Prop:= ∀c,l.head?=some c->X8 c=false
def YO{w l:Bs}(a: ∀c∈w,X8 c=true)(b:XL l):M4 X8 (w++l)=w.length:=by
 unfold M4;rw[List.takeWhile_append_of_pos a];cases l with
 |nil=>simp
 |cons c l=>have:=b c rfl;simp[this]
def Xf{w l:Bs}:(w++l).take w.length=w:=List.take_left
def JO{c}(h:X8 c=true):qZ c=false/\(c==35)=false:=by
 simp only[X8,qX,Zl,qZ,Bool.or_eq_true,F3,F1]at h|-;refine⟨?_,beq_eq_false_iff_ne.2 ?_⟩
 ·simp;omega
 ·intro e;subst e;revert h;decide
def zhO{w l:Bs}(h:M5 w=true)(f:XL l):Tw.ZL (w++l)=.Y5 2 w.length:=by
 simp only[M5,F3,F1,Bool.not_eq_true',G0]at h;obtain⟨⟨⟨⟨g,p⟩,i⟩,j⟩,a⟩:=h;cases w with
 |nil=>simp at g
 |cons c w=>
  have k:=a c (B2 ..);obtain⟨m,n⟩:=JO k;have b:Zl c=true:=i;have o:qX c=false:=by
   simp only[Zl,qX,Bool.or_eq_true,F3,F1]at b|-;simp;omega
  have d:=YO a f;have e:=Xf (w:=c::w) (l:=l);unfold Tw.ZL;simp only[B6,List.headD_cons]at d e|-;simp only[m,n,o,b,d,e,j,C2,if_false,if_true];rw[B5 (by simp only[F1];omega)]
def zjL{w l:Bs}(h:w∈qF)(i:XL l):Tw.ZL (w++l)=.Y5 3 w.length:=by
 have a: ∀c∈w,X8 c=true:=by
  have:qF.all (λw=>w.all X8)=true:=by decide
  exact λc d=>List.all_eq_true.1 (List.all_eq_true.1 this w h) c d
 have b:w≠[]/\Zl (w.headD 0)=true:=by
  have:qF.all (λw=>!w.isEmpty&&Zl (w.headD 0))=true:=by decide
  have:=List.all_eq_true.1 this w h;simp at this;exact⟨this.1,by simpa using this.2⟩
 have j:qd w=true:=by unfold qd;exact List.contains_iff_mem.2 h
 cases w with
 |nil=>exact H9 rfl b.1
 |cons c w=>
  have d:=a c (B2 ..);obtain⟨k,m⟩:=JO d;have e:Zl c=true:=b.2;have n:qX c=false:=by
   simp only[Zl,qX,Bool.or_eq_true,F3,F1]at e|-;simp;omega
  have f:=YO a i;have g:=Xf (w:=c::w) (l:=l);unfold Tw.ZL;simp only[B6,List.headD_cons]at f g|-;simp only[k,m,n,e,f,g,j,C2,if_false,if_true]
def Zp{w l:Bs}(h:zj w=true)(g:w≠[])(i:XL l):Tw.ZL (w++l)=.Y5 1 w.length:=by
 have d: ∀c∈w,qX c=true:=by
  simp only[zj,F3,G0]at h;exact h.2
 have a: ∀c∈w,X8 c=true:=λc b=>by simp[X8,d c b]
 cases w with
 |nil=>exact H9 rfl g
 |cons c w=>
  have b:=a c (B2 ..);obtain⟨j,k⟩:=JO b;have m:=d c (B2 ..);have e:=YO a i;have f:=Xf (w:=c::w) (l:=l);unfold Tw.ZL;simp only[B6,List.headD_cons]at e f|-;simp only[j,k,m,e,f,h,C2,if_false,if_true]
def zjS{c}{l:Bs}(h:c∈([40,41,123,125,44,59,58,64,43,45,42,47,37]:Bs)):Tw.ZL (c::l)=.Y5 4 1:=by
 have a: ∀c∈([40,41,123,125,44,59,58,64,43,45,42,47,37]:Bs),qZ c=false/\(c==35)=false/\qX c=false/\Zl c=false/\JC.contains c=true/\(zz.all λw=>w.headD 0 !=c)=true:=by decide
 obtain⟨b,d,e,f,g,i⟩:=a c h;have j:zz.contains ((c::l).take 2)=false:=by
  rw[<-Bool.not_eq_true,List.contains_iff_mem];intro k;have:=List.all_eq_true.1 i _ k;simp at this
 have m:P7 (c::l)=1:=by
  unfold P7;rw[j];simp only[List.headD_cons,g,A8];simp
 unfold Tw.ZL;simp only[List.headD_cons,b,d,e,f,m,C2,if_false]
def ziV{w l:Bs}(h:w∈zz):Tw.ZL (w++l)=.Y5 4 2:=by
 have d: ∀w∈zz,qZ (w.headD 0)=false/\(w.headD 0==35)=false/\qX (w.headD 0)=false/\Zl (w.headD 0)=false/\w.length=2:=by decide
 obtain⟨f,g,i,j,a⟩:=d w h;have b:w≠[]:=by intro e;rw[e]at a;cases a
 have k:(w++l).headD 0=w.headD 0:=by cases w with|nil=>exact H9 rfl b|cons c w=>rfl
 have m:P7 (w++l)=2:=by
  unfold P7;have:(w++l).take 2=w:=by rw[<-a];exact List.take_left
  rw[this,List.contains_iff_mem.2 h];rfl
 unfold Tw.ZL;simp only[k,f,g,i,j,m,C2,if_false]
def zfm{c d}{l:Bs}(h:c∈([60,62,61,33]:Bs))(b:d=32\/d=40):Tw.ZL (c::d::l)=.Y5 4 1:=by
 have e: ∀c∈([60,62,61,33]:Bs),qZ c=false/\(c==35)=false/\qX c=false/\Zl c=false/\JC.contains c=true/\zz.contains [c,32]=false/\zz.contains [c,40]=false:=by decide
 obtain⟨f,g,i,j,a,k,m⟩:=e c h;have n:P7 (c::d::l)=1:=by
  unfold P7;have:(c::d::l).take 2=[c,d]:=rfl;rw[this]
  rcases b with rfl|rfl
  ·rw[k];simp only[List.headD_cons,a,A8];simp
  ·rw[m];simp only[List.headD_cons,a,A8];simp
 unfold Tw.ZL;simp only[List.headD_cons,f,g,i,j,n,C2,if_false]
inductive Pc where
 |sp (c:UInt8)|w (k:Nat) (t:Bs)
def Pc.R4:Pc->Bs
 |.sp c=>[c]
 |.w _ t=>t
def zt(l:List Pc):Bs:=l.flatMap Pc.R4
def zdc:List Pc->Nat->List Wd
 |[],_=>[]
 |.sp _::l,k=>zdc l (k+1)
 |.w c t::l,k=>⟨c,⟨t.toArray⟩,k⟩::zdc l (k+t.length)
def R9:List Pc->Prop
 |[]=>True
 |.sp c::l=>qZ c=true/\R9 l
 |.w c t::l=>Tw.ZL (t++zt l)=.Y5 c t.length/\0<t.length/\R9 l
def N8(p l):zt (p::l)=p.R4++zt l:=rfl
def P8(a b):zt (a++b)=zt a++zt b:=by simp[zt]
def R9.znb: ∀l(k:Nat),R9 l->zap (zt l) k (zdc l k)
 |[],_,_=>.nil
 |.sp c::l,k,h=>.sp h.1 (R9.znb l (k+1) h.2)
 |.w c t::l,k,h=>.Y5 h.1 h.2.1 (R9.znb l (k+t.length) h.2.2)
def ktW(ws:List Wd):List (Nat×ByteArray):=ws.map λx=>(x.I9,x.K0)
def ktP:List Pc->List (Nat×ByteArray)
 |[]=>[]
 |.sp _::l=>ktP l
 |.w c t::l=>(c,⟨t.toArray⟩)::ktP l
def jT(ws:List Wd)(i:Nat)(l:List Pc):Prop:=ktW (ws.drop i)=ktP l
theorem zbD: ∀l(k:Nat),ktW (zdc l k)=ktP l
 |[],_=>rfl
 |.sp _::l,k=>zbD l (k+1)
 |.w c t::l,k=>by simp only[zdc,ktP];exact H0 (List.cons _) (zbD l _)
def nW:List Pc->Nat
 |[]=>0
 |.sp _::l=>nW l
 |.w _ _::l=>nW l+1
theorem zq: ∀a b,nW (a++b)=nW a+nW b
 |[],b=>by simp[nW]
 |.sp _::l,b=>by simp only[B6,nW];exact zq l b
 |.w _ _::l,b=>by simp only[B6,nW,zq l b];omega
section
variable {ws:List Wd}{en i:Nat}{l:List Pc}{c:Nat}{t:Bs}
theorem jT.sp{b:UInt8}(h:jT ws i (.sp b::l)):jT ws i l:=h
theorem jT.w(h:jT ws i (.w c t::l)):(∃k,ws[i]?=some ⟨c,⟨t.toArray⟩,k⟩)/\jT ws (i+1) l:=by
 unfold jT at h|-;simp only[ktP]at h;cases a:ws.drop i with
 |nil=>rw[a]at h;cases h
 |cons x r=>
  rw[a]at h;simp only[ktW,List.map_cons]at h;injection h with b d
  injection b with b e
  refine⟨⟨x.pos,?_⟩,?_⟩
  ·have:=H0 List.head? a
   rw[List.head?_drop]at this;rw[this,<-b,<-e];rfl
  ·rw[<-List.drop_drop,a];exact d
theorem jT.start(l)(k:Nat):jT (zdc l k) 0 l:=zbD l k
theorem xe{k:Nat}(h:ws[i]?=some ⟨c,⟨t.toArray⟩,k⟩):L3 ws i=c:=by unfold L3;rw[h]
theorem Y0{k:Nat}(h:ws[i]?=some ⟨c,⟨t.toArray⟩,k⟩):L8 ws i=⟨t.toArray⟩:=by unfold L8;rw[h]
theorem xb{k:Nat}(h:ws[i]?=some ⟨c,⟨t.toArray⟩,k⟩):O5 ws i=lv t:=by unfold O5;rw[h]
theorem yw{k:Nat}(s:Bs)(h:ws[i]?=some ⟨c,⟨t.toArray⟩,k⟩):J3 ws i ⟨s.toArray⟩=(t==s):=by
 unfold J3;rw[h];simp only[C7]
theorem De.up{x}{j:Nat}(h:De ws en (.zk i) (.ex x j)): ∀(n:Nat),n<=6->(∀m,n<=m->m<=5->O5 ws j≠m)->De ws en (.lvl n i) (.ex x j):=by
 have b: ∀q n,n+q=6->(∀m,n<=m->m<=5->O5 ws j≠m)->De ws en (.lvl n i) (.ex x j):=by
  intro q
  induction q with
  |zero=>intro n d _;obtain rfl:n=6:=by omega
         exact .lvl6 h
  |succ q e=>intro n d a;exact .lvl (by omega) (e (n+1) (by omega) (λm g f=>a m (by omega) f)) (.stop (a n (x7 _) (by omega)))
 exact λn d a=>b (6-n) n (by omega) a
theorem De.zei{x}{j L:Nat}(h:De ws en (.lvl L i) (.ex x j))(g:L<=6): ∀(n:Nat),n<=L->(∀m,n<=m->m<L->O5 ws j≠m)->De ws en (.lvl n i) (.ex x j):=by
 have b: ∀q n,n+q=L->(∀m,n<=m->m<L->O5 ws j≠m)->De ws en (.lvl n i) (.ex x j):=by
  intro q
  induction q with
  |zero=>intro n d _;obtain rfl:n=L:=by omega
         exact h
  |succ q e=>intro n d a;exact .lvl (by omega) (e (n+1) (by omega) (λm k f=>a m (by omega) f)) (.stop (a n (x7 _) (by omega)))
 exact λn d a=>b (L-n) n (by omega) a
theorem De.two{x y}{j a L:Nat}(h:L<=5)(b:L≠3)(d:De ws en (.lvl (L+1) i) (.ex x j))(e:O5 ws j=L)(f:De ws en (.lvl (L+1) (j+1)) (.ex y a))(g:O5 ws a≠L):De ws en (.lvl L i) (.ex (Y9 ws en j x y) a):=
 .lvl (by omega) d (.go b e f (.stop g))
theorem De.zpI{x y}{j a:Nat}(b:De ws en (.lvl 4 i) (.ex x j))(d:O5 ws j=3)(e:De ws en (.lvl 4 (j+1)) (.ex y a))(f:O5 ws a≠3):De ws en (.lvl 3 i) (.ex (Y9 ws en j x y) a):=
 .lvl (by omega) b (.jx d e f)
end
inductive GE where
 |qE (s:ByteArray)|lit (n:Nat)|neg (x:GE)|call (f:Nat) (x y:GE)|X0 (k:Nat) (x:GE)|xI (o:Nat) (x y:GE)
 |not (x:GE)|and (x y:GE)|or (x y:GE)|tf (k:Nat)|jx (o:Nat) (x y:GE)
inductive GL where
 |nil|set (s:ByteArray) (x:GE) (r:GL)|Q8 (x:GE) (r:GL)|xl (c:GE) (a b r:GL)|X2 (i n:Nat) (l r:GL)|run (x:GE) (r:GL)|qi (x:GE) (r:GL)|bind (i:Nat) (x:GE) (r:GL)
def yC(n:Nat):ByteArray:=⟨(Lib.itoa (n:Int)).toArray⟩
def Xc(o:Nat):ByteArray:=match o with|0=>⟨#[43]⟩|1=>⟨#[45]⟩|2=>⟨#[42]⟩|3=>⟨#[47]⟩|_=>⟨#[37]⟩
def YT(o:Nat):ByteArray:=match o with|0=>⟨#[32,60,32]⟩|1=>⟨#[32,60,61,32]⟩|2=>⟨#[32,62,32]⟩|3=>⟨#[32,62,61,32]⟩|4=>⟨#[32,61,61,32]⟩|_=>⟨#[32,33,61,32]⟩
def tfT(k:Nat):ByteArray:=match k with|0=>⟨#[116,114,117,101]⟩|_=>⟨#[102,97,108,115,101]⟩
def vT(m:Nat):ByteArray:=⟨#[118]⟩++yC m
def iT(m:Nat):ByteArray:=⟨#[105]⟩++yC m
def GE.R4:GE->ByteArray
 |.qE s=>s
 |.lit n=>yC n
 |.neg x=>⟨#[45,40]⟩++x.R4++⟨#[41]⟩
 |.call f x y=>⟨#[102]⟩++yC f++⟨#[40]⟩++x.R4++⟨#[44,32]⟩++y.R4++⟨#[41]⟩
 |.X0 k x=>⟨#[64]⟩++yC k++⟨#[40]⟩++x.R4++⟨#[41]⟩
 |.xI o x y=>⟨#[40]⟩++x.R4++⟨#[32]⟩++Xc o++⟨#[32]⟩++y.R4++⟨#[41]⟩
 |.not x=>⟨#[33,40]⟩++x.R4++⟨#[41]⟩
 |.and x y=>⟨#[40]⟩++x.R4++⟨#[32,38,38,32]⟩++y.R4++⟨#[41]⟩
 |.or x y=>⟨#[40]⟩++x.R4++⟨#[32,124,124,32]⟩++y.R4++⟨#[41]⟩
 |.tf k=>tfT k
 |.jx o x y=>x.R4++YT o++y.R4
def GL.R4:GL->ByteArray
 |.nil=>⟨#[]⟩
 |.set s x r=>(s++⟨#[32,61,32]⟩++x.R4++⟨#[59,32]⟩)++r.R4
 |.Q8 x r=>(⟨#[121,105,101,108,100,32]⟩++x.R4++⟨#[59,32]⟩)++r.R4
 |.xl c a b r=>(⟨#[105,102,32]⟩++c.R4++⟨#[32,123,32]⟩++a.R4++⟨#[125,32,101,108,115,101,32,123,32]⟩++b.R4++⟨#[125,32]⟩)++r.R4
 |.X2 i n l r=>(⟨#[108,101,116,32]⟩++iT i++⟨#[32,61,32,48,59,32,119,104,105,108,101,32]⟩++iT i++⟨#[32,60,32]⟩++yC n++⟨#[32,123,32]⟩++l.R4++iT i++⟨#[32,61,32]⟩++iT i++⟨#[32,43,32,49,59,32,125,32]⟩)++r.R4
 |.run x r=>(x.R4++⟨#[59,32]⟩)++r.R4
 |.qi x r=>(⟨#[114,101,116,117,114,110,32]⟩++x.R4++⟨#[59,32]⟩)++r.R4
 |.bind i x r=>(⟨#[108,101,116,32]⟩++vT i++⟨#[32,61,32]⟩++x.R4++⟨#[59,32]⟩)++r.R4
def GL.qv:GL->GL->GL
 |.nil,b=>b
 |.set s x r,b=>.set s x (r.qv b)
 |.Q8 x r,b=>.Q8 x (r.qv b)
 |.xl c a d r,b=>.xl c a d (r.qv b)
 |.X2 i n l r,b=>.X2 i n l (r.qv b)
 |.run x r,b=>.run x (r.qv b)
 |.qi x r,b=>.qi x (r.qv b)
 |.bind i x r,b=>.bind i x (r.qv b)
def zcp(b:ByteArray):(⟨#[]⟩:ByteArray)++b=b:=by
 apply ByteArray.ext;simp[ByteArray.data_append]
def jO(b:ByteArray):b++(⟨#[]⟩:ByteArray)=b:=by
 apply ByteArray.ext;simp[ByteArray.data_append]
def GL.zbY(a b:GL):(a.qv b).R4=a.R4++b.R4:=by
 induction a with
 |nil=>simp only[GL.qv,GL.R4,zcp]
 |_=>simp only[GL.qv,GL.R4,ByteArray.append_assoc, *]
def Nx(N n i k a:Nat):Prop:=k<n/\((i<N/\a=i+1)\/(i=N/\a=N/\k=0))
inductive zw(N:Nat)(ns:List ByteArray)(low:Nat):Nat->Nat->GE->Nat->Prop
 |qE {d i i1 i2 k j:Nat} {s:ByteArray}:Nx N 9 i k i1->Nx N ns.length i1 j i2->ns[j]?=some s->zw N ns low d i (.qE s) i2
 |lit {d i i1 i2 k n:Nat}:Nx N 9 i k i1->Nx N 20 i1 n i2->zw N ns low d i (.lit n) i2
 |neg {d i i2:Nat} {x:GE}:i<N->zw N ns low d (i+1) x i2->zw N ns low (d+1) i (.neg x) i2
 |call {d i i2 i3 i4 f:Nat} {x y:GE}:i<N->Nx N low (i+1) f i2->zw N ns low d i2 x i3->zw N ns low d i3 y i4->zw N ns low (d+1) i (.call f x y) i4
 |X0 {d i i2 i3 k:Nat} {x:GE}:i<N->Nx N 4 (i+1) k i2->zw N ns low d i2 x i3->zw N ns low (d+1) i (.X0 k x) i3
 |xI {d i i2 i3 i4 o:Nat} {x y:GE}:i<N->zw N ns low d (i+1) x i2->Nx N 5 i2 o i3->zw N ns low d i3 y i4->zw N ns low (d+1) i (.xI o x y) i4
inductive zi(N:Nat)(ns:List ByteArray)(low:Nat):Nat->Nat->GE->Nat->Prop
 |not {d i i1 i2 k:Nat} {x:GE}:Nx N 6 i k i1->zi N ns low d i1 x i2->zi N ns low (d+1) i (.not x) i2
 |and {d i i2 i3:Nat} {x y:GE}:i<N->zi N ns low d (i+1) x i2->zi N ns low d i2 y i3->zi N ns low (d+1) i (.and x y) i3
 |or {d i i2 i3:Nat} {x y:GE}:i<N->zi N ns low d (i+1) x i2->zi N ns low d i2 y i3->zi N ns low (d+1) i (.or x y) i3
 |tf {d i i2 k:Nat}:i<N->Nx N 2 (i+1) k i2->zi N ns low d i (.tf k) i2
 |jx {d i i1 i2 i3 i4 k o:Nat} {x y:GE}:Nx N 6 i k i1->zw N ns low 1 i1 x i2->Nx N 6 i2 o i3->zw N ns low 1 i3 y i4->zi N ns low d i (.jx o x y) i4
structure Ms where
 ns:List ByteArray
 m:Nat
 i:Nat
inductive xc(N low:Nat)(B:Ms->GL->Ms->Prop):Ms->GL->Ms->Prop
 |set {ns:List ByteArray} {m i i1 i2 i3 j:Nat} {s:ByteArray} {x:GE}:Nx N 8 i 0 i1->Nx N ns.length i1 j i2->ns[j]?=some s->zw N ns low 2 i2 x i3->xc N low B ⟨ns,m,i⟩ (.set s x .nil) ⟨ns,m,i3⟩
 |Q8 {ns:List ByteArray} {m i i2:Nat} {x:GE}:i<N->zw N ns low 2 (i+1) x i2->xc N low B ⟨ns,m,i⟩ (.Q8 x .nil) ⟨ns,m,i2⟩
 |xl {ns:List ByteArray} {m i i2:Nat} {c:GE} {a b:GL} {s1 s2:Ms}:i<N->zi N ns low 2 (i+1) c i2->B ⟨ns,m,i2⟩ a s1->B s1 b s2->xc N low B ⟨ns,m,i⟩ (.xl c a b .nil) s2
 |X2 {ns:List ByteArray} {m i i2 n:Nat} {l:GL} {s2:Ms}:i<N->Nx N 4 (i+1) n i2->B ⟨ns,m+1,i2⟩ l s2->xc N low B ⟨ns,m,i⟩ (.X2 (m+1) n l .nil) s2
 |run {ns:List ByteArray} {m i i2:Nat} {x:GE}:i<N->zw N ns low 2 (i+1) x i2->xc N low B ⟨ns,m,i⟩ (.run x .nil) ⟨ns,m,i2⟩
 |qi {ns:List ByteArray} {m i i2 i3 k:Nat} {x:GE}:i<N->Nx N 8 (i+1) k i2->zw N ns low 1 i2 x i3->xc N low B ⟨ns,m,i⟩ (.qi x .nil) ⟨ns,m,i3⟩
 |bind {ns:List ByteArray} {m i i1 i2:Nat} {x:GE}:(i<i1/\i1<=N\/i=N/\i1=N)->zw N ns low 2 i1 x i2->xc N low B ⟨ns,m,i⟩ (.bind (m+1) x .nil) ⟨ns++[vT (m+1)],m+1,i2⟩
inductive Run(S:Ms->GL->Ms->Prop):Nat->Ms->GL->Ms->Prop
 |nil {s:Ms}:Run S 0 s .nil s
 |xn {j:Nat} {s s1 s2:Ms} {g x:GL}:Run S j s g s1->S s1 x s2->Run S (j+1) s (g.qv x) s2
def jA(N:Nat)(S:Ms->GL->Ms->Prop)(s:Ms)(g:GL)(c:Ms):Prop:= ∃j b a,Nx N 4 s.i j b/\Run S j ⟨s.ns,s.m,b⟩ g a/\c=⟨s.ns,a.m,a.i⟩
def noB:Ms->GL->Ms->Prop:=λ_ _ _=>False
def yh(N low:Nat):Nat->Ms->GL->Ms->Prop
 |0=>jA N (xc N low noB)
 |d+1=>jA N (xc N low (yh N low d))
def zas(N low:Nat):Nat->Ms->GL->Ms->Prop
 |0=>xc N low noB
 |d+1=>xc N low (yh N low d)
def zhe(N low d:Nat):yh N low d=jA N (zas N low d):=by cases d<;>rfl
def S6(a):ByteArray.size ⟨a⟩=a.size:=rfl
def jD(n:Nat)(h:n<=2000000):(yC n).size<=21:=by
 have:=Lib.itoa_length_le (n:Int) (by omega) (by omega);simpa[yC,ByteArray.size]using this
def zw.X7{N:Nat}{m}{low d i q:Nat}{x}(c: ∀s∈m,s.size<=22)(z:low<=2)(h:zw N m low d i x q):x.R4.size<=80*2^d*2-80:=by
 have r: ∀o,(Xc o).size=1:=by intro o;unfold Xc;split<;>rfl
 have a: ∀d:Nat,1<=2^d:=λd=>Nat.one_le_two_pow
 induction h with
 | @qE d i t b k j s _ _ u=>have:=c _ (B7 u);have:=a d;simp only[GE.R4];omega
 | @lit d i t b k n _ h=>have:=jD n (by have:=h.1;omega);have:=a d;simp only[GE.R4];omega
 | @neg d _ _ _ _ _ v=>have:=a d;simp only[GE.R4,C3,Nat.pow_succ,S6,D9,A8,B1];omega
 | @call d i b p w f x y _ e _ _ g l=>
   have:=jD f (by have:=e.1;omega);have:=a d;simp only[GE.R4,C3,Nat.pow_succ,S6,D9,A8,B1];omega
 | @X0 d i b p k x _ e _ v=>
   have:=jD k (by have:=e.1;omega);have:=a d;simp only[GE.R4,C3,Nat.pow_succ,S6,D9,A8,B1];omega
 | @xI d i b p w o x y _ _ _ _ g l=>
   have:=a d;simp only[GE.R4,C3,Nat.pow_succ,r,S6,D9,A8,B1];omega
def zi.X7{N:Nat}{f}{low d i j:Nat}{x}(a: ∀s∈f,s.size<=22)(g:low<=2)(h:zi N f low d i x j):x.R4.size<=500*2^d*2-400:=by
 have l: ∀o,(YT o).size<=4:=by intro o;unfold YT;split<;>decide
 have m: ∀o,(tfT o).size<=5:=by intro o;unfold tfT;split<;>decide
 have b: ∀d:Nat,1<=2^d:=λd=>Nat.one_le_two_pow
 induction h with
 | @not d _ _ _ _ _ _ _ q=>have:=b d;simp only[GE.R4,C3,Nat.pow_succ,S6,D9,A8,B1];omega
 | @and d _ _ _ _ _ _ _ _ c e=>have:=b d;simp only[GE.R4,C3,Nat.pow_succ,S6,D9,A8,B1];omega
 | @or d _ _ _ _ _ _ _ _ c e=>have:=b d;simp only[GE.R4,C3,Nat.pow_succ,S6,D9,A8,B1];omega
 | @tf d _ _ k _ _=>have:=m k;have:=b d;simp only[GE.R4];omega
 | @jx d i r t u v k o x y _ n _ p=>have:=n.X7 a g;have:=p.X7 a g;have:=l o;have:=b d;simp only[GE.R4,C3];omega
def Xo:Nat->Nat
 |0=>3
 |d+1=>3*(1+2*Xo d)
def szB:Nat->Nat
 |0=>3*5000
 |d+1=>3*(5000+2*szB d)
def Qp(a:List ByteArray):Prop:= ∀s∈a,s.size<=22
def zjE(m:Nat)(h:m<=2000000):(vT m).size<=22:=by
 have:=jD m h;simp only[vT,C3,S6,D9,A8,B1];omega
def zjV(m:Nat)(h:m<=2000000):(iT m).size<=22:=by
 have:=jD m h;simp only[iT,C3,S6,D9,A8,B1];omega
def Bnd(M Z:Nat)(s:Ms)(g:GL)(a:Ms):Prop:=Qp s.ns->s.m+M<=2000000->s.m<=a.m/\a.m<=s.m+M/\g.R4.size<=Z/\Qp a.ns/\a.ns.length<=s.ns.length+1
def xc.X7{N low M Z:Nat}{B:Ms->GL->Ms->Prop}(o:low<=2)(r: ∀s g s',B s g s'->Bnd M Z s g s'/\s'.ns=s.ns){s g s'}(h:xc N low B s g s'):Bnd (1+2*M) (5000+2*Z) s g s':=by
 cases h with
 | @set p m i C q D j s x _ _ t f=>
   intro d e;have:=d _ (B7 t);have:=f.X7 d o;refine⟨x7 _,Nat.le_add_right _ _,?_,d,Nat.le_add_right _ _⟩;simp only[GL.R4,C3,S6,D9,A8,B1];omega
 | @Q8 p m i q x _ f=>
   intro d e;have:=f.X7 d o;refine⟨x7 _,Nat.le_add_right _ _,?_,d,Nat.le_add_right _ _⟩;simp only[GL.R4,C3,S6,D9,A8,B1];omega
 | @xl p m i q c a b Q E _ F G H=>
   intro d e;have:=F.X7 d o;obtain⟨u,v⟩:=r _ _ _ G;obtain⟨w,y,I,z,J⟩:=u d (by simp only at e|-;omega);obtain⟨K,L⟩:=r _ _ _ H;simp only at y e w;obtain⟨R,S,T,O,U⟩:=K z (by omega);refine⟨by simp only;omega,by simp only;omega,?_,O,by rw[L,v];simp⟩;simp only[GL.R4,C3,S6,D9,A8,B1];omega
 | @X2 p m i q n l E _ P A=>
   intro d e;obtain⟨u,v⟩:=r _ _ _ A;simp only at e;obtain⟨w,y,I,z,J⟩:=u d (by simp only;omega);simp only at w y;have:=zjV (m+1) (by omega);have:=jD n (by have:=P.1;omega);refine⟨by simp only;omega,by simp only;omega,?_,z,by rw[v];simp⟩;simp only[GL.R4,C3,S6,D9,A8,B1];omega
 | @run p m i q x _ f=>
   intro d e;have:=f.X7 d o;refine⟨x7 _,Nat.le_add_right _ _,?_,d,Nat.le_add_right _ _⟩;simp only[GL.R4,C3,S6,D9,A8,B1];omega
 | @qi p m i q D k x _ _ f=>
   intro d e;have:=f.X7 d o;refine⟨x7 _,Nat.le_add_right _ _,?_,d,Nat.le_add_right _ _⟩;simp only[GL.R4,C3,S6,D9,A8,B1];omega
 | @bind p m i C q x _ f=>
   intro d e;have:=f.X7 d o;simp only at e;have:=zjE (m+1) (by omega);refine⟨Nat.le_succ _,by simp only;omega,?_,?_,by simp⟩
   ·simp only[GL.R4,C3,S6,D9,A8,B1];omega
   ·intro s t
    rcases List.mem_append.1 t with h|h
    ·exact d s h
    ·simp at h;subst h;assumption
def Run.X7{S:Ms->GL->Ms->Prop}{M Z:Nat}(c: ∀s g a,S s g a->Bnd M Z s g a){j:Nat}{s g a}(h:Run S j s g a):
 Qp s.ns->s.m+j*M<=2000000->s.m<=a.m/\a.m<=s.m+j*M/\g.R4.size<=j*Z/\Qp a.ns/\a.ns.length<=s.ns.length+j:=by
 induction h with
 |nil=>intro b _;exact⟨x7 _,by simp,by simp[GL.R4,ByteArray.size],b,by simp⟩
 | @xn j s l n g x _ d e=>
   intro b f;rw[Nat.succ_mul]at f;obtain⟨o,p,q,i,r⟩:=e b (by omega);obtain⟨t,u,v,k,w⟩:=c _ _ _ d i (by omega);refine⟨by omega,by rw[Nat.succ_mul];omega,?_,k,by omega⟩;rw[GL.zbY,C3,Nat.succ_mul];omega
def jA.X7{N:Nat}{S:Ms->GL->Ms->Prop}{M Z:Nat}(e: ∀s g a,S s g a->Bnd M Z s g a){s g a}(h:jA N S s g a):Bnd (3*M) (3*Z) s g a/\a.ns=s.ns:=by
 obtain⟨j,l,m,f,i,rfl⟩:=h;have b:j<=3:=by have:=f.1;omega
 have n:=G5 M b;have o:=G5 Z b;refine⟨λc p=>?_,rfl⟩;obtain⟨d,k,q,r,t⟩:=i.X7 e c (by simp only;omega);simp only at d k;exact⟨d,by simp only;omega,by omega,c,by simp⟩
def yh.X7{N low:Nat}(b:low<=2): ∀(d:Nat)s g a,yh N low d s g a->Bnd (Xo d) (szB d) s g a/\a.ns=s.ns:=by
 intro d
 induction d with
 |zero=>intro s g a h;exact jA.X7 (λs g a h=>xc.X7 (M:=0) (Z:=0) b (λ_ _ _ h=>h.elim) h) h
 |succ d c=>intro s g a h;exact jA.X7 (λs g a h=>xc.X7 b c h) h
def mkS:Nat->Nat
 |0=>1
 |d+1=>1+2*Xo d
def szS:Nat->Nat
 |0=>5000
 |d+1=>5000+2*szB d
def zor(d:Nat):Xo d=3*mkS d:=by cases d<;>rfl
def zas.X7{N low:Nat}(a:low<=2)(d:Nat)(s g s')(h:zas N low d s g s'):Bnd (mkS d) (szS d) s g s':=by
 cases d with
 |zero=>exact xc.X7 (M:=0) (Z:=0) a (λ_ _ _ h=>h.elim) h
 |succ d=>exact xc.X7 a (yh.X7 a d) h
end Go.Proofs.YtmngofgminlloaaGreatDoor
namespace Go.Proofs.YtmngofgminlloaaGreatDoor
open Go.Proofs.Tryz
open Go.RowKit Tw
theorem zi2(x n:Int)(f:1<=n)(g:n<=4000000000)(w):Calls prog 21 #[.int .i64 x,.int .i64 n] w λe w'=>(∃k:Int,e=.returned (.int .i64 k)/\0<=k/\k<n)/\w'=w:=by
 have b:x.tmod n<n:=Int.tmod_lt_of_pos x (by omega);have c: -n<x.tmod n:=by
  have:=Int.tmod_lt_of_pos (-x) (show 0<n by omega);rw[Int.neg_tmod]at this;omega
 have d: ¬n=0:=by omega
 go_enter func21,ntmps21
 by_cases a:x.tmod n<0
 ·go_wp2_with fail
  go_ret;exact⟨⟨_,rfl,by omega,by omega⟩,rfl⟩
 ·go_wp2_with fail
  go_ret;exact⟨⟨_,rfl,by omega,by omega⟩,rfl⟩
structure Sc(w0 wv w:World)(sb qb:Nat)(A0:Option Addr)(n0 c0:Nat)(i:Nat)(An:Option Addr)(cn:Nat)(ns:List ByteArray)(M3 low:Nat):Prop where
 JI:w.heap[sb]?=some (.cells #[.pointer (some ⟨qb,0,none⟩),.slice An ns.length cn,.int .i64 M3,.int .i64 low] 144 (0,0))
 zdj:w.heap[qb]?=some (.cells #[.slice A0 n0 c0,.int .i64 i] 209 (0,0))
 XN: ∀j,j<n0-> ∃g off v,A0=some ⟨g,off,none⟩/\g<qb/\w.cell? ⟨g,off+j,none⟩=some (.int .i64 v)
 row:O8 S1 w (sb+1) 9 1 (.slice An ns.length cn) ns
 sz:Qp ns
 nl:ns.length<=100
 i0:i<=n0
 n60:n0<=60
 m1:M3<=1000000
 l1:low<=2
 b0:10<qb
 q:qb<sb
 s:sb<w.heap.size
 gl:O4 w
 M1:Below qb w0 w
 gr:wv.grownBy w (some qb)
section
variable {w0 wv w w':World}{sb qb:Nat}{A0:Option Addr}{n0 c0 i:Nat}{An:Option Addr}{cn:Nat}{ns:List ByteArray}{M3 low:Nat}
theorem Sc.below(h:Sc w0 wv w sb qb A0 n0 c0 i An cn ns M3 low)(a:Below w.heap.size w w'):Sc w0 wv w' sb qb A0 n0 c0 i An cn ns M3 low:=by
 have d:=h.q;have c:=h.s;exact⟨(a.block sb c).trans h.JI,(a.block qb (by omega)).trans h.zdj,λj e=>by
  obtain⟨g,b,v,f,k,l⟩:=h.XN j e;exact⟨g,b,v,f,k,(a.cell (p:=⟨g,b+j,none⟩) (by show g<w.heap.size;omega)).trans l⟩,h.row.below a,h.sz,h.nl,h.i0,h.n60,h.m1,h.l1,h.b0,d,A7 c a.size,h.gl.to a,h.M1.trans (a.mono (by omega)),I4 h.gr (I7 a _)⟩
theorem zdK(w)(qb j:Nat)(u)(a:qb<w.heap.size):Below qb w (w.setCell ⟨qb,j,none⟩ u):=
 ⟨rfl,rfl,rfl,by simp,λk b=>F9 w ⟨qb,j,none⟩ u k (by simp;omega)⟩
theorem Sc.zb4(h:Sc w0 wv w sb qb A0 n0 c0 i An cn ns M3 low)(hi:i<n0):Sc w0 wv (w.setCell ⟨qb,1,none⟩ (.int .i64 ((i:Int)+1))) sb qb A0 n0 c0 (i+1) An cn ns M3 low:=by
 have f:=h.q;have d:=h.s;have r:=h.b0;have b:=I8 w qb 1 (.int .i64 ((i:Int)+1));exact⟨(b.block sb d (by simp;omega)).trans h.JI,by simpa using A6 w qb 1 _ _ (.int .i64 ((i:Int)+1)) h.zdj,λj l=>by
  obtain⟨g,c,v,m,n,o⟩:=h.XN j l;exact⟨g,c,v,m,n,(E8 (a:=⟨g,c+j,none⟩) (b.block g (by omega) (by simp;omega))).trans o⟩,
  h.row.kept b (λk e=>.inl (by cases e;omega)),h.sz,h.nl,hi,h.n60,h.m1,h.l1,h.b0,f,A7 d b.size,h.gl.Z3 b.size (λg p=>b.block g (by omega) (by simp;omega)),h.M1.trans (zdK w qb 1 _ (by omega)),I4 h.gr b⟩
end
theorem n_c{w0 wv w}{sb qb:Nat}{A0}{n0 c0 i:Nat}{An}{cn:Nat}{ns}{M3 low:Nat}(n:Int)(j:1<=n)(l:n<=4000000000)(h:Sc w0 wv w sb qb A0 n0 c0 i An cn ns M3 low):
 Calls prog 69 #[.pointer (some ⟨qb,0,none⟩),.int .i64 n] w λe w'=>(∃(k r:Nat),e=.returned (.int .i64 k)/\k<n/\Nx n0 n.toNat i k r/\Sc w0 wv w' sb qb A0 n0 c0 r An cn ns M3 low):=by
 have m:=qh h;have c:w.cell? ⟨qb,0,none⟩=some (.slice A0 n0 c0):=x6 h.zdj 0;have t:w.cell? ⟨qb,1,none⟩=some (.int .i64 i):=x6 h.zdj 1;have A:w.frozen? ⟨qb,1,none⟩=false:=B4 h.zdj 1;have u:=h.n60;have B:=h.i0;have C:qb<w.heap.size:=Nat.lt_trans h.q h.s
 by_cases d:i<n0
 ·obtain⟨g,b,v,rfl,I,x⟩:=h.XN i d
  have D:g≠qb:=by omega
  have y:qb≠g:=by omega
  have J:(0:Int)<=(i:Int):=by omega
  have E:(i:Int)<(n0:Int):=by omega
  have K:(0:Int)<=(i:Int)+1-1:=by omega
  have L:(i:Int)+1-1<(n0:Int):=by omega
  have M:((i:Int)+1-1)=(i:Int):=by omega
  clear h
  go_enter func69,ntmps69
  go_upto_region 1 with(fail)
  go_quiet (fail)
  go_upto_region 4 with(fail)
  have a:Hid (Sc w0 wv ((w.drewN nq).setCell ⟨qb,1,none⟩ (.int .i64 ((i:Int)+1))) sb qb (some ⟨g,b,none⟩) n0 c0 (i+1) An cn ns M3 low):=qh ((m.out.below (J6 (x8 _ _) nq)).zb4 d);clear c t A x;generalize(World.drewN w nq).setCell _ _=z at a|-;have c:z.cell? ⟨qb,0,none⟩=some (.slice (some ⟨g,b,none⟩) n0 c0):=x6 a.out.zdj 0;have t:z.cell? ⟨qb,1,none⟩=some (.int .i64 ((i:Int)+1)):=by simpa using x6 a.out.zdj 1
  obtain⟨F,off',G,f,-,x⟩:=a.out.XN i d;obtain⟨rfl,rfl⟩:g=F/\b=off':=by injection f with f;injection f with j l;exact⟨j,l⟩
  clear f;have w0:IntKind.i64.wrap (i:Int)=(i:Int):=IntWalk.i64_in _ (by omega)
  go_region_law(first|(go_simp;go_at_call 21;refine(zi2 G n j l _).mono ?_;rintro e N ⟨⟨k,rfl,o,p⟩,rfl⟩))
  all_goals
   go_wp2_with fail
   go_ret;obtain⟨H,rfl⟩:=Int.eq_ofNat_of_zero_le o;exact⟨H,i+1,rfl,p,⟨by omega,.inl ⟨d,rfl⟩⟩,a.out.below (M2 _)⟩
 ·have E:(n0:Int)<=(i:Int):=by omega
  clear h
  go_enter func69,ntmps69
  go_upto_region 1 with(fail)
  go_quiet (fail)
  go_wp2_with fail
  go_ret;have:=m.out.i0;exact⟨0,i,rfl,by show(0:Int)<n;omega,⟨by omega,.inr ⟨by omega,by omega,rfl⟩⟩,m.out.below (J6 (x8 _ _) _)⟩
theorem yb{w0 wv w}{sb qb:Nat}{A0}{n0 c0 i:Nat}{An}{cn:Nat}{ns}{M3 low:Nat}(n:Nat)(a:n<=2000000)(h:Sc w0 wv w sb qb A0 n0 c0 i An cn ns M3 low):
 Calls prog 70 #[.int .i64 n] w λe w'=> ∃s:ByteArray,e=.returned (.string s)/\Hid (s=yC n)/\s.size<=21/\Sc w0 wv w' sb qb A0 n0 c0 i An cn ns M3 low:=by
 refine(Tryz.strconv_Itoa (n:Int) (by omega) (by omega) w h.gl.pow).mono ?_;rintro e w' ⟨rfl,k,b,rfl⟩;exact⟨_,rfl,qh rfl,jD n a,h.below (Ye w k b)⟩
theorem Sc.Z8{w0 wv w}{sb qb:Nat}{A0}{n0 c0 i:Nat}{An}{cn:Nat}{ns}{M3 low:Nat}(h:Sc w0 wv w sb qb A0 n0 c0 i An cn ns M3 low):Sc w0 w w sb qb A0 n0 c0 i An cn ns M3 low:=
 {h with gr:=I7 (x8 _ _) _}
theorem Sc.tr{w0 wv w w'}{sb qb:Nat}{A0}{n0 c0 i a:Nat}{An}{cn:Nat}{ns}{M3 low:Nat}(h:Sc w0 wv w sb qb A0 n0 c0 i An cn ns M3 low)(b:Sc w0 w w' sb qb A0 n0 c0 a An cn ns M3 low):Sc w0 wv w' sb qb A0 n0 c0 a An cn ns M3 low:=
 {b with gr:=I4 h.gr b.gr}
theorem Sc.c0{w0 wv w}{sb qb:Nat}{A0}{n0 c0 i:Nat}{An}{cn:Nat}{ns}{M3 low:Nat}(h:Sc w0 wv w sb qb A0 n0 c0 i An cn ns M3 low):w.cell? ⟨sb,0,none⟩=some (.pointer (some ⟨qb,0,none⟩))/\w.cell? ⟨sb,1,none⟩=some (.slice An ns.length cn)/\w.cell? ⟨sb,2,none⟩=some (.int .i64 M3)/\w.cell? ⟨sb,3,none⟩=some (.int .i64 low):=
 ⟨x6 h.JI 0,x6 h.JI 1,x6 h.JI 2,x6 h.JI 3⟩
theorem Sc.J2{w0 wv w}{sb qb:Nat}{A0}{n0 c0 i:Nat}{cn:Nat}{ns}{M3 low:Nat}{g:Nat}(h:Sc w0 wv w sb qb A0 n0 c0 i (some ⟨g,0,none⟩) cn ns M3 low)(k:Nat)(s:ByteArray)(hs:ns[k]?=some s):w.cell? ⟨g,k,none⟩=some (.string s):=by
 rcases zQ h.row.1 with⟨e,_⟩|⟨c,a,e,d,f,b⟩
 ·cases e
 ·injection e with e;injection e with e;injection e with e
  subst e;exact b _ _ (by simpa using zY S1.cells 1 (λ_=>rfl) ns k _ hs 0 _ rfl)
theorem Sc.arr{w0 wv w}{sb qb:Nat}{A0}{n0 c0 i:Nat}{An}{cn:Nat}{ns}{M3 low:Nat}(h:Sc w0 wv w sb qb A0 n0 c0 i An cn ns M3 low)(c:0<ns.length): ∃g,An=some ⟨g,0,none⟩:=by
 rcases zQ h.row.1 with⟨e,d⟩|⟨a,b,e,_⟩
 ·omega
 ·injection e with e;exact⟨a,e⟩
def qO(N:Nat)(ns:List ByteArray)(low d i:Nat)(s:ByteArray)(a:Nat):Prop:= ∃g:GE,s=g.R4/\zw N ns low d i g a
theorem qO.size{N:Nat}{ns}{low d i:Nat}{s:ByteArray}{b:Nat}(c:d<=4)(a:Qp ns)(e:low<=2)(h:qO N ns low d i s b):s.size<=6000:=by
 obtain⟨g,rfl,f⟩:=h;have:=f.X7 a e;have j:2^d<=2^4:=Nat.pow_le_pow_right (by decide) c;simp only[show 2^4=16 from rfl]at j;omega
section
variable {N:Nat}{ns:List ByteArray}{low d i i1 i2 i3 i4:Nat}{s t u:ByteArray}
theorem qO.qE{k j:Nat}(a:Nx N 9 i k i1)(b:Nx N ns.length i1 j i2)(c:ns[j]?=some s):qO N ns low d i s i2:=⟨_,rfl,.qE a b c⟩
theorem qO.lit{k n:Nat}(a:Nx N 9 i k i1)(b:Nx N 20 i1 n i2)(c:s=yC n):qO N ns low d i s i2:=⟨.lit n,c,.lit a b⟩
theorem Nx.got{n k:Nat}(h:Nx N n i k i1)(a:0<k):i<N/\i1=i+1:=by
 rcases h.2 with h|⟨_,_,h⟩
 ·exact h
 ·omega
theorem qO.neg{k:Nat}(a:Nx N 9 i k i1)(b:0<k)(h:qO N ns low (d-1) i1 s i2)(j:1<=d):qO N ns low d i (⟨#[45,40]⟩++s++⟨#[41]⟩) i2:=by
 obtain⟨c,rfl⟩:=a.got b;obtain⟨d,rfl⟩: ∃e,d=e+1:=⟨d-1,by omega⟩;obtain⟨g,rfl,f⟩:=h;exact⟨_,rfl,.neg c f⟩
theorem qO.call{k f:Nat}(b:Nx N 9 i k i1)(c:0<k)(j:Nx N low i1 f i2)(l:u=yC f)(h:qO N ns low (d-1) i2 s i3)(m:qO N ns low (d-1) i3 t i4)(p:1<=d):qO N ns low d i (⟨#[102]⟩++u++⟨#[40]⟩++s++⟨#[44,32]⟩++t++⟨#[41]⟩) i4:=by
 obtain⟨n,rfl⟩:=b.got c;obtain⟨d,rfl⟩: ∃e,d=e+1:=⟨d-1,by omega⟩;obtain⟨g,rfl,o⟩:=h;obtain⟨q,rfl,a⟩:=m;subst l;exact⟨_,rfl,.call n j o a⟩
theorem qO.X0{k f:Nat}(a:Nx N 9 i k i1)(b:0<k)(c:Nx N 4 i1 f i2)(j:u=yC f)(h:qO N ns low (d-1) i2 s i3)(n:1<=d):qO N ns low d i (⟨#[64]⟩++u++⟨#[40]⟩++s++⟨#[41]⟩) i3:=by
 obtain⟨l,rfl⟩:=a.got b;obtain⟨d,rfl⟩: ∃e,d=e+1:=⟨d-1,by omega⟩;obtain⟨g,rfl,m⟩:=h;subst j;exact⟨_,rfl,.X0 l c m⟩
theorem qO.xI{k o:Nat}(b:Nx N 9 i k i1)(c:0<k)(h:qO N ns low (d-1) i1 s i2)(f:Nx N 5 i2 o i3)(j:u=Xc o)(l:qO N ns low (d-1) i3 t i4)(p:1<=d):qO N ns low d i (⟨#[40]⟩++s++⟨#[32]⟩++u++⟨#[32]⟩++t++⟨#[41]⟩) i4:=by
 obtain⟨m,rfl⟩:=b.got c;obtain⟨d,rfl⟩: ∃e,d=e+1:=⟨d-1,by omega⟩;obtain⟨g,rfl,n⟩:=h;obtain⟨q,rfl,a⟩:=l;subst j;exact⟨_,rfl,.xI m n f a⟩
end
def zdR(w0 c:World)(sb f:Nat)(g:Option Addr)(n0 c0:Nat)(h:Option Addr)(cn:Nat)(ns:List ByteArray)(a low d i:Nat)(e:Ending)(w':World):Prop:=
 ∃(s:ByteArray)(b:Nat),e=.returned (.string s)/\s.size<=6000/\Hid (qO n0 ns low d i s b)/\Sc w0 c w' sb f g n0 c0 b h cn ns a low
def zmK(d:Nat):Prop:=
 ∀{w0 b w:World}{sb c:Nat}{e:Option Addr}{f g i:Nat}{h:Option Addr}{j:Nat}{ns:List ByteArray}{a low:Nat},Sc w0 b w sb c e f g i h j ns a low->Calls prog 72 #[.pointer (some ⟨sb,0,none⟩),.int .i64 d] w (zdR w0 b sb c e f g h j ns a low d i)
theorem xg{w0 e w'}{sb f:Nat}{g}{n0 c0 i:Nat}{h}{cn:Nat}{ns}{a low:Nat}{d b:Nat}{s:ByteArray}(k:d<=4)(j:qO n0 ns low d i s b)(c:Sc w0 e w' sb f g n0 c0 b h cn ns a low):zdR w0 e sb f g n0 c0 h cn ns a low d i (.returned (.string s)) w':=
 ⟨s,b,rfl,j.size k c.sz c.l1,qh j,c⟩
theorem Sc.c3{w0 e w}{sb b:Nat}{f}{n0 c0 i:Nat}{c}{cn:Nat}{ns}{a low:Nat}(h:Sc w0 e w sb b f n0 c0 i c cn ns a low):w.cell? ⟨sb,0,none⟩=some (.pointer (some ⟨b,0,none⟩))/\w.cell? ⟨sb,1,none⟩=some (.slice c ns.length cn)/\w.cell? ⟨sb,3,none⟩=some (.int .i64 low):=⟨h.c0.1,h.c0.2.1,h.c0.2.2.2⟩
theorem Sc.dr{w0 b w}{sb c:Nat}{e}{n0 c0 i:Nat}{f}{cn:Nat}{ns}{a low:Nat}(h:Sc w0 b w sb c e n0 c0 i f cn ns a low):Sc w0 b w.drew sb c e n0 c0 i f cn ns a low:=h.below (M2 _)
theorem zhh(k:Nat)(h:(k:Int)<5): ∃t:ByteArray,(∀a,Utf8.encode ((⟨#[43,45,42,47,37]⟩:ByteArray)[k]'a).toNat=t)/\t.size=1/\Hid (t=Xc k):=by
 have b:k=0\/k=1\/k=2\/k=3\/k=4:=by omega
 rcases b with rfl|rfl|rfl|rfl|rfl
 ·exact⟨Xc 0,λ_=>by kernel_rfl,by kernel_rfl,qh rfl⟩
 ·exact⟨Xc 1,λ_=>by kernel_rfl,by kernel_rfl,qh rfl⟩
 ·exact⟨Xc 2,λ_=>by kernel_rfl,by kernel_rfl,qh rfl⟩
 ·exact⟨Xc 3,λ_=>by kernel_rfl,by kernel_rfl,qh rfl⟩
 ·exact⟨Xc 4,λ_=>by kernel_rfl,by kernel_rfl,qh rfl⟩
theorem nn(k:Nat):(0:Int)<=(k:Int):=Int.natCast_nonneg k
theorem zl1{k low:Nat}(h:(k:Int)<(low:Int))(a:low<=2):k<=2000000:=by omega
theorem zpt{a:Nat}(h:a<=21): ¬9223372036854775807<1+a/\ ¬9223372036854775807<1+a+1:=by omega
theorem zph{a b:Nat}(h:a<=21)(c:b<=6000): ¬9223372036854775807<1+a+1+b/\ ¬9223372036854775807<1+a+1+b+2:=by omega
theorem zpA{a b c:Nat}(h:a<=21)(e:b<=6000)(f:c<=6000): ¬9223372036854775807<1+a+1+b+2+c/\ ¬9223372036854775807<1+a+1+b+2+c+1:=by omega
theorem zok{a:Nat}(h:a<=6000): ¬9223372036854775807<1+a/\ ¬9223372036854775807<1+a+1:=by omega
theorem zog{a:Nat}(h:a<=6000): ¬9223372036854775807<1+a+1+1/\ ¬9223372036854775807<1+a+1+1+1:=by omega
theorem zof{a b:Nat}(h:a<=6000)(c:b<=6000): ¬9223372036854775807<1+a+1+1+1+b/\ ¬9223372036854775807<1+a+1+1+1+b+1:=by omega
theorem ze1{α}(l:List α)(k:Nat)(h:(k:Int)<(l.length:Int)): ∃s,l[k]?=some s:=⟨_,x9 (by omega)⟩
theorem zcc(d:Nat)(H:d<=4)(ih:1<=d->zmK (d-1)):zmK d:=by
 intro w0 wv w sb K A0 n0 c0 i L M ns v low h;have IH:1<=d-> ∀{w0 wv w:World}{sb K:Nat}{A0:Option Addr}{n0 c0 i:Nat}{L:Option Addr}{M:Nat}{ns:List ByteArray}{v low:Nat},Sc w0 wv w sb K A0 n0 c0 i L M ns v low->Calls prog 72 #[.pointer (some ⟨sb,0,none⟩),.int .i64 ((d:Int)-1)] w (zdR w0 wv sb K A0 n0 c0 L M ns v low (d-1) i):=by
  intro h1 w0 wv w sb K A0 n0 c0 i L M ns v low h;have:=ih h1 h;rw[show((d-1:Nat):Int)=(d:Int)-1 by omega]at this;exact this
 have m:=qh IH;have c:=qh h;clear IH ih;obtain⟨Z,c1,c2,c3⟩:=h.c0;have a8:=h.l1;clear h
 go_enter func72,ntmps72
 go_wp2_with fail
 refine(n_c 9 (by decide) (by decide) c.out).mono ?_;rintro e w1 ⟨k,i1,rfl,c8,A,f⟩;replace A:=qh A;replace c:=qh f;clear f Z c1 c2 c3;obtain⟨Z,c1,c2,c3⟩:=c.out.c0
 by_cases hv:k<2/\0<ns.length
 ·obtain⟨n,hn⟩:=hv
  have J:decide ((k:Int)<2)=true:=by simp;omega
  obtain⟨g,rfl⟩:=c.out.arr hn;have a9:(0:Int)<(ns.length:Int):=by omega
  have c9:=c.out.nl;have b0:(1:Int)<=(ns.length:Int):=by omega
  have b1:(ns.length:Int)<=4000000000:=by omega
  go_upto_region 3 with(fail)
  have b2:=c.out.dr
  go_region_law(first|(go_simp;go_at_call 69;refine(n_c _ b0 b1 b2).mono ?_;rintro e w8 ⟨y,i2,rfl,a0,p,a⟩;obtain⟨s8,O⟩:=ze1 ns y a0;have d8:=a.J2 y s8 O;have a1:=qh a;have b3:=qh O;replace p:=qh p;obtain⟨e0,e1,e2,e3⟩:=a.c0;have d0:=nn y;clear O a))
  all_goals
   go_wp2_with fail
   go_ret;exact xg H (.qE A.out p.out b3.out) (by first|exact a1.out|exact a1.out.dr)
 by_cases n:k<2
 ·have a9:(ns.length:Int)<=0:=by omega
  clear hv
  go_wp2_with fail
  refine(n_c 20 (by omega) (by omega) c.out).mono ?_;rintro e P ⟨y,i2,rfl,n,b,f⟩;replace c:=qh f;clear f;replace b:=qh b
  go_wp2_with fail
  refine(yb y (by omega) c.out).mono ?_;rintro e X ⟨Y,rfl,l,x,f⟩;replace c:=qh f;clear f
  go_wp2_with fail
  go_ret;exact xg H (.lit A.out b.out l.out) c.out
 have J:(2:Int)<=k:=by omega
 clear hv n
 by_cases b4:k<4
 ·have a2:(k:Int)<4:=by omega
  go_wp2_with fail
  refine(n_c 20 (by omega) (by omega) c.out).mono ?_;rintro e P ⟨y,i2,rfl,n,b,f⟩;replace c:=qh f;clear f;replace b:=qh b
  go_wp2_with fail
  refine(yb y (by omega) c.out).mono ?_;rintro e X ⟨Y,rfl,l,x,f⟩;replace c:=qh f;clear f
  go_wp2_with fail
  go_ret;exact xg H (.lit A.out b.out l.out) c.out
 have a2:(4:Int)<=k:=by omega
 clear b4 J
 by_cases a3:d=0
 ·subst a3
  go_wp2_with fail
  refine(n_c 20 (by omega) (by omega) c.out).mono ?_;rintro e P ⟨y,i2,rfl,n,b,f⟩;replace c:=qh f;clear f;replace b:=qh b
  go_wp2_with fail
  refine(yb y (by omega) c.out).mono ?_;rintro e X ⟨Y,rfl,l,x,f⟩;replace c:=qh f;clear f
  go_wp2_with fail
  go_ret;exact xg H (.lit A.out b.out l.out) c.out
 have j:1<=d:=by omega
 have c4:(1:Int)<=(d:Int):=by omega
 have c5:((d:Int)==0)=false:=beq_eq_false_iff_ne.2 (by omega);clear a3
 by_cases hk:k=4
 ·subst hk
  go_wp2_with fail
  refine(m.out j c.out).mono ?_;rintro e P ⟨Y,i2,rfl,x,a4,f⟩;replace c:=qh f;clear f
  go_wp2_with fail
  go_ret;exact xg H (.neg A.out (by decide) a4.out j) c.out
 by_cases Q:k=6
 ·subst Q
  clear hk
  go_wp2_with fail
  refine(n_c 4 (by omega) (by omega) c.out).mono ?_;rintro e P ⟨y,i2,rfl,n,b,f⟩;replace c:=qh f;clear f;replace b:=qh b
  go_wp2_with fail
  refine(yb y (by omega) c.out).mono ?_;rintro e X ⟨Y,rfl,l,x,f⟩;replace c:=qh f;clear f
  go_wp2_with fail
  refine(m.out j c.out).mono ?_;rintro e w4 ⟨s3,i3,rfl,c6,a5,f⟩;replace c:=qh f;clear f
  go_wp2_with fail
  go_ret;exact xg H (.X0 A.out (by decide) b.out l.out a5.out j) c.out
 by_cases R:k=5/\0<low
 ·obtain⟨rfl,c7⟩:=R
  have S:(1:Int)<=(low:Int):=by omega
  have T:(low:Int)<=4000000000:=by omega
  have b5:(0:Int)<(low:Int):=by omega
  clear hk Q
  go_upto_region 9 with(fail)
  have o:=qh c.out.dr;clear c;have a6:IntKind.i64.wrap ((d:Int)-1)=(d:Int)-1:=IntWalk.i64_in _ (by omega)
  go_region_held3 (λW=>W.cell? ⟨sb,0,none⟩=some (.pointer (some ⟨K,0,none⟩))/\W.cell? ⟨sb,1,none⟩=some (.slice L ns.length M)/\W.cell? ⟨sb,3,none⟩=some (.int .i64 low))
   (first|(with_reducible exact o.out.c3)|(with_reducible assumption))
   (first
    |(go_at_call 69;refine(n_c _ S T o.out).mono ?_;rintro e P ⟨y,i2,rfl,n,p,a⟩;have I:=a.c3;have B:=qh a;replace p:=qh p;clear a)
    |(go_at_call 70;refine(yb y (zl1 n a8) B.out).mono ?_;rintro e X ⟨s3,rfl,C,D,a⟩;have I:=a.c3;have E:=qh a;clear a;have f1:=zpt D)
    |(go_at_call 72;refine(m.out j F.out).mono ?_;rintro e w5 ⟨s5,i5,rfl,b6,b7,a⟩;have I:=a.c3;have b8:=qh a;clear a;have f5:=zpA D z b6)
    |(go_at_call 72;refine(m.out j E.out).mono ?_;rintro e w4 ⟨s4,i4,rfl,z,G,a⟩;have I:=a.c3;have F:=qh a;clear a;have f3:=zph D z))
  go_wp2_with fail
  go_ret;exact xg H (.call A.out (by decide) p.out C.out G.out b7.out j) b8.out
 ·have e4:((k:Int)==4)=false:=beq_eq_false_iff_ne.2 (by omega)
  have e6:((k:Int)==6)=false:=beq_eq_false_iff_ne.2 (by omega);have a7:0<k:=by omega
  have hx:((k:Int)==5)=false\/(k=5/\(low:Int)<=0):=by
   rcases E0 0 low with h|h
   ·exact .inl (beq_eq_false_iff_ne.2 (by intro e;exact R ⟨by omega,h⟩))
   ·by_cases h5:k=5
    ·exact .inr ⟨h5,by omega⟩
    ·exact .inl (beq_eq_false_iff_ne.2 (by omega))
  clear R Q hk
  rcases hx with e5|⟨e5,d1⟩
  ·skip
   go_upto_region 12 with(fail)
   have o:=qh c.out.dr;clear c;have a6:IntKind.i64.wrap ((d:Int)-1)=(d:Int)-1:=IntWalk.i64_in _ (by omega)
   go_region_held3 (λW=>W.cell? ⟨sb,0,none⟩=some (.pointer (some ⟨K,0,none⟩))/\W.cell? ⟨sb,1,none⟩=some (.slice L ns.length M)/\W.cell? ⟨sb,3,none⟩=some (.int .i64 low))
    (first|(with_reducible exact o.out.c3)|(with_reducible assumption))
    (first
     |(go_at_call 69;refine(n_c _ (by omega) (by omega) B.out).mono ?_;rintro e X ⟨k3,i3,rfl,U,q,a⟩;have I:=a.c3;have E:=qh a;replace q:=qh q;clear a;have j0:=nn k3;obtain⟨t3,b9,D,C⟩:=zhh k3 U;have f3:=zog r)
     |(go_at_call 72;refine(m.out j E.out).mono ?_;rintro e w4 ⟨s4,i4,rfl,z,G,a⟩;have I:=a.c3;have F:=qh a;clear a;have f4:=zof r z)
     |(go_at_call 72;refine(m.out j o.out).mono ?_;rintro e P ⟨Y,i2,rfl,r,V,a⟩;have I:=a.c3;have B:=qh a;clear a;have f1:=zok r))
   all_goals
    go_wp2_with fail
    go_ret;exact xg H (.xI A.out a7 V.out q.out C.out G.out j) F.out
  ·subst e5
   go_upto_region 12 with(fail)
   have o:=qh c.out.dr;clear c;have a6:IntKind.i64.wrap ((d:Int)-1)=(d:Int)-1:=IntWalk.i64_in _ (by omega)
   go_region_held3 (λW=>W.cell? ⟨sb,0,none⟩=some (.pointer (some ⟨K,0,none⟩))/\W.cell? ⟨sb,1,none⟩=some (.slice L ns.length M)/\W.cell? ⟨sb,3,none⟩=some (.int .i64 low))
    (first|(with_reducible exact o.out.c3)|(with_reducible assumption))
    (first
     |(go_at_call 69;refine(n_c _ (by omega) (by omega) B.out).mono ?_;rintro e X ⟨k3,i3,rfl,U,q,a⟩;have I:=a.c3;have E:=qh a;replace q:=qh q;clear a;have j0:=nn k3;obtain⟨t3,b9,D,C⟩:=zhh k3 U;have f3:=zog r)
     |(go_at_call 72;refine(m.out j E.out).mono ?_;rintro e w4 ⟨s4,i4,rfl,z,G,a⟩;have I:=a.c3;have F:=qh a;clear a;have f4:=zof r z)
     |(go_at_call 72;refine(m.out j o.out).mono ?_;rintro e P ⟨Y,i2,rfl,r,V,a⟩;have I:=a.c3;have B:=qh a;clear a;have f1:=zok r))
   all_goals
    go_wp2_with fail
    go_ret;exact xg H (.xI A.out a7 V.out q.out C.out G.out j) F.out
def qS(N:Nat)(ns:List ByteArray)(low d i:Nat)(s:ByteArray)(a:Nat):Prop:= ∃g:GE,s=g.R4/\zi N ns low d i g a
theorem qS.size{N:Nat}{ns}{low d i:Nat}{s:ByteArray}{b:Nat}(c:d<=2)(a:Qp ns)(e:low<=2)(h:qS N ns low d i s b):s.size<=4000:=by
 obtain⟨g,rfl,f⟩:=h;have:=f.X7 a e;have j:2^d<=2^2:=Nat.pow_le_pow_right (by decide) c;simp only[show 2^2=4 from rfl]at j;omega
section
variable {N:Nat}{ns:List ByteArray}{low d i i1 i2 i3 i4:Nat}{s t u:ByteArray}
theorem qS.not{k:Nat}(a:Nx N 6 i k i1)(h:qS N ns low (d-1) i1 s i2)(c:1<=d):qS N ns low d i (⟨#[33,40]⟩++s++⟨#[41]⟩) i2:=by
 obtain⟨d,rfl⟩: ∃e,d=e+1:=⟨d-1,by omega⟩;obtain⟨g,rfl,b⟩:=h;exact⟨_,rfl,.not a b⟩
theorem qS.and{k:Nat}(b:Nx N 6 i k i1)(c:0<k)(h:qS N ns low (d-1) i1 s i2)(f:qS N ns low (d-1) i2 t i3)(m:1<=d):qS N ns low d i (⟨#[40]⟩++s++⟨#[32,38,38,32]⟩++t++⟨#[41]⟩) i3:=by
 obtain⟨j,rfl⟩:=b.got c;obtain⟨d,rfl⟩: ∃e,d=e+1:=⟨d-1,by omega⟩;obtain⟨g,rfl,l⟩:=h;obtain⟨n,rfl,a⟩:=f;exact⟨_,rfl,.and j l a⟩
theorem qS.or{k:Nat}(b:Nx N 6 i k i1)(c:0<k)(h:qS N ns low (d-1) i1 s i2)(f:qS N ns low (d-1) i2 t i3)(m:1<=d):qS N ns low d i (⟨#[40]⟩++s++⟨#[32,124,124,32]⟩++t++⟨#[41]⟩) i3:=by
 obtain⟨j,rfl⟩:=b.got c;obtain⟨d,rfl⟩: ∃e,d=e+1:=⟨d-1,by omega⟩;obtain⟨g,rfl,l⟩:=h;obtain⟨n,rfl,a⟩:=f;exact⟨_,rfl,.or j l a⟩
theorem qS.tf{k j:Nat}(a:Nx N 6 i k i1)(b:0<k)(h:Nx N 2 i1 j i2)(hs:s=tfT j):qS N ns low d i s i2:=by
 obtain⟨c,rfl⟩:=a.got b;exact⟨.tf j,hs,.tf c h⟩
theorem qS.jx{k o:Nat}(b:Nx N 6 i k i1)(h:qO N ns low 1 i1 s i2)(c:Nx N 6 i2 o i3)(e:u=YT o)(f:qO N ns low 1 i3 t i4):qS N ns low d i (s++u++t) i4:=by
 obtain⟨g,rfl,j⟩:=h;obtain⟨l,rfl,a⟩:=f;subst e;exact⟨_,rfl,.jx b j c a⟩
end
def zeE(w0 c:World)(sb f:Nat)(g:Option Addr)(n0 c0:Nat)(h:Option Addr)(cn:Nat)(ns:List ByteArray)(a low d i:Nat)(e:Ending)(w':World):Prop:=
 ∃(s:ByteArray)(b:Nat),e=.returned (.string s)/\s.size<=4000/\Hid (qS n0 ns low d i s b)/\Sc w0 c w' sb f g n0 c0 b h cn ns a low
def zg5(d:Nat):Prop:=
 ∀{w0 b w:World}{sb c:Nat}{e:Option Addr}{f g i:Nat}{h:Option Addr}{j:Nat}{ns:List ByteArray}{a low:Nat},Sc w0 b w sb c e f g i h j ns a low->Calls prog 169 #[.pointer (some ⟨sb,0,none⟩),.int .i64 d] w (zeE w0 b sb c e f g h j ns a low d i)
theorem Zx{w0 e w'}{sb f:Nat}{g}{n0 c0 i:Nat}{h}{cn:Nat}{ns}{a low:Nat}{d b:Nat}{s:ByteArray}(k:d<=2)(j:qS n0 ns low d i s b)(c:Sc w0 e w' sb f g n0 c0 b h cn ns a low):zeE w0 e sb f g n0 c0 h cn ns a low d i (.returned (.string s)) w':=
 ⟨s,b,rfl,j.size k c.sz c.l1,qh j,c⟩
theorem Jm: ∀d:Nat,d<=4->zmK d
 |0,_=>zcc 0 (by decide) (by omega)
 |d+1,h=>zcc (d+1) h (λ_=>Jm d (by omega))
theorem Sc.al{w0 b w}{sb c:Nat}{e}{n0 c0 i:Nat}{f}{cn:Nat}{ns}{a low:Nat}(h:Sc w0 b w sb c e n0 c0 i f cn ns a low)(o):Sc w0 b (w.alloc o) sb c e n0 c0 i f cn ns a low:=h.below ((x8 _ _).alloc (x7 _) o)
theorem Sc.new{w0 e w}{sb b:Nat}{f}{n0 c0 i:Nat}{g}{cn:Nat}{ns}{a low:Nat}{w' c t}(h:Sc w0 e w sb b f n0 c0 i g cn ns a low)(q:Unit)(j:(w.alloc (.cells c t)).grownBy w' (some b)):w'.heap[w.heap.size]?=some (.cells c t (0,0)):=
 (j.block _ (by simp) (by have:=h.q;have:=h.s;simp;omega)).trans (A5 w _)
theorem Sc.old{w0 e w}{sb c:Nat}{f}{n0 c0 i:Nat}{j}{cn:Nat}{ns}{b low:Nat}{w'}{g:Nat}{o}(h:Sc w0 e w sb c f n0 c0 i j cn ns b low)(k:w.grownBy w' (some c))(a:w.heap[g]?=some o/\g≠c):w'.heap[g]?=some o:=
 (k.block _ (I5 a.1) (by simpa using a.2)).trans a.1
theorem Sc.ne{w0 b w}{sb qb:Nat}{c}{n0 c0 i:Nat}{e}{cn:Nat}{ns}{a low:Nat}(h:Sc w0 b w sb qb c n0 c0 i e cn ns a low):w.heap.size≠qb:=by have:=h.q;have:=h.s;omega
theorem Sc.zp4{w0 e w:World}{sb b:Nat}{f:Option Addr}{n0 c0 i:Nat}{g:Option Addr}{cn:Nat}{ns:List ByteArray}{a low:Nat}{w':World}{c:Array Value}{t:TypeId}(h:Sc w0 e w sb b f n0 c0 i g cn ns a low)(j:(w.alloc (.cells c t)).drew.grownBy w' (some b)):w'.heap[w.heap.size]?=some (.cells c t (0,0)):=Sc.new h () (I4 (I7 (M2 _) _) j)
theorem Sc.ald{w0 b w}{sb c:Nat}{e}{n0 c0 i:Nat}{f}{cn:Nat}{ns}{a low:Nat}(h:Sc w0 b w sb c e n0 c0 i f cn ns a low)(o):Sc w0 b (w.alloc o).drew sb c e n0 c0 i f cn ns a low:=(h.al o).dr
theorem zmw:(1:Int)<=6:=by decide
theorem zl2:(6:Int)<=4000000000:=by decide
theorem zmG{a b:Nat}(h:a<=6000)(c:b<=4): ¬9223372036854775807<a+b:=by omega
theorem zly{a b c:Nat}(h:a<=6000)(e:b<=4)(f:c<=6000): ¬9223372036854775807<a+b+c:=by omega
theorem zhv(k:Nat): ∃t:ByteArray,t.size<=4/\t=YT k:=⟨YT k,by unfold YT;split<;>decide,rfl⟩
theorem JV{k:Nat}{t:ByteArray}(h:(k:Int)<6)(b:t=YT k)(w:World)(g:Nat)(a:w.heap[g]?=some (.cells #[.string ⟨#[32,60,32]⟩,.string ⟨#[32,60,61,32]⟩,.string ⟨#[32,62,32]⟩,.string ⟨#[32,62,61,32]⟩,.string ⟨#[32,61,61,32]⟩,.string ⟨#[32,33,61,32]⟩] 9 (0,0))):w.cell? ⟨g,k,none⟩=some (.string t):=by
 subst b;have c:k=0\/k=1\/k=2\/k=3\/k=4\/k=5:=by omega
 rcases c with rfl|rfl|rfl|rfl|rfl|rfl
 ·exact x6 a 0
 ·exact x6 a 1
 ·exact x6 a 2
 ·exact x6 a 3
 ·exact x6 a 4
 ·exact x6 a 5
theorem znR(k:Nat)(h:(k:Int)<2)(w:World)(g:Nat)(a:w.heap[g]?=some (.cells #[.string ⟨#[116,114,117,101]⟩,.string ⟨#[102,97,108,115,101]⟩] 9 (0,0))): ∃t:ByteArray,w.cell? ⟨g,k,none⟩=some (.string t)/\t=tfT k:=by
 have b:k=0\/k=1:=by omega
 rcases b with rfl|rfl
 ·exact⟨tfT 0,x6 a 0,rfl⟩
 ·exact⟨tfT 1,x6 a 1,rfl⟩
theorem za9(d:Nat)(Z:d<=2)(ih:1<=d->zg5 (d-1)):zg5 d:=by
 intro w0 L w sb M O P Q i R S ns c low h;have IH:1<=d-> ∀{w0 L w:World}{sb M:Nat}{O:Option Addr}{P Q i:Nat}{R:Option Addr}{S:Nat}{ns:List ByteArray}{c low:Nat},Sc w0 L w sb M O P Q i R S ns c low->Calls prog 169 #[.pointer (some ⟨sb,0,none⟩),.int .i64 ((d:Int)-1)] w (zeE w0 L sb M O P Q R S ns c low (d-1) i):=by
  intro h1 w0 L w sb M O P Q i R S ns c low h;have:=ih h1 h;rw[show((d-1:Nat):Int)=(d:Int)-1 by omega]at this;exact this
 have v:=qh IH;have b:=qh h;have HN:Hid (∀{w0 L w:World}{sb M:Nat}{O:Option Addr}{P Q i:Nat}{R:Option Addr}{S:Nat}{ns:List ByteArray}{c low:Nat},Sc w0 L w sb M O P Q i R S ns c low->Calls prog 72 #[.pointer (some ⟨sb,0,none⟩),.int .i64 1] w (zdR w0 L sb M O P Q R S ns c low 1 i)):=qh (Jm 1 (by decide));clear IH ih;obtain⟨x,c1,c2,c3⟩:=h.c0;have a8:=h.l1;clear h
 go_enter func169,ntmps169
 go_wp2_with fail
 refine(n_c 6 (by decide) (by decide) b.out).mono ?_;rintro e w1 ⟨k,i1,rfl,a9,T,g⟩;replace T:=qh T;replace b:=qh g;clear g x c1 c2 c3
 by_cases h0:k=0/\1<=d
 ·obtain⟨rfl,j⟩:=h0
  have F:(1:Int)<=(d:Int):=by omega
  have G:(0:Int)<(d:Int):=by omega
  go_wp2_with fail
  refine(v.out j b.out).mono ?_;rintro e X ⟨s2,i2,rfl,H,n,g⟩;replace b:=qh g;clear g
  go_wp2_with fail
  go_ret;exact Zx Z (.not T.out n.out j) b.out
 by_cases h1:k=1/\1<=d
 ·obtain⟨rfl,j⟩:=h1
  have F:(1:Int)<=(d:Int):=by omega
  have G:(0:Int)<(d:Int):=by omega
  clear h0
  go_wp2_with fail
  refine(v.out j b.out).mono ?_;rintro e X ⟨s2,i2,rfl,H,n,g⟩;replace b:=qh g;clear g
  go_wp2_with fail
  refine(v.out j b.out).mono ?_;rintro e I ⟨s3,i3,rfl,a0,y,g⟩;replace b:=qh g;clear g
  go_wp2_with fail
  go_ret;exact Zx Z (.and T.out (by decide) n.out y.out j) b.out
 by_cases h2:k=2/\1<=d
 ·obtain⟨rfl,j⟩:=h2
  have F:(1:Int)<=(d:Int):=by omega
  have G:(0:Int)<(d:Int):=by omega
  clear h0 h1
  go_wp2_with fail
  refine(v.out j b.out).mono ?_;rintro e X ⟨s2,i2,rfl,H,n,g⟩;replace b:=qh g;clear g
  go_wp2_with fail
  refine(v.out j b.out).mono ?_;rintro e I ⟨s3,i3,rfl,a0,y,g⟩;replace b:=qh g;clear g
  go_wp2_with fail
  go_ret;exact Zx Z (.or T.out (by decide) n.out y.out j) b.out
 have hq:k=3\/(k=0/\d=0)\/(k=1/\d=0)\/(k=2/\d=0)\/(((k:Int)==0)=false/\((k:Int)==1)=false/\((k:Int)==2)=false/\((k:Int)==3)=false):=by
  by_cases h3:k<4
  ·omega
  ·exact .inr (.inr (.inr (.inr ⟨beq_eq_false_iff_ne.2 (by omega),beq_eq_false_iff_ne.2 (by omega),beq_eq_false_iff_ne.2 (by omega),beq_eq_false_iff_ne.2 (by omega)⟩)))
 clear h0 h1 h2
 rcases hq with rfl|hq
 ·obtain⟨x,c1,c2,c3⟩:=b.out.c0
  have a6:=b.out.s
  go_wp2_with fail
  have a1:=qh (b.out.al (.cells #[.string ⟨#[116,114,117,101]⟩,.string ⟨#[102,97,108,115,101]⟩] 9));refine(n_c 2 (by decide) (by decide) a1.out.Z8).mono ?_;rintro e X ⟨k2,i2,rfl,a7,U,g⟩;obtain⟨t,ht,hT⟩:=znR k2 a7 X w1.heap.size (Sc.new b.out () g.gr);have HT:=qh hT;replace U:=qh U;replace b:=qh (a1.out.tr g);have j0:=nn k2;clear g x c1 c2 c3 hT
  go_wp2_with fail
  go_ret;exact Zx Z (.tf T.out (by decide) U.out HT.out) b.out
 ·rcases hq with⟨rfl,rfl⟩|⟨rfl,rfl⟩|⟨rfl,rfl⟩|⟨q0,q1,q2,q3⟩
  all_goals
   obtain⟨x,c1,c2,c3⟩:=b.out.c0
   go_upto_region 10 with(fail)
   have a2:=qh b.out.dr;have J:=a2.out.c3;have q7:=b.out.c3;have a6:=b.out.s;have C:=qh b.out;clear b x c1 c2 c3
   go_region_law(first|(go_simp;first
    |(go_at_call 69;refine(n_c _ zmw zl2 z.out.1.Z8).mono ?_;rintro e I ⟨K,i3,rfl,o,l,a⟩;have J:=a.c3;have V:=a.s;have j0:=nn K;replace l:=qh l;have D:=qh (And.intro (Sc.old z.out.1 a.gr z.out.2) z.out.2.2);obtain⟨t3,p,f⟩:=zhv K;have a3:=JV o f I _ D.out.1;have r:=qh f;have m:=qh (z.out.1.tr a);have f3:=zmG q p;clear a f)
    |(go_at_call 69;refine(n_c _ zmw zl2 (A.out.al _).Z8).mono ?_;rintro e I ⟨K,i3,rfl,o,l,a⟩;have J:=a.c3;have V:=a.s;have j0:=nn K;replace l:=qh l;have D:=qh (And.intro (Sc.new A.out () a.gr) (Sc.ne A.out));obtain⟨t3,p,f⟩:=zhv K;have a3:=JV o f I _ D.out.1;have r:=qh f;have m:=qh ((A.out.al _).tr a);have f3:=zmG q p;clear a f)
    |(go_at_call 69;refine(n_c _ zmw zl2 A.out).mono ?_;rintro e I ⟨K,i3,rfl,o,l,a⟩;have J:=a.c3;have V:=a.s;have j0:=nn K;replace l:=qh l;obtain⟨t3,p,f⟩:=zhv K;have a3:=JV o f (I.alloc (.cells #[.string ⟨#[32,60,32]⟩,.string ⟨#[32,60,61,32]⟩,.string ⟨#[32,62,32]⟩,.string ⟨#[32,62,61,32]⟩,.string ⟨#[32,61,61,32]⟩,.string ⟨#[32,33,61,32]⟩] 9)) _ (A5 I _);have r:=qh f;have m:=qh a;have f3:=zmG q p;clear a f)
    |(go_at_call 72;refine(HN.out m.out.Z8).mono ?_;rintro e Y ⟨s4,i4,rfl,B,W,a⟩;have J:=a.c3;have V:=a.s;have E:=qh (m.out.tr a);have a4:=JV o r.out Y _ (Sc.old m.out a.gr D.out);clear a;have f4:=zly q p B)
    |(go_at_call 72;refine(HN.out (m.out.al _).Z8).mono ?_;rintro e Y ⟨s4,i4,rfl,B,W,a⟩;have J:=a.c3;have V:=a.s;have E:=qh ((m.out.al _).tr a);have a4:=JV o r.out Y _ (Sc.new m.out () a.gr);clear a;have f4:=zly q p B)
    |(go_at_call 72;refine(HN.out m.out).mono ?_;rintro e Y ⟨s4,i4,rfl,B,W,a⟩;have J:=a.c3;have V:=a.s;have E:=qh a;have a4:=JV o r.out (Y.alloc (.cells #[.string ⟨#[32,60,32]⟩,.string ⟨#[32,60,61,32]⟩,.string ⟨#[32,62,32]⟩,.string ⟨#[32,62,61,32]⟩,.string ⟨#[32,61,61,32]⟩,.string ⟨#[32,33,61,32]⟩] 9)) _ (A5 Y _);clear a;have f4:=zly q p B)
    |(go_at_call 72;refine(HN.out a2.out).mono ?_;rintro e X ⟨s2,i2,rfl,q,a5,a⟩;have J:=a.c3;have V:=a.s;have A:=qh a;clear a)
    |(go_at_call 72;refine(HN.out (C.out.ald _).Z8).mono ?_;rintro e X ⟨s2,i2,rfl,q,a5,a⟩;have J:=a.c3;have V:=a.s;have z:=qh (And.intro ((C.out.ald _).tr a) (And.intro (Sc.zp4 C.out a.gr) (Sc.ne C.out)));clear a)))
   all_goals
    go_wp2_with fail
    go_ret;exact Zx Z (.jx T.out a5.out l.out r.out W.out) (by first|exact E.out|exact E.out.al _)
end Go.Proofs.YtmngofgminlloaaGreatDoor
namespace Go.Proofs.YtmngofgminlloaaGreatDoor
open Go.RowKit Tw
theorem xc.pre{N low:Nat}{B:Ms->GL->Ms->Prop}(b: ∀s g a,B s g a->a.ns=s.ns){s g a}(h:xc N low B s g a): ∃l,a.ns=s.ns++l:=by
 cases h with
 |xl _ _ c e=>exact⟨[],by rw[b _ _ _ e,b _ _ _ c];simp⟩
 |X2 _ _ f=>exact⟨[],by rw[b _ _ _ f];simp⟩
 |bind _ _=>exact⟨_,rfl⟩
 |set _ _ _ _=>exact⟨[],by simp⟩
 |Q8 _ _=>exact⟨[],by simp⟩
 |run _ _=>exact⟨[],by simp⟩
 |qi _ _ _=>exact⟨[],by simp⟩
theorem zlB{N low:Nat}{d:Nat}{s g a}(h:yh N low d s g a):a.ns=s.ns:=by
 rw[zhe]at h;obtain⟨j,i1,b,_,_,rfl⟩:=h;rfl
theorem zas.pre{N low d:Nat}{s g a}(h:zas N low d s g a): ∃l,a.ns=s.ns++l:=by
 cases d with
 |zero=>exact xc.pre (λ_ _ _ h=>h.elim) h
 |succ d=>exact xc.pre (λ_ _ _ h=>zlB h) h
theorem Run.pre{N low d j:Nat}{s g b}(h:Run (zas N low d) j s g b): ∃l,b.ns=s.ns++l:=by
 induction h with
 |nil=>exact⟨[],by simp⟩
 |xn _ c e=>
  obtain⟨l,f⟩:=e;obtain⟨n,a⟩:=c.pre;exact⟨l++n,by rw[a,f,B9]⟩
theorem zdF{d:Nat}(h:d<=3):Xo d<=777/\mkS d<=259:=by
 have a:d=0\/d=1\/d=2\/d=3:=by omega
 rcases a with rfl|rfl|rfl|rfl<;>decide
theorem zeg{d:Nat}(h:d<=3):szB d<=3885000/\szS d<=1295000:=by
 have a:d=0\/d=1\/d=2\/d=3:=by omega
 rcases a with rfl|rfl|rfl|rfl<;>decide
def qz(N low d:Nat)(s:Ms)(t:ByteArray)(a:Ms):Prop:= ∃g:GL,t=g.R4/\zas N low d s g a
def Yk(N low d j:Nat)(s:Ms)(t:ByteArray)(a:Ms):Prop:= ∃g:GL,t=g.R4/\Run (zas N low d) j s g a
def zbW(N low d:Nat)(s:Ms)(t:ByteArray)(a:Ms):Prop:= ∃g:GL,t=g.R4/\yh N low d s g a
theorem qz.bd{N low d:Nat}{s}{t:ByteArray}{a}(h:qz N low d s t a)(b:d<=3)(c:low<=2)(e:Qp s.ns)(p:s.m<=900000):s.m<=a.m/\a.m<=s.m+mkS d/\t.size<=1295000/\Qp a.ns/\a.ns.length<=s.ns.length+1:=by
 obtain⟨g,rfl,f⟩:=h;have q:=zdF b;have r:=zeg b;obtain⟨j,l,v,n,o⟩:=zas.X7 c d _ _ _ f e (by omega);exact⟨j,l,by omega,n,o⟩
theorem zbW.bd{N low d:Nat}{s}{t:ByteArray}{a}(h:zbW N low d s t a)(b:d<=3)(c:low<=2)(e:Qp s.ns)(p:s.m<=900000):s.m<=a.m/\a.m<=s.m+Xo d/\t.size<=3885000/\a.ns=s.ns:=by
 obtain⟨g,rfl,f⟩:=h;have q:=zdF b;have r:=zeg b;obtain⟨j,l⟩:=yh.X7 c d _ _ _ f;obtain⟨n,o,v,w,y⟩:=j e (by omega);exact⟨n,o,by omega,l⟩
theorem Yk.bd{N low d j:Nat}{s}{t:ByteArray}{a}(h:Yk N low d j s t a)(b:j<=3)(c:d<=3)(f:low<=2)(n:Qp s.ns)(v:s.m<=900000):s.m<=a.m/\a.m<=s.m+j*mkS d/\t.size<=3885000/\Qp a.ns/\a.ns.length<=s.ns.length+j/\ ∃l,a.ns=s.ns++l:=by
 obtain⟨g,rfl,e⟩:=h;have w:=zdF c;have y:=zeg c;have z:=G5 (mkS d) b;have A:=G5 (szS d) b;obtain⟨o,p,B,q,r⟩:=e.X7 (zas.X7 f d) n (by omega);exact⟨o,p,by omega,q,r,e.pre⟩
theorem Yk.nil{N low d:Nat}(s):Yk N low d 0 s ⟨#[]⟩ s:=⟨.nil,rfl,.nil⟩
theorem Yk.xn{N low d j:Nat}{s a s2}{t u:ByteArray}(h:Yk N low d j s t a)(b:qz N low d a u s2):Yk N low d (j+1) s (t++u) s2:=by
 obtain⟨g,rfl,c⟩:=h;obtain⟨x,rfl,e⟩:=b;exact⟨_,(GL.zbY g x).symm,.xn c e⟩
theorem Yk.P6{N low d j i1:Nat}{s a}{t:ByteArray}(b:Nx N 4 s.i j i1)(h:Yk N low d j ⟨s.ns,s.m,i1⟩ t a):zbW N low d s t ⟨s.ns,a.m,a.i⟩:=by
 obtain⟨g,rfl,c⟩:=h;exact⟨_,rfl,by rw[zhe];exact⟨j,i1,a,b,c,rfl⟩⟩
section
variable {N low d:Nat}{ns:List ByteArray}{m i i1 i2 i3 k:Nat}{s t u x:ByteArray}
theorem qz.mk0{g:GL}{s':Ms}{t:ByteArray}(a:t=g.R4)(h: ∀B,xc N low B ⟨ns,m,i⟩ g s'):qz N low d ⟨ns,m,i⟩ t s':=⟨g,a,by cases d<;>exact h _⟩
theorem qz.set{j:Nat}(a:Nx N 8 i 0 i1)(b:Nx N ns.length i1 j i2)(hs:ns[j]?=some s)(c:qO N ns low 2 i2 x i3):qz N low d ⟨ns,m,i⟩ (s++⟨#[32,61,32]⟩++x++⟨#[59,32]⟩) ⟨ns,m,i3⟩:=by
 obtain⟨g,rfl,e⟩:=c;exact .mk0 (g:=.set s g .nil) (by simp only[GL.R4,jO]) λB=>.set a b hs e
theorem qz.Q8(a:Nx N 8 i k i1)(b:0<k)(c:qO N ns low 2 i1 x i2):qz N low d ⟨ns,m,i⟩ (⟨#[121,105,101,108,100,32]⟩++x++⟨#[59,32]⟩) ⟨ns,m,i2⟩:=by
 obtain⟨e,rfl⟩:=a.got b;obtain⟨g,rfl,f⟩:=c;exact .mk0 (g:=.Q8 g .nil) (by simp only[GL.R4,jO]) λB=>.Q8 e f
theorem qz.run(a:Nx N 8 i k i1)(b:0<k)(c:qO N ns low 2 i1 x i2):qz N low d ⟨ns,m,i⟩ (x++⟨#[59,32]⟩) ⟨ns,m,i2⟩:=by
 obtain⟨e,rfl⟩:=a.got b;obtain⟨g,rfl,f⟩:=c;exact .mk0 (g:=.run g .nil) (by simp only[GL.R4,jO]) λB=>.run e f
theorem qz.qi{j:Nat}(a:Nx N 8 i k i1)(b:0<k)(c:Nx N 8 i1 j i2)(e:qO N ns low 1 i2 x i3):qz N low d ⟨ns,m,i⟩ (⟨#[114,101,116,117,114,110,32]⟩++x++⟨#[59,32]⟩) ⟨ns,m,i3⟩:=by
 obtain⟨f,rfl⟩:=a.got b;obtain⟨g,rfl,h⟩:=e;exact .mk0 (g:=.qi g .nil) (by simp only[GL.R4,jO]) λB=>.qi f c h
theorem qz.xl{c a b:ByteArray}{j s2}(l:Nx N 8 i k i1)(n:0<k)(z:1<=d)(o:qS N ns low 2 i1 c i2)(p:zbW N low (d-1) ⟨ns,m,i2⟩ a j)(q:zbW N low (d-1) j b s2):
 qz N low d ⟨ns,m,i⟩ (⟨#[105,102,32]⟩++c++⟨#[32,123,32]⟩++a++⟨#[125,32,101,108,115,101,32,123,32]⟩++b++⟨#[125,32]⟩) s2:=by
 obtain⟨r,rfl⟩:=l.got n;obtain⟨d,rfl⟩: ∃e,d=e+1:=⟨d-1,by omega⟩;obtain⟨v,rfl,f⟩:=o;obtain⟨w,rfl,g⟩:=p;obtain⟨y,rfl,h⟩:=q;exact⟨.xl v w y .nil,by simp only[GL.R4,jO],.xl r f g h⟩
theorem qz.X2{v z l:ByteArray}{n:Nat}{s2}(b:Nx N 8 i k i1)(c:0<k)(q:1<=d)(f:Nx N 4 i1 n i2)(g:v=iT (m+1))(h:z=yC n)(j:zbW N low (d-1) ⟨ns,m+1,i2⟩ l s2):
 qz N low d ⟨ns,m,i⟩ (⟨#[108,101,116,32]⟩++v++⟨#[32,61,32,48,59,32,119,104,105,108,101,32]⟩++v++⟨#[32,60,32]⟩++z++⟨#[32,123,32]⟩++l++v++⟨#[32,61,32]⟩++v++⟨#[32,43,32,49,59,32,125,32]⟩) s2:=by
 obtain⟨o,rfl⟩:=b.got c;obtain⟨d,rfl⟩: ∃e,d=e+1:=⟨d-1,by omega⟩;obtain⟨p,rfl,a⟩:=j;subst g h;exact⟨.X2 (m+1) n p .nil,by simp only[GL.R4,jO],.X2 o f a⟩
theorem qz.bind{v:ByteArray}(a:i<i1/\i1<=N\/i=N/\i1=N)(b:qO N ns low 2 i1 x i2)(c:v=vT (m+1)):qz N low d ⟨ns,m,i⟩ (⟨#[108,101,116,32]⟩++v++⟨#[32,61,32]⟩++x++⟨#[59,32]⟩) ⟨ns++[v],m+1,i2⟩:=by
 obtain⟨g,rfl,e⟩:=b;subst c;exact .mk0 (g:=.bind (m+1) g .nil) (by simp only[GL.R4,jO]) λB=>.bind a e
theorem Nx.mv{n:Nat}(h:Nx N n i k i1):i<i1/\i1<=N\/i=N/\i1=N:=by
 rcases h.2 with h|h<;>omega
theorem Nx.mv2{n b c:Nat}(h:Nx N n i k i1)(a:Nx N b i1 c i2):i<i2/\i2<=N\/i=N/\i2=N:=by
 rcases h.2 with h|h<;>rcases a.2 with a|a<;>omega
end
end Go.Proofs.YtmngofgminlloaaGreatDoor
