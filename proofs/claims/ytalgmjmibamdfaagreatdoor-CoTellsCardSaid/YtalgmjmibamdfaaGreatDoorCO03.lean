/- Merged. -/
import Derived.Test.YtalgmjmibamdfaaGreatDoorCO02b
import Derived.Shelf.Unicode.PredsPay
import Derived.Deep.RegionHeld3
import Derived.Deep.DrawnRows
set_option linter.all false
set_option maxHeartbeats 8000000
set_option maxRecDepth 100000
namespace Go.Proofs.YtalgmjmibamdfaaGreatDoor
open Go.Proofs.Tryz
open Go.RowKit Tw
section
open Go.Shelf
structure St(w wK:World)(b:Nat)(cs:Array Value)(v:Value)(l:List Wd):Prop where
 yD:wK.ownsRow w.heap.size 158 3 v l.length (P9 l)
 O7:Below w.heap.size w wK
 K3:wK.heap[b]?=some (.cells cs 158 (0,0))
 ne:v.ownBlock≠some b
 le:w.heap.size<=b
theorem K6{w w':World}{base e size n:Nat}{v:Value}{xs:List Value}(h:w.ownsRow base e size v n xs)(a:Below w.heap.size w w'):w'.ownsRow base e size v n xs:=by
 refine h.kept (row:=none) ⟨a.os,a.tape,a.output,a.size,λk b _=>a.block k b⟩ ?_;cases c:v.ownBlock with
 |none=>exact .inl rfl
 |some k=>exact .inr (by simp)
theorem X2{w:World}{base e size n:Nat}{v:Value}{xs:List Value}(h:w.ownsRow base e size v n xs){p:Addr}(u:Value)(a:v.ownBlock≠some p.block):(w.setCell p u).ownsRow base e size v n xs:=by
 refine h.kept (row:=some p.block) ⟨rfl,rfl,rfl,by simp[World.setCell],λk c b=>G0 w p u k (λe=>b (by rw[e]))⟩ (.inr a)
theorem zc5{w:World}{b:Nat}{o:Obj}(h:w.heap[b]?=some o):b<w.heap.size:=by
 rcases E5 b w.heap.size with a|c
 ·exact a
 ·rw[G7 c]at h;cases h
theorem St.next{w a d:World}{b:Nat}{e:Array Value}{v:Value}{l:List Wd}(h:St w a b e v l)(c:Below a.heap.size a d):St w d b e v l:=
 ⟨K6 h.yD c,h.O7.trans (c.mono h.O7.size),(c.block b (zc5 h.K3)).trans h.K3,h.ne,h.le⟩
theorem St.start{w wr:World}{v:Value}{l:List Wd}(c:Array Value)(a:wr.ownsRow w.heap.size 158 3 v l.length (P9 l))(b:Below w.heap.size w wr):St w (wr.alloc (.cells c 158)) wr.heap.size c v l:=
 ⟨a.alloc _,b.alloc b.size _,y9 wr _,λh=>by have:=(a.lt _ h).2;omega,b.size⟩
theorem St.cell{w a:World}{b:Nat}{c:Array Value}{v:Value}{l:List Wd}(h:St w a b c v l)(j:Nat):a.cell? ⟨b,j,none⟩=c[j]?:=y5 h.K3 j
theorem St.xF{w a:World}{b:Nat}{c:Array Value}{v:Value}{l:List Wd}(h:St w a b c v l)(j:Nat):a.frozen? ⟨b,j,none⟩=false:=B4 h.K3 j
structure U2(w:World):Prop where
 maxLen:U8 w
 zaW:zbz w
 pow:Lib.TabIs prog w "internal/strconv.uint64pow10" .u64 Lib.pow10Tab
 spc:Lib.TabIs prog w "strings.asciiSpace" .u8 Lib.asciiSpaceTab
 Jv:10<w.heap.size
theorem U2.to{w w':World}(h:U2 w)(a:Below w.heap.size w w'):U2 w' where
 maxLen:=h.maxLen.below a (by have:=h.Jv;show 3<_;omega)
 zaW:=by
  obtain⟨⟨b,c,d⟩,e,f,i⟩:=h.zaW;have:=h.Jv;exact⟨⟨b,(a.cell (p:=⟨4,0,none⟩) (by show 4<_;omega)).trans c,d⟩,e,(a.cell (p:=⟨5,0,none⟩) (by show 5<_;omega)).trans f,i⟩
 pow:=TabIs_below (g:=1) (by kernel_rfl) h.pow a
 spc:=TabIs_below (g:=0) (by kernel_rfl) h.spc a
 Jv:=z6 h.Jv a.size
theorem zeb(l:Bs):(Lib.index l [10]= -1/\L1 (λc=>c !=10) l=l.length)\/(0<=Lib.index l [10]/\(Lib.index l [10]).toNat=L1 (λc=>c !=10) l):=by
 induction l with
 |nil=>left;exact⟨by simp[Lib.index],rfl⟩
 |cons b l g=>
  rw[Lib.index]
  by_cases a:b=10
  ·subst a;right;simp[List.isPrefixOf,L1]
  ·have h:((10:UInt8)==b)=false:=by simpa using λe=>a e.symm
   have i:([10]:Bs).isPrefixOf (b::l)=false:=by simp[List.isPrefixOf,h]
   have j:L1 (λc=>c !=10) (b::l)=1+L1 (λc=>c !=10) l:=by simp[L1,a];omega
   rw[i,j,z7]
   rcases g with⟨d,f⟩|⟨d,f⟩
   ·left;rw[d,f];exact⟨by simp,by omega⟩
   ·right
    have k:(Lib.index l [10]== -1)=false:=by rw[B0];omega
    simp only[k,C6,if_false];omega
theorem zg8(l:Bs):(Lib.cut l [10]).1.length=L1 (λc=>c !=10) l:=by
 have d:=XH (λc=>c !=10) l;unfold Lib.cut
 rcases zeb l with⟨a,b⟩|⟨a,b⟩
 ·rw[a,B5 (by omega)];exact b.symm
 ·rw[E1 a,b];simp;omega
theorem zi3(s:ByteArray)(k:Nat)(w:World)(hs:s.size<=4000)(d:U8 w):
 Calls prog 110 #[.string (s.extract k s.size),.string ⟨#[10]⟩] w λe w'=>(∃(a b:ByteArray)(c:Bool),e=.returned (.tuple #[.string a,.string b,.bool c])/\a.size=L1 (λc=>c !=10) (s.data.toList.drop k))/\Below w.heap.size w w':=by
 obtain⟨m,d⟩:=d;refine(Tryz.strings_Cut (s.extract k s.size) ⟨#[10]⟩ m w (by simp;omega) d).mono ?_;rintro e w' ⟨rfl,n,rfl⟩;refine⟨⟨_,_,_,rfl,?_⟩,J9 (y7 _ _) n⟩;rw[<-zg8,jp];rfl
def zfi(u:Nat):ByteArray:=⟨(Lib.decDigits u).toArray⟩
theorem zdP(u:Nat)(a:u<18446744073709551616)(w:World)(b:Lib.TabIs prog w "internal/strconv.uint64pow10" .u64 Lib.pow10Tab):
 Calls prog 112 #[.int .u64 u,.int .i64 10] w λe w'=>e=.returned (.string (zfi u))/\Below w.heap.size w w':=zj5 u a w b
theorem XK(w:World)(b:Nat)(a c:Value)(o:Obj):(((w.setCell ⟨b,0,none⟩ a).setCell ⟨b,1,none⟩ c).alloc o).heap[w.heap.size]?=some o:=by
 have:=y9 ((w.setCell ⟨b,0,none⟩ a).setCell ⟨b,1,none⟩ c) o;simpa[World.setCell]using this
theorem zez(w:World)(b:Nat)(u:Value)(o:Obj):((w.setCell ⟨b,1,none⟩ u).alloc o).heap[w.heap.size]?=some o:=by
 have:=y9 (w.setCell ⟨b,1,none⟩ u) o;simpa[World.setCell]using this
theorem jy{w w':World}(h:Below w.drew.heap.size w.drew w'):Below w.heap.size w w':=⟨h.os,h.tape,h.output,h.size,h.block⟩
theorem zeP(p:UInt8->Bool)(l:Bs):(l.take (l.takeWhile p).length).all p=true:=by
 induction l with
 |nil=>rfl
 |cons c l a=>cases h:p c<;>simp[h];simpa using a
def xp:List Bs:=[[60,61],[62,61],[61,61],[33,61],[38,38],[124,124],[43],[45],[42],[47],[37],[60],[62],[61],[33],[40],[41],[123],[125],[44],[59],[58],[64]]
def jB(D:Bs)(n:Nat)(p:Bs):Nat:=if n=0/\Lib.hasPrefix D p=true then p.length else n
def qg(ps:List Bs)(D:Bs):Nat:=ps.foldl (jB D) 0
theorem JC(D:Bs)(ps:List Bs): ∀n,n≠0->ps.foldl (jB D) n=n:=by
 induction ps with
 |nil=>intro n _;rfl
 |cons p ps b=>
  intro n a;have:jB D n p=n:=by unfold jB;rw[B5 (λh=>a h.1)]
  rw[List.foldl_cons,this];exact b n a
theorem Yt(D:Bs)(L:Nat)(b:L≠0)(ps:List Bs)(h: ∀p∈ps,p.length=L):ps.foldl (jB D) 0=if ps.any (Lib.hasPrefix D)then L else 0:=by
 induction ps with
 |nil=>rfl
 |cons p ps c=>
  rw[List.foldl_cons,List.any_cons];have d:=h p (B2 ..);cases a:Lib.hasPrefix D p
  ·have:jB D 0 p=0:=by unfold jB;rw[B5 (by simp[a])]
   rw[this,c (λq e=>h q (y4 _ e))];simp
  ·have:jB D 0 p=L:=by unfold jB;rw[E1 ⟨rfl,a⟩,d]
   rw[this,JC D ps L b];simp
theorem zay:xp=W7++yZ.map (λc=>[c]):=by decide
theorem zkf(D:Bs):W7.any (Lib.hasPrefix D)=W7.contains (D.take 2):=by
 rcases D with _|⟨a,_|⟨b,r⟩⟩
 ·decide
 ·simp[W7,Lib.hasPrefix,List.isPrefixOf]
 ·rw[F8]
  simp[W7,Lib.hasPrefix,List.isPrefixOf];simp only[eq_comm]
theorem zkb(D:Bs):(yZ.map (λc=>[c])).any (Lib.hasPrefix D)=(yZ.contains (D.headD 0)&&decide (0<D.length)):=by
 rcases D with _|⟨a,r⟩
 ·decide
 ·rw[F8]
  simp[Lib.hasPrefix,List.isPrefixOf]
theorem zar(D:Bs):qg xp D=O0 D:=by
 unfold qg;rw[zay,List.foldl_append,Yt D 2 (by decide) W7 (by decide),zkf];unfold O0;cases h:W7.contains (D.take 2)
 ·simp only[C6,if_false]
  rw[Yt D 1 (by decide) _ (by simp),zkb]
 ·simp only[if_true]
  exact JC D _ 2 (by decide)
def Yn(j:Nat):ByteArray:=⟨(xp.getD j []).toArray⟩
def XB:Array Value:=(xp.map λx=>Value.string ⟨x.toArray⟩).toArray
theorem zbM(j:Nat)(h:j<23):XB[j]?=some (.string (Yn j)):=by
 have:j<xp.length:=h;simp[XB,Yn,this,List.getD_eq_getElem?_getD]
theorem zdp(w:World)(a:Lib.TabIs prog w "strings.asciiSpace" .u8 Lib.asciiSpaceTab):
 Calls prog 114 #[.string ⟨#[60,61,32,62,61,32,61,61,32,33,61,32,38,38,32,124,124,32,43,32,45,32,42,32,47,32,37,32,60,32,62,32,61,32,33,32,40,32,41,32,123,32,125,32,44,32,59,32,58,32,64]⟩] w λe w'=>e=.returned (.slice (some ⟨w.heap.size,0,none⟩) 23 23)/\w.alloc (.cells XB 9)=w':=by
 refine(Tryz.strings_Fields _ w (by decide) (ascii_of_all (by decide)) a).mono ?_;rintro e w' ⟨rfl,rfl⟩;have b:Lib.fields (ByteArray.data ⟨#[60,61,32,62,61,32,61,61,32,33,61,32,38,38,32,124,124,32,43,32,45,32,42,32,47,32,37,32,60,32,62,32,61,32,33,32,40,32,41,32,123,32,125,32,44,32,59,32,58,32,64]⟩).toList=xp:=by decide+kernel
 rw[b];exact⟨rfl,rfl⟩
theorem zcE(s:ByteArray)(k j:Nat)(w:World)(t:Bool)(a:Lib.hasPrefix (s.data.toList.drop k) (xp.getD j [])=t):
 Calls prog 115 #[.string (s.extract k s.size),.string (Yn j)] w λe w'=>e=.returned (.bool t)/\w=w':=by
 refine(Tryz.strings_HasPrefix _ _ w).mono ?_;rintro e w' ⟨rfl,rfl⟩;refine⟨?_,rfl⟩;rw[jp,<-a];rfl
theorem zb0(j:Nat):(Yn j).size=(xp.getD j []).length:=by simp[Yn,ByteArray.size]
theorem yj(D:Bs)(j:Nat)(h:j<23):qg (xp.take (j+1)) D=jB D (qg (xp.take j) D) (xp.getD j []):=by
 have a:j<xp.length:=h;unfold qg;rw[List.take_succ_eq_append_getElem a,List.foldl_append,List.getD_eq_getElem?_getD,y8 a];rfl
theorem St.zjD{w a:World}{b:Nat}{c:Array Value}{v:Value}{l:List Wd}(h:St w a b c v l)(j:Nat)(u:Value):St w (a.setCell ⟨b,j,none⟩ u) b (c.setIfInBounds j u) v l:=
 ⟨X2 h.yD _ h.ne,h.O7.setCell (p:=⟨b,j,none⟩) h.le _,by have:=h.K3;simp[World.setCell,Array.getElem?_modify,this],h.ne,h.le⟩
theorem St.alloc{w a:World}{b:Nat}{c:Array Value}{v:Value}{l:List Wd}(h:St w a b c v l)(o:Obj):St w (a.alloc o) b c v l:=
 ⟨h.yD.alloc o,h.O7.alloc h.O7.size o,(Below.heap_alloc a o b (zc5 h.K3)).trans h.K3,h.ne,h.le⟩
theorem zb2(s:ByteArray)(w:World)(r:Option Nat×List Wd)(hs:s.size<=4000)(hm:U2 w)(hr:xa s 0 [] r):
 Calls prog 64 #[.string s] w λe w'=> ∃v,e=.returned (.tuple #[v,.int .i64 (zdn r),.int .i64 (zaK r)])/\w'.ownsRow w.heap.size 158 3 v r.2.length (P9 r.2)/\Below w.heap.size w w':=by
 have HR:=zh hr;clear hr;have HG:=zh hm;clear hm
 go_enter func64,ntmps64
 go_wp2_with fail
 go_loopw[5,6] (λv i wr=> ∃(k:Nat)(l:List Wd),k<=s.size/\i=.int .i64 k/\l.length<=k/\wr.ownsRow w.heap.size 158 3 v l.length (P9 l)/\Below w.heap.size w wr/\Hid (xa s k l r)) (λ_ i _=>s.size-(intOf i).toNat)
 case atStart=>exact⟨0,[],E2 _,rfl,E2 _,G5 _ _ _ _,y7 _ _,HR⟩
 case round=>
  obtain⟨k,l,hk,rfl,hl,O,hb,P⟩:=hrel;have b3:=hb.size
  by_cases f:k<s.size
  case neg=>
   have HE:=zh (P.out.zbF (by omega))
   go_wp2_with fail
   go_ret3
   exact⟨_,by rw[HE.out];rfl,by rw[HE.out];exact O,hb⟩
  obtain⟨m,hm⟩: ∃m,L1 T0 (s.data.toList.drop k)=m:=⟨_,rfl⟩;have c8:k+m<=s.size:=by have:=XH T0 (s.data.toList.drop k);rw[hm,I6,P7]at this;omega
  have Q:=zh hm;clear hm
  go_wp2_with fail
  refine(ziZ s k _).mono ?_;rintro e w1 ⟨⟨y,rfl,hy⟩,X⟩;rw[Q.out]at hy;have c9:((s.size-k:Nat):Int)-(y.size:Int)=(m:Int):=by omega
  have a2:Hid (St w (w1.alloc (.cells #[.int .i64 0,.string ⟨#[]⟩,.int .i64 k] 158)) w1.heap.size #[.int .i64 0,.string ⟨#[]⟩,.int .i64 k] u5 l):=zh (St.start _ (K6 O X) (hb.trans (X.mono b3)));have b4:=zh X;clear X O hy
  go_wp2_with fail
  obtain⟨b,a8⟩: ∃b,b=w1.heap.size:=⟨_,rfl⟩;cases T:qD s[k]
  case true=>
   have a3:=zh (P.out.ZY f (zaS f T));refine(ziW s k f true _ T).mono ?_;rintro e w2 ⟨rfl,R⟩;have C:=zh (a2.out.next R);clear R T
   go_wp2_with fail
   go_roundw
   case rel=>exact⟨k+1,l,by omega,by go_num,by omega,C.out.yD,C.out.O7,a3⟩
   case measure=>simp[intOf];omega
  refine(ziW s k f false _ T).mono ?_;rintro e w2 ⟨rfl,R⟩;have C:=zh (a2.out.next R);clear R;rw[<-a8]at C|-
  clear a8 a2 b4
  by_cases hH:s[k]=35
  ·have a3:=zh (P.out.ZY f (QW f T hH))
   have e4:(((s.extract k s.size)[0]'(by simp;omega)).toNat==35)=true:=by
    have:=qZ (s.extract k s.size) (by simp;omega);rw[jp,zQ s k f,hH]at this;rw[<-this];rfl
   have b5:((((s.extract k s.size)[0]'(by simp;omega)).toNat:Int)==35)=true:=by rw[beq_iff_eq]at e4|-;omega
   clear e4 hH T
   go_wp2_with fail
   refine(zi3 s k _ hs (HG.out.to C.out.O7).maxLen).mono ?_;rintro e I ⟨⟨a,bb,c,rfl,ha⟩,F⟩;have d:=zh (C.out.next F);have E:Hid (xa s (k+a.size) l r):=zh (by rw[ha];exact a3.out);have d0:k+a.size<=s.size:=by have:=XH (λc=>c !=10) (s.data.toList.drop k);rw[I6,P7]at this;omega
   have c7:0<a.size:=by
    rw[ha,qe s (λc=>c !=10) k f ?_]
    ·omega
    ·have:=b5;rw[beq_iff_eq]at this
     have h2:=qZ (s.extract k s.size) (by simp;omega);rw[jp,zQ s k f]at h2;rw[bne_iff_ne,h2];intro h3;rw[h3]at this;revert this;decide
   clear F ha
   go_wp2_with fail
   go_roundw
   case rel=>exact⟨k+a.size,l,by omega,by go_num,by omega,d.out.yD,d.out.O7,E⟩
   case measure=>simp[intOf];omega
  have e4:((((s.extract k s.size)[0]'(by simp;omega)).toNat:Int)==35)=false:=by
   have:=qZ (s.extract k s.size) (by simp;omega);rw[jp,zQ s k f]at this;rw[B0,<-this];intro h;exact hH (UInt8.toNat_inj.1 (show s[k].toNat=35 by omega))
  cases U:qm s[k]
  case true=>
   have V:=zh (Xc f U);have b6:0<m:=by have:=qe s T0 k f (by simp[T0,U]);rw[Q.out]at this;omega
   have HD:=zh U;clear U T hH
   go_wp2_with fail
   refine(zjg s k f true _ HD.out).mono ?_;rintro e I ⟨rfl,F⟩;have d:=zh (C.out.next F);clear F;have J:Hid (((s.extract k s.size).extract 0 m).data.toList=(s.data.toList.drop k).take m):=zh (XN s k m);have a9:((s.extract k s.size).extract 0 m).size=m:=by simp;omega
   have K:=zh a9;clear a9
   go_wp2_with fail
   refine(ze9 ((s.extract k s.size).extract 0 m) (by rw[K.out];omega) (by rw[K.out];omega) _ (HG.out.to d.out.O7).zaW (by have:=(HG.out.to d.out.O7).Jv;omega)).mono ?_;rintro e N ⟨⟨u,ev,rfl,hu,a4⟩,b0⟩;have t:=zh (d.out.next b0);clear b0
   rcases a4 with⟨b1,rfl⟩|⟨b2,te,pe,rfl⟩
   case inr=>
    have L:U4 ((s.data.toList.drop k).take m)=false:=by
     cases L:U4 ((s.data.toList.drop k).take m)
     ·rfl
     ·exfalso
      obtain⟨u',h1,_⟩:=zdY _ (by intro h;have:=K.out;rw[<-P7,J.out,h]at this;simp at this;omega) L;exact b2 u' (by rw[J.out];exact h1)
    have B:=zh (P.out.yC f (by rw[V.out,Q.out,L];rfl));clear b2 L
    go_wp2_with fail
    go_quiet (fail)
    go_wp2_with fail
    go_ret3
    exact⟨_,by rw[B.out];rfl,by rw[B.out];exact G5 _ _ _ _,J9 t.out.O7 _⟩
   case inl=>
    have b7:=zh b1;clear b1;have HU:=zh hu;clear hu;have HP:=zh (HG.out.to t.out.O7).pow
    by_cases D:Lib.decDigits u=(s.data.toList.drop k).take m/\m<=12
    case pos=>
     obtain⟨Y,b8⟩:=D;have L:U4 ((s.data.toList.drop k).take m)=true:=by
      rw[<-Y];apply zhJ;rw[Y,<-J.out,P7,K.out];exact b8
     have E:Hid (xa s (k+m) (l++[⟨1,s.extract k (k+m),k⟩]) r):=zh (by
      have:=P.out.jr f (c:=1) (n:=m) (by rw[V.out,Q.out,L];rfl);exact this)
     have a1:((zfi u).toList==((s.extract k s.size).extract 0 m).toList)=true:=by
      rw[beq_iff_eq,E0,E0,J.out];exact Y
     clear L Y
     go_wp2_with fail
     have b9:m<=s.size-k:=by omega
     have i0:(0:Int)<=(m:Int):=by omega
     have i1:(m:Int)<=((s.size-k:Nat):Int):=by omega
     have i2:((0:Int)<=(m:Int)/\(m:Int)<=((s.size-k:Nat):Int)):=⟨i0,i1⟩
     go_region_held3 (λ_=>True) (trivial) (first|(go_at_call 112;refine(zdP u HU.out _ (by exact HP.out)).mono ?_;rintro e W ⟨rfl,G⟩))
     have z:=zh (t.out.next (jy G));clear G;have c0:W.cell? ⟨b,0,none⟩=some (.int .i64 0):=z.out.cell 0;have c1:W.cell? ⟨b,1,none⟩=some (.string ⟨#[]⟩):=z.out.cell 1;have c2:W.cell? ⟨b,2,none⟩=some (.int .i64 k):=z.out.cell 2;have f0:W.frozen? ⟨b,0,none⟩=false:=z.out.xF 0;have f1:W.frozen? ⟨b,1,none⟩=false:=z.out.xF 1
     go_wp2_with(at_builtin;go_must(refine M7 Z7 rfl _ _ rfl w.heap.size _ l.length (P9 l) rfl ((X2 (X2 z.out.yD _ z.out.ne) _ z.out.ne).alloc _) W.heap.size 1 #[.int .i64 1,.string ((s.extract k s.size).extract 0 m),.int .i64 k] rfl (XK _ _ _ _ _) rfl (by simp[Value.oneCell']) (by omega) (by have:=z.out.O7.size;simp;omega) ?_);intro g a5 w9 A o _ _;have H:=L8 (((z.out.O7.setCell (p:=⟨b,0,none⟩) z.out.le _).setCell (p:=⟨b,1,none⟩) z.out.le _).alloc (by have:=z.out.O7.size;simp;omega) _) ((X2 (X2 z.out.yD _ z.out.ne) _ z.out.ne).alloc _) (y6 _) (by have:=z.out.O7.size;simp;omega) o;clear o)
     go_roundw
     case rel=>exact⟨k+m,l++[⟨1,s.extract k (k+m),k⟩],by omega,by go_num,by simp;omega,by rw[R6,z9,<-Xj];exact A,H,E⟩
     case measure=>simp[intOf];omega
    case neg=>
     have L:U4 ((s.data.toList.drop k).take m)=false:=by
      cases L:U4 ((s.data.toList.drop k).take m)
      ·rfl
      ·exfalso
       obtain⟨u',h1,h2⟩:=zdY _ (by intro h;have:=K.out;rw[<-P7,J.out,h]at this;simp at this;omega) L;rw[<-J.out,b7.out]at h1;cases h1;have h3:=(xB _ L).1;rw[<-J.out,P7,K.out]at h3;exact D ⟨h2,h3⟩
     have B:=zh (P.out.yC f (by rw[V.out,Q.out,L];rfl));clear L;have b9:m<=s.size-k:=by omega
     have i0:(0:Int)<=(m:Int):=by omega
     have i1:(m:Int)<=((s.size-k:Nat):Int):=by omega
     by_cases Z:Lib.decDigits u=(s.data.toList.drop k).take m
     ·have d1:12<m:=by
       rcases E5 12 m with h|h
       ·exact h
       ·exact I2 ⟨Z,h⟩ D
      have a1:((zfi u).toList==((s.extract k s.size).extract 0 m).toList)=true:=by
       rw[beq_iff_eq,E0,E0,J.out];exact Z
      clear Z D
      go_wp2_with fail
      go_region_held3 (λ_=>True) (trivial) (first|(go_at_call 112;refine(zdP u HU.out _ (by exact HP.out)).mono ?_;rintro e W ⟨rfl,G⟩))
      have a6:=zh (t.out.O7.trans ((jy G).mono t.out.O7.size));clear G
      go_wp2_with fail
      go_ret3
      exact⟨_,by rw[B.out];rfl,by rw[B.out];exact G5 _ _ _ _,a6.out⟩
     ·have a1:((zfi u).toList==((s.extract k s.size).extract 0 m).toList)=false:=by
       rw[B0,E0,E0,J.out];exact Z
      clear Z D
      go_wp2_with fail
      first|(go_region_with (go_at_call 112;refine(zdP u HU.out _ (by exact HP.out)).mono ?_;rintro e W ⟨rfl,G⟩))|fail
      all_goals have a6:=zh (t.out.O7.trans ((jy G).mono t.out.O7.size))
      all_goals clear G
      all_goals go_wp2_with fail
      all_goals go_ret3
      all_goals exact⟨_,by rw[B.out];rfl,by rw[B.out];exact G5 _ _ _ _,a6.out⟩
  cases M:xY s[k]
  case true=>
   have V:=zh (Xm f M);have b6:0<m:=by have:=qe s T0 k f (by simp[T0,M]);rw[Q.out]at this;omega
   have J:Hid (((s.extract k s.size).extract 0 m).data.toList=(s.data.toList.drop k).take m):=zh (XN s k m);have HA:Hid (((s.extract k s.size).extract 0 m).data.toList.all T0=true):=zh (by
    rw[J.out,<-Q.out];unfold L1;exact zeP T0 _)
   have HD:=zh U;clear U M T hH
   go_wp2_with fail
   refine(zjg s k f false _ HD.out).mono ?_;rintro e I ⟨rfl,F⟩;have d:=zh (C.out.next F);clear F;cases hK:zX ((s.data.toList.drop k).take m)
   case true=>
    have E:Hid (xa s (k+m) (l++[⟨3,s.extract k (k+m),k⟩]) r):=zh (P.out.jr f (c:=3) (n:=m) (by rw[V.out,Q.out,hK];rfl));have HK:Hid (zX ((s.extract k s.size).extract 0 m).data.toList=true):=zh (by rw[J.out];exact hK);clear hK
    go_wp2_with fail
    refine(zaY _ true _ HA.out HK.out (HG.out.to d.out.O7).maxLen).mono ?_;rintro e N ⟨rfl,rfl⟩;have c0:I.cell? ⟨b,0,none⟩=some (.int .i64 0):=d.out.cell 0;have c1:I.cell? ⟨b,1,none⟩=some (.string ⟨#[]⟩):=d.out.cell 1;have c2:I.cell? ⟨b,2,none⟩=some (.int .i64 k):=d.out.cell 2;have f0:I.frozen? ⟨b,0,none⟩=false:=d.out.xF 0;have f1:I.frozen? ⟨b,1,none⟩=false:=d.out.xF 1
    go_wp2_with(at_builtin;go_must(refine M7 Z7 rfl _ _ rfl w.heap.size _ l.length (P9 l) rfl ((X2 (X2 d.out.yD _ d.out.ne) _ d.out.ne).alloc _) I.heap.size 1 #[.int .i64 3,.string ((s.extract k s.size).extract 0 m),.int .i64 k] rfl (XK _ _ _ _ _) rfl (by simp[Value.oneCell']) (by omega) (by have:=d.out.O7.size;simp;omega) ?_);intro g a5 w9 A o _ _;have H:=L8 (((d.out.O7.setCell (p:=⟨b,0,none⟩) d.out.le _).setCell (p:=⟨b,1,none⟩) d.out.le _).alloc (by have:=d.out.O7.size;simp;omega) _) ((X2 (X2 d.out.yD _ d.out.ne) _ d.out.ne).alloc _) (y6 _) (by have:=d.out.O7.size;simp;omega) o;clear o)
    go_roundw
    case rel=>exact⟨k+m,l++[⟨3,s.extract k (k+m),k⟩],by omega,by go_num,by simp;omega,by rw[R6,z9,<-Xj];exact A,H,E⟩
    case measure=>simp[intOf];omega
   case false=>
    have HK:Hid (zX ((s.extract k s.size).extract 0 m).data.toList=false):=zh (by rw[J.out];exact hK)
    by_cases d2:16<m
    ·have B:=zh (P.out.yC f (by rw[V.out,Q.out,hK,B5 (by simp),E1 (by simp;omega)]))
     clear hK
     go_wp2_with fail
     refine(zaY _ false _ HA.out HK.out (HG.out.to d.out.O7).maxLen).mono ?_;rintro e N ⟨rfl,rfl⟩
     go_wp2_with fail
     go_ret3
     exact⟨_,by rw[B.out];rfl,by rw[B.out];exact G5 _ _ _ _,d.out.O7⟩
    ·have E:Hid (xa s (k+m) (l++[⟨2,s.extract k (k+m),k⟩]) r):=zh (P.out.jr f (c:=2) (n:=m) (by rw[V.out,Q.out,hK,B5 (by simp),B5 (by simp;omega)]))
     clear hK
     go_wp2_with fail
     refine(zaY _ false _ HA.out HK.out (HG.out.to d.out.O7).maxLen).mono ?_;rintro e N ⟨rfl,rfl⟩;have c0:I.cell? ⟨b,0,none⟩=some (.int .i64 0):=d.out.cell 0;have c1:I.cell? ⟨b,1,none⟩=some (.string ⟨#[]⟩):=d.out.cell 1;have c2:I.cell? ⟨b,2,none⟩=some (.int .i64 k):=d.out.cell 2;have f0:I.frozen? ⟨b,0,none⟩=false:=d.out.xF 0;have f1:I.frozen? ⟨b,1,none⟩=false:=d.out.xF 1
     go_wp2_with(at_builtin;go_must(refine M7 Z7 rfl _ _ rfl w.heap.size _ l.length (P9 l) rfl ((X2 (X2 d.out.yD _ d.out.ne) _ d.out.ne).alloc _) I.heap.size 1 #[.int .i64 2,.string ((s.extract k s.size).extract 0 m),.int .i64 k] rfl (XK _ _ _ _ _) rfl (by simp[Value.oneCell']) (by omega) (by have:=d.out.O7.size;simp;omega) ?_);intro g a5 w9 A o _ _;have H:=L8 (((d.out.O7.setCell (p:=⟨b,0,none⟩) d.out.le _).setCell (p:=⟨b,1,none⟩) d.out.le _).alloc (by have:=d.out.O7.size;simp;omega) _) ((X2 (X2 d.out.yD _ d.out.ne) _ d.out.ne).alloc _) (y6 _) (by have:=d.out.O7.size;simp;omega) o;clear o)
     go_roundw
     case rel=>exact⟨k+m,l++[⟨2,s.extract k (k+m),k⟩],by omega,by go_num,by simp;omega,by rw[R6,z9,<-Xj];exact A,H,E⟩
     case measure=>simp[intOf];omega
  have c3:m=0:=by
   rw[<-Q.out,Xq s T0 k f (by simp[T0,U,M])]
  obtain⟨n,hn⟩: ∃n,O0 (s.data.toList.drop k)=n:=⟨_,rfl⟩;have V:=zh (Qi f T hH U M hn);have d3:n<=s.size-k:=by have:=(yt (s.data.toList.drop k)).1;rw[hn,I6,P7]at this;exact this
  have HN:=zh hn;have HD:=zh U;clear U M T hH hn;subst c3;have c0:w2.cell? ⟨b,0,none⟩=some (.int .i64 0):=C.out.cell 0;have f0:w2.frozen? ⟨b,0,none⟩=false:=C.out.xF 0;have c4:=zh (HG.out.to (C.out.zjD 0 (.int .i64 4)).O7).spc
  go_wp2_with fail
  refine(zdp _ c4.out).mono ?_;rintro e N ⟨rfl,a7⟩;have t:Hid (St w N b #[.int .i64 4,.string ⟨#[]⟩,.int .i64 k] u5 l):=zh (by rw[<-a7];exact(C.out.zjD 0 (.int .i64 4)).alloc _);obtain⟨q,Z⟩: ∃q,q=(w2.setCell ⟨b,0,none⟩ (.int .i64 4)).heap.size:=⟨_,rfl⟩;have HQ:Hid (N.heap[q]?=some (.cells XB 9 (0,0))):=zh (by rw[<-a7,Z];exact y9 _ _);rw[<-Z];clear a7 Z c0 f0
  go_wp2_with fail
  go_loop [38,8] (λi x=> ∃j c:Nat,j<=23/\i=.int .i64 j/\x=.int .i64 c/\Hid (qg (xp.take j) (s.data.toList.drop k)=c)) (λi _=>23-(intOf i).toNat)
  case atStart=>exact⟨0,0,by omega,rfl,rfl,zh rfl⟩
  case round=>
   obtain⟨j,c,hj,rfl,rfl,HF⟩:=hrel
   by_cases a0:j<23
   ·have cj:N.cell? ⟨q,j,none⟩=some (.string (Yn j)):=by rw[y5 HQ.out];exact zbM j a0
    by_cases h0:c=0
    ·subst h0
     cases hp:Lib.hasPrefix (s.data.toList.drop k) (xp.getD j [])
     ·have S:Hid (qg (xp.take (j+1)) (s.data.toList.drop k)=0):=zh (by rw[yj _ j a0,HF.out];unfold jB;rw[B5 (by rw[hp];simp)])
      have HP:=zh hp;clear hp
      go_wp2_with fail
      refine(zcE s k j _ false HP.out).mono ?_;rintro e W ⟨rfl,rfl⟩
      go_wp2_with fail
      go_round
      case rel=>exact⟨j+1,0,by omega,by go_num,rfl,S⟩
      case measure=>simp[intOf];omega
     ·have S:Hid (qg (xp.take (j+1)) (s.data.toList.drop k)=(Yn j).size):=zh (by rw[yj _ j a0,HF.out];unfold jB;rw[E1 ⟨rfl,hp⟩,zb0])
      have HP:=zh hp;clear hp
      go_wp2_with fail
      refine(zcE s k j _ true HP.out).mono ?_;rintro e W ⟨rfl,rfl⟩
      go_wp2_with fail
      go_round
      case rel=>exact⟨j+1,(Yn j).size,by omega,by go_num,rfl,S⟩
      case measure=>simp[intOf];omega
    ·have S:Hid (qg (xp.take (j+1)) (s.data.toList.drop k)=c):=zh (by rw[yj _ j a0,HF.out];unfold jB;rw[B5 (λh=>h0 h.1)])
     have c5:((c:Int)==0)=false:=by rw[B0];omega
     clear h0
     go_wp2_with fail
     go_round
     case rel=>exact⟨j+1,c,by omega,by go_num,rfl,S⟩
     case measure=>simp[intOf];omega
   ·obtain rfl:j=23:=by omega
    have c6:c=n:=by rw[<-HF.out,<-HN.out];exact zar _
    subst c6
    by_cases h0:c=0
    ·subst h0
     have B:=zh (P.out.yC f (by rw[V.out];rfl))
     go_wp2_with fail
     go_ret3
     exact⟨_,by rw[B.out];rfl,by rw[B.out];exact G5 _ _ _ _,t.out.O7⟩
    ·have E:Hid (xa s (k+c) (l++[⟨4,s.extract k (k+c),k⟩]) r):=zh (P.out.jr f (c:=4) (n:=c) (by rw[V.out,B5 h0]))
     have c5:((c:Int)==0)=false:=by rw[B0];omega
     have h1:1<=c:=by omega
     clear h0;have c0:N.cell? ⟨b,0,none⟩=some (.int .i64 4):=t.out.cell 0;have c1:N.cell? ⟨b,1,none⟩=some (.string ⟨#[]⟩):=t.out.cell 1;have c2:N.cell? ⟨b,2,none⟩=some (.int .i64 k):=t.out.cell 2;have f1:N.frozen? ⟨b,1,none⟩=false:=t.out.xF 1
     go_wp2_with(at_builtin;go_must(refine M7 Z7 rfl _ _ rfl w.heap.size _ l.length (P9 l) rfl ((X2 t.out.yD _ t.out.ne).alloc _) N.heap.size 1 #[.int .i64 4,.string ((s.extract k s.size).extract 0 c),.int .i64 k] rfl (zez _ _ _ _) rfl (by simp[Value.oneCell']) (by omega) (by have:=t.out.O7.size;simp;omega) ?_);intro g a5 w9 A o _ _;have H:=L8 ((t.out.O7.setCell (p:=⟨b,1,none⟩) t.out.le _).alloc (by have:=t.out.O7.size;simp;omega) _) ((X2 t.out.yD _ t.out.ne).alloc _) (y6 _) (by have:=t.out.O7.size;simp;omega) o;clear o)
     go_roundw
     case rel=>exact⟨k+c,l++[⟨4,s.extract k (k+c),k⟩],by omega,by go_num,by simp;omega,by rw[R6,z9,<-Xj];exact A,H,E⟩
     case measure=>simp[intOf];omega
end
section
open Go.Shelf
def Qp(s:ByteArray)(p e:Int)(ws:List Wd):Prop:=
 (4000<s.size/\p=0/\e=2/\ws=[])\/(s.size<=4000/\ ∃r,xa s 0 [] r/\p=zdn r/\e=zaK r/\ws=r.2)
theorem Tw.xa.yh{s:ByteArray}{k:Nat}{l:List Wd}{r:Option Nat×List Wd}(h:xa s k l r):l.length<=k->k<=s.size->(∀x∈l,x.O9.size<=s.size)->r.2.length<=s.size/\ ∀x∈r.2,x.O9.size<=s.size:=by
 induction h with
 |done e=>intro j m f;exact⟨by simp;omega,f⟩
 |yH _ _=>intro j m f;exact⟨by simp,by simp⟩
 | @skip i n l r j m f o=>
   intro a b c
   rcases E5 s.size (i+n)with p|d
   ·cases f with
    |done e=>omega
    |skip h=>omega
    |zq h=>omega
    |yH h=>omega
   ·exact o (by omega) d c
 | @zq i k n l r j m f o=>
   intro a b c;have q:=YU j m
   rcases E5 s.size (i+n)with p|d
   ·cases f with
    |done e=>omega
    |skip h=>omega
    |zq h=>omega
    |yH h=>omega
   ·refine o (by simp;omega) d λx g=>?_
    rcases List.mem_append.1 g with g|g
    ·exact c x g
    ·simp at g;subst g;simp;omega
theorem Qp.yh{s:ByteArray}{p e:Int}{ws:List Wd}(h:Qp s p e ws):ws.length<=4000/\ ∀x∈ws,x.O9.size<=4000:=by
 rcases h with⟨_,_,_,rfl⟩|⟨c,r,d,_,_,rfl⟩
 ·exact⟨by simp,by simp⟩
 ·obtain⟨a,b⟩:=d.yh (by simp) (by omega) (by simp)
  exact⟨by omega,λx f=>C4 (b x f) c⟩
theorem zfg(s:ByteArray)(w:World)(p e:Int)(ws:List Wd)(hs:s.size<=maxLen)(b:U2 w)(a:Qp s p e ws):
 Calls prog 50 #[.string s] w λx w'=>(∃v,x=.returned (.tuple #[v,.int .i64 p,.int .i64 e])/\jw w' w'.heap.size v ws)/\Below w.heap.size w w':=by
 rcases a with⟨c,rfl,rfl,rfl⟩|⟨c,r,a,rfl,rfl,rfl⟩
 ·unfold maxLen at hs
  go_enter func50,ntmps50
  go_wp2_with fail
  go_ret3
  exact⟨⟨_,rfl,.inl ⟨rfl,rfl⟩⟩,y7 _ _⟩
 ·refine(zaz s w r c b.maxLen (by have:=b.Jv;omega) a).mono ?_
  rintro x w' ⟨v,rfl,d,f⟩;exact⟨⟨v,rfl,jw.ql d⟩,f⟩
theorem zeQ(s:ByteArray)(w:World)(p e:Int)(ws:List Wd)(hs:s.size<=maxLen)(c:U2 w)(a:Qp s p e ws):
 Calls prog 64 #[.string s] w λx w'=>(∃v,x=.returned (.tuple #[v,.int .i64 p,.int .i64 e])/\jw w' w'.heap.size v ws)/\Below w.heap.size w w':=by
 rcases a with⟨b,rfl,rfl,rfl⟩|⟨b,r,a,rfl,rfl,rfl⟩
 ·unfold maxLen at hs
  go_enter func64,ntmps64
  go_wp2_with fail
  go_ret3
  exact⟨⟨_,rfl,.inl ⟨rfl,rfl⟩⟩,y7 _ _⟩
 ·refine(zb2 s w r b c a).mono ?_
  rintro x w' ⟨v,rfl,d,f⟩;exact⟨⟨v,rfl,jw.ql d⟩,f⟩
end
end Go.Proofs.YtalgmjmibamdfaaGreatDoor
namespace Go.Proofs.YtalgmjmibamdfaaGreatDoor
open Go.RowKit Tw
inductive Ex where
 |mk (N4 n:Int) (O9:ByteArray) (args:List Ex) (pos:Int)
instance :Inhabited Ex:=⟨.mk 0 0 ⟨#[]⟩ [] 0⟩
namespace Ex
def N4:Ex->Int|.mk k _ _ _ _=>k
def n:Ex->Int|.mk _ n _ _ _=>n
def O9:Ex->ByteArray|.mk _ _ t _ _=>t
def args:Ex->List Ex|.mk _ _ _ a _=>a
def pos:Ex->Int|.mk _ _ _ _ p=>p
end Ex
inductive Sm where
 |mk (N4:Int) (L6:ByteArray) (a:Ex) (J7 Q7:List Sm) (pos:Int)
namespace Sm
def N4:Sm->Int|.mk k _ _ _ _ _=>k
def L6:Sm->ByteArray|.mk _ n _ _ _ _=>n
def a:Sm->Ex|.mk _ _ a _ _ _=>a
def J7:Sm->List Sm|.mk _ _ _ b _ _=>b
def Q7:Sm->List Sm|.mk _ _ _ _ e _=>e
def pos:Sm->Int|.mk _ _ _ _ _ p=>p
end Sm
structure Fn where
 L6:ByteArray
 J3:List ByteArray
 O6:List Int
 out:Int
 J7:List Sm
 pos:Int
def N2(ws:List Wd)(i en:Nat):Nat:=match ws[i]? with|some x=>x.pos|none=>en
def M0(ws:List Wd)(i:Nat)(s:ByteArray):Bool:=match ws[i]? with|some x=>x.O9.toList==s.toList|none=>false
def P8(ws:List Wd)(i:Nat):Bs:=match ws[i]? with|some x=>x.O9.data.toList|none=>[]
def sb(l:Bs):ByteArray:=⟨l.toArray⟩
def lv(s:Bs):Nat:=
 if s=[124,124]then 1 else if s=[38,38]then 2
 else if s=[60]\/s=[60,61]\/s=[62]\/s=[62,61]\/s=[61,61]\/s=[33,61]then 3
 else if s=[43]\/s=[45]then 4 else if s=[42]\/s=[47]\/s=[37]then 5 else 0
def O8(ws:List Wd)(i:Nat):Nat:=match ws[i]? with|some x=>x.N4|none=>0
def L7(ws:List Wd)(i:Nat):ByteArray:=match ws[i]? with|some x=>x.O9|none=>⟨#[]⟩
def Y7(ws:List Wd)(i:Nat):Nat:=match ws[i]? with|some x=>lv x.O9.data.toList|none=>0
def Zu(s:ByteArray):Int:=(Lib.atoi s.data.toList).getD 0
def ZO(x:Ex)(a:Value):List Value:=[.int .i64 x.N4,.int .i64 x.n,.string x.O9,a,.int .i64 x.pos]
def XC(s:Sm)(b c d:Value):List Value:=[.int .i64 s.N4,.string s.L6,.int .i64 s.a.N4,.int .i64 s.a.n,.string s.a.O9,b,.int .i64 s.a.pos,c,d,.int .i64 s.pos]
def ZM(f:Fn)(a b c:Value):List Value:=[.string f.L6,a,b,.int .i64 f.out,c,.int .i64 f.pos]
def xR(w:World)(g a:Nat)(l:List Value):Prop:= ∀j u,l[j]?=some u->w.cell? ⟨g,a+j,none⟩=some u
inductive O2(w:World)(F:Nat->Prop):Value->List Ex->Prop
 |nil (a:Option Addr) (c:Nat):O2 w F (.slice a 0 c) []
 |row (g off cap:Nat) (l:List Ex) (vs:Nat->Value) (hF:F g) (hg:g<w.heap.size) (hc: ∀k x,l[k]?=some x->xR w g (off+k*5) (ZO x (vs k)))
  (hr: ∀k x,l[k]?=some x->O2 w F (vs k) x.args):O2 w F (.slice (some ⟨g,off,none⟩) l.length cap) l
inductive N0(w:World)(F:Nat->Prop):Value->List Sm->Prop
 |nil (a:Option Addr) (c:Nat):N0 w F (.slice a 0 c) []
 |row (g off cap:Nat) (l:List Sm) (va vb ve:Nat->Value) (hF:F g) (hg:g<w.heap.size) (hc: ∀k x,l[k]?=some x->xR w g (off+k*10) (XC x (va k) (vb k) (ve k)))
  (ha: ∀k x,l[k]?=some x->O2 w F (va k) x.a.args) (hb: ∀k x,l[k]?=some x->N0 w F (vb k) x.J7) (he: ∀k x,l[k]?=some x->N0 w F (ve k) x.Q7):
  N0 w F (.slice (some ⟨g,off,none⟩) l.length cap) l
def Zx(F F':Nat->Prop)(w w':World):Prop:= ∀g,F g->g<w.heap.size->F' g/\g<w'.heap.size/\w'.heap[g]?=w.heap[g]?
theorem xR.J0{w w':World}{g b:Nat}{l:List Value}(h:xR w g b l)(c:w'.heap[g]?=w.heap[g]?):xR w' g b l:=
 λj u d=>(E9 (a:=⟨g,b+j,none⟩) c).trans (h j u d)
theorem O2.J0{w w':World}{F F':Nat->Prop}(e:Zx F F' w w'){v:Value}{l:List Ex}(h:O2 w F v l):O2 w' F' v l:=by
 induction h with
 |nil a c=>exact .nil a c
 |row g b d l f i j m s n=>
  obtain⟨o,p,q⟩:=e g i j;exact .row g b d l f o p (λk x r=>(m k x r).J0 q) n
theorem N0.J0{w w':World}{F F':Nat->Prop}(j:Zx F F' w w'){v:Value}{l:List Sm}(h:N0 w F v l):N0 w' F' v l:=by
 induction h with
 |nil a c=>exact .nil a c
 |row g b d l m n o p q r s z A e f=>
  obtain⟨t,u,y⟩:=j g p q;exact .row g b d l m n o t u (λk x i=>(r k x i).J0 y) (λk x i=>(s k x i).J0 j) e f
def qJ(w:World)(F:Nat->Prop)(v:Value)(l:List ByteArray):Prop:=
 (∃a c,v=.slice a 0 c/\l=[])\/ ∃g b d,v=.slice (some ⟨g,b,none⟩) l.length d/\F g/\g<w.heap.size/\ ∀k s,l[k]?=some s->w.cell? ⟨g,b+k,none⟩=some (.string s)
def K9(w:World)(F:Nat->Prop)(v:Value)(l:List Int):Prop:=
 (∃a c,v=.slice a 0 c/\l=[])\/ ∃g b d,v=.slice (some ⟨g,b,none⟩) l.length d/\F g/\g<w.heap.size/\ ∀k s,l[k]?=some s->w.cell? ⟨g,b+k,none⟩=some (.int .i64 s)
def R0(w:World)(F:Nat->Prop)(v:Value)(l:List Fn):Prop:=
 (∃a c,v=.slice a 0 c/\l=[])\/ ∃g b d,∃e h i:Nat->Value,v=.slice (some ⟨g,b,none⟩) l.length d/\F g/\g<w.heap.size/\
  ∀k f,l[k]?=some f->xR w g (b+k*6) (ZM f (e k) (h k) (i k))/\qJ w F (e k) f.J3/\K9 w F (h k) f.O6/\N0 w F (i k) f.J7
inductive zU where
 |a (l:List Ex) (v:Value)|s (l:List Sm) (v:Value)|n (l:List ByteArray) (v:Value)|t (l:List Int) (v:Value)|f (l:List Fn) (v:Value)
def zU.At(w:World)(F:Nat->Prop):zU->Prop
 |.a l v=>O2 w F v l
 |.s l v=>N0 w F v l
 |.n l v=>qJ w F v l
 |.t l v=>K9 w F v l
 |.f l v=>R0 w F v l
section
variable {w w':World}{F F':Nat->Prop}{v:Value}
theorem qJ.J0{l:List ByteArray}(d:Zx F F' w w')(h:qJ w F v l):qJ w' F' v l:=by
 rcases h with h|⟨g,b,c,e,f,i,j⟩
 ·exact .inl h
 ·obtain⟨m,n,o⟩:=d g f i
  exact .inr ⟨g,b,c,e,m,n,λk s p=>(E9 (a:=⟨g,b+k,none⟩) o).trans (j k s p)⟩
theorem K9.J0{l:List Int}(d:Zx F F' w w')(h:K9 w F v l):K9 w' F' v l:=by
 rcases h with h|⟨g,b,c,e,f,i,j⟩
 ·exact .inl h
 ·obtain⟨m,n,o⟩:=d g f i
  exact .inr ⟨g,b,c,e,m,n,λk s p=>(E9 (a:=⟨g,b+k,none⟩) o).trans (j k s p)⟩
theorem R0.J0{l:List Fn}(a:Zx F F' w w')(h:R0 w F v l):R0 w' F' v l:=by
 rcases h with h|⟨g,b,c,d,e,i,j,m,n,o⟩
 ·exact .inl h
 ·obtain⟨p,q,r⟩:=a g m n
  refine .inr ⟨g,b,c,d,e,i,j,p,q,λk f s=>?_⟩;obtain⟨t,u,x,y⟩:=o k f s;exact⟨t.J0 r,u.J0 a,x.J0 a,y.J0 a⟩
theorem zU.At.J0(b:Zx F F' w w'){t:zU}(h:t.At w F):t.At w' F':=by
 cases t with
 |a=>exact O2.J0 b h
 |s=>exact N0.J0 b h
 |n=>exact qJ.J0 b h
 |t=>exact K9.J0 b h
 |f=>exact R0.J0 b h
end
theorem Q6{α:Type}(f:α->List Value)(c:Nat)(hf: ∀a,(f a).length=c): ∀(l:List α)(k:Nat)(a:α),l[k]?=some a-> ∀(j:Nat)(u:Value),(f a)[j]?=some u->(l.flatMap f)[k*c+j]?=some u:=by
 intro l
 induction l with
 |nil=>intro k a h;simp at h
 |cons b l e=>
  intro k a h j u d;simp only[List.flatMap_cons];cases k with
  |zero=>
   simp at h;subst h;have g:j<(f b).length:=by rcases E5 j (f b).length with h|h;exact h;rw[D6 h]at d;cases d
   rw[Nat.zero_mul,Nat.zero_add,List.getElem?_append_left g];exact d
  |succ k=>
   have:=e k a (by simpa using h) j u d;rw[List.getElem?_append_right (by rw[hf,Nat.succ_mul];omega),hf,show(k+1)*c+j-c=k*c+j by rw[Nat.succ_mul];omega];exact this
structure yz(α:Type)where
 cells:α->List Value
 qE:α->List zU
 Yb:List α->Value->zU
 nil: ∀w F,(Yb [] (.slice none 0 0)).At w F
 laid: ∀(w:World)(F:Nat->Prop)(g cap:Nat)(l:List α),F g->g<w.heap.size->(∀j u,(l.flatMap cells)[j]?=some u->w.cell? ⟨g,j,none⟩=some u)->(∀a∈l,∀t∈qE a,t.At w F)->(Yb l (.slice (some ⟨g,0,none⟩) l.length cap)).At w F
theorem yq{α β:Type}{l:List α}{f:α->β}{k:Nat}{x:β}(h:(l.map f)[k]?=some x): ∃a,l[k]?=some a/\f a=x:=by simpa[G3,Option.map_eq_some_iff]using h
def zK:yz (Ex×Value)where
 cells a:=ZO a.1 a.2
 qE a:=[.a a.1.args a.2]
 Yb l v:=.a (l.map (·.1)) v
 nil _ _:=.nil _ _
 laid w F g c l e f hc hk:=by
  have:=O2.row (w:=w) (F:=F) g 0 c (l.map (·.1)) (λk=>((l[k]?).map (·.2)).getD undef) e f
   (λk x d j u h=>by
    obtain⟨a,b,rfl⟩:=yq d;simpa using hc _ _ (Q6 _ 5 (λ_=>rfl) l k a b j u (by simpa[b]using h)))
   (λk x d=>by
    obtain⟨a,b,rfl⟩:=yq d;simpa[zU.At,b]using hk a (B7 b) _ (B2 ..))
  simpa[zU.At]using this
def jv:yz (Sm×Value×Value×Value)where
 cells a:=XC a.1 a.2.1 a.2.2.1 a.2.2.2
 qE a:=[.a a.1.a.args a.2.1,.s a.1.J7 a.2.2.1,.s a.1.Q7 a.2.2.2]
 Yb l v:=.s (l.map (·.1)) v
 nil _ _:=.nil _ _
 laid w F g c l d e hc hk:=by
  have:=N0.row (w:=w) (F:=F) g 0 c (l.map (·.1)) (λk=>((l[k]?).map (·.2.1)).getD undef) (λk=>((l[k]?).map (·.2.2.1)).getD undef) (λk=>((l[k]?).map (·.2.2.2)).getD undef) d e
   (λk x h j u f=>by
    obtain⟨a,b,rfl⟩:=yq h;simpa using hc _ _ (Q6 _ 10 (λ_=>rfl) l k a b j u (by simpa[b]using f)))
   (λk x h=>by
    obtain⟨a,b,rfl⟩:=yq h;simpa[zU.At,b]using hk a (B7 b) _ (B2 ..))
   (λk x h=>by
    obtain⟨a,b,rfl⟩:=yq h;simpa[zU.At,b]using hk a (B7 b) (.s a.1.J7 a.2.2.1) (by simp))
   (λk x h=>by
    obtain⟨a,b,rfl⟩:=yq h;simpa[zU.At,b]using hk a (B7 b) (.s a.1.Q7 a.2.2.2) (by simp))
  simpa[zU.At]using this
def V0:yz (Fn×Value×Value×Value)where
 cells a:=ZM a.1 a.2.1 a.2.2.1 a.2.2.2
 qE a:=[.n a.1.J3 a.2.1,.t a.1.O6 a.2.2.1,.s a.1.J7 a.2.2.2]
 Yb l v:=.f (l.map (·.1)) v
 nil _ _:=.inl ⟨_,_,rfl,rfl⟩
 laid w F g cap l d e h hk:=by
  refine .inr ⟨g,0,cap,(λk=>((l[k]?).map (·.2.1)).getD undef),(λk=>((l[k]?).map (·.2.2.1)).getD undef),(λk=>((l[k]?).map (·.2.2.2)).getD undef),by simp,d,e,λk f i=>?_⟩;obtain⟨a,b,rfl⟩:=yq i;have c:=hk a (B7 b);exact⟨λj u m=>by simpa using h _ _ (Q6 _ 6 (λ_=>rfl) l k a b j u (by simpa[b]using m)),by simpa[zU.At,b]using c (.n a.1.J3 a.2.1) (by simp),by simpa[zU.At,b]using c (.t a.1.O6 a.2.2.1) (by simp),by simpa[zU.At,b]using c (.s a.1.J7 a.2.2.2) (by simp)⟩
end Go.Proofs.YtalgmjmibamdfaaGreatDoor
