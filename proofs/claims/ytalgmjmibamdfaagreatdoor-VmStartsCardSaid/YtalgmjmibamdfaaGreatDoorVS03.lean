/- Merged. -/
import Derived.Test.YtalgmjmibamdfaaGreatDoorVS02
import Derived.Shelf.Unicode.PredsPay
import Derived.Deep.RegionHeld3
import Derived.Deep.DrawnRows
set_option linter.all false
set_option maxHeartbeats 8000000
set_option maxRecDepth 100000
namespace Go.Proofs.YtalgmjmibamdfaaGreatDoor
open Go.Proofs.Tryz
open Go.RowKit Tw
section
open Go.Shelf
structure St(w wK:World)(b:Nat)(cs:Array Value)(v:Value)(l:List Wd):Prop where
 yR:wK.ownsRow w.heap.size 158 3 v l.length (O6 l)
 N5:Below w.heap.size w wK
 J7:wK.heap[b]?=some (.cells cs 158 (0,0))
 ne:v.ownBlock≠some b
 le:w.heap.size<=b
theorem K1{w w':World}{base e size n:Nat}{v:Value}{xs:List Value}(h:w.ownsRow base e size v n xs)(a:Below w.heap.size w w'):w'.ownsRow base e size v n xs:=by
 refine h.kept (row:=none) ⟨a.os,a.tape,a.output,a.size,λk b _=>a.block k b⟩ ?_;cases c:v.ownBlock with
 |none=>exact .inl rfl
 |some k=>exact .inr (by simp)
theorem U3{w:World}{base e size n:Nat}{v:Value}{xs:List Value}(h:w.ownsRow base e size v n xs){p:Addr}(u:Value)(a:v.ownBlock≠some p.block):(w.setCell p u).ownsRow base e size v n xs:=by
 refine h.kept (row:=some p.block) ⟨rfl,rfl,rfl,by simp[World.setCell],λk c b=>F3 w p u k (λe=>b (by rw[e]))⟩ (.inr a)
theorem zcQ{w:World}{b:Nat}{o:Obj}(h:w.heap[b]?=some o):b<w.heap.size:=by
 rcases D6 b w.heap.size with a|c
 ·exact a
 ·rw[G0 c]at h;cases h
theorem St.next{w a d:World}{b:Nat}{e:Array Value}{v:Value}{l:List Wd}(h:St w a b e v l)(c:Below a.heap.size a d):St w d b e v l:=
 ⟨K1 h.yR c,h.N5.trans (c.mono h.N5.size),(c.block b (zcQ h.J7)).trans h.J7,h.ne,h.le⟩
theorem St.start{w wr:World}{v:Value}{l:List Wd}(c:Array Value)(a:wr.ownsRow w.heap.size 158 3 v l.length (O6 l))(b:Below w.heap.size w wr):St w (wr.alloc (.cells c 158)) wr.heap.size c v l:=
 ⟨a.alloc _,b.alloc b.size _,x9 wr _,λh=>by have:=(a.lt _ h).2;omega,b.size⟩
theorem St.cell{w a:World}{b:Nat}{c:Array Value}{v:Value}{l:List Wd}(h:St w a b c v l)(j:Nat):a.cell? ⟨b,j,none⟩=c[j]?:=x5 h.J7 j
theorem St.jV{w a:World}{b:Nat}{c:Array Value}{v:Value}{l:List Wd}(h:St w a b c v l)(j:Nat):a.frozen? ⟨b,j,none⟩=false:=z6 h.J7 j
structure R8(w:World):Prop where
 maxLen:T1 w
 YM:zaw w
 pow:Lib.TabIs prog w "internal/strconv.uint64pow10" .u64 Lib.pow10Tab
 spc:Lib.TabIs prog w "strings.asciiSpace" .u8 Lib.asciiSpaceTab
 Qz:10<w.heap.size
theorem R8.to{w w':World}(h:R8 w)(a:Below w.heap.size w w'):R8 w' where
 maxLen:=h.maxLen.below a (by have:=h.Qz;show 3<_;omega)
 YM:=by
  obtain⟨⟨b,c,d⟩,e,f,i⟩:=h.YM;have:=h.Qz;exact⟨⟨b,(a.cell (p:=⟨4,0,none⟩) (by show 4<_;omega)).trans c,d⟩,e,(a.cell (p:=⟨5,0,none⟩) (by show 5<_;omega)).trans f,i⟩
 pow:=TabIs_below (g:=1) (by kernel_rfl) h.pow a
 spc:=TabIs_below (g:=0) (by kernel_rfl) h.spc a
 Qz:=y5 h.Qz a.size
theorem zck(l:Bs):(Lib.index l [10]= -1/\K0 (λc=>c !=10) l=l.length)\/(0<=Lib.index l [10]/\(Lib.index l [10]).toNat=K0 (λc=>c !=10) l):=by
 induction l with
 |nil=>left;exact⟨by simp[Lib.index],rfl⟩
 |cons b l g=>
  rw[Lib.index]
  by_cases a:b=10
  ·subst a;right;simp[List.isPrefixOf,K0]
  ·have h:((10:UInt8)==b)=false:=by simpa using λe=>a e.symm
   have i:([10]:Bs).isPrefixOf (b::l)=false:=by simp[List.isPrefixOf,h]
   have j:K0 (λc=>c !=10) (b::l)=1+K0 (λc=>c !=10) l:=by simp[K0,a];omega
   rw[i,j,y6]
   rcases g with⟨d,f⟩|⟨d,f⟩
   ·left;rw[d,f];exact⟨by simp,by omega⟩
   ·right
    have k:(Lib.index l [10]== -1)=false:=by rw[y8];omega
    simp only[k,B6,if_false];omega
theorem zgd(l:Bs):(Lib.cut l [10]).1.length=K0 (λc=>c !=10) l:=by
 have d:=Je (λc=>c !=10) l;unfold Lib.cut
 rcases zck l with⟨a,b⟩|⟨a,b⟩
 ·rw[a,z7 (by omega)];exact b.symm
 ·rw[C5 a,b];simp;omega
theorem zhD(s:ByteArray)(k:Nat)(w:World)(hs:s.size<=4000)(d:T1 w):
 Calls prog 110 #[.string (s.extract k s.size),.string ⟨#[10]⟩] w λe w'=>(∃(a b:ByteArray)(c:Bool),e=.returned (.tuple #[.string a,.string b,.bool c])/\a.size=K0 (λc=>c !=10) (s.data.toList.drop k))/\Below w.heap.size w w':=by
 obtain⟨m,d⟩:=d;refine(Tryz.strings_Cut (s.extract k s.size) ⟨#[10]⟩ m w (by simp;omega) d).mono ?_;rintro e w' ⟨rfl,n,rfl⟩;refine⟨⟨_,_,_,rfl,?_⟩,J1 (x7 _ _) n⟩;rw[<-zgd,qB];rfl
def zdH(u:Nat):ByteArray:=⟨(Lib.decDigits u).toArray⟩
theorem zcp(u:Nat)(a:u<18446744073709551616)(w:World)(b:Lib.TabIs prog w "internal/strconv.uint64pow10" .u64 Lib.pow10Tab):
 Calls prog 112 #[.int .u64 u,.int .i64 10] w λe w'=>e=.returned (.string (zdH u))/\Below w.heap.size w w':=ziy u a w b
theorem JT(w:World)(b:Nat)(a c:Value)(o:Obj):(((w.setCell ⟨b,0,none⟩ a).setCell ⟨b,1,none⟩ c).alloc o).heap[w.heap.size]?=some o:=by
 have:=x9 ((w.setCell ⟨b,0,none⟩ a).setCell ⟨b,1,none⟩ c) o;simpa[World.setCell]using this
theorem zdp(w:World)(b:Nat)(u:Value)(o:Obj):((w.setCell ⟨b,1,none⟩ u).alloc o).heap[w.heap.size]?=some o:=by
 have:=x9 (w.setCell ⟨b,1,none⟩ u) o;simpa[World.setCell]using this
theorem qJ{w w':World}(h:Below w.drew.heap.size w.drew w'):Below w.heap.size w w':=⟨h.os,h.tape,h.output,h.size,h.block⟩
theorem zdS(p:UInt8->Bool)(l:Bs):(l.take (l.takeWhile p).length).all p=true:=by
 induction l with
 |nil=>rfl
 |cons c l a=>cases h:p c<;>simp[h];simpa using a
def jL:List Bs:=[[60,61],[62,61],[61,61],[33,61],[38,38],[124,124],[43],[45],[42],[47],[37],[60],[62],[61],[33],[40],[41],[123],[125],[44],[59],[58],[64]]
def qT(D:Bs)(n:Nat)(p:Bs):Nat:=if n=0/\Lib.hasPrefix D p=true then p.length else n
def zy(ps:List Bs)(D:Bs):Nat:=ps.foldl (qT D) 0
theorem QD(D:Bs)(ps:List Bs): ∀n,n≠0->ps.foldl (qT D) n=n:=by
 induction ps with
 |nil=>intro n _;rfl
 |cons p ps b=>
  intro n a;have:qT D n p=n:=by unfold qT;rw[z7 (λh=>a h.1)]
  rw[List.foldl_cons,this];exact b n a
theorem XO(D:Bs)(L:Nat)(b:L≠0)(ps:List Bs)(h: ∀p∈ps,p.length=L):ps.foldl (qT D) 0=if ps.any (Lib.hasPrefix D)then L else 0:=by
 induction ps with
 |nil=>rfl
 |cons p ps c=>
  rw[List.foldl_cons,List.any_cons];have d:=h p (z5 ..);cases a:Lib.hasPrefix D p
  ·have:qT D 0 p=0:=by unfold qT;rw[z7 (by simp[a])]
   rw[this,c (λq e=>h q (x4 _ e))];simp
  ·have:qT D 0 p=L:=by unfold qT;rw[C5 ⟨rfl,a⟩,d]
   rw[this,QD D ps L b];simp
theorem Yt:jL=T8++yk.map (λc=>[c]):=by decide
theorem ziH(D:Bs):T8.any (Lib.hasPrefix D)=T8.contains (D.take 2):=by
 rcases D with _|⟨a,_|⟨b,r⟩⟩
 ·decide
 ·simp[T8,Lib.hasPrefix,List.isPrefixOf]
 ·rw[F1]
  simp[T8,Lib.hasPrefix,List.isPrefixOf];simp only[eq_comm]
theorem ziE(D:Bs):(yk.map (λc=>[c])).any (Lib.hasPrefix D)=(yk.contains (D.headD 0)&&decide (0<D.length)):=by
 rcases D with _|⟨a,r⟩
 ·decide
 ·rw[F1]
  simp[Lib.hasPrefix,List.isPrefixOf]
theorem Yz(D:Bs):zy jL D=M6 D:=by
 unfold zy;rw[Yt,List.foldl_append,XO D 2 (by decide) T8 (by decide),ziH];unfold M6;cases h:T8.contains (D.take 2)
 ·simp only[B6,if_false]
  rw[XO D 1 (by decide) _ (by simp),ziE]
 ·simp only[if_true]
  exact QD D _ 2 (by decide)
def Xx(j:Nat):ByteArray:=⟨(jL.getD j []).toArray⟩
def Jr:Array Value:=(jL.map λx=>Value.string ⟨x.toArray⟩).toArray
theorem zbe(j:Nat)(h:j<23):Jr[j]?=some (.string (Xx j)):=by
 have:j<jL.length:=h;simp[Jr,Xx,this,List.getD_eq_getElem?_getD]
theorem zcK(w:World)(a:Lib.TabIs prog w "strings.asciiSpace" .u8 Lib.asciiSpaceTab):
 Calls prog 114 #[.string ⟨#[60,61,32,62,61,32,61,61,32,33,61,32,38,38,32,124,124,32,43,32,45,32,42,32,47,32,37,32,60,32,62,32,61,32,33,32,40,32,41,32,123,32,125,32,44,32,59,32,58,32,64]⟩] w λe w'=>e=.returned (.slice (some ⟨w.heap.size,0,none⟩) 23 23)/\w.alloc (.cells Jr 9)=w':=by
 refine(Tryz.strings_Fields _ w (by decide) (ascii_of_all (by decide)) a).mono ?_;rintro e w' ⟨rfl,rfl⟩;have b:Lib.fields (ByteArray.data ⟨#[60,61,32,62,61,32,61,61,32,33,61,32,38,38,32,124,124,32,43,32,45,32,42,32,47,32,37,32,60,32,62,32,61,32,33,32,40,32,41,32,123,32,125,32,44,32,59,32,58,32,64]⟩).toList=jL:=by decide+kernel
 rw[b];exact⟨rfl,rfl⟩
theorem zbI(s:ByteArray)(k j:Nat)(w:World)(t:Bool)(a:Lib.hasPrefix (s.data.toList.drop k) (jL.getD j [])=t):
 Calls prog 115 #[.string (s.extract k s.size),.string (Xx j)] w λe w'=>e=.returned (.bool t)/\w=w':=by
 refine(Tryz.strings_HasPrefix _ _ w).mono ?_;rintro e w' ⟨rfl,rfl⟩;refine⟨?_,rfl⟩;rw[qB,<-a];rfl
theorem za1(j:Nat):(Xx j).size=(jL.getD j []).length:=by simp[Xx,ByteArray.size]
theorem xJ(D:Bs)(j:Nat)(h:j<23):zy (jL.take (j+1)) D=qT D (zy (jL.take j) D) (jL.getD j []):=by
 have a:j<jL.length:=h;unfold zy;rw[List.take_succ_eq_append_getElem a,List.foldl_append,List.getD_eq_getElem?_getD,x8 a];rfl
theorem St.zhP{w a:World}{b:Nat}{c:Array Value}{v:Value}{l:List Wd}(h:St w a b c v l)(j:Nat)(u:Value):St w (a.setCell ⟨b,j,none⟩ u) b (c.setIfInBounds j u) v l:=
 ⟨U3 h.yR _ h.ne,h.N5.setCell (p:=⟨b,j,none⟩) h.le _,by have:=h.J7;simp[World.setCell,Array.getElem?_modify,this],h.ne,h.le⟩
theorem St.alloc{w a:World}{b:Nat}{c:Array Value}{v:Value}{l:List Wd}(h:St w a b c v l)(o:Obj):St w (a.alloc o) b c v l:=
 ⟨h.yR.alloc o,h.N5.alloc h.N5.size o,(Below.heap_alloc a o b (zcQ h.J7)).trans h.J7,h.ne,h.le⟩
theorem zaS(s:ByteArray)(w:World)(r:Option Nat×List Wd)(hs:s.size<=4000)(hm:R8 w)(hr:jz s 0 [] r):
 Calls prog 64 #[.string s] w λe w'=> ∃v,e=.returned (.tuple #[v,.int .i64 (zbO r),.int .i64 (YG r)])/\w'.ownsRow w.heap.size 158 3 v r.2.length (O6 r.2)/\Below w.heap.size w w':=by
 have HR:=zh hr;clear hr;have HG:=zh hm;clear hm
 go_enter func64,ntmps64
 go_wp2_with fail
 go_loopw[5,6] (λv i wr=> ∃(k:Nat)(l:List Wd),k<=s.size/\i=.int .i64 k/\l.length<=k/\wr.ownsRow w.heap.size 158 3 v l.length (O6 l)/\Below w.heap.size w wr/\Hid (jz s k l r)) (λ_ i _=>s.size-(intOf i).toNat)
 case atStart=>exact⟨0,[],C6 _,rfl,C6 _,F8 _ _ _ _,x7 _ _,HR⟩
 case round=>
  obtain⟨k,l,hk,rfl,hl,O,hb,P⟩:=hrel;have b3:=hb.size
  by_cases f:k<s.size
  case neg=>
   have HE:=zh (P.out.zaJ (by omega))
   go_wp2_with fail
   go_ret3
   exact⟨_,by rw[HE.out];rfl,by rw[HE.out];exact O,hb⟩
  obtain⟨m,hm⟩: ∃m,K0 Q7 (s.data.toList.drop k)=m:=⟨_,rfl⟩;have c8:k+m<=s.size:=by have:=Je Q7 (s.data.toList.drop k);rw[hm,G9,N9]at this;omega
  have Q:=zh hm;clear hm
  go_wp2_with fail
  refine(zho s k _).mono ?_;rintro e w1 ⟨⟨y,rfl,hy⟩,X⟩;rw[Q.out]at hy;have c9:((s.size-k:Nat):Int)-(y.size:Int)=(m:Int):=by omega
  have a2:Hid (St w (w1.alloc (.cells #[.int .i64 0,.string ⟨#[]⟩,.int .i64 k] 158)) w1.heap.size #[.int .i64 0,.string ⟨#[]⟩,.int .i64 k] u5 l):=zh (St.start _ (K1 O X) (hb.trans (X.mono b3)));have b4:=zh X;clear X O hy
  go_wp2_with fail
  obtain⟨b,a8⟩: ∃b,b=w1.heap.size:=⟨_,rfl⟩;cases T:zT s[k]
  case true=>
   have a3:=zh (P.out.Zf f (Yy f T));refine(zha s k f true _ T).mono ?_;rintro e w2 ⟨rfl,R⟩;have C:=zh (a2.out.next R);clear R T
   go_wp2_with fail
   go_roundw
   case rel=>exact⟨k+1,l,by omega,by go_num,by omega,C.out.yR,C.out.N5,a3⟩
   case measure=>simp[intOf];omega
  refine(zha s k f false _ T).mono ?_;rintro e w2 ⟨rfl,R⟩;have C:=zh (a2.out.next R);clear R;rw[<-a8]at C|-
  clear a8 a2 b4
  by_cases hH:s[k]=35
  ·have a3:=zh (P.out.Zf f (Zi f T hH))
   have e4:(((s.extract k s.size)[0]'(by simp;omega)).toNat==35)=true:=by
    have:=qt (s.extract k s.size) (by simp;omega);rw[qB,zl s k f,hH]at this;rw[<-this];rfl
   have b5:((((s.extract k s.size)[0]'(by simp;omega)).toNat:Int)==35)=true:=by rw[beq_iff_eq]at e4|-;omega
   clear e4 hH T
   go_wp2_with fail
   refine(zhD s k _ hs (HG.out.to C.out.N5).maxLen).mono ?_;rintro e I ⟨⟨a,bb,c,rfl,ha⟩,F⟩;have d:=zh (C.out.next F);have E:Hid (jz s (k+a.size) l r):=zh (by rw[ha];exact a3.out);have d0:k+a.size<=s.size:=by have:=Je (λc=>c !=10) (s.data.toList.drop k);rw[G9,N9]at this;omega
   have c7:0<a.size:=by
    rw[ha,zv s (λc=>c !=10) k f ?_]
    ·omega
    ·have:=b5;rw[beq_iff_eq]at this
     have h2:=qt (s.extract k s.size) (by simp;omega);rw[qB,zl s k f]at h2;rw[bne_iff_ne,h2];intro h3;rw[h3]at this;revert this;decide
   clear F ha
   go_wp2_with fail
   go_roundw
   case rel=>exact⟨k+a.size,l,by omega,by go_num,by omega,d.out.yR,d.out.N5,E⟩
   case measure=>simp[intOf];omega
  have e4:((((s.extract k s.size)[0]'(by simp;omega)).toNat:Int)==35)=false:=by
   have:=qt (s.extract k s.size) (by simp;omega);rw[qB,zl s k f]at this;rw[y8,<-this];intro h;exact hH (UInt8.toNat_inj.1 (show s[k].toNat=35 by omega))
  cases U:zI s[k]
  case true=>
   have V:=zh (JK f U);have b6:0<m:=by have:=zv s Q7 k f (by simp[Q7,U]);rw[Q.out]at this;omega
   have HD:=zh U;clear U T hH
   go_wp2_with fail
   refine(zhE s k f true _ HD.out).mono ?_;rintro e I ⟨rfl,F⟩;have d:=zh (C.out.next F);clear F;have J:Hid (((s.extract k s.size).extract 0 m).data.toList=(s.data.toList.drop k).take m):=zh (JQ s k m);have a9:((s.extract k s.size).extract 0 m).size=m:=by simp;omega
   have K:=zh a9;clear a9
   go_wp2_with fail
   refine(zd7 ((s.extract k s.size).extract 0 m) (by rw[K.out];omega) (by rw[K.out];omega) _ (HG.out.to d.out.N5).YM (by have:=(HG.out.to d.out.N5).Qz;omega)).mono ?_;rintro e N ⟨⟨u,ev,rfl,hu,a4⟩,b0⟩;have t:=zh (d.out.next b0);clear b0
   rcases a4 with⟨b1,rfl⟩|⟨b2,te,pe,rfl⟩
   case inr=>
    have L:S4 ((s.data.toList.drop k).take m)=false:=by
     cases L:S4 ((s.data.toList.drop k).take m)
     ·rfl
     ·exfalso
      obtain⟨u',h1,_⟩:=zbS _ (by intro h;have:=K.out;rw[<-N9,J.out,h]at this;simp at this;omega) L;exact b2 u' (by rw[J.out];exact h1)
    have B:=zh (P.out.xO f (by rw[V.out,Q.out,L];rfl));clear b2 L
    go_wp2_with fail
    go_quiet (fail)
    go_wp2_with fail
    go_ret3
    exact⟨_,by rw[B.out];rfl,by rw[B.out];exact F8 _ _ _ _,J1 t.out.N5 _⟩
   case inl=>
    have b7:=zh b1;clear b1;have HU:=zh hu;clear hu;have HP:=zh (HG.out.to t.out.N5).pow
    by_cases D:Lib.decDigits u=(s.data.toList.drop k).take m/\m<=12
    case pos=>
     obtain⟨Y,b8⟩:=D;have L:S4 ((s.data.toList.drop k).take m)=true:=by
      rw[<-Y];apply zgl;rw[Y,<-J.out,N9,K.out];exact b8
     have E:Hid (jz s (k+m) (l++[⟨1,s.extract k (k+m),k⟩]) r):=zh (by
      have:=P.out.qI f (c:=1) (n:=m) (by rw[V.out,Q.out,L];rfl);exact this)
     have a1:((zdH u).toList==((s.extract k s.size).extract 0 m).toList)=true:=by
      rw[beq_iff_eq,C4,C4,J.out];exact Y
     clear L Y
     go_wp2_with fail
     have b9:m<=s.size-k:=by omega
     have i0:(0:Int)<=(m:Int):=by omega
     have i1:(m:Int)<=((s.size-k:Nat):Int):=by omega
     have i2:((0:Int)<=(m:Int)/\(m:Int)<=((s.size-k:Nat):Int)):=⟨i0,i1⟩
     go_region_held3 (λ_=>True) (trivial) (first|(go_at_call 112;refine(zcp u HU.out _ (by exact HP.out)).mono ?_;rintro e W ⟨rfl,G⟩))
     have z:=zh (t.out.next (qJ G));clear G;have c0:W.cell? ⟨b,0,none⟩=some (.int .i64 0):=z.out.cell 0;have c1:W.cell? ⟨b,1,none⟩=some (.string ⟨#[]⟩):=z.out.cell 1;have c2:W.cell? ⟨b,2,none⟩=some (.int .i64 k):=z.out.cell 2;have f0:W.frozen? ⟨b,0,none⟩=false:=z.out.jV 0;have f1:W.frozen? ⟨b,1,none⟩=false:=z.out.jV 1
     go_wp2_with(at_builtin;go_must(refine L6 W9 rfl _ _ rfl w.heap.size _ l.length (O6 l) rfl ((U3 (U3 z.out.yR _ z.out.ne) _ z.out.ne).alloc _) W.heap.size 1 #[.int .i64 1,.string ((s.extract k s.size).extract 0 m),.int .i64 k] rfl (JT _ _ _ _ _) rfl (by simp[Value.oneCell']) (by omega) (by have:=z.out.N5.size;simp;omega) ?_);intro g a5 w9 A o _ _;have H:=L3 (((z.out.N5.setCell (p:=⟨b,0,none⟩) z.out.le _).setCell (p:=⟨b,1,none⟩) z.out.le _).alloc (by have:=z.out.N5.size;simp;omega) _) ((U3 (U3 z.out.yR _ z.out.ne) _ z.out.ne).alloc _) (x6 _) (by have:=z.out.N5.size;simp;omega) o;clear o)
     go_roundw
     case rel=>exact⟨k+m,l++[⟨1,s.extract k (k+m),k⟩],by omega,by go_num,by simp;omega,by rw[P8,y7,<-Jd];exact A,H,E⟩
     case measure=>simp[intOf];omega
    case neg=>
     have L:S4 ((s.data.toList.drop k).take m)=false:=by
      cases L:S4 ((s.data.toList.drop k).take m)
      ·rfl
      ·exfalso
       obtain⟨u',h1,h2⟩:=zbS _ (by intro h;have:=K.out;rw[<-N9,J.out,h]at this;simp at this;omega) L;rw[<-J.out,b7.out]at h1;cases h1;have h3:=(jK _ L).1;rw[<-J.out,N9,K.out]at h3;exact D ⟨h2,h3⟩
     have B:=zh (P.out.xO f (by rw[V.out,Q.out,L];rfl));clear L;have b9:m<=s.size-k:=by omega
     have i0:(0:Int)<=(m:Int):=by omega
     have i1:(m:Int)<=((s.size-k:Nat):Int):=by omega
     by_cases Z:Lib.decDigits u=(s.data.toList.drop k).take m
     ·have d1:12<m:=by
       rcases D6 12 m with h|h
       ·exact h
       ·exact G5 ⟨Z,h⟩ D
      have a1:((zdH u).toList==((s.extract k s.size).extract 0 m).toList)=true:=by
       rw[beq_iff_eq,C4,C4,J.out];exact Z
      clear Z D
      go_wp2_with fail
      go_region_held3 (λ_=>True) (trivial) (first|(go_at_call 112;refine(zcp u HU.out _ (by exact HP.out)).mono ?_;rintro e W ⟨rfl,G⟩))
      have a6:=zh (t.out.N5.trans ((qJ G).mono t.out.N5.size));clear G
      go_wp2_with fail
      go_ret3
      exact⟨_,by rw[B.out];rfl,by rw[B.out];exact F8 _ _ _ _,a6.out⟩
     ·have a1:((zdH u).toList==((s.extract k s.size).extract 0 m).toList)=false:=by
       rw[y8,C4,C4,J.out];exact Z
      clear Z D
      go_wp2_with fail
      first|(go_region_with (go_at_call 112;refine(zcp u HU.out _ (by exact HP.out)).mono ?_;rintro e W ⟨rfl,G⟩))|fail
      all_goals have a6:=zh (t.out.N5.trans ((qJ G).mono t.out.N5.size))
      all_goals clear G
      all_goals go_wp2_with fail
      all_goals go_ret3
      all_goals exact⟨_,by rw[B.out];rfl,by rw[B.out];exact F8 _ _ _ _,a6.out⟩
  cases M:xn s[k]
  case true=>
   have V:=zh (Jk f M);have b6:0<m:=by have:=zv s Q7 k f (by simp[Q7,M]);rw[Q.out]at this;omega
   have J:Hid (((s.extract k s.size).extract 0 m).data.toList=(s.data.toList.drop k).take m):=zh (JQ s k m);have HA:Hid (((s.extract k s.size).extract 0 m).data.toList.all Q7=true):=zh (by
    rw[J.out,<-Q.out];unfold K0;exact zdS Q7 _)
   have HD:=zh U;clear U M T hH
   go_wp2_with fail
   refine(zhE s k f false _ HD.out).mono ?_;rintro e I ⟨rfl,F⟩;have d:=zh (C.out.next F);clear F;cases hK:zC ((s.data.toList.drop k).take m)
   case true=>
    have E:Hid (jz s (k+m) (l++[⟨3,s.extract k (k+m),k⟩]) r):=zh (P.out.qI f (c:=3) (n:=m) (by rw[V.out,Q.out,hK];rfl));have HK:Hid (zC ((s.extract k s.size).extract 0 m).data.toList=true):=zh (by rw[J.out];exact hK);clear hK
    go_wp2_with fail
    refine(zaE _ true _ HA.out HK.out (HG.out.to d.out.N5).maxLen).mono ?_;rintro e N ⟨rfl,rfl⟩;have c0:I.cell? ⟨b,0,none⟩=some (.int .i64 0):=d.out.cell 0;have c1:I.cell? ⟨b,1,none⟩=some (.string ⟨#[]⟩):=d.out.cell 1;have c2:I.cell? ⟨b,2,none⟩=some (.int .i64 k):=d.out.cell 2;have f0:I.frozen? ⟨b,0,none⟩=false:=d.out.jV 0;have f1:I.frozen? ⟨b,1,none⟩=false:=d.out.jV 1
    go_wp2_with(at_builtin;go_must(refine L6 W9 rfl _ _ rfl w.heap.size _ l.length (O6 l) rfl ((U3 (U3 d.out.yR _ d.out.ne) _ d.out.ne).alloc _) I.heap.size 1 #[.int .i64 3,.string ((s.extract k s.size).extract 0 m),.int .i64 k] rfl (JT _ _ _ _ _) rfl (by simp[Value.oneCell']) (by omega) (by have:=d.out.N5.size;simp;omega) ?_);intro g a5 w9 A o _ _;have H:=L3 (((d.out.N5.setCell (p:=⟨b,0,none⟩) d.out.le _).setCell (p:=⟨b,1,none⟩) d.out.le _).alloc (by have:=d.out.N5.size;simp;omega) _) ((U3 (U3 d.out.yR _ d.out.ne) _ d.out.ne).alloc _) (x6 _) (by have:=d.out.N5.size;simp;omega) o;clear o)
    go_roundw
    case rel=>exact⟨k+m,l++[⟨3,s.extract k (k+m),k⟩],by omega,by go_num,by simp;omega,by rw[P8,y7,<-Jd];exact A,H,E⟩
    case measure=>simp[intOf];omega
   case false=>
    have HK:Hid (zC ((s.extract k s.size).extract 0 m).data.toList=false):=zh (by rw[J.out];exact hK)
    by_cases d2:16<m
    ·have B:=zh (P.out.xO f (by rw[V.out,Q.out,hK,z7 (by simp),C5 (by simp;omega)]))
     clear hK
     go_wp2_with fail
     refine(zaE _ false _ HA.out HK.out (HG.out.to d.out.N5).maxLen).mono ?_;rintro e N ⟨rfl,rfl⟩
     go_wp2_with fail
     go_ret3
     exact⟨_,by rw[B.out];rfl,by rw[B.out];exact F8 _ _ _ _,d.out.N5⟩
    ·have E:Hid (jz s (k+m) (l++[⟨2,s.extract k (k+m),k⟩]) r):=zh (P.out.qI f (c:=2) (n:=m) (by rw[V.out,Q.out,hK,z7 (by simp),z7 (by simp;omega)]))
     clear hK
     go_wp2_with fail
     refine(zaE _ false _ HA.out HK.out (HG.out.to d.out.N5).maxLen).mono ?_;rintro e N ⟨rfl,rfl⟩;have c0:I.cell? ⟨b,0,none⟩=some (.int .i64 0):=d.out.cell 0;have c1:I.cell? ⟨b,1,none⟩=some (.string ⟨#[]⟩):=d.out.cell 1;have c2:I.cell? ⟨b,2,none⟩=some (.int .i64 k):=d.out.cell 2;have f0:I.frozen? ⟨b,0,none⟩=false:=d.out.jV 0;have f1:I.frozen? ⟨b,1,none⟩=false:=d.out.jV 1
     go_wp2_with(at_builtin;go_must(refine L6 W9 rfl _ _ rfl w.heap.size _ l.length (O6 l) rfl ((U3 (U3 d.out.yR _ d.out.ne) _ d.out.ne).alloc _) I.heap.size 1 #[.int .i64 2,.string ((s.extract k s.size).extract 0 m),.int .i64 k] rfl (JT _ _ _ _ _) rfl (by simp[Value.oneCell']) (by omega) (by have:=d.out.N5.size;simp;omega) ?_);intro g a5 w9 A o _ _;have H:=L3 (((d.out.N5.setCell (p:=⟨b,0,none⟩) d.out.le _).setCell (p:=⟨b,1,none⟩) d.out.le _).alloc (by have:=d.out.N5.size;simp;omega) _) ((U3 (U3 d.out.yR _ d.out.ne) _ d.out.ne).alloc _) (x6 _) (by have:=d.out.N5.size;simp;omega) o;clear o)
     go_roundw
     case rel=>exact⟨k+m,l++[⟨2,s.extract k (k+m),k⟩],by omega,by go_num,by simp;omega,by rw[P8,y7,<-Jd];exact A,H,E⟩
     case measure=>simp[intOf];omega
  have c3:m=0:=by
   rw[<-Q.out,Jh s Q7 k f (by simp[Q7,U,M])]
  obtain⟨n,hn⟩: ∃n,M6 (s.data.toList.drop k)=n:=⟨_,rfl⟩;have V:=zh (Zq f T hH U M hn);have d3:n<=s.size-k:=by have:=(xE (s.data.toList.drop k)).1;rw[hn,G9,N9]at this;exact this
  have HN:=zh hn;have HD:=zh U;clear U M T hH hn;subst c3;have c0:w2.cell? ⟨b,0,none⟩=some (.int .i64 0):=C.out.cell 0;have f0:w2.frozen? ⟨b,0,none⟩=false:=C.out.jV 0;have c4:=zh (HG.out.to (C.out.zhP 0 (.int .i64 4)).N5).spc
  go_wp2_with fail
  refine(zcK _ c4.out).mono ?_;rintro e N ⟨rfl,a7⟩;have t:Hid (St w N b #[.int .i64 4,.string ⟨#[]⟩,.int .i64 k] u5 l):=zh (by rw[<-a7];exact(C.out.zhP 0 (.int .i64 4)).alloc _);obtain⟨q,Z⟩: ∃q,q=(w2.setCell ⟨b,0,none⟩ (.int .i64 4)).heap.size:=⟨_,rfl⟩;have HQ:Hid (N.heap[q]?=some (.cells Jr 9 (0,0))):=zh (by rw[<-a7,Z];exact x9 _ _);rw[<-Z];clear a7 Z c0 f0
  go_wp2_with fail
  go_loop [38,8] (λi x=> ∃j c:Nat,j<=23/\i=.int .i64 j/\x=.int .i64 c/\Hid (zy (jL.take j) (s.data.toList.drop k)=c)) (λi _=>23-(intOf i).toNat)
  case atStart=>exact⟨0,0,by omega,rfl,rfl,zh rfl⟩
  case round=>
   obtain⟨j,c,hj,rfl,rfl,HF⟩:=hrel
   by_cases a0:j<23
   ·have cj:N.cell? ⟨q,j,none⟩=some (.string (Xx j)):=by rw[x5 HQ.out];exact zbe j a0
    by_cases h0:c=0
    ·subst h0
     cases hp:Lib.hasPrefix (s.data.toList.drop k) (jL.getD j [])
     ·have S:Hid (zy (jL.take (j+1)) (s.data.toList.drop k)=0):=zh (by rw[xJ _ j a0,HF.out];unfold qT;rw[z7 (by rw[hp];simp)])
      have HP:=zh hp;clear hp
      go_wp2_with fail
      refine(zbI s k j _ false HP.out).mono ?_;rintro e W ⟨rfl,rfl⟩
      go_wp2_with fail
      go_round
      case rel=>exact⟨j+1,0,by omega,by go_num,rfl,S⟩
      case measure=>simp[intOf];omega
     ·have S:Hid (zy (jL.take (j+1)) (s.data.toList.drop k)=(Xx j).size):=zh (by rw[xJ _ j a0,HF.out];unfold qT;rw[C5 ⟨rfl,hp⟩,za1])
      have HP:=zh hp;clear hp
      go_wp2_with fail
      refine(zbI s k j _ true HP.out).mono ?_;rintro e W ⟨rfl,rfl⟩
      go_wp2_with fail
      go_round
      case rel=>exact⟨j+1,(Xx j).size,by omega,by go_num,rfl,S⟩
      case measure=>simp[intOf];omega
    ·have S:Hid (zy (jL.take (j+1)) (s.data.toList.drop k)=c):=zh (by rw[xJ _ j a0,HF.out];unfold qT;rw[z7 (λh=>h0 h.1)])
     have c5:((c:Int)==0)=false:=by rw[y8];omega
     clear h0
     go_wp2_with fail
     go_round
     case rel=>exact⟨j+1,c,by omega,by go_num,rfl,S⟩
     case measure=>simp[intOf];omega
   ·obtain rfl:j=23:=by omega
    have c6:c=n:=by rw[<-HF.out,<-HN.out];exact Yz _
    subst c6
    by_cases h0:c=0
    ·subst h0
     have B:=zh (P.out.xO f (by rw[V.out];rfl))
     go_wp2_with fail
     go_ret3
     exact⟨_,by rw[B.out];rfl,by rw[B.out];exact F8 _ _ _ _,t.out.N5⟩
    ·have E:Hid (jz s (k+c) (l++[⟨4,s.extract k (k+c),k⟩]) r):=zh (P.out.qI f (c:=4) (n:=c) (by rw[V.out,z7 h0]))
     have c5:((c:Int)==0)=false:=by rw[y8];omega
     have h1:1<=c:=by omega
     clear h0;have c0:N.cell? ⟨b,0,none⟩=some (.int .i64 4):=t.out.cell 0;have c1:N.cell? ⟨b,1,none⟩=some (.string ⟨#[]⟩):=t.out.cell 1;have c2:N.cell? ⟨b,2,none⟩=some (.int .i64 k):=t.out.cell 2;have f1:N.frozen? ⟨b,1,none⟩=false:=t.out.jV 1
     go_wp2_with(at_builtin;go_must(refine L6 W9 rfl _ _ rfl w.heap.size _ l.length (O6 l) rfl ((U3 t.out.yR _ t.out.ne).alloc _) N.heap.size 1 #[.int .i64 4,.string ((s.extract k s.size).extract 0 c),.int .i64 k] rfl (zdp _ _ _ _) rfl (by simp[Value.oneCell']) (by omega) (by have:=t.out.N5.size;simp;omega) ?_);intro g a5 w9 A o _ _;have H:=L3 ((t.out.N5.setCell (p:=⟨b,1,none⟩) t.out.le _).alloc (by have:=t.out.N5.size;simp;omega) _) ((U3 t.out.yR _ t.out.ne).alloc _) (x6 _) (by have:=t.out.N5.size;simp;omega) o;clear o)
     go_roundw
     case rel=>exact⟨k+c,l++[⟨4,s.extract k (k+c),k⟩],by omega,by go_num,by simp;omega,by rw[P8,y7,<-Jd];exact A,H,E⟩
     case measure=>simp[intOf];omega
end
section
open Go.Shelf
def ZZ(s:ByteArray)(p e:Int)(ws:List Wd):Prop:=
 (4000<s.size/\p=0/\e=2/\ws=[])\/(s.size<=4000/\ ∃r,jz s 0 [] r/\p=zbO r/\e=YG r/\ws=r.2)
theorem Tw.jz.xx{s:ByteArray}{k:Nat}{l:List Wd}{r:Option Nat×List Wd}(h:jz s k l r):l.length<=k->k<=s.size->(∀x∈l,x.N4.size<=s.size)->r.2.length<=s.size/\ ∀x∈r.2,x.N4.size<=s.size:=by
 induction h with
 |done e=>intro j m f;exact⟨by simp;omega,f⟩
 |xS _ _=>intro j m f;exact⟨by simp,by simp⟩
 | @skip i n l r j m f o=>
   intro a b c
   rcases D6 s.size (i+n)with p|d
   ·cases f with
    |done e=>omega
    |skip h=>omega
    |Y8 h=>omega
    |xS h=>omega
   ·exact o (by omega) d c
 | @Y8 i k n l r j m f o=>
   intro a b c;have q:=Xu j m
   rcases D6 s.size (i+n)with p|d
   ·cases f with
    |done e=>omega
    |skip h=>omega
    |Y8 h=>omega
    |xS h=>omega
   ·refine o (by simp;omega) d λx g=>?_
    rcases List.mem_append.1 g with g|g
    ·exact c x g
    ·simp at g;subst g;simp;omega
theorem ZZ.xx{s:ByteArray}{p e:Int}{ws:List Wd}(h:ZZ s p e ws):ws.length<=4000/\ ∀x∈ws,x.N4.size<=4000:=by
 rcases h with⟨_,_,_,rfl⟩|⟨c,r,d,_,_,rfl⟩
 ·exact⟨by simp,by simp⟩
 ·obtain⟨a,b⟩:=d.xx (by simp) (by omega) (by simp)
  exact⟨by omega,λx f=>B5 (b x f) c⟩
theorem zdA(s:ByteArray)(w:World)(p e:Int)(ws:List Wd)(hs:s.size<=maxLen)(b:R8 w)(a:ZZ s p e ws):
 Calls prog 50 #[.string s] w λx w'=>(∃v,x=.returned (.tuple #[v,.int .i64 p,.int .i64 e])/\qK w' w'.heap.size v ws)/\Below w.heap.size w w':=by
 rcases a with⟨c,rfl,rfl,rfl⟩|⟨c,r,a,rfl,rfl,rfl⟩
 ·unfold maxLen at hs
  go_enter func50,ntmps50
  go_wp2_with fail
  go_ret3
  exact⟨⟨_,rfl,.inl ⟨rfl,rfl⟩⟩,x7 _ _⟩
 ·refine(YF s w r c b.maxLen (by have:=b.Qz;omega) a).mono ?_
  rintro x w' ⟨v,rfl,d,f⟩;exact⟨⟨v,rfl,qK.jA d⟩,f⟩
theorem zd5(s:ByteArray)(w:World)(p e:Int)(ws:List Wd)(hs:s.size<=maxLen)(c:R8 w)(a:ZZ s p e ws):
 Calls prog 64 #[.string s] w λx w'=>(∃v,x=.returned (.tuple #[v,.int .i64 p,.int .i64 e])/\qK w' w'.heap.size v ws)/\Below w.heap.size w w':=by
 rcases a with⟨b,rfl,rfl,rfl⟩|⟨b,r,a,rfl,rfl,rfl⟩
 ·unfold maxLen at hs
  go_enter func64,ntmps64
  go_wp2_with fail
  go_ret3
  exact⟨⟨_,rfl,.inl ⟨rfl,rfl⟩⟩,x7 _ _⟩
 ·refine(zaS s w r b c a).mono ?_
  rintro x w' ⟨v,rfl,d,f⟩;exact⟨⟨v,rfl,qK.jA d⟩,f⟩
end
end Go.Proofs.YtalgmjmibamdfaaGreatDoor
namespace Go.Proofs.YtalgmjmibamdfaaGreatDoor
open Go.RowKit Tw
inductive Ex where
 |mk (M0 n:Int) (N4:ByteArray) (args:List Ex) (pos:Int)
instance :Inhabited Ex:=⟨.mk 0 0 ⟨#[]⟩ [] 0⟩
namespace Ex
def M0:Ex->Int|.mk k _ _ _ _=>k
def n:Ex->Int|.mk _ n _ _ _=>n
def N4:Ex->ByteArray|.mk _ _ t _ _=>t
def args:Ex->List Ex|.mk _ _ _ a _=>a
def pos:Ex->Int|.mk _ _ _ _ p=>p
end Ex
inductive Sm where
 |mk (M0:Int) (K3:ByteArray) (a:Ex) (J0 P2:List Sm) (pos:Int)
namespace Sm
def M0:Sm->Int|.mk k _ _ _ _ _=>k
def K3:Sm->ByteArray|.mk _ n _ _ _ _=>n
def a:Sm->Ex|.mk _ _ a _ _ _=>a
def J0:Sm->List Sm|.mk _ _ _ b _ _=>b
def P2:Sm->List Sm|.mk _ _ _ _ e _=>e
def pos:Sm->Int|.mk _ _ _ _ _ p=>p
end Sm
structure Fn where
 K3:ByteArray
 I4:List ByteArray
 N2:List Int
 out:Int
 J0:List Sm
 pos:Int
def L8(ws:List Wd)(i en:Nat):Nat:=match ws[i]? with|some x=>x.pos|none=>en
def K6(ws:List Wd)(i:Nat)(s:ByteArray):Bool:=match ws[i]? with|some x=>x.N4.toList==s.toList|none=>false
def O4(ws:List Wd)(i:Nat):Bs:=match ws[i]? with|some x=>x.N4.data.toList|none=>[]
def sb(l:Bs):ByteArray:=⟨l.toArray⟩
def lv(s:Bs):Nat:=
 if s=[124,124]then 1 else if s=[38,38]then 2
 else if s=[60]\/s=[60,61]\/s=[62]\/s=[62,61]\/s=[61,61]\/s=[33,61]then 3
 else if s=[43]\/s=[45]then 4 else if s=[42]\/s=[47]\/s=[37]then 5 else 0
def N3(ws:List Wd)(i:Nat):Nat:=match ws[i]? with|some x=>x.M0|none=>0
def K4(ws:List Wd)(i:Nat):ByteArray:=match ws[i]? with|some x=>x.N4|none=>⟨#[]⟩
def W5(ws:List Wd)(i:Nat):Nat:=match ws[i]? with|some x=>lv x.N4.data.toList|none=>0
def yA(s:ByteArray):Int:=(Lib.atoi s.data.toList).getD 0
def yZ(x:Ex)(a:Value):List Value:=[.int .i64 x.M0,.int .i64 x.n,.string x.N4,a,.int .i64 x.pos]
def JC(s:Sm)(b c d:Value):List Value:=[.int .i64 s.M0,.string s.K3,.int .i64 s.a.M0,.int .i64 s.a.n,.string s.a.N4,b,.int .i64 s.a.pos,c,d,.int .i64 s.pos]
def yY(f:Fn)(a b c:Value):List Value:=[.string f.K3,a,b,.int .i64 f.out,c,.int .i64 f.pos]
def xd(w:World)(g a:Nat)(l:List Value):Prop:= ∀j u,l[j]?=some u->w.cell? ⟨g,a+j,none⟩=some u
inductive M9(w:World)(F:Nat->Prop):Value->List Ex->Prop
 |nil (a:Option Addr) (c:Nat):M9 w F (.slice a 0 c) []
 |row (g off yK:Nat) (l:List Ex) (vs:Nat->Value) (hF:F g) (hg:g<w.heap.size) (hc: ∀k x,l[k]?=some x->xd w g (off+k*5) (yZ x (vs k)))
  (hr: ∀k x,l[k]?=some x->M9 w F (vs k) x.args):M9 w F (.slice (some ⟨g,off,none⟩) l.length yK) l
inductive L7(w:World)(F:Nat->Prop):Value->List Sm->Prop
 |nil (a:Option Addr) (c:Nat):L7 w F (.slice a 0 c) []
 |row (g off yK:Nat) (l:List Sm) (va vb ve:Nat->Value) (hF:F g) (hg:g<w.heap.size) (hc: ∀k x,l[k]?=some x->xd w g (off+k*10) (JC x (va k) (vb k) (ve k)))
  (ha: ∀k x,l[k]?=some x->M9 w F (va k) x.a.args) (hb: ∀k x,l[k]?=some x->L7 w F (vb k) x.J0) (he: ∀k x,l[k]?=some x->L7 w F (ve k) x.P2):
  L7 w F (.slice (some ⟨g,off,none⟩) l.length yK) l
def yG(F F':Nat->Prop)(w w':World):Prop:= ∀g,F g->g<w.heap.size->F' g/\g<w'.heap.size/\w'.heap[g]?=w.heap[g]?
theorem xd.I5{w w':World}{g b:Nat}{l:List Value}(h:xd w g b l)(c:w'.heap[g]?=w.heap[g]?):xd w' g b l:=
 λj u d=>(E0 (a:=⟨g,b+j,none⟩) c).trans (h j u d)
theorem M9.I5{w w':World}{F F':Nat->Prop}(e:yG F F' w w'){v:Value}{l:List Ex}(h:M9 w F v l):M9 w' F' v l:=by
 induction h with
 |nil a c=>exact .nil a c
 |row g b d l f i j m s n=>
  obtain⟨o,p,q⟩:=e g i j;exact .row g b d l f o p (λk x r=>(m k x r).I5 q) n
theorem L7.I5{w w':World}{F F':Nat->Prop}(j:yG F F' w w'){v:Value}{l:List Sm}(h:L7 w F v l):L7 w' F' v l:=by
 induction h with
 |nil a c=>exact .nil a c
 |row g b d l m n o p q r s z A e f=>
  obtain⟨t,u,y⟩:=j g p q;exact .row g b d l m n o t u (λk x i=>(r k x i).I5 y) (λk x i=>(s k x i).I5 j) e f
def qa(w:World)(F:Nat->Prop)(v:Value)(l:List ByteArray):Prop:=
 (∃a c,v=.slice a 0 c/\l=[])\/ ∃g b d,v=.slice (some ⟨g,b,none⟩) l.length d/\F g/\g<w.heap.size/\ ∀k s,l[k]?=some s->w.cell? ⟨g,b+k,none⟩=some (.string s)
def J8(w:World)(F:Nat->Prop)(v:Value)(l:List Int):Prop:=
 (∃a c,v=.slice a 0 c/\l=[])\/ ∃g b d,v=.slice (some ⟨g,b,none⟩) l.length d/\F g/\g<w.heap.size/\ ∀k s,l[k]?=some s->w.cell? ⟨g,b+k,none⟩=some (.int .i64 s)
def P4(w:World)(F:Nat->Prop)(v:Value)(l:List Fn):Prop:=
 (∃a c,v=.slice a 0 c/\l=[])\/ ∃g b d,∃e h i:Nat->Value,v=.slice (some ⟨g,b,none⟩) l.length d/\F g/\g<w.heap.size/\
  ∀k f,l[k]?=some f->xd w g (b+k*6) (yY f (e k) (h k) (i k))/\qa w F (e k) f.I4/\J8 w F (h k) f.N2/\L7 w F (i k) f.J0
inductive zq where
 |a (l:List Ex) (v:Value)|s (l:List Sm) (v:Value)|n (l:List ByteArray) (v:Value)|t (l:List Int) (v:Value)|f (l:List Fn) (v:Value)
def zq.At(w:World)(F:Nat->Prop):zq->Prop
 |.a l v=>M9 w F v l
 |.s l v=>L7 w F v l
 |.n l v=>qa w F v l
 |.t l v=>J8 w F v l
 |.f l v=>P4 w F v l
section
variable {w w':World}{F F':Nat->Prop}{v:Value}
theorem qa.I5{l:List ByteArray}(d:yG F F' w w')(h:qa w F v l):qa w' F' v l:=by
 rcases h with h|⟨g,b,c,e,f,i,j⟩
 ·exact .inl h
 ·obtain⟨m,n,o⟩:=d g f i
  exact .inr ⟨g,b,c,e,m,n,λk s p=>(E0 (a:=⟨g,b+k,none⟩) o).trans (j k s p)⟩
theorem J8.I5{l:List Int}(d:yG F F' w w')(h:J8 w F v l):J8 w' F' v l:=by
 rcases h with h|⟨g,b,c,e,f,i,j⟩
 ·exact .inl h
 ·obtain⟨m,n,o⟩:=d g f i
  exact .inr ⟨g,b,c,e,m,n,λk s p=>(E0 (a:=⟨g,b+k,none⟩) o).trans (j k s p)⟩
theorem P4.I5{l:List Fn}(a:yG F F' w w')(h:P4 w F v l):P4 w' F' v l:=by
 rcases h with h|⟨g,b,c,d,e,i,j,m,n,o⟩
 ·exact .inl h
 ·obtain⟨p,q,r⟩:=a g m n
  refine .inr ⟨g,b,c,d,e,i,j,p,q,λk f s=>?_⟩;obtain⟨t,u,x,y⟩:=o k f s;exact⟨t.I5 r,u.I5 a,x.I5 a,y.I5 a⟩
theorem zq.At.I5(b:yG F F' w w'){t:zq}(h:t.At w F):t.At w' F':=by
 cases t with
 |a=>exact M9.I5 b h
 |s=>exact L7.I5 b h
 |n=>exact qa.I5 b h
 |t=>exact J8.I5 b h
 |f=>exact P4.I5 b h
end
theorem U2{α:Type}(f:α->List Value)(c:Nat)(hf: ∀a,(f a).length=c): ∀(l:List α)(k:Nat)(a:α),l[k]?=some a-> ∀(j:Nat)(u:Value),(f a)[j]?=some u->(l.flatMap f)[k*c+j]?=some u:=by
 intro l
 induction l with
 |nil=>intro k a h;simp at h
 |cons b l e=>
  intro k a h j u d;simp only[List.flatMap_cons];cases k with
  |zero=>
   simp at h;subst h;have g:j<(f b).length:=by rcases D6 j (f b).length with h|h;exact h;rw[B9 h]at d;cases d
   rw[Nat.zero_mul,Nat.zero_add,List.getElem?_append_left g];exact d
  |succ k=>
   have:=e k a (by simpa using h) j u d;rw[List.getElem?_append_right (by rw[hf,Nat.succ_mul];omega),hf,show(k+1)*c+j-c=k*c+j by rw[Nat.succ_mul];omega];exact this
structure xC(α:Type)where
 cells:α->List Value
 zW:α->List zq
 Xa:List α->Value->zq
 nil: ∀w F,(Xa [] (.slice none 0 0)).At w F
 laid: ∀(w:World)(F:Nat->Prop)(g yK:Nat)(l:List α),F g->g<w.heap.size->(∀j u,(l.flatMap cells)[j]?=some u->w.cell? ⟨g,j,none⟩=some u)->(∀a∈l,∀t∈zW a,t.At w F)->(Xa l (.slice (some ⟨g,0,none⟩) l.length yK)).At w F
theorem xG{α β:Type}{l:List α}{f:α->β}{k:Nat}{x:β}(h:(l.map f)[k]?=some x): ∃a,l[k]?=some a/\f a=x:=by simpa[F6,Option.map_eq_some_iff]using h
def zb:xC (Ex×Value)where
 cells a:=yZ a.1 a.2
 zW a:=[.a a.1.args a.2]
 Xa l v:=.a (l.map (·.1)) v
 nil _ _:=.nil _ _
 laid w F g c l e f hc hk:=by
  have:=M9.row (w:=w) (F:=F) g 0 c (l.map (·.1)) (λk=>((l[k]?).map (·.2)).getD undef) e f
   (λk x d j u h=>by
    obtain⟨a,b,rfl⟩:=xG d;simpa using hc _ _ (U2 _ 5 (λ_=>rfl) l k a b j u (by simpa[b]using h)))
   (λk x d=>by
    obtain⟨a,b,rfl⟩:=xG d;simpa[zq.At,b]using hk a (B0 b) _ (z5 ..))
  simpa[zq.At]using this
def qN:xC (Sm×Value×Value×Value)where
 cells a:=JC a.1 a.2.1 a.2.2.1 a.2.2.2
 zW a:=[.a a.1.a.args a.2.1,.s a.1.J0 a.2.2.1,.s a.1.P2 a.2.2.2]
 Xa l v:=.s (l.map (·.1)) v
 nil _ _:=.nil _ _
 laid w F g c l d e hc hk:=by
  have:=L7.row (w:=w) (F:=F) g 0 c (l.map (·.1)) (λk=>((l[k]?).map (·.2.1)).getD undef) (λk=>((l[k]?).map (·.2.2.1)).getD undef) (λk=>((l[k]?).map (·.2.2.2)).getD undef) d e
   (λk x h j u f=>by
    obtain⟨a,b,rfl⟩:=xG h;simpa using hc _ _ (U2 _ 10 (λ_=>rfl) l k a b j u (by simpa[b]using f)))
   (λk x h=>by
    obtain⟨a,b,rfl⟩:=xG h;simpa[zq.At,b]using hk a (B0 b) _ (z5 ..))
   (λk x h=>by
    obtain⟨a,b,rfl⟩:=xG h;simpa[zq.At,b]using hk a (B0 b) (.s a.1.J0 a.2.2.1) (by simp))
   (λk x h=>by
    obtain⟨a,b,rfl⟩:=xG h;simpa[zq.At,b]using hk a (B0 b) (.s a.1.P2 a.2.2.2) (by simp))
  simpa[zq.At]using this
def S8:xC (Fn×Value×Value×Value)where
 cells a:=yY a.1 a.2.1 a.2.2.1 a.2.2.2
 zW a:=[.n a.1.I4 a.2.1,.t a.1.N2 a.2.2.1,.s a.1.J0 a.2.2.2]
 Xa l v:=.f (l.map (·.1)) v
 nil _ _:=.inl ⟨_,_,rfl,rfl⟩
 laid w F g yK l d e h hk:=by
  refine .inr ⟨g,0,yK,(λk=>((l[k]?).map (·.2.1)).getD undef),(λk=>((l[k]?).map (·.2.2.1)).getD undef),(λk=>((l[k]?).map (·.2.2.2)).getD undef),by simp,d,e,λk f i=>?_⟩;obtain⟨a,b,rfl⟩:=xG i;have c:=hk a (B0 b);exact⟨λj u m=>by simpa using h _ _ (U2 _ 6 (λ_=>rfl) l k a b j u (by simpa[b]using m)),by simpa[zq.At,b]using c (.n a.1.I4 a.2.1) (by simp),by simpa[zq.At,b]using c (.t a.1.N2 a.2.2.1) (by simp),by simpa[zq.At,b]using c (.s a.1.J0 a.2.2.2) (by simp)⟩
def Q0:xC ByteArray where
 cells a:=[.string a]
 zW _:=[]
 Xa l v:=.n l v
 nil _ _:=.inl ⟨_,_,rfl,rfl⟩
 laid w F g yK l hF hg b _:=.inr ⟨g,0,yK,rfl,hF,hg,λk s c=>by simpa using b _ _ (U2 (λa=>[Value.string a]) 1 (λ_=>rfl) l k s c 0 _ rfl)⟩
def Z7:xC Int where
 cells a:=[.int .i64 a]
 zW _:=[]
 Xa l v:=.t l v
 nil _ _:=.inl ⟨_,_,rfl,rfl⟩
 laid w F g yK l hF hg b _:=.inr ⟨g,0,yK,rfl,hF,hg,λk s c=>by simpa using b _ _ (U2 (λa=>[Value.int .i64 a]) 1 (λ_=>rfl) l k s c 0 _ rfl)⟩
theorem O5{w:World}{base T d n:Nat}{v:Value}{xs:List Value}(h:w.ownsRow base T d v n xs):(v=.slice none 0 0/\n=0)\/ ∃g a,v=.slice (some ⟨g,0,none⟩) n a/\base<=g/\g<w.heap.size/\ ∀j u,xs[j]?=some u->w.cell? ⟨g,j,none⟩=some u:=by
 rcases h.2 with e|⟨g,a,f,i,k,c,_,_,_,l⟩
 ·exact .inl e
 ·refine .inr ⟨g,a,i,k,(Array.getElem?_eq_some_iff.1 c).1,λj u b=>?_⟩
  subst l;rw[x5 c j];rw[List.getElem?_take]at b
  split at b
  ·simpa using b
  ·cases b
theorem xC.yR{α:Type}(E:xC α){w:World}{F:Nat->Prop}{base T c:Nat}{v:Value}{l:List α}(h:w.ownsRow base T c v l.length (l.flatMap E.cells))(d: ∀g,v.ownBlock=some g->F g)(e: ∀a∈l,∀t∈E.zW a,t.At w F):(E.Xa l v).At w F:=by
 rcases O5 h with⟨rfl,f⟩|⟨g,b,rfl,k,i,j⟩
 ·obtain rfl:=G6 f;exact E.nil w F
 ·exact E.laid w F g b l (d g rfl) i j e
def Ju:ByteArray:=⟨#[45]⟩
def zau:ByteArray:=⟨#[33]⟩
def qZ:ByteArray:=⟨#[40]⟩
def zj:ByteArray:=⟨#[41]⟩
def zcy:ByteArray:=⟨#[116,114,117,101]⟩
def YB:ByteArray:=⟨#[102,97,108,115,101]⟩
def zcX:ByteArray:=⟨#[64]⟩
def YI:ByteArray:=⟨#[44]⟩
def R0:ByteArray:=⟨#[]⟩
def zfo:ByteArray:=⟨#[108,101,116]⟩
def sIf:ByteArray:=⟨#[105,102]⟩
def Yu:ByteArray:=⟨#[119,104,105,108,101]⟩
def Ji:ByteArray:=⟨#[114,101,116,117,114,110]⟩
def Yj:ByteArray:=⟨#[121,105,101,108,100]⟩
def zcl:ByteArray:=⟨#[101,108,115,101]⟩
def zfK:ByteArray:=⟨#[102,117,110]⟩
def ziA:ByteArray:=⟨#[105,110,116]⟩
def XZ:ByteArray:=⟨#[61]⟩
def zc3:ByteArray:=⟨#[59]⟩
def zfg:ByteArray:=⟨#[58]⟩
def zh7:ByteArray:=⟨#[123]⟩
def Xk:ByteArray:=⟨#[125]⟩
def Q9(ws:List Wd)(i:Nat):Nat:=
 if K6 ws i Ju then 1 else if K6 ws i zau then 2 else if K6 ws i qZ then 3 else if K6 ws i zcy then 4 else if K6 ws i YB then 5 else if K6 ws i zcX then 6
 else if N3 ws i=1 then 7 else if N3 ws i=2 then 8 else 0
inductive Qe where
 |jG (n i:Nat)|rest (n:Nat) (a:Ex) (i:Nat)|V0 (i:Nat)|args (k i:Nat)
inductive Re where
 |ex (x:Ex) (j:Nat)|QZ (l:List Ex) (j:Nat)
def xW(ws:List Wd)(en j:Nat)(a b:Ex):Ex:=.mk 6 0 (K4 ws j) [a,b] (L8 ws j en)
inductive De(ws:List Wd)(en:Nat):Qe->Re->Prop
 |lvl6 {i:Nat} {r:Re}:De ws en (.V0 i) r->De ws en (.jG 6 i) r
 |up {n i j:Nat} {a:Ex}:n≠6->De ws en (.jG (n+1) i) (.ex a j)->W5 ws j≠n->De ws en (.jG n i) (.ex a j)
 |two {n i j j':Nat} {a b:Ex}:n≠6->De ws en (.jG (n+1) i) (.ex a j)->W5 ws j=n->De ws en (.jG (n+1) (j+1)) (.ex b j')->W5 ws j'≠n->De ws en (.jG n i) (.ex (xW ws en j a b) j')
 |neg {i j:Nat} {y:Ex}:Q9 ws i=1->De ws en (.V0 (i+1)) (.ex y j)->De ws en (.V0 i) (.ex (.mk 4 0 R0 [y] (L8 ws i en)) j)
 |not {i j:Nat} {y:Ex}:Q9 ws i=2->De ws en (.V0 (i+1)) (.ex y j)->De ws en (.V0 i) (.ex (.mk 5 0 R0 [y] (L8 ws i en)) j)
 |par {i j:Nat} {x:Ex}:Q9 ws i=3->De ws en (.jG 1 (i+1)) (.ex x j)->K6 ws j zj=true->De ws en (.V0 i) (.ex x (j+1))
 |tru {i:Nat}:Q9 ws i=4->De ws en (.V0 i) (.ex (.mk 2 1 R0 [] (L8 ws i en)) (i+1))
 |fls {i:Nat}:Q9 ws i=5->De ws en (.V0 i) (.ex (.mk 2 0 R0 [] (L8 ws i en)) (i+1))
 |host {i j:Nat} {l:List Ex}:Q9 ws i=6->N3 ws (i+1)=1->K6 ws (i+2) qZ=true->De ws en (.args 0 (i+3)) (.QZ l j)->De ws en (.V0 i) (.ex (.mk 8 (yA (K4 ws (i+1))) R0 l (L8 ws i en)) j)
 |YO {i:Nat}:Q9 ws i=7->De ws en (.V0 i) (.ex (.mk 1 (yA (K4 ws i)) R0 [] (L8 ws i en)) (i+1))
 |yE {i:Nat}:Q9 ws i=8->K6 ws (i+1) qZ=false->De ws en (.V0 i) (.ex (.mk 3 0 (K4 ws i) [] (L8 ws i en)) (i+1))
 |call {i j:Nat} {l:List Ex}:Q9 ws i=8->K6 ws (i+1) qZ=true->De ws en (.args 0 (i+2)) (.QZ l j)->De ws en (.V0 i) (.ex (.mk 7 0 (K4 ws i) l (L8 ws i en)) j)
 |jb {k i:Nat}:K6 ws i zj=true->De ws en (.args k i) (.QZ [] (i+1))
 |first{i j j':Nat} {x:Ex} {l:List Ex}:K6 ws i zj=false->De ws en (.jG 1 i) (.ex x j)->De ws en (.args 1 j) (.QZ l j')->De ws en (.args 0 i) (.QZ (x::l) j')
 |next {k i j j':Nat} {x:Ex} {l:List Ex}:K6 ws i zj=false->K6 ws i YI=true->De ws en (.jG 1 (i+1)) (.ex x j)->De ws en (.args (k+2) j) (.QZ l j')->De ws en (.args (k+1) i) (.QZ (x::l) j')
def P9(ws:List Wd)(i:Nat):Nat:=
 if K6 ws i zfo then 1 else if K6 ws i sIf then 3 else if K6 ws i Yu then 4 else if K6 ws i Ji then 5 else if K6 ws i Yj then 6
 else if N3 ws i=2/\K6 ws (i+1) XZ=true then 2 else 7
def qR(ws:List Wd)(i:Nat):Nat:=
 if P9 ws i=1 then i+3 else if P9 ws i=2 then i+2 else if P9 ws i=7 then i else i+1
def jF(ws:List Wd)(i:Nat):ByteArray:=
 if P9 ws i=1 then K4 ws (i+1)else if P9 ws i=2 then K4 ws i else R0
inductive Qs where
 |JY (i:Nat)|block (i:Nat)|yn (i:Nat)
inductive Rs where
 |st (s:Sm) (j:Nat)|Qj (l:List Sm) (j:Nat)
inductive Ds(ws:List Wd)(en:Nat):Qs->Rs->Prop
 |simp{i j:Nat} {x:Ex}:P9 ws i≠3->P9 ws i≠4->(P9 ws i=1->N3 ws (i+1)=2/\K6 ws (i+2) XZ=true)->De ws en (.jG 1 (qR ws i)) (.ex x j)->K6 ws j zc3=true->Ds ws en (.JY i) (.st (.mk (P9 ws i) (jF ws i) x [] [] (L8 ws i en)) (j+1))
 |zgw {i j j':Nat} {x:Ex} {l:List Sm}:P9 ws i=4->De ws en (.jG 1 (i+1)) (.ex x j)->Ds ws en (.block j) (.Qj l j')->Ds ws en (.JY i) (.st (.mk 4 R0 x l [] (L8 ws i en)) j')
 |ifE {i j j' k:Nat} {x:Ex} {l m:List Sm}:P9 ws i=3->De ws en (.jG 1 (i+1)) (.ex x j)->Ds ws en (.block j) (.Qj l j')->K6 ws j' zcl=true->K6 ws (j'+1) sIf=false->Ds ws en (.block (j'+1)) (.Qj m k)->Ds ws en (.JY i) (.st (.mk 3 R0 x l m (L8 ws i en)) k)
 |block {i:Nat} {r:Rs}:K6 ws i zh7=true->Ds ws en (.yn (i+1)) r->Ds ws en (.block i) r
 |done {i:Nat}:K6 ws i Xk=true->Ds ws en (.yn i) (.Qj [] (i+1))
 |Qf {i j j':Nat} {s:Sm} {l:List Sm}:K6 ws i Xk=false->Ds ws en (.JY i) (.st s j)->Ds ws en (.yn j) (.Qj l j')->Ds ws en (.yn i) (.Qj (s::l) j')
def za2(ws:List Wd)(i:Nat):Prop:=K6 ws i zfg=true/\K6 ws (i+1) ziA=true
def qd(k i:Nat):Nat:=if k=0 then i else i+1
inductive Dp(ws:List Wd)(en:Nat):Nat->Nat->List ByteArray->Nat->Prop
 |jb {k i:Nat}:K6 ws i zj=true->Dp ws en k i [] (i+1)
 |next {k i j:Nat} {ns:List ByteArray}:K6 ws i zj=false->(k≠0->K6 ws i YI=true)->N3 ws (qd k i)=2->za2 ws (qd k i+1)->Dp ws en (k+1) (qd k i+3) ns j->Dp ws en k i (K4 ws (qd k i)::ns) j
inductive Df(ws:List Wd)(en:Nat):Nat->Fn->Nat->Prop
 |fn {i j k:Nat} {ns:List ByteArray} {l:List Sm}:K6 ws i zfK=true->N3 ws (i+1)=2->K6 ws (i+2) qZ=true->Dp ws en 0 (i+3) ns j->za2 ws j->Ds ws en (.block (j+2)) (.Qj l k)->
  Df ws en i {K3:=K4 ws (i+1),I4:=ns,N2:=ns.map λ_=>1,out:=1,J0:=l,pos:=L8 ws i en} k
inductive Du(ws:List Wd)(en:Nat):Nat->List Fn->Prop
 |done {i:Nat}:ws.length<=i->Du ws en i []
 |Qf {i j:Nat} {f:Fn} {l:List Fn}:i<ws.length->Df ws en i f j->Du ws en j l->Du ws en i (f::l)
inductive Dc(ws:List Wd)(en:Nat):Qe->Re->Prop
 |ex {m i j:Nat} {a:Ex} {r:Re}:Dc ws en (.V0 i) (.ex a j)->Dc ws en (.rest m a j) r->Dc ws en (.jG m i) r
 |stop {m j:Nat} {a:Ex}:W5 ws j<=m->Dc ws en (.rest m a j) (.ex a j)
 |go {m j j':Nat} {a b:Ex} {r:Re}:m<W5 ws j->Dc ws en (.jG (W5 ws j) (j+1)) (.ex b j')-> ¬(W5 ws j=3/\W5 ws j'=3)->Dc ws en (.rest m (xW ws en j a b) j') r->Dc ws en (.rest m a j) r
 |neg {i j:Nat} {y:Ex}:Q9 ws i=1->Dc ws en (.V0 (i+1)) (.ex y j)->Dc ws en (.V0 i) (.ex (.mk 4 0 R0 [y] (L8 ws i en)) j)
 |not {i j:Nat} {y:Ex}:Q9 ws i=2->Dc ws en (.V0 (i+1)) (.ex y j)->Dc ws en (.V0 i) (.ex (.mk 5 0 R0 [y] (L8 ws i en)) j)
 |par {i j:Nat} {x:Ex}:Q9 ws i=3->Dc ws en (.jG 0 (i+1)) (.ex x j)->K6 ws j zj=true->Dc ws en (.V0 i) (.ex x (j+1))
 |tru {i:Nat}:Q9 ws i=4->Dc ws en (.V0 i) (.ex (.mk 2 1 R0 [] (L8 ws i en)) (i+1))
 |fls {i:Nat}:Q9 ws i=5->Dc ws en (.V0 i) (.ex (.mk 2 0 R0 [] (L8 ws i en)) (i+1))
 |host {i j:Nat} {l:List Ex}:Q9 ws i=6->N3 ws (i+1)=1->K6 ws (i+2) qZ=true->Dc ws en (.args 0 (i+3)) (.QZ l j)->Dc ws en (.V0 i) (.ex (.mk 8 (yA (K4 ws (i+1))) R0 l (L8 ws i en)) j)
 |YO {i:Nat}:Q9 ws i=7->Dc ws en (.V0 i) (.ex (.mk 1 (yA (K4 ws i)) R0 [] (L8 ws i en)) (i+1))
 |yE {i:Nat}:Q9 ws i=8->K6 ws (i+1) qZ=false->Dc ws en (.V0 i) (.ex (.mk 3 0 (K4 ws i) [] (L8 ws i en)) (i+1))
 |call {i j:Nat} {l:List Ex}:Q9 ws i=8->K6 ws (i+1) qZ=true->Dc ws en (.args 0 (i+2)) (.QZ l j)->Dc ws en (.V0 i) (.ex (.mk 7 0 (K4 ws i) l (L8 ws i en)) j)
 |jb {k i:Nat}:K6 ws i zj=true->Dc ws en (.args k i) (.QZ [] (i+1))
 |first{i j j':Nat} {x:Ex} {l:List Ex}:K6 ws i zj=false->Dc ws en (.jG 0 i) (.ex x j)->Dc ws en (.args 1 j) (.QZ l j')->Dc ws en (.args 0 i) (.QZ (x::l) j')
 |next {k i j j':Nat} {x:Ex} {l:List Ex}:K6 ws i zj=false->K6 ws i YI=true->Dc ws en (.jG 0 (i+1)) (.ex x j)->Dc ws en (.args (k+2) j) (.QZ l j')->Dc ws en (.args (k+1) i) (.QZ (x::l) j')
theorem zee(ws:List Wd)(i:Nat):W5 ws i<=5:=by
 have h: ∀s,lv s<=5:=λs=>by unfold lv;repeat' (first|omega|split)
 unfold W5;split<;>first|exact h _|omega
theorem Dc.zhS{ws:List Wd}{en n i j m:Nat}{a:Ex}{r:Re}(h:Dc ws en (.jG n i) (.ex a j))(u:m<=n)(o:Dc ws en (.rest m a j) r):Dc ws en (.jG m i) r:=by
 have e: ∀{q f},Dc ws en q f-> ∀b c,q=.rest n b c->f=.ex a j->Dc ws en (.rest m b c) r:=by
  intro q f h
  induction h with
  |stop p=>rintro b c d g;cases d;cases g;exact o
  |go p k s _ _ l=>rintro b c d g;cases d;subst g;exact .go (by omega) k s (l _ _ rfl rfl)
  |_=>rintro b c d;cases d
 cases h with
 |ex k t=>exact .ex k (e t _ _ rfl rfl)
def zfJ(ws:List Wd)(en:Nat):Qe->Re->Prop
 |.jG n i,.ex a j=>1<=n->n<=6->W5 ws j<n/\Dc ws en (.jG (n-1) i) (.ex a j)
 |.jG _ _,_=>True
 |q,r=>Dc ws en q r
theorem De.zh2{ws:List Wd}{en:Nat}{q:Qe}{r:Re}(h:De ws en q r):zfJ ws en q r:=by
 induction h with
 | @lvl6 i r _ c=>
   cases r with
   |ex a j=>intro _ _;have:=zee ws j;exact⟨by omega,.ex c (.stop this)⟩
   |QZ=>trivial
 |up m _ l c=>
  intro n o;have k:=c (by omega) (by omega);exact⟨by omega,k.2.zhS (by omega) (.stop (by omega))⟩
 |two m _ l _ p d e=>
  intro n o;have k:=d (by omega) (by omega);have s:=e (by omega) (by omega);exact⟨by omega,k.2.zhS (by omega) (.go (by omega) (by rw[l];exact s.2) (by omega) (.stop (by omega)))⟩
 |neg b _ c=>exact .neg b c
 |not b _ c=>exact .not b c
 |par b _ f c=>exact .par b (c (by omega) (by omega)).2 f
 |tru b=>exact .tru b
 |fls b=>exact .fls b
 |host b g t _ c=>exact .host b g t c
 |YO b=>exact .YO b
 |yE b g=>exact .yE b g
 |call b g _ c=>exact .call b g c
 |jb f=>exact .jb f
 |first f _ _ d e=>exact .first f (d (by omega) (by omega)).2 e
 |next f u _ _ d e=>exact .next f u (d (by omega) (by omega)).2 e
end Go.Proofs.YtalgmjmibamdfaaGreatDoor
