/- Merged. -/
import Derived.Test.YtalgmjmibamdfaaGreatDoorVS01
import Derived.Test.YtalgmjmibamdfaaGreatDoorShelf
import Derived.Deep.AppendLies
import Derived.Lib.AppendIntMem
import Derived.Shelf.Strings.SlTrimAscii
set_option linter.all false
set_option maxHeartbeats 32000000
set_option maxRecDepth 100000
namespace Go.Proofs.YtalgmjmibamdfaaGreatDoor
open Go.Proofs.Tryz
open Go.RowKit Tw
def T1(w:World):Prop:= ∃m:Int,w.cell? ⟨3,0,none⟩=some (.int .i64 m)
theorem zx(s:ByteArray)(a b:Nat):(s.extract a b).data.toList=(s.data.toList.drop a).take (b-a):=by
 simp[ByteArray.data_extract,Array.toList_extract]
theorem XG(a b:ByteArray):(a++b).data.toList=a.data.toList++b.data.toList:=by
 simp[ByteArray.data_append]
theorem yH(K x:ByteArray)(w:World)(b:K.size<4294967281)(a:T1 w):
 Calls prog 113 #[.string K,.string (⟨#[32]⟩++x++⟨#[32]⟩)] w λe w'=>e=.returned (.bool (Lib.contains K.data.toList (32::(x.data.toList++[32]))))/\w=w':=by
 obtain⟨m,a⟩:=a;refine(Tryz.strings_Contains K _ m w b a).mono ?_;rintro e w' ⟨rfl,rfl⟩;exact⟨by rw[XG,XG];rfl,rfl⟩
theorem zht(s:ByteArray)(h:1<s.size): ∃a b,(s.extract 0 2).data.toList=[a,b]/\s.data.toList.take 2=[a,b]:=by
 rw[zx];have c:1<s.data.toList.length:=h
 rcases d:s.data.toList with _|⟨a,_|⟨b,l⟩⟩
 ·rw[d]at c;simp at c
 ·rw[d]at c;simp at c
 ·exact⟨a,b,by simp,by simp⟩
theorem jO(s:ByteArray)(w:World)(t:Bool)(h:1<s.size)(c:T8.contains (s.data.toList.take 2)=t)(d:T1 w):
 Calls prog 113 #[.string ⟨#[32,60,61,32,62,61,32,61,61,32,33,61,32,38,38,32,124,124,32]⟩,.string (⟨#[32]⟩++s.extract 0 2++⟨#[32]⟩)] w λe w'=>e=.returned (.bool t)/\w=w':=by
 refine(yH _ _ w (by decide) d).mono ?_;rintro e w' ⟨rfl,rfl⟩;obtain⟨a,b,f,g⟩:=zht s h;refine⟨?_,rfl⟩;rw[<-c,f,g,<-ZS];rfl
theorem qf(c:UInt8)(w:World)(t:Bool)(a:yk.contains c=t):
 Calls prog 123 #[.string ⟨#[43,45,42,47,37,60,62,61,33,40,41,123,125,44,59,58,64]⟩,.int .u8 c.toNat] w λe w'=>(∃i:Int,e=.returned (.int .i64 i)/\decide (0<=i)=t)/\w=w':=by
 refine(Tryz.strings_IndexByte _ _ w).mono ?_;rintro e w' ⟨rfl,rfl⟩;refine⟨⟨_,rfl,?_⟩,rfl⟩;rw[<-a,<-Qn];have:UInt8.ofNat (((c.toNat:Int)).toNat)=c:=by simp
 simp only[this];rfl
theorem zc0(s:ByteArray)(w:World)(hs:s.size<=maxLen)(p:T1 w):
 Calls prog 88 #[.string s] w λe w'=>e=.returned (.int .i64 (M6 s.data.toList))/\w=w':=by
 unfold maxLen at hs;have k:=zh p;clear p
 by_cases m:0<s.size
 case neg=>
  have q:M6 s.data.toList=0:=by
   have:s.data.toList=[]:=G6 (by rw[N9];omega);rw[this];decide
  have f:=zh q;clear q
  go_enter func88,ntmps88
  go_wp2
  go_ret;exact⟨xe (by rw[f.out];rfl),rfl⟩
 have h:=zh (qt s m)
 by_cases n:1<s.size
 ·cases c:T8.contains (s.data.toList.take 2)
  ·cases d:yk.contains s[0]
   ·have f:=zh (show M6 s.data.toList=0 by simp only[M6,c,h.out,d];simp)
    have j:=zh c;have g:=zh d;clear c d
    go_enter func88,ntmps88
    go_wp2_with fail
    refine(jO s w _ n j.out k.out).mono ?_;rintro e w' ⟨rfl,rfl⟩
    go_wp2_with fail
    refine(qf _ _ _ g.out).mono ?_;rintro e w' ⟨⟨i,rfl,o⟩,rfl⟩
    go_wp2_with fail
    go_ret;exact⟨xe (by rw[f.out];rfl),rfl⟩
   ·have f:=zh (show M6 s.data.toList=1 by simp only[M6,c,h.out,d];simp[N9,m])
    have j:=zh c;have g:=zh d;clear c d
    go_enter func88,ntmps88
    go_wp2_with fail
    refine(jO s w _ n j.out k.out).mono ?_;rintro e w' ⟨rfl,rfl⟩
    go_wp2_with fail
    refine(qf _ _ _ g.out).mono ?_;rintro e w' ⟨⟨i,rfl,o⟩,rfl⟩
    go_wp2_with fail
    go_ret;exact⟨xe (by rw[f.out];rfl),rfl⟩
  ·have f:=zh (show M6 s.data.toList=2 by simp only[M6,c];simp)
   have j:=zh c;clear c
   go_enter func88,ntmps88
   go_wp2_with fail
   refine(jO s w _ n j.out k.out).mono ?_;rintro e w' ⟨rfl,rfl⟩
   go_wp2_with fail
   go_ret;exact⟨xe (by rw[f.out];rfl),rfl⟩
 ·have c:T8.contains (s.data.toList.take 2)=false:=by
   have r:s.data.toList.length=s.size:=rfl
   rcases h:s.data.toList with _|⟨a,_|⟨b,l⟩⟩
   ·decide
   ·simp[T8]
   ·rw[h]at r;simp at r;omega
  cases d:yk.contains s[0]
  ·have f:=zh (show M6 s.data.toList=0 by simp only[M6,c,h.out,d];simp)
   have g:=zh d;clear c d
   go_enter func88,ntmps88
   go_wp2_with fail
   refine(qf _ _ _ g.out).mono ?_;rintro e w' ⟨⟨i,rfl,o⟩,rfl⟩
   go_wp2_with fail
   go_ret;exact⟨xe (by rw[f.out];rfl),rfl⟩
  ·have f:=zh (show M6 s.data.toList=1 by simp only[M6,c,h.out,d];simp[N9,m])
   have g:=zh d;clear c d
   go_enter func88,ntmps88
   go_wp2_with fail
   refine(qf _ _ _ g.out).mono ?_;rintro e w' ⟨⟨i,rfl,o⟩,rfl⟩
   go_wp2_with fail
   go_ret;exact⟨xe (by rw[f.out];rfl),rfl⟩
end Go.Proofs.YtalgmjmibamdfaaGreatDoor
namespace Go.Proofs.YtalgmjmibamdfaaGreatDoor
namespace Tw
theorem ja(s:ByteArray)(k:Nat)(h:k<s.size):s.data.toList.drop k=s[k]::s.data.toList.drop (k+1):=by
 rw[F2 (by simpa using h)];rfl
theorem zcF(s:ByteArray)(k:Nat)(h:s.size<=k):s.data.toList.drop k=[]:=by
 rw[List.drop_eq_nil_iff];simpa using h
theorem zv(s:ByteArray)(p:UInt8->Bool)(k:Nat)(h:k<s.size)(a:p s[k]=true):K0 p (s.data.toList.drop k)=1+K0 p (s.data.toList.drop (k+1)):=by
 rw[ja s k h];simp[K0,a];omega
theorem Jh(s:ByteArray)(p:UInt8->Bool)(k:Nat)(h:k<s.size)(a:p s[k]=false):K0 p (s.data.toList.drop k)=0:=by
 rw[ja s k h];simp[K0,a]
theorem Jv(s:ByteArray)(p:UInt8->Bool)(k:Nat)(h:s.size<=k):K0 p (s.data.toList.drop k)=0:=by
 rw[zcF s k h];rfl
section
variable {s:ByteArray}{k:Nat}{l:List Wd}{r:Option Nat×List Wd}
theorem jz.Zf{n:Nat}(h:jz s k l r)(d:k<s.size)(b:xp (s.data.toList.drop k)=.skip n):jz s (k+n) l r:=by
 cases h with
 |done e=>omega
 |skip _ a c=>rw[b]at a;cases a;exact c
 |Y8 _ a c=>rw[b]at a;cases a
 |xS _ a=>rw[b]at a;cases a
theorem jz.qI{n c:Nat}(h:jz s k l r)(f:k<s.size)(b:xp (s.data.toList.drop k)=.Y8 c n):jz s (k+n) (l++[⟨c,s.extract k (k+n),k⟩]) r:=by
 cases h with
 |done e=>omega
 |skip _ a d=>rw[b]at a;cases a
 |Y8 _ a d=>rw[b]at a;cases a;exact d
 |xS _ a=>rw[b]at a;cases a
theorem jz.xO(h:jz s k l r)(d:k<s.size)(b:xp (s.data.toList.drop k)=.xS):r=(some k,[]):=by
 cases h with
 |done e=>omega
 |skip _ a c=>rw[b]at a;cases a
 |Y8 _ a c=>rw[b]at a;cases a
 |xS _ a=>rfl
theorem jz.zaJ(h:jz s k l r)(d:s.size<=k):r=(none,l):=by
 cases h with
 |done e=>rfl
 |skip a b c=>omega
 |Y8 a b c=>omega
 |xS a b=>omega
theorem zl(s:ByteArray)(k:Nat)(h:k<s.size):(s.data.toList.drop k).headD 0=s[k]:=by rw[ja s k h];rfl
theorem Yy(a:k<s.size)(h:zT s[k]=true):xp (s.data.toList.drop k)=.skip 1:=by
 simp only[xp,zl s k a,h];simp
theorem Zi(a:k<s.size)(h:zT s[k]=false)(b:s[k]=35):xp (s.data.toList.drop k)=.skip (K0 (λc=>c !=10) (s.data.toList.drop k)):=by
 simp only[xp,zl s k a,h];simp[b]
theorem JK(b:k<s.size)(a:zI s[k]=true):xp (s.data.toList.drop k)=if S4 ((s.data.toList.drop k).take (K0 Q7 (s.data.toList.drop k)))then .Y8 1 (K0 Q7 (s.data.toList.drop k))else .xS:=by
 have h:zT s[k]=false:=by simp[zI,zT]at*;omega
 have c:(s[k]==35)=false:=by rw[y8];intro e;rw[e]at a;revert a;decide
 simp only[xp,zl s k b,h,a,c];simp
theorem Jk(b:k<s.size)(a:xn s[k]=true):xp (s.data.toList.drop k)=if zC ((s.data.toList.drop k).take (K0 Q7 (s.data.toList.drop k)))then .Y8 3 (K0 Q7 (s.data.toList.drop k))else if decide (16<K0 Q7 (s.data.toList.drop k))then .xS else .Y8 2 (K0 Q7 (s.data.toList.drop k)):=by
 have h:zT s[k]=false:=by simp[xn,zT]at*;omega
 have c:(s[k]==35)=false:=by rw[y8];intro e;rw[e]at a;revert a;decide
 have d:zI s[k]=false:=by simp[xn,zI]at*;omega
 simp only[xp,zl s k b,h,a,c,d];simp
theorem Zq(a:k<s.size)(h:zT s[k]=false)(b:s[k]≠35)(c:zI s[k]=false)(d:xn s[k]=false){n:Nat}(e:M6 (s.data.toList.drop k)=n):xp (s.data.toList.drop k)=if n=0 then .xS else .Y8 4 n:=by
 have f:(s[k]==35)=false:=by rw[y8];exact b
 simp only[xp,zl s k a,h,f,c,d,e];cases n<;>simp
end
theorem xE(l:Bs):M6 l<=l.length/\M6 l<=2:=by
 unfold M6
 split
 ·rename_i h
  have:l.take 2∈T8:=by simpa using h
  simp only[T8,D9,List.mem_nil_iff,or_false]at this;have a:(l.take 2).length=2:=by rcases this with h|h|h|h|h|h<;>rw[h]<;>rfl
  rw[G8]at a;omega
 ·split
  ·rename_i h;simp at h;omega
  ·omega
theorem Je(p:UInt8->Bool)(l:Bs):K0 p l<=l.length:=by
 unfold K0;exact(List.takeWhile_sublist p).length_le
theorem Xu{s:ByteArray}{k c m:Nat}(b:k<s.size)(a:xp (s.data.toList.drop k)=.Y8 c m):0<m/\m<=s.size-k:=by
 have f:(s.data.toList.drop k).length=s.size-k:=by rw[G9];rfl
 by_cases h:zT s[k]=true
 ·rw[Yy b h]at a;cases a
 ·have h:zT s[k]=false:=by simpa using h
  have j:=Je Q7 (s.data.toList.drop k)
  by_cases g:s[k]=35
  ·rw[Zi b h g]at a;cases a
  ·by_cases d:zI s[k]=true
   ·have i:=zv s Q7 k b (by simp[Q7,d])
    rw[JK b d]at a;split at a<;>cases a;omega
   ·by_cases e:xn s[k]=true
    ·have i:=zv s Q7 k b (by simp[Q7,e])
     rw[Jk b e]at a;repeat' (split at a)
     all_goals cases a
     all_goals omega
    ·have:=xE (s.data.toList.drop k)
     rw[Zq b h g (by simpa using d) (by simpa using e) rfl]at a;split at a
     ·cases a
     ·cases a;omega
end Tw
end Go.Proofs.YtalgmjmibamdfaaGreatDoor
namespace Go.Proofs.YtalgmjmibamdfaaGreatDoor
open Go.RowKit
structure S1(P:Program)(t e size:Nat):Prop where
 ut:P.underlying t=some (.slice e)
 inf:(P.info? e).map (λi=>(i.zero.map (λz=>z.cells.size),i.size,decide (i.bytes<=256)))=some (some size,size,true)
 pos:0<size
section
variable {P:Program}{w:World}
theorem S1.get{t e size:Nat}(h:S1 P t e size): ∃i z,P.info? e=some i/\i.zero=some z/\i.size=size/\i.bytes<=256/\z.cells.size=size:=by
 have a:=h.inf;cases d:P.info? e with
 |none=>rw[d]at a;cases a
 |some i=>
  rw[d]at a;simp only[Option.map_some,Option.some.injEq,Prod.mk.injEq,decide_eq_true_eq]at a;obtain⟨b,f,g⟩:=a;cases c:i.zero with
  |none=>rw[c]at b;cases b
  |some z=>
   rw[c]at b;exact⟨i,z,rfl,c,f,g,by simpa using b⟩
theorem xk{n b:Nat}(a:b<=256)(c:n<=500000000000):n*b<=140737488355328:=by
 have:n*b<=500000000000*256:=Nat.mul_le_mul c a;omega
theorem L6{ops:Array Oper}{b:List Oper}{o:Oper}{a:Act}{Q:Exit->Act->World->Prop}{t e size:Nat}(E:S1 P t e size)(m:o.guard=none)(s x:Operand)
 (y:o.op=.call {callee:=.builtin .append,args:= #[s,x],argTypes:= #[t,t]})
 (base:Nat) (v:Value) (n:Nat) (xs:List Value) (hs:a.eval s=v) (f:w.ownsRow base e size v n xs)
 (H c:Nat) (j:Array Value) (hx:a.eval x=.slice (some ⟨H,0,none⟩) 1 c) (k:w.heap[H]?=some (.cells j e (0,0))) (A:j.size=size) (B: ∀u∈j.toList,u.oneCell'=true)
 (C:n+1<=500000000000) (d:base<=w.heap.size)
 (h: ∀g l w',w'.ownsRow base e size (.slice (some ⟨g,0,none⟩) (n+1) l) (n+1) (xs++j.toList)->w.grownBy w' v.ownBlock->(v.ownBlock=some g\/g=w.heap.size)->g<w'.heap.size->wpList P ops Q b (a.put o.dst (.slice (some ⟨g,0,none⟩) (n+1) l)) w'):wpList P ops Q (o::b) a w:=by
 obtain⟨i,z,D,F,p,q,r⟩:=E.get
 exact wpList_append_lies w m s x t y base e i z size i.bytes E.ut D F p rfl r E.pos v n xs hs f ⟨H,0,none⟩ 1 c j.toList hx (by simp[A]) (World.news_of_block k) B
  (by omega) (by unfold maxLen;omega) (xk q C) d w.heap.size rfl h
theorem J1{B:Nat}{a w:World}(h:Below B a w)(n:Nat):Below B a (w.drewN n):=⟨h.os,h.tape,h.output,h.size,h.block⟩
theorem L3{B:Nat}{w0 w':World}{base:Nat}{e size n:Nat}{v:Value}{xs:List Value}(c:Below B w0 w)(a:w.ownsRow base e size v n xs)(d:B<=base)(b:B<=w.heap.size)(f:w.grownBy w' v.ownBlock):Below B w0 w':=
 c.grown f b λk g=>Nat.le_trans d (a.lt k g).1
end
end Go.Proofs.YtalgmjmibamdfaaGreatDoor
namespace Go.Proofs.YtalgmjmibamdfaaGreatDoor
open Go.Proofs.Tryz
open Go.RowKit Tw
theorem W9:S1 prog 111 158 3:=⟨underlying111,by kernel_rfl,by decide⟩
theorem X7(c:UInt8)(t:Bool)(h:zI c=t)(w:World):Calls prog 84 #[.int .u8 c.toNat] w λe w'=>e=.returned (.bool t)/\w=w':=by subst h;exact zn c w
theorem Z1(c:UInt8)(t:Bool)(h:xn c=t)(w:World):Calls prog 85 #[.int .u8 c.toNat] w λe w'=>e=.returned (.bool t)/\w=w':=by subst h;exact Z9 c w
theorem yl(s:ByteArray)(t:Bool)(h:S4 s.data.toList=t)(hs:s.size<=maxLen)(w:World):Calls prog 86 #[.string s] w λe w'=>e=.returned (.bool t)/\w=w':=by subst h;exact YC s w hs
theorem xh(s:ByteArray)(t:Bool)(h:zC s.data.toList=t)(w:World):Calls prog 87 #[.string s] w λe w'=>e=.returned (.bool t)/\w=w':=by subst h;exact yw s w
theorem zcf(s:ByteArray)(n:Nat)(h:M6 s.data.toList=n)(hs:s.size<=maxLen)(w:World)(a:T1 w):Calls prog 88 #[.string s] w λe w'=>e=.returned (.int .i64 n)/\w=w':=by subst h;exact zc0 s w hs a
theorem T1.below{w w':World}(h:T1 w){B:Nat}(a:Below B w w')(b:3<B):T1 w':=by
 obtain⟨m,c⟩:=h;exact⟨m,(a.cell (p:=⟨3,0,none⟩) b).trans c⟩
theorem P8(l:List Wd)(x:Wd):O6 (l++[x])=O6 l++x.cells:=by simp[O6]
theorem Z6(w:World)(a o2:Obj):((w.alloc a).alloc o2).heap[w.heap.size+1]?=some o2:=by
 have:=x9 (w.alloc a) o2;simpa using this
def YG(r:Option Nat×List Wd):Int:=if r.1.isSome then 15 else 0
def zbO(r:Option Nat×List Wd):Int:=(r.1.getD 0:Nat)
theorem YF(s:ByteArray)(w:World)(r:Option Nat×List Wd)(hs:s.size<=4000)(hm:T1 w)(h2:3<w.heap.size)(hr:jz s 0 [] r):
 Calls prog 50 #[.string s] w λe w'=> ∃v,e=.returned (.tuple #[v,.int .i64 (zbO r),.int .i64 (YG r)])/\w'.ownsRow w.heap.size 158 3 v r.2.length (O6 r.2)/\Below w.heap.size w w':=by
 have HR:=zh hr;clear hr;have HM:=zh hm;clear hm
 go_enter func50,ntmps50
 go_wp2_with fail
 go_loopw[5,6] (λv i wr=> ∃(k:Nat)(l:List Wd),k<=s.size/\i=.int .i64 k/\l.length<=k/\wr.ownsRow w.heap.size 158 3 v l.length (O6 l)/\Below w.heap.size w wr/\Hid (jz s k l r)) (λ_ i _=>s.size-(intOf i).toNat)
 case atStart=>exact⟨0,[],C6 _,rfl,C6 _,F8 _ _ _ _,x7 _ _,HR⟩
 case round=>
  obtain⟨k,l,hk,rfl,hl,d,y,L⟩:=hrel;have x:=y.size
  by_cases o:k<s.size
  case neg=>
   have E:=zh (L.out.zaJ (by omega))
   go_wp2_with fail
   go_ret3
   exact⟨_,by rw[E.out];rfl,by rw[E.out];exact d,y⟩
  have hc:s[k].toNat<256:=UInt8.toNat_lt _;cases I:zT s[k]
  case true=>
   have N:=zh (L.out.Zf o (Yy o I));have W:s[k].toNat=32\/s[k].toNat=10\/s[k].toNat=9:=by simpa[zT,or_assoc]using I
   clear I;obtain⟨e1,e2⟩:(((s[k].toNat:Int)==32)=true\/((s[k].toNat:Int)==32)=false/\(((s[k].toNat:Int)==10)=true\/((s[k].toNat:Int)==10)=false/\((s[k].toNat:Int)==9)=true))/\True:=by
    refine⟨?_,trivial⟩
    rcases W with h|h|h<;>rw[h]<;>decide
   clear e2 W
   rcases e1 with e1|⟨e1,a1|⟨a1,a2⟩⟩
   all_goals
    go_wp2_with fail
    go_roundw
    case rel=>exact⟨k+1,l,by omega,by go_num,by omega,d,y,N⟩
    case measure=>simp[intOf];omega
  have e1:((s[k].toNat:Int)==32)=false:=by
   rw[y8];intro h;have:s[k].toNat=32:=by omega
   simp[zT,this]at I
  have e2:((s[k].toNat:Int)==10)=false:=by
   rw[y8];intro h;have:s[k].toNat=10:=by omega
   simp[zT,this]at I
  have e3:((s[k].toNat:Int)==9)=false:=by
   rw[y8];intro h;have:s[k].toNat=9:=by omega
   simp[zT,this]at I
  by_cases R:s[k]=35
  ·have J:=zh (Zi o I R)
   have N:=zh (L.out.Zf o J.out);have e4:((s[k].toNat:Int)==35)=true:=by rw[R];rfl
   clear R I
   go_wp2_with fail
   go_loop [6] (λi=> ∃j:Nat,k<=j/\j<=s.size/\i=.int .i64 j/\Hid (k+K0 (λc=>c !=10) (s.data.toList.drop k)=j+K0 (λc=>c !=10) (s.data.toList.drop j))) (λi=>s.size-(intOf i).toNat)
   case atStart=>exact⟨k,x6 _,by omega,rfl,zh rfl⟩
   case round=>
    obtain⟨j,X,hj,rfl,O⟩:=hrel
    by_cases b:j<s.size
    ·by_cases M:s[j].toNat=10
     ·have K:(s[j] !=10)=false:=by
       have:s[j]=10:=UInt8.toNat_inj.1 M;simp[this]
      have Y:k+K0 (λc=>c !=10) (s.data.toList.drop k)=j:=by rw[O.out,Jh s (λc=>c !=10) j b K];rfl
      have p:Hid (jz s j l r):=zh (by have:=N.out;rw[Y]at this;exact this);have e5:((s[j].toNat:Int) !=10)=false:=by rw[M];rfl
      have S:k<j:=by have:=zv s (λc=>c !=10) k o (by have:=e4;simp at this;simp;intro h;rw[h]at this;revert this;decide);omega
      clear M K Y
      go_wp2_with fail
      go_roundw
      case rel=>exact⟨j,l,by omega,rfl,by omega,d,y,p⟩
      case measure=>simp[intOf];omega
     ·have K:(s[j] !=10)=true:=by
       rw[bne_iff_ne];intro h;exact M (by rw[h];rfl)
      have B:Hid (k+K0 (λc=>c !=10) (s.data.toList.drop k)=(j+1)+K0 (λc=>c !=10) (s.data.toList.drop (j+1))):=zh (by rw[O.out,zv s (λc=>c !=10) j b K];omega);have e5:((s[j].toNat:Int) !=10)=true:=by rw[bne_iff_ne];omega
      clear M K
      go_wp2_with fail
      go_round
      case rel=>exact⟨j+1,by omega,by omega,by go_num,B⟩
      case measure=>simp[intOf];omega
    ·have Y:k+K0 (λc=>c !=10) (s.data.toList.drop k)=j:=by rw[O.out,Jv s _ j (by omega)];rfl
     have p:Hid (jz s j l r):=zh (by have:=N.out;rw[Y]at this;exact this);clear Y
     go_wp2_with fail
     go_roundw
     case rel=>exact⟨j,l,by omega,rfl,by omega,d,y,p⟩
     case measure=>simp[intOf];omega
  have e4:((s[k].toNat:Int)==35)=false:=by rw[y8];intro h;exact R (UInt8.toNat_inj.1 (show s[k].toNat=35 by omega))
  cases P:zI s[k]
  case true=>
   have J:=zh (JK o P);have HA:=zh (zv s Q7 k o (by simp[Q7,P]));have T:=zh P;clear P I R
   go_wp2_with(go_at_call 84;refine(X7 _ _ T.out _).mono ?_;rintro e w' ⟨rfl,rfl⟩)
   go_loop [6] (λi=> ∃j:Nat,k<=j/\j<=s.size/\i=.int .i64 j/\Hid (k+K0 Q7 (s.data.toList.drop k)=j+K0 Q7 (s.data.toList.drop j))) (λi=>s.size-(intOf i).toNat)
   case atStart=>exact⟨k,x6 _,by omega,rfl,zh rfl⟩
   case round=>
    obtain⟨j,X,hj,rfl,O⟩:=hrel
    by_cases m: ∃h:j<s.size,Q7 s[j]=true
    ·obtain⟨b,m⟩:=m
     have B:Hid (k+K0 Q7 (s.data.toList.drop k)=(j+1)+K0 Q7 (s.data.toList.drop (j+1))):=zh (by rw[O.out,zv s Q7 j b m];omega);cases u:zI s[j]
     ·have z:=zh u
      have F:Hid (xn s[j]=true):=zh (by simpa[Q7,u]using m);clear u m
      go_wp2_with(first|(go_at_call 84;refine(X7 _ _ z.out _).mono ?_;rintro e w' ⟨rfl,rfl⟩)|(go_at_call 85;refine(Z1 _ _ F.out _).mono ?_;rintro e w' ⟨rfl,rfl⟩))
      go_round
      case rel=>exact⟨j+1,by omega,by omega,by go_num,B⟩
      case measure=>simp[intOf];omega
     ·have z:=zh u
      clear u m
      go_wp2_with(go_at_call 84;refine(X7 _ _ z.out _).mono ?_;rintro e w' ⟨rfl,rfl⟩)
      go_round
      case rel=>exact⟨j+1,by omega,by omega,by go_num,B⟩
      case measure=>simp[intOf];omega
    ·have E:Hid (k+K0 Q7 (s.data.toList.drop k)=j):=zh (by
      rw[O.out]
      by_cases b:j<s.size
      ·rw[Jh s Q7 j b (by simpa using λh=>m ⟨b,h⟩)];rfl
      ·rw[Jv s Q7 j (by omega)];rfl)
     have S:k<j:=by have:=E.out;have:=HA.out;omega
     have U:Hid ((s.extract k j).data.toList=(s.data.toList.drop k).take (K0 Q7 (s.data.toList.drop k))):=zh (by
      rw[zx];congr 1;have:=E.out;omega)
     cases C:S4 (s.extract k j).data.toList
     ·have t:=zh (L.out.xO o (by rw[J.out,<-U.out,C];rfl))
      have A:=zh C;clear C
      by_cases b:j<s.size
      ·have z:Hid (zI s[j]=false):=zh (by have h:=λh=>m ⟨b,h⟩;simp[Q7]at h;exact h.1)
       have F:Hid (xn s[j]=false):=zh (by have h:=λh=>m ⟨b,h⟩;simp[Q7]at h;exact h.2);clear m
       go_wp2_with(first|(go_at_call 84;refine(X7 _ _ z.out _).mono ?_;rintro e w' ⟨rfl,rfl⟩)|(go_at_call 85;refine(Z1 _ _ F.out _).mono ?_;rintro e w' ⟨rfl,rfl⟩)|(go_at_call 86;refine(yl _ _ A.out (by unfold maxLen;simp;omega) _).mono ?_;rintro e w' ⟨rfl,rfl⟩))
       go_ret3
       exact⟨_,by rw[t.out];rfl,by rw[t.out];exact F8 _ _ _ _,y⟩
      ·clear m
       go_wp2_with(go_at_call 86;refine(yl _ _ A.out (by unfold maxLen;simp;omega) _).mono ?_;rintro e w' ⟨rfl,rfl⟩)
       go_ret3
       exact⟨_,by rw[t.out];rfl,by rw[t.out];exact F8 _ _ _ _,y⟩
     ·have p:Hid (jz s j (l++[⟨1,s.extract k j,k⟩]) r):=zh (by
       have:=L.out.qI o (c:=1) (n:=K0 Q7 (s.data.toList.drop k)) (by rw[J.out,<-U.out,C];rfl);rw[E.out]at this;exact this)
      have A:=zh C;clear C
      by_cases b:j<s.size
      ·have z:Hid (zI s[j]=false):=zh (by have h:=λh=>m ⟨b,h⟩;simp[Q7]at h;exact h.1)
       have F:Hid (xn s[j]=false):=zh (by have h:=λh=>m ⟨b,h⟩;simp[Q7]at h;exact h.2);clear m
       go_wp2_with(first|(go_at_call 84;refine(X7 _ _ z.out _).mono ?_;rintro e w' ⟨rfl,rfl⟩)|(go_at_call 85;refine(Z1 _ _ F.out _).mono ?_;rintro e w' ⟨rfl,rfl⟩)|(go_at_call 86;refine(yl _ _ A.out (by unfold maxLen;simp;omega) _).mono ?_;rintro e w' ⟨rfl,rfl⟩)|(at_builtin;go_must(refine L6 W9 rfl _ _ rfl w.heap.size _ l.length (O6 l) rfl (d.alloc _) wr.heap.size 1 #[.int .i64 1,.string (s.extract k j),.int .i64 k] rfl (x9 wr _) rfl (by simp[Value.oneCell']) (by omega) (by simp;omega) ?_);intro g G V f a _ _;have q:=L3 (y.alloc x _) (d.alloc _) (x6 _) (by simp;omega) a;clear a))
       go_roundw
       case rel=>exact⟨j,l++[⟨1,s.extract k j,k⟩],by omega,rfl,by simp;omega,by rw[P8,y7];exact f,q,p⟩
       case measure=>simp[intOf];omega
      ·clear m
       go_wp2_with(first|(go_at_call 86;refine(yl _ _ A.out (by unfold maxLen;simp;omega) _).mono ?_;rintro e w' ⟨rfl,rfl⟩)|(at_builtin;go_must(refine L6 W9 rfl _ _ rfl w.heap.size _ l.length (O6 l) rfl (d.alloc _) wr.heap.size 1 #[.int .i64 1,.string (s.extract k j),.int .i64 k] rfl (x9 wr _) rfl (by simp[Value.oneCell']) (by omega) (by simp;omega) ?_);intro g G V f a _ _;have q:=L3 (y.alloc x _) (d.alloc _) (x6 _) (by simp;omega) a;clear a))
       go_roundw
       case rel=>exact⟨j,l++[⟨1,s.extract k j,k⟩],by omega,rfl,by simp;omega,by rw[P8,y7];exact f,q,p⟩
       case measure=>simp[intOf];omega
  cases D:xn s[k]
  case true=>
   have J:=zh (Jk o D);have HA:=zh (zv s Q7 k o (by simp[Q7,D]));have T:=zh P;have Q:=zh D;clear P D I R
   go_wp2_with(first|(go_at_call 84;refine(X7 _ _ T.out _).mono ?_;rintro e w' ⟨rfl,rfl⟩)|(go_at_call 85;refine(Z1 _ _ Q.out _).mono ?_;rintro e w' ⟨rfl,rfl⟩))
   go_loop [6] (λi=> ∃j:Nat,k<=j/\j<=s.size/\i=.int .i64 j/\Hid (k+K0 Q7 (s.data.toList.drop k)=j+K0 Q7 (s.data.toList.drop j))) (λi=>s.size-(intOf i).toNat)
   case atStart=>exact⟨k,x6 _,by omega,rfl,zh rfl⟩
   case round=>
    obtain⟨j,X,hj,rfl,O⟩:=hrel
    by_cases m: ∃h:j<s.size,Q7 s[j]=true
    ·obtain⟨b,m⟩:=m
     have B:Hid (k+K0 Q7 (s.data.toList.drop k)=(j+1)+K0 Q7 (s.data.toList.drop (j+1))):=zh (by rw[O.out,zv s Q7 j b m];omega);cases u:zI s[j]
     ·have z:=zh u
      have F:Hid (xn s[j]=true):=zh (by simpa[Q7,u]using m);clear u m
      go_wp2_with(first|(go_at_call 84;refine(X7 _ _ z.out _).mono ?_;rintro e w' ⟨rfl,rfl⟩)|(go_at_call 85;refine(Z1 _ _ F.out _).mono ?_;rintro e w' ⟨rfl,rfl⟩))
      go_round
      case rel=>exact⟨j+1,by omega,by omega,by go_num,B⟩
      case measure=>simp[intOf];omega
     ·have z:=zh u
      clear u m
      go_wp2_with(go_at_call 84;refine(X7 _ _ z.out _).mono ?_;rintro e w' ⟨rfl,rfl⟩)
      go_round
      case rel=>exact⟨j+1,by omega,by omega,by go_num,B⟩
      case measure=>simp[intOf];omega
    ·have E:Hid (k+K0 Q7 (s.data.toList.drop k)=j):=zh (by
      rw[O.out]
      by_cases b:j<s.size
      ·rw[Jh s Q7 j b (by simpa using λh=>m ⟨b,h⟩)];rfl
      ·rw[Jv s Q7 j (by omega)];rfl)
     have S:k<j:=by have:=E.out;have:=HA.out;omega
     have U:Hid ((s.extract k j).data.toList=(s.data.toList.drop k).take (K0 Q7 (s.data.toList.drop k))):=zh (by
      rw[zx];congr 1;have:=E.out;omega)
     have H:Hid (∀b:j<s.size,zI s[j]=false/\xn s[j]=false):=zh (by intro b;have h:=λh=>m ⟨b,h⟩;simpa[Q7]using h);clear m;cases C:zC (s.extract k j).data.toList
     ·have A:=zh C
      by_cases a3:16<j-k
      ·have t:=zh (L.out.xO o (by rw[J.out,<-U.out,C];rw[z7 (by simp),C5 (by have:=E.out;simp;omega)]))
       clear C
       by_cases b:j<s.size
       ·have z:=zh (H.out b).1
        have F:=zh (H.out b).2
        go_wp2_with(first|(go_at_call 84;refine(X7 _ _ z.out _).mono ?_;rintro e w' ⟨rfl,rfl⟩)|(go_at_call 85;refine(Z1 _ _ F.out _).mono ?_;rintro e w' ⟨rfl,rfl⟩)|(go_at_call 87;refine(xh _ _ A.out _).mono ?_;rintro e w' ⟨rfl,rfl⟩))
        go_ret3
        exact⟨_,by rw[t.out];rfl,by rw[t.out];exact F8 _ _ _ _,y.alloc x _⟩
       ·go_wp2_with(first|(go_at_call 87;refine(xh _ _ A.out _).mono ?_;rintro e w' ⟨rfl,rfl⟩))
        go_ret3
        exact⟨_,by rw[t.out];rfl,by rw[t.out];exact F8 _ _ _ _,y.alloc x _⟩
      ·have p:Hid (jz s j (l++[⟨2,s.extract k j,k⟩]) r):=zh (by
        have:=L.out.qI o (c:=2) (n:=K0 Q7 (s.data.toList.drop k)) (by rw[J.out,<-U.out,C];rw[z7 (by simp),z7 (by have:=E.out;simp;omega)]);rw[E.out]at this;exact this)
       clear C
       by_cases b:j<s.size
       ·have z:=zh (H.out b).1
        have F:=zh (H.out b).2
        go_wp2_with(first|(go_at_call 84;refine(X7 _ _ z.out _).mono ?_;rintro e w' ⟨rfl,rfl⟩)|(go_at_call 85;refine(Z1 _ _ F.out _).mono ?_;rintro e w' ⟨rfl,rfl⟩)|(go_at_call 87;refine(xh _ _ A.out _).mono ?_;rintro e w' ⟨rfl,rfl⟩)|(at_builtin;go_must(refine L6 W9 rfl _ _ rfl w.heap.size _ l.length (O6 l) rfl ((d.alloc _).alloc _) (wr.heap.size+1) 1 #[.int .i64 2,.string (s.extract k j),.int .i64 k] rfl (Z6 wr _ _) rfl (by simp[Value.oneCell']) (by omega) (by simp;omega) ?_);intro g G V f a _ _;have q:=L3 ((y.alloc x _).alloc (by simp;omega) _) ((d.alloc _).alloc _) (x6 _) (by simp;omega) a;clear a))
        go_roundw
        case rel=>exact⟨j,l++[⟨2,s.extract k j,k⟩],by omega,rfl,by simp;omega,by rw[P8,y7];exact f,q,p⟩
        case measure=>simp[intOf];omega
       ·go_wp2_with(first|(go_at_call 87;refine(xh _ _ A.out _).mono ?_;rintro e w' ⟨rfl,rfl⟩)|(at_builtin;go_must(refine L6 W9 rfl _ _ rfl w.heap.size _ l.length (O6 l) rfl ((d.alloc _).alloc _) (wr.heap.size+1) 1 #[.int .i64 2,.string (s.extract k j),.int .i64 k] rfl (Z6 wr _ _) rfl (by simp[Value.oneCell']) (by omega) (by simp;omega) ?_);intro g G V f a _ _;have q:=L3 ((y.alloc x _).alloc (by simp;omega) _) ((d.alloc _).alloc _) (x6 _) (by simp;omega) a;clear a))
        go_roundw
        case rel=>exact⟨j,l++[⟨2,s.extract k j,k⟩],by omega,rfl,by simp;omega,by rw[P8,y7];exact f,q,p⟩
        case measure=>simp[intOf];omega
     ·have A:=zh C
      have p:Hid (jz s j (l++[⟨3,s.extract k j,k⟩]) r):=zh (by
       have:=L.out.qI o (c:=3) (n:=K0 Q7 (s.data.toList.drop k)) (by rw[J.out,<-U.out,C];rfl);rw[E.out]at this;exact this)
      clear C
      by_cases b:j<s.size
      ·have z:=zh (H.out b).1
       have F:=zh (H.out b).2
       go_wp2_with(first|(go_at_call 84;refine(X7 _ _ z.out _).mono ?_;rintro e w' ⟨rfl,rfl⟩)|(go_at_call 85;refine(Z1 _ _ F.out _).mono ?_;rintro e w' ⟨rfl,rfl⟩)|(go_at_call 87;refine(xh _ _ A.out _).mono ?_;rintro e w' ⟨rfl,rfl⟩)|(at_builtin;go_must(refine L6 W9 rfl _ _ rfl w.heap.size _ l.length (O6 l) rfl ((d.alloc _).alloc _) (wr.heap.size+1) 1 #[.int .i64 3,.string (s.extract k j),.int .i64 k] rfl (Z6 wr _ _) rfl (by simp[Value.oneCell']) (by omega) (by simp;omega) ?_);intro g G V f a _ _;have q:=L3 ((y.alloc x _).alloc (by simp;omega) _) ((d.alloc _).alloc _) (x6 _) (by simp;omega) a;clear a))
       go_roundw
       case rel=>exact⟨j,l++[⟨3,s.extract k j,k⟩],by omega,rfl,by simp;omega,by rw[P8,y7];exact f,q,p⟩
       case measure=>simp[intOf];omega
      ·go_wp2_with(first|(go_at_call 87;refine(xh _ _ A.out _).mono ?_;rintro e w' ⟨rfl,rfl⟩)|(at_builtin;go_must(refine L6 W9 rfl _ _ rfl w.heap.size _ l.length (O6 l) rfl ((d.alloc _).alloc _) (wr.heap.size+1) 1 #[.int .i64 3,.string (s.extract k j),.int .i64 k] rfl (Z6 wr _ _) rfl (by simp[Value.oneCell']) (by omega) (by simp;omega) ?_);intro g G V f a _ _;have q:=L3 ((y.alloc x _).alloc (by simp;omega) _) ((d.alloc _).alloc _) (x6 _) (by simp;omega) a;clear a))
       go_roundw
       case rel=>exact⟨j,l++[⟨3,s.extract k j,k⟩],by omega,rfl,by simp;omega,by rw[P8,y7];exact f,q,p⟩
       case measure=>simp[intOf];omega
  have T:=zh P;have Q:=zh D;obtain⟨n,M⟩: ∃n,M6 (s.data.toList.drop k)=n:=⟨_,rfl⟩;have J:=zh (Zq o I R P D M);have a4:n<=s.size-k:=by have:=(xE (s.data.toList.drop k)).1;rw[M,G9,N9]at this;exact this
  have A:Hid (M6 (s.extract k s.size).data.toList=n):=zh (by
   rw[zx,List.take_of_length_le (by rw[G9,N9];omega)];exact M)
  have Z:Hid (T1 wr):=zh (HM.out.below y h2);have hx:(s.extract k s.size).size<=maxLen:=by unfold maxLen;simp;omega
  have a0:=zh hx;clear hx P D I R M
  by_cases h0:n=0
  ·subst h0
   have t:=zh (L.out.xO o (by rw[J.out];rfl))
   go_wp2_with(first|(go_at_call 84;refine(X7 _ _ T.out _).mono ?_;rintro e w' ⟨rfl,rfl⟩)|(go_at_call 85;refine(Z1 _ _ Q.out _).mono ?_;rintro e w' ⟨rfl,rfl⟩)|(go_at_call 88;refine(zcf _ _ A.out a0.out _ Z.out).mono ?_;rintro e w' ⟨rfl,rfl⟩))
   go_ret3
   exact⟨_,by rw[t.out];rfl,by rw[t.out];exact F8 _ _ _ _,y⟩
  ·have p:Hid (jz s (k+n) (l++[⟨4,s.extract k (k+n),k⟩]) r):=zh (L.out.qI o (c:=4) (n:=n) (by rw[J.out,z7 h0]))
   have h1:1<=n:=by omega
   have a5:((n:Int)==0)=false:=by rw[y8];omega
   clear h0
   go_wp2_with(first|(go_at_call 84;refine(X7 _ _ T.out _).mono ?_;rintro e w' ⟨rfl,rfl⟩)|(go_at_call 85;refine(Z1 _ _ Q.out _).mono ?_;rintro e w' ⟨rfl,rfl⟩)|(go_at_call 88;refine(zcf _ _ A.out a0.out _ Z.out).mono ?_;rintro e w' ⟨rfl,rfl⟩)|(at_builtin;go_must(refine L6 W9 rfl _ _ rfl w.heap.size _ l.length (O6 l) rfl (d.alloc _) wr.heap.size 1 #[.int .i64 4,.string (s.extract k (k+n)),.int .i64 k] rfl (x9 wr _) rfl (by simp[Value.oneCell']) (by omega) (by simp;omega) ?_);intro g G V f a _ _;have q:=L3 (y.alloc x _) (d.alloc _) (x6 _) (by simp;omega) a;clear a))
   go_roundw
   case rel=>exact⟨k+n,l++[⟨4,s.extract k (k+n),k⟩],by omega,by go_num,by simp;omega,by rw[P8,y7];exact f,q,p⟩
   case measure=>simp[intOf];omega
end Go.Proofs.YtalgmjmibamdfaaGreatDoor
namespace Go.Proofs.YtalgmjmibamdfaaGreatDoor
open Go.RowKit Tw
theorem zaT(ws:List Wd): ∀(k:Nat)(x:Wd),ws[k]?=some x->(O6 ws)[k*3]?=some (.int .i64 x.M0)/\(O6 ws)[k*3+1]?=some (.string x.N4)/\(O6 ws)[k*3+2]?=some (.int .i64 x.pos):=by
 induction ws with
 |nil=>intro k x h;simp at h
 |cons y ws a=>
  intro k x h;have e:O6 (y::ws)=Value.int .i64 y.M0::Value.string y.N4::Value.int .i64 y.pos::O6 ws:=by simp[O6,Wd.cells]
  cases k with
  |zero=>simp at h;subst h;rw[e];exact⟨rfl,rfl,rfl⟩
  |succ k=>
   have:=a k x (by simpa using h);rw[e,show(k+1)*3=k*3+1+1+1 by omega];exact this
def qK(w:World)(B:Nat)(v:Value)(ws:List Wd):Prop:=
 (v=.slice none 0 0/\ws=[])\/ ∃g a,v=.slice (some ⟨g,0,none⟩) ws.length a/\g<B/\ ∀j u,(O6 ws)[j]?=some u->w.cell? ⟨g,j,none⟩=some u
section
variable {w w':World}{B:Nat}{v:Value}{ws:List Wd}
theorem qK.below{b:Nat}(h:qK w B v ws)(d:Below b w w')(e:B<=b):qK w' B v ws:=by
 rcases h with h|⟨g,a,f,c,i⟩
 ·exact .inl h
 ·exact .inr ⟨g,a,f,c,λj u k=>(d.cell (p:=⟨g,j,none⟩) (y5 c e)).trans (i j u k)⟩
theorem qK.jA{base t:Nat}(h:w.ownsRow base t 3 v ws.length (O6 ws)):qK w w.heap.size v ws:=by
 rcases h.2 with⟨a,c⟩|⟨g,b,d,a,_⟩
 ·exact .inl ⟨a,G6 c⟩
 ·right
  subst a;have f:=(h.lt g rfl).2;refine⟨g,b,rfl,f,λj u i=>?_⟩;have:=h.cells (g:=g) rfl j u i;have e:(⟨g,0,none⟩:Addr).add j=⟨g,j,none⟩:=by unfold Addr.add;split<;>simp_all
  rwa [e]at this
theorem qK.mono{b:Nat}(h:qK w B v ws)(c:B<=b):qK w b v ws:=by
 rcases h with h|⟨g,a,d,e,f⟩
 ·exact .inl h
 ·exact .inr ⟨g,a,d,y5 e c,f⟩
end
end Go.Proofs.YtalgmjmibamdfaaGreatDoor
namespace Go.Proofs.YtalgmjmibamdfaaGreatDoor
open Go.Proofs.Tryz
open Go.RowKit Tw
theorem zbF(t:ByteArray)(z:t.size≠0)(G:t.size<=4000)(w:World):
 Calls prog 144 #[.string t,.int .i64 10,.int .i64 62] w λe w'=>e=.returned (Lib.uintTupleM 245 4611686018427387903 (Lib.parseUintM 4611686018427387903 0 t.data.toList))/\w'=Lib.bytesWorld w 5 t:=by
 have H:t.toList.isEmpty=false:=by
  rw[<-decide_eq_emptyBytes];exact F5 (λh=>z (by rw[h];rfl))
 have A:=Lib.run_convert_string_bytes (P:=prog) w 9 209 5 t (u:=.string) underlying9 underlying209 underlying5;have y: ∀j,j<t.size->(Lib.bytesWorld w 5 t).cell? ⟨w.heap.size,j,none⟩=some (.int .u8 (t.data.toList.getD j 0).toNat):=λj M=>Lib.bytesWorld_cell w 5 t j M;obtain⟨I,s⟩: ∃I,I=Lib.bytesWorld w 5 t:=⟨_,rfl⟩;rw[<-s]at A y|-
 clear s;obtain⟨d,B⟩: ∃d,d=t.data.toList:=⟨_,rfl⟩;have N:d.length=t.size:=by rw[B,Lib.size_eq]
 rw[<-B]at y|-
 clear B;have O:IntKind.u64.wrap (IntKind.u64.wrap 4611686018427387904-1)=4611686018427387903:=by
  rw[IntKind.wrap_u64,IntKind.wrap_u64]
  decide
 go_enter func144,ntmps144
 go_wp2
 go_loop [12,13,101] (λQ R C=> ∃(k acc:Nat)(a:Int),Q=.bool false/\R=.int .u64 a/\C=.int .i64 k/\k<=t.size/\Hid (a=(acc:Int)/\acc<=4611686018427387903/\Lib.parseUintM 4611686018427387903 0 d=Lib.parseUintM 4611686018427387903 acc (d.drop k)))
  (λ_ _ C=>t.size-(intOf C).toNat)
 case atStart=>exact⟨0,0,0,rfl,rfl,rfl,by omega,rfl,by omega,rfl⟩
 case round=>
  obtain⟨k,acc,a,rfl,rfl,rfl,hk,J⟩:=hrel;obtain⟨r,f,b⟩:=J.out;clear J;have S:0<=a:=by omega
  have T:a<=4611686018427387903:=by omega
  by_cases D:k<t.size
  ·have K:=y k D
   have i:d.drop k=d[k]'(by omega)::d.drop (k+1):=F2 (by omega);have m:d.getD k 0=d[k]'(by omega):=by simp[List.getD,x8 (show k<d.length by omega)]
   rw[i]at b;rw[m]at K;generalize d[k]'(by omega)=c at K b;have E:c.toNat<256:=c.toNat_lt;clear y i m
   by_cases n:48<=c.toNat/\c.toNat<=57
   ·obtain⟨p,q⟩:=n
    by_cases hcut:1844674407370955162<=acc
    ·have g:Lib.parseUintM 4611686018427387903 acc (c::d.drop (k+1))=.range:=by simp[Lib.parseUintM,p,q,hcut]
     rw[g]at b;have v:1844674407370955162<=a:=by omega
     clear hcut f g r
     go_wp2
     go_ret2;exact⟨rfl,rfl⟩
    by_cases l:4611686018427387903<acc*10+(c.toNat-48)
    ·have g:Lib.parseUintM 4611686018427387903 acc (c::d.drop (k+1))=.range:=by simp[Lib.parseUintM,p,q,hcut,l]
     rw[g]at b;have v:a<1844674407370955162:=by omega
     by_cases o:18446744073709551616<=acc*10+(c.toNat-48)
     ·have x:18446744073709551616<=a*10+((c.toNat:Int)-48):=by omega
      have U:IntKind.u64.wrap (a*10+((c.toNat:Int)-48))=a*10+((c.toNat:Int)-48)-18446744073709551616:=by
       rw[IntKind.wrap_u64];omega
      clear hcut f g l o r
      go_wp2
      go_ret2;exact⟨rfl,rfl⟩
     ·have x:4611686018427387903<a*10+((c.toNat:Int)-48):=by omega
      have L:a*10+((c.toNat:Int)-48)<18446744073709551616:=by omega
      clear hcut f g l o r
      go_wp2
      go_ret2;exact⟨rfl,rfl⟩
    ·have g:Lib.parseUintM 4611686018427387903 acc (c::d.drop (k+1))=Lib.parseUintM 4611686018427387903 (acc*10+(c.toNat-48)) (d.drop (k+1)):=by simp[Lib.parseUintM,p,q,hcut,l]
     have V:Hid (a*10+((c.toNat:Int)-48)=((acc*10+(c.toNat-48):Nat):Int)/\acc*10+(c.toNat-48)<=4611686018427387903/\Lib.parseUintM 4611686018427387903 0 d=Lib.parseUintM 4611686018427387903 (acc*10+(c.toNat-48)) (d.drop (k+1))):=zh ⟨by omega,by omega,b.trans g⟩;have x:a*10+((c.toNat:Int)-48)<=4611686018427387903:=by omega
     clear hcut f g l b r
     go_wp2
     refine⟨⟨k+1,acc*10+(c.toNat-48),a*10+((c.toNat:Int)-48),rfl,(by first|rfl|(congr 1;omega)),(by first|rfl|(congr 1;omega)),by omega,V⟩,by simp[intOf];omega⟩
   ·have g:Lib.parseUintM 4611686018427387903 acc (c::d.drop (k+1))=.syntax:=by simp[Lib.parseUintM,n]
    rw[g]at b;clear f g r;have W:=bits_lo_u8 .or (c.toNat:Int) 32;have X:=bits_hi_u8 .or (c.toNat:Int) 32;have Y:=bits_lo_u8 .or 95 32;have Z:=bits_hi_u8 .or 95 32
    go_wp2_with(go_at_call 178;refine(Tryz.internal_strconv_lower _ _).mono ?_;rintro e w' ⟨rfl,rfl⟩)
    all_goals go_ret2
    all_goals first|exact⟨rfl,rfl⟩|exact⟨by rw[b];rfl,rfl⟩
  ·have F:k=t.size:=by omega
   subst F;have g:Lib.parseUintM 4611686018427387903 acc (d.drop t.size)=.ok acc:=by rw[List.drop_eq_nil_of_le (by omega)];rfl
   rw[g]at b;subst r;clear f g S T
   go_wp2
   go_ret2;exact⟨rfl,rfl⟩
section
open Go.Shelf Go.Sort
theorem Zz(w:World)(k:Nat)(os:Array Obj):Below w.heap.size w (grow (w.drewN k) os):=by
 refine⟨rfl,rfl,rfl,by simp[grow,World.drewN],λi a=>?_⟩;simp only[grow];rw[Array.getElem?_append_left (by simpa using a)];simp[World.drewN]
theorem zg8(u:Nat)(a:u<18446744073709551616)(w:World)(f:Lib.TabIs prog w "internal/strconv.uint64pow10" .u64 Lib.pow10Tab):
 Calls prog 146 #[.int .u64 u,.int .i64 10] w λe w'=>e=.returned (.string ⟨(Lib.decDigits u).toArray⟩)/\Below w.heap.size w w':=by
 by_cases s:u<100
 ·go_enter func146,ntmps146
  go_wp2_with(go_at_call 133;refine(Tryz.internal_strconv_small u s _).mono ?_;rintro e w' ⟨rfl,rfl⟩)
  go_ret;exact⟨rfl,x7 _ _⟩
 ·have g:1<=u:=by omega
  have m:Lib.nDigits u<=20:=by have:=Lib.numDigits_eq u g a;split at this<;>omega
  have i:Tryz.prog.arrayLen 206=24:=by kernel_rfl
  have r: ∀W,(Instr.sliceAt 206 (.pointer (some ⟨w.heap.size,0,none⟩)) none (some (.int .i64 (Lib.nDigits u:Int))) none).run prog W=.ok (.slice (some ⟨w.heap.size,0,none⟩) (Lib.nDigits u) 24) W:=λW=>by
   rw[run_sliceAt_array_h W 206 ⟨w.heap.size,0,none⟩ (by simp[Program.arrayLen,Program.elem,underlying206]) .i64 (Lib.nDigits u:Int) (by omega) (by rw[i];omega)];go_simp
  have d:=Lib.holds_zero0 w 206 (Lib.nDigits u) (by omega);have c:=Tryz.internal_strconv_formatBase10 w.heap.size 0 24 u (Array.replicate (Lib.nDigits u) 0) (w.alloc (.cells Lib.zeros24 206)) d (by rw[Array.size_replicate];exact Lib.lt_pow_nDigits u) a (by rw[Array.size_replicate];omega);rw[Array.size_replicate]at c;have n:=zh d;clear d i
  go_enter func146,ntmps146
  go_wp2_with(go_at_call 134;refine(Tryz.internal_strconv_numDigits u g a _ (Lib.tabIs_alloc f _)).mono ?_;rintro e w' ⟨rfl,rfl⟩)
  go_at_call 135
  refine c.mono ?_;rintro e w' ⟨rfl,k,v,l,rfl,o⟩;have t:(convert 209 9 (.slice (some ⟨w.heap.size,0,none⟩) (Lib.nDigits u) 24)).run prog ((putRow (λ(b:UInt8)=>Value.int .u8 (b.toNat:Int)) (w.alloc (.cells Lib.zeros24 206)) w.heap.size 0 l).drewN k)=.ok (.string ⟨(Lib.decDigits u).toArray⟩) ((putRow (λ(b:UInt8)=>Value.int .u8 (b.toNat:Int)) (w.alloc (.cells Lib.zeros24 206)) w.heap.size 0 l).drewN k):=by
   have h:=run_convert_bytes_back (P:=prog) ((putRow (λ(b:UInt8)=>Value.int .u8 (b.toNat:Int)) (w.alloc (.cells Lib.zeros24 206)) w.heap.size 0 l).drewN k) 209 9 5 ⟨w.heap.size,0,none⟩ 24 (Lib.decDigits u) underlying209 underlying5 underlying9 (λj p=>by
    rw[Lib.row_is_numeral o j p,Lib.add_plain,World.cell?_drewN];exact cell?_putRow (λ(b:UInt8)=>Value.int .u8 (b.toNat:Int)) _ w.heap.size 0 _ l n.out (by rw[o.size,Array.size_replicate]) j (by rw[o.size];rw[Lib.decDigits_length]at p;exact p))
   rw[Lib.decDigits_length]at h;exact h
  go_wp2
  go_ret;refine⟨rfl,?_⟩;rw[alloc_eq_grow];obtain⟨q,_,e⟩:=putRow_grow_new (λ(b:UInt8)=>Value.int .u8 (b.toNat:Int)) w #[.cells Lib.zeros24 206] w.heap.size 0 l (x6 _);rw[e];exact Zz w k q
theorem ziy(u:Nat)(a:u<18446744073709551616)(w:World)(b:Lib.TabIs prog w "internal/strconv.uint64pow10" .u64 Lib.pow10Tab):
 Calls prog 112 #[.int .u64 u,.int .i64 10] w λe w'=>e=.returned (.string ⟨(Lib.decDigits u).toArray⟩)/\Below w.heap.size w w':=by
 have H:=zh (zg8 u a w b)
 go_enter func112,ntmps112
 go_wp2_with fail
 refine H.out.mono ?_;rintro e w' ⟨rfl,c⟩
 go_wp2_with fail
 go_ret;exact⟨rfl,c⟩
theorem za5(M:Nat)(l:Bs): ∀(a u:Nat),Lib.parseUintM M a l=.ok u->a<=M->u<=M:=by
 induction l with
 |nil=>intro a u h b;simp only[Lib.parseUintM]at h;cases h;exact b
 |cons c l d=>
  intro a u h b;simp only[Lib.parseUintM]at h
  repeat' (split at h)
  all_goals first|(cases h;done)|exact d _ _ h (by omega)
def zbQ(v:Value):Prop:=v=.nilIface\/ ∃a b,v=.iface a b
def zaw(w:World):Prop:=(∃v,w.cell? ⟨4,0,none⟩=some v/\zbQ v)/\(∃v,w.cell? ⟨5,0,none⟩=some v/\zbQ v)
theorem zd7(s:ByteArray)(x:s.size≠0)(l:s.size<=4000)(w:World)(D:zaw w)(H:5<w.heap.size):
 Calls prog 111 #[.string s,.int .i64 10,.int .i64 62] w λe w'=>(∃(u:Nat)(y:Value),e=.returned (.tuple #[.int .u64 u,y])/\u<18446744073709551616/\
  ((Lib.parseUintM 4611686018427387903 0 s.data.toList=.ok u/\y=.nilIface)\/((∀n,Lib.parseUintM 4611686018427387903 0 s.data.toList≠.ok n)/\ ∃te E,y=.iface te (.pointer E))))/\Below w.heap.size w w':=by
 obtain⟨⟨ev1,d,m⟩,⟨ev2,f,o⟩⟩:=D;have a:=zbF s x l w;have c:=Lib.bytesWorld_below w 5 s;cases i:Lib.parseUintM 4611686018427387903 0 s.data.toList with
 |ok u=>
  have C:u<18446744073709551616:=by
   have:=za5 _ _ _ _ i (C6 _);omega
  rw[i]at a;have a:Calls prog 144 #[.string s,.int .i64 10,.int .i64 62] w λe w'=>e=.returned (.tuple #[.int .u64 u,.nilIface])/\w'=Lib.bytesWorld w 5 s:=a;have q:=zh a;have F:=zh C;have r:=zh c;clear a i C c d f m o
  go_enter func111,ntmps111
  go_wp2_with fail
  refine q.out.mono ?_;rintro e v ⟨rfl,g⟩;have G:=zh g;clear g
  go_wp2
  go_ret2;exact⟨⟨u,_,rfl,F.out,.inl ⟨rfl,rfl⟩⟩,by rw[G.out];exact r.out⟩
 |range=>
  rw[i]at a;have a:Calls prog 144 #[.string s,.int .i64 10,.int .i64 62] w λe w'=>e=.returned (.tuple #[.int .u64 4611686018427387903,.iface 245 (.int .i64 1)])/\w'=Lib.bytesWorld w 5 s:=a;have q:=zh a;have r:=zh c;have j: ∀W,Below w.heap.size w W->W.cell? ⟨5,0,none⟩=some ev2:=λW h=>(h.cell (p:=⟨5,0,none⟩) (by show 5<_;omega)).trans f;have j:=zh j;clear a i c d f
  go_enter func111,ntmps111
  go_wp2_with fail
  refine q.out.mono ?_;rintro e v ⟨rfl,g⟩;have b:Hid (Below w.heap.size w v):=zh (by rw[g];exact r.out);clear g
  go_wp2_with fail
  refine(Tryz.strconv_toError_range ⟨#[80,97,114,115,101,85,105,110,116]⟩ s 10 62 ev2 _ (by omega) (j.out _ b.out) o).mono ?_;rintro e z ⟨N,rfl,A,B,t⟩;have k:Hid (Below w.heap.size w z):=zh (b.out.trans (t.mono b.out.size));clear A B t
  go_wp2
  go_ret2;exact⟨⟨4611686018427387903,_,rfl,by omega,.inr ⟨(λn h=>by cases h),_,_,rfl⟩⟩,k.out⟩
 |_=>
  rw[i]at a;have a:Calls prog 144 #[.string s,.int .i64 10,.int .i64 62] w λe w'=>e=.returned (.tuple #[.int .u64 0,.iface 245 (.int .i64 2)])/\w'=Lib.bytesWorld w 5 s:=a;have q:=zh a;have r:=zh c;have j: ∀W,Below w.heap.size w W->W.cell? ⟨4,0,none⟩=some ev1:=λW h=>(h.cell (p:=⟨4,0,none⟩) (by show 4<_;omega)).trans d;have j:=zh j;clear a i c d f
  go_enter func111,ntmps111
  go_wp2_with fail
  refine q.out.mono ?_;rintro e v ⟨rfl,g⟩;have b:Hid (Below w.heap.size w v):=zh (by rw[g];exact r.out);clear g
  go_wp2_with fail
  refine(Tryz.strconv_toError_syntax ⟨#[80,97,114,115,101,85,105,110,116]⟩ s 10 62 ev1 _ (by omega) (j.out _ b.out) m).mono ?_;rintro e z ⟨N,rfl,A,B,t⟩;have k:Hid (Below w.heap.size w z):=zh (b.out.trans (t.mono b.out.size));clear A B t
  go_wp2
  go_ret2;exact⟨⟨0,_,rfl,by omega,.inr ⟨(λn h=>by cases h),_,_,rfl⟩⟩,k.out⟩
end
section
open Go.Shelf
def zg3:Bs:=[97,98,99,100,101,102,103,104,105,106,107,108,109,110,111,112,113,114,115,116,117,118,119,120,121,122,95,48,49,50,51,52,53,54,55,56,57]
def ziv:Bs:=[97,98,99,100,101,102,103,104,105,106,107,108,109,110,111,112,113,114,115,116,117,118,119,120,121,122,95]
def ziD:Bs:=[48,49,50,51,52,53,54,55,56,57]
def ziY:Bs:=[32,10,9]
theorem Za(l:Bs)(p:UInt8->Bool)(h: ∀n:Fin 256,l.contains (UInt8.ofFin n)=p (UInt8.ofFin n))(c:UInt8):l.contains c=p c:=by
 have:=h c.toFin;simpa using this
theorem YX(c:UInt8):zg3.contains c=Q7 c:=Za _ _ (by decide+kernel) c
theorem zdQ(c:UInt8):ziv.contains c=xn c:=Za _ _ (by decide+kernel) c
theorem zds(c:UInt8):ziD.contains c=zI c:=Za _ _ (by decide+kernel) c
theorem zed(c:UInt8):ziY.contains c=zT c:=Za _ _ (by decide+kernel) c
theorem zF(p:UInt8->Bool)(l:Bs):l.dropWhile p=[]↔l.all p=true:=by
 induction l with
 |nil=>simp
 |cons c l a=>
  cases h:p c
  ·simp[h]
  ·simp[h,a]
theorem zaN(l b:Bs):(Lib.trimS l b).isEmpty=l.all (b.contains ·):=by
 rw[F1,List.isEmpty_iff];unfold Lib.trimS Lib.trimLeftS Lib.trimRightS;rw[zF];constructor
 ·intro h
  rw[List.all_reverse]at h
  by_cases d:l.reverse.dropWhile (b.contains ·)=[]
  ·rw[zF,List.all_reverse]at d;exact d
  ·exfalso
   rcases c:l.reverse.dropWhile (b.contains ·)with _|⟨a,r⟩
   ·exact d c
   ·have e:=List.head_dropWhile_not (λx=>b.contains x) (l:=l.reverse) (by rw[c];simp)
    simp only[c,List.head_cons]at e;rw[c]at h;simp only[List.all_cons,E4]at h;rw[h.1]at e;simp at e
 ·intro h
  have:l.reverse.dropWhile (b.contains ·)=[]:=by rw[zF,List.all_reverse];exact h
  rw[this];rfl
theorem zfH(s a:ByteArray)(w:World)(hs:s.size<=9223372036854775807)(c:a.size<4294967281)(d: ∀(j:Nat) b,a.data.toList[j]?=some b->b.toNat<128):
 Calls prog 142 #[.string s,.string a] w λe w'=>e=.returned (.string ⟨(Lib.trimS s.data.toList a.data.toList).toArray⟩)/\Below w.heap.size w w':=
 Any.strings_Trim_laid Tryz.lays160 (by kernel_rfl) s a w hs c d
theorem Yd(s a:ByteArray)(w:World)(c:a.size<4294967281)(d: ∀(j:Nat) b,a.data.toList[j]?=some b->b.toNat<128):
 Calls prog 108 #[.string s,.string a] w λe w'=>e=.returned (.string ⟨(Lib.trimLeftS s.data.toList a.data.toList).toArray⟩)/\Below w.heap.size w w':=
 Any.strings_TrimLeft_laid Tryz.lays161 (by kernel_rfl) s a w c d
theorem zfl(s a:ByteArray)(t:Bool)(w:World)(hs:s.size<=9223372036854775807)(c:a.size<4294967281)(f: ∀(j:Nat) b,a.data.toList[j]?=some b->b.toNat<128)
 (d:s.data.toList.all (a.data.toList.contains ·)=t):
 Calls prog 109 #[.string s,.string a] w λe w'=>e=.returned (.bool t)/\Below w.heap.size w w':=by
 have H:=zh (zfH s a w hs c f);have g:Hid ((Lib.trimS s.data.toList a.data.toList).isEmpty=t):=zh (by rw[zaN];exact d);clear f d c
 go_enter func109,ntmps109
 go_wp2_with fail
 refine H.out.mono ?_;rintro e w' ⟨rfl,h⟩;have d:=g.out;generalize Lib.trimS s.data.toList a.data.toList=y at d|-
 go_wp2_with fail
 go_ret;exact⟨rfl,h⟩
theorem qB(s:ByteArray)(k:Nat):(s.extract k s.size).data.toList=s.data.toList.drop k:=by
 rw[zx,List.take_of_length_le (by simp)]
theorem zdY(s:ByteArray)(k:Nat)(h:k<s.size):((s.extract k s.size).extract 0 1).data.toList=[s[k]]:=by
 rw[zx,qB,List.drop_zero,ja s k h];rfl
theorem JQ(s:ByteArray)(k m:Nat):((s.extract k s.size).extract 0 m).data.toList=(s.data.toList.drop k).take m:=by
 rw[zx,qB,List.drop_zero];rfl
theorem Jd(s:ByteArray)(k m:Nat):(s.extract k s.size).extract 0 m=s.extract k (k+m):=by
 apply ByteArray.ext;apply Array.ext';rw[JQ,zx];congr 1;omega
theorem zby(s:ByteArray)(k:Nat)(h:k<s.size)(a:ByteArray)(p:UInt8->Bool)(t:Bool)(w:World)(d:a.size<4294967281)(f: ∀(j:Nat) b,a.data.toList[j]?=some b->b.toNat<128)
 (g: ∀c,a.data.toList.contains c=p c) (i:p s[k]=t):
 Calls prog 109 #[.string ((s.extract k s.size).extract 0 1),.string a] w λe w'=>e=.returned (.bool t)/\Below w.heap.size w w':=
 zfl _ a t w (by simp;omega) d f (by rw[zdY s k h];simp only[List.all_cons,List.all_nil,Bool.and_true];exact(g _).trans i)
theorem zha(s:ByteArray)(k:Nat)(h:k<s.size)(t:Bool)(w:World)(a:zT s[k]=t):
 Calls prog 109 #[.string ((s.extract k s.size).extract 0 1),.string ⟨#[32,10,9]⟩] w λe w'=>e=.returned (.bool t)/\Below w.heap.size w w':=
 zby s k h _ zT t w (by decide) (ascii_of_all (by decide)) zed a
theorem zhE(s:ByteArray)(k:Nat)(h:k<s.size)(t:Bool)(w:World)(a:zI s[k]=t):
 Calls prog 109 #[.string ((s.extract k s.size).extract 0 1),.string ⟨#[48,49,50,51,52,53,54,55,56,57]⟩] w λe w'=>e=.returned (.bool t)/\Below w.heap.size w w':=
 zby s k h _ zI t w (by decide) (ascii_of_all (by decide)) zds a
theorem zcH(p:UInt8->Bool)(l:Bs):(l.dropWhile p).length+K0 p l=l.length:=by
 unfold K0
 induction l with
 |nil=>rfl
 |cons c l a=>cases h:p c<;>simp[h];omega
theorem Yi(p q:UInt8->Bool)(h: ∀c,p c=q c)(l:Bs):l.dropWhile p=l.dropWhile q:=by
 have:p=q:=funext h;rw[this]
theorem zho(s:ByteArray)(k:Nat)(w:World):
 Calls prog 108 #[.string (s.extract k s.size),.string ⟨#[97,98,99,100,101,102,103,104,105,106,107,108,109,110,111,112,113,114,115,116,117,118,119,120,121,122,95,48,49,50,51,52,53,54,55,56,57]⟩] w λe w'=>(∃y:ByteArray,e=.returned (.string y)/\y.size+K0 Q7 (s.data.toList.drop k)=s.size-k)/\Below w.heap.size w w':=by
 refine(Yd _ _ w (by decide) (ascii_of_all (by decide))).mono ?_;rintro e w' ⟨rfl,b⟩;refine⟨⟨_,rfl,?_⟩,b⟩;have c:(Lib.trimLeftS (s.extract k s.size).data.toList zg3)=(s.data.toList.drop k).dropWhile Q7:=by
  rw[qB];exact Yi _ _ YX _
 have a:=zcH Q7 (s.data.toList.drop k);rw[<-c,G9,N9]at a;exact a
theorem zaE(x:ByteArray)(t:Bool)(w:World)(hx:x.data.toList.all Q7=true)(a:zC x.data.toList=t)(b:T1 w):
 Calls prog 113 #[.string ⟨#[32,102,117,110,32,108,101,116,32,105,102,32,101,108,115,101,32,119,104,105,108,101,32,114,101,116,117,114,110,32,121,105,101,108,100,32,116,114,117,101,32,102,97,108,115,101,32,105,110,116,32,98,111,111,108,32]⟩,.string (⟨#[32]⟩++x++⟨#[32]⟩)] w λe w'=>e=.returned (.bool t)/\w=w':=by
 refine(yH _ x w (by decide) b).mono ?_;rintro e w' ⟨rfl,rfl⟩;refine⟨?_,rfl⟩;rw[<-a,<-Qt _ hx];rfl
end
end Go.Proofs.YtalgmjmibamdfaaGreatDoor
namespace Go.Proofs.YtalgmjmibamdfaaGreatDoor
namespace Tw
def dv(a:Nat)(c:UInt8):Nat:=a*10+(c.toNat-48)
theorem Jj(c:UInt8)(h:zI c=true):48<=c.toNat/\c.toNat<=57:=by simpa[zI]using h
theorem zbt(l:Bs): ∀a,l.all zI=true->(a+1)*10^l.length<=10^12->Lib.parseUintM 4611686018427387903 a l=.ok (l.foldl dv a):=by
 induction l with
 |nil=>intro a _ _;rfl
 |cons c l g=>
  intro a h f;simp only[List.all_cons,E4]at h;obtain⟨i,j⟩:=Jj c h.1;have k:1<=10^l.length:=Nat.pos_of_ne_zero (by simp);have b:(a+1)*10*10^l.length<=10^12:=by
   rw[y6,Nat.pow_succ]at f
   calc(a+1)*10*10^l.length=(a+1)*(10^l.length*10):=by rw[Nat.mul_assoc,Nat.mul_comm 10]
    _<=_:=f
  have d:(a+1)*10<=10^12:=B5 (Nat.le_mul_of_pos_right _ k) b;have e:(10:Nat)^12=1000000000000:=by decide
  rw[e]at d;have m: ¬1844674407370955162<=a:=by omega
  have n: ¬4611686018427387903<a*10+(c.toNat-48):=by omega
  simp only[Lib.parseUintM,i,j,and_self,if_true,m,n,if_false,List.foldl_cons];refine g _ h.2 (B5 (F9 _ ?_) b);omega
theorem zd6(l:Bs): ∀a,a<=l.foldl dv a:=by
 induction l with
 |nil=>intro a;exact x6 _
 |cons c l b=>intro a;exact B5 (by unfold dv;omega) (b (dv a c))
theorem zbX(l:Bs)(h:l≠[])(a:l.all zI=true)(b:l.headD 0≠48):1<=l.foldl dv 0:=by
 cases l with
 |nil=>exact G5 rfl h
 |cons c l=>
  simp only[List.all_cons,E4]at a;obtain⟨d,f⟩:=Jj c a.1;have g:c.toNat≠48:=λe=>b (UInt8.toNat_inj.1 e);refine B5 ?_ (zd6 l (dv 0 c));unfold dv;omega
theorem QG(c:UInt8)(h:zI c=true):UInt8.ofNat (48+(c.toNat-48))=c:=by
 obtain⟨a,b⟩:=Jj c h;rw[show 48+(c.toNat-48)=c.toNat by omega];simp
theorem zco: ∀(n:Nat)(l:Bs),l.length=n->l≠[]->l.all zI=true->(l.length=1\/l.headD 0≠48)->Lib.decDigits (l.foldl dv 0)=l:=by
 intro n
 induction n with
 |zero=>intro l k o;exact G5 (G6 k) o
 |succ n p=>
  intro l q e d f;obtain⟨b,c,rfl⟩: ∃b c,l=b++[c]:=⟨l.dropLast,l.getLast e,(List.dropLast_concat_getLast e).symm⟩;rw[List.all_append]at d;simp only[List.all_cons,List.all_nil,Bool.and_true,E4]at d;obtain⟨t,k⟩:=Jj c d.2;rw[List.foldl_append];simp only[List.foldl_cons,List.foldl_nil]
  by_cases g:b=[]
  ·subst g
   simp only[List.foldl_nil,B4,dv];rw[Lib.decDigits_one (by omega),Nat.zero_mul,Nat.zero_add,QG c d.2]
  ·have j:b.length=n:=by simpa using q
   have m:0<b.length:=List.length_pos_iff.2 g;have h:b.headD 0≠48:=by
    rcases f with f|f
    ·rw[y7,List.length_singleton]at f;omega
    ·cases b with
     |nil=>exact G5 rfl g
     |cons a r=>simpa using f
   have s:=zbX b g d.1 h;have i:=p b j g d.1 (.inr h);generalize b.foldl dv 0=v at s i;unfold dv;rw[Lib.decDigits,dif_neg (by omega),show(v*10+(c.toNat-48))/10=v by omega,show(v*10+(c.toNat-48))%10=c.toNat-48 by omega,i,QG c d.2]
theorem zdE: ∀(n u:Nat),u<=n->(Lib.decDigits u).all zI=true/\Lib.decDigits u≠[]/\(1<=u->(Lib.decDigits u).headD 0≠48):=by
 intro n
 induction n with
 |zero=>
  intro u g;obtain rfl:u=0:=by omega
  rw[Lib.decDigits_one (by omega)];exact⟨by decide,by simp,λh=>by omega⟩
 |succ n i=>
  intro u g
  by_cases b:u<10
  ·rw[Lib.decDigits_one b]
   have e:(UInt8.ofNat (48+u)).toNat=48+u:=by simp;omega
   refine⟨?_,by simp,λh=>?_⟩
   ·simp[zI];omega
   ·intro c
    have:(UInt8.ofNat (48+u)).toNat=48:=by simpa using G4 UInt8.toNat c
    omega
  ·rw[Lib.decDigits,dif_neg b]
   obtain⟨j,c,k⟩:=i (u/10) (by omega);have e:(UInt8.ofNat (48+u%10)).toNat=48+u%10:=by simp;omega
   refine⟨?_,by simp,λ_=>?_⟩
   ·rw[List.all_append,j];simp[zI];omega
   ·have d:=k (by omega)
    cases f:Lib.decDigits (u/10)with
    |nil=>exact G5 f c
    |cons a r=>rw[f]at d;simpa using d
theorem jK(l:Bs)(h:S4 l=true):l.length<=12/\(l.length<=1\/l.headD 0≠48)/\l.all zI=true:=by
 simp only[S4,E4,E2,Bool.not_eq_true',Bool.and_eq_false_iff,decide_eq_false_iff_not]at h;obtain⟨⟨b,a⟩,c⟩:=h;refine⟨b,?_,c⟩
 rcases a with a|a
 ·exact .inl (by omega)
 ·exact .inr (by simpa using a)
theorem zbS(l:Bs)(a:l≠[])(h:S4 l=true): ∃u,Lib.parseUintM 4611686018427387903 0 l=.ok u/\Lib.decDigits u=l:=by
 obtain⟨e,b,c⟩:=jK l h;have d:0<l.length:=List.length_pos_iff.2 a;refine⟨_,zbt l 0 c (by rw[Nat.zero_add,Nat.one_mul];exact Nat.pow_le_pow_right (by omega) e),zco _ l rfl a c ?_⟩
 rcases b with b|b
 ·exact .inl (by omega)
 ·exact .inr b
theorem zgl(u:Nat)(h:(Lib.decDigits u).length<=12):S4 (Lib.decDigits u)=true:=by
 obtain⟨a,e,b⟩:=zdE u u (x6 _);have c:(decide (1<(Lib.decDigits u).length)&&(Lib.decDigits u).headD 0==48)=false:=by
  by_cases d:1<=u
  ·have:((Lib.decDigits u).headD 0==48)=false:=by rw[y8];exact b d
   rw[this,Bool.and_false]
  ·obtain rfl:u=0:=by omega
   rw[Lib.decDigits_one (by omega)];rfl
 simp only[S4,a,c,Bool.not_false,Bool.and_true,E2];exact h
end Tw
end Go.Proofs.YtalgmjmibamdfaaGreatDoor
