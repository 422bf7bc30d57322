/- Merged. -/
import Derived.Test.YtalgmjmibamdfaaGreatDoorCO01
import Derived.Test.YtalgmjmibamdfaaGreatDoorShelf
import Derived.Deep.AppendLies
import Derived.Lib.AppendIntMem
import Derived.Shelf.Strings.SlTrimAscii
set_option linter.all false
set_option maxHeartbeats 32000000
set_option maxRecDepth 100000
namespace Go.Proofs.YtalgmjmibamdfaaGreatDoor
open Go.Proofs.Tryz
open Go.RowKit Tw
def U8(w:World):Prop:= ∃m:Int,w.cell? ⟨3,0,none⟩=some (.int .i64 m)
theorem qc(s:ByteArray)(a b:Nat):(s.extract a b).data.toList=(s.data.toList.drop a).take (b-a):=by
 simp[ByteArray.data_extract,Array.toList_extract]
theorem Ye(a b:ByteArray):(a++b).data.toList=a.data.toList++b.data.toList:=by
 simp[ByteArray.data_append]
theorem Zy(K x:ByteArray)(w:World)(b:K.size<4294967281)(a:U8 w):
 Calls prog 113 #[.string K,.string (⟨#[32]⟩++x++⟨#[32]⟩)] w λe w'=>e=.returned (.bool (Lib.contains K.data.toList (32::(x.data.toList++[32]))))/\w=w':=by
 obtain⟨m,a⟩:=a;refine(Tryz.strings_Contains K _ m w b a).mono ?_;rintro e w' ⟨rfl,rfl⟩;exact⟨by rw[Ye,Ye];rfl,rfl⟩
theorem ziq(s:ByteArray)(h:1<s.size): ∃a b,(s.extract 0 2).data.toList=[a,b]/\s.data.toList.take 2=[a,b]:=by
 rw[qc];have c:1<s.data.toList.length:=h
 rcases d:s.data.toList with _|⟨a,_|⟨b,l⟩⟩
 ·rw[d]at c;simp at c
 ·rw[d]at c;simp at c
 ·exact⟨a,b,by simp,by simp⟩
theorem xA(s:ByteArray)(w:World)(t:Bool)(h:1<s.size)(c:W7.contains (s.data.toList.take 2)=t)(d:U8 w):
 Calls prog 113 #[.string ⟨#[32,60,61,32,62,61,32,61,61,32,33,61,32,38,38,32,124,124,32]⟩,.string (⟨#[32]⟩++s.extract 0 2++⟨#[32]⟩)] w λe w'=>e=.returned (.bool t)/\w=w':=by
 refine(Zy _ _ w (by decide) d).mono ?_;rintro e w' ⟨rfl,rfl⟩;obtain⟨a,b,f,g⟩:=ziq s h;refine⟨?_,rfl⟩;rw[<-c,f,g,<-QC];rfl
theorem qO(c:UInt8)(w:World)(t:Bool)(a:yZ.contains c=t):
 Calls prog 123 #[.string ⟨#[43,45,42,47,37,60,62,61,33,40,41,123,125,44,59,58,64]⟩,.int .u8 c.toNat] w λe w'=>(∃i:Int,e=.returned (.int .i64 i)/\decide (0<=i)=t)/\w=w':=by
 refine(Tryz.strings_IndexByte _ _ w).mono ?_;rintro e w' ⟨rfl,rfl⟩;refine⟨⟨_,rfl,?_⟩,rfl⟩;rw[<-a,<-Jh];have:UInt8.ofNat (((c.toNat:Int)).toNat)=c:=by simp
 simp only[this];rfl
theorem zdE(s:ByteArray)(w:World)(hs:s.size<=maxLen)(p:U8 w):
 Calls prog 88 #[.string s] w λe w'=>e=.returned (.int .i64 (O0 s.data.toList))/\w=w':=by
 unfold maxLen at hs;have k:=zh p;clear p
 by_cases m:0<s.size
 case neg=>
  have q:O0 s.data.toList=0:=by
   have:s.data.toList=[]:=I3 (by rw[P7];omega);rw[this];decide
  have f:=zh q;clear q
  go_enter func88,ntmps88
  go_wp2
  go_ret;exact⟨xX (by rw[f.out];rfl),rfl⟩
 have h:=zh (qZ s m)
 by_cases n:1<s.size
 ·cases c:W7.contains (s.data.toList.take 2)
  ·cases d:yZ.contains s[0]
   ·have f:=zh (show O0 s.data.toList=0 by simp only[O0,c,h.out,d];simp)
    have j:=zh c;have g:=zh d;clear c d
    go_enter func88,ntmps88
    go_wp2_with fail
    refine(xA s w _ n j.out k.out).mono ?_;rintro e w' ⟨rfl,rfl⟩
    go_wp2_with fail
    refine(qO _ _ _ g.out).mono ?_;rintro e w' ⟨⟨i,rfl,o⟩,rfl⟩
    go_wp2_with fail
    go_ret;exact⟨xX (by rw[f.out];rfl),rfl⟩
   ·have f:=zh (show O0 s.data.toList=1 by simp only[O0,c,h.out,d];simp[P7,m])
    have j:=zh c;have g:=zh d;clear c d
    go_enter func88,ntmps88
    go_wp2_with fail
    refine(xA s w _ n j.out k.out).mono ?_;rintro e w' ⟨rfl,rfl⟩
    go_wp2_with fail
    refine(qO _ _ _ g.out).mono ?_;rintro e w' ⟨⟨i,rfl,o⟩,rfl⟩
    go_wp2_with fail
    go_ret;exact⟨xX (by rw[f.out];rfl),rfl⟩
  ·have f:=zh (show O0 s.data.toList=2 by simp only[O0,c];simp)
   have j:=zh c;clear c
   go_enter func88,ntmps88
   go_wp2_with fail
   refine(xA s w _ n j.out k.out).mono ?_;rintro e w' ⟨rfl,rfl⟩
   go_wp2_with fail
   go_ret;exact⟨xX (by rw[f.out];rfl),rfl⟩
 ·have c:W7.contains (s.data.toList.take 2)=false:=by
   have r:s.data.toList.length=s.size:=rfl
   rcases h:s.data.toList with _|⟨a,_|⟨b,l⟩⟩
   ·decide
   ·simp[W7]
   ·rw[h]at r;simp at r;omega
  cases d:yZ.contains s[0]
  ·have f:=zh (show O0 s.data.toList=0 by simp only[O0,c,h.out,d];simp)
   have g:=zh d;clear c d
   go_enter func88,ntmps88
   go_wp2_with fail
   refine(qO _ _ _ g.out).mono ?_;rintro e w' ⟨⟨i,rfl,o⟩,rfl⟩
   go_wp2_with fail
   go_ret;exact⟨xX (by rw[f.out];rfl),rfl⟩
  ·have f:=zh (show O0 s.data.toList=1 by simp only[O0,c,h.out,d];simp[P7,m])
   have g:=zh d;clear c d
   go_enter func88,ntmps88
   go_wp2_with fail
   refine(qO _ _ _ g.out).mono ?_;rintro e w' ⟨⟨i,rfl,o⟩,rfl⟩
   go_wp2_with fail
   go_ret;exact⟨xX (by rw[f.out];rfl),rfl⟩
end Go.Proofs.YtalgmjmibamdfaaGreatDoor
namespace Go.Proofs.YtalgmjmibamdfaaGreatDoor
namespace Tw
theorem jI(s:ByteArray)(k:Nat)(h:k<s.size):s.data.toList.drop k=s[k]::s.data.toList.drop (k+1):=by
 rw[F9 (by simpa using h)];rfl
theorem zda(s:ByteArray)(k:Nat)(h:s.size<=k):s.data.toList.drop k=[]:=by
 rw[List.drop_eq_nil_iff];simpa using h
theorem qe(s:ByteArray)(p:UInt8->Bool)(k:Nat)(h:k<s.size)(a:p s[k]=true):L1 p (s.data.toList.drop k)=1+L1 p (s.data.toList.drop (k+1)):=by
 rw[jI s k h];simp[L1,a];omega
theorem Xq(s:ByteArray)(p:UInt8->Bool)(k:Nat)(h:k<s.size)(a:p s[k]=false):L1 p (s.data.toList.drop k)=0:=by
 rw[jI s k h];simp[L1,a]
theorem XM(s:ByteArray)(p:UInt8->Bool)(k:Nat)(h:s.size<=k):L1 p (s.data.toList.drop k)=0:=by
 rw[zda s k h];rfl
section
variable {s:ByteArray}{k:Nat}{l:List Wd}{r:Option Nat×List Wd}
theorem xa.ZY{n:Nat}(h:xa s k l r)(d:k<s.size)(b:xZ (s.data.toList.drop k)=.skip n):xa s (k+n) l r:=by
 cases h with
 |done e=>omega
 |skip _ a c=>rw[b]at a;cases a;exact c
 |zq _ a c=>rw[b]at a;cases a
 |yH _ a=>rw[b]at a;cases a
theorem xa.jr{n c:Nat}(h:xa s k l r)(f:k<s.size)(b:xZ (s.data.toList.drop k)=.zq c n):xa s (k+n) (l++[⟨c,s.extract k (k+n),k⟩]) r:=by
 cases h with
 |done e=>omega
 |skip _ a d=>rw[b]at a;cases a
 |zq _ a d=>rw[b]at a;cases a;exact d
 |yH _ a=>rw[b]at a;cases a
theorem xa.yC(h:xa s k l r)(d:k<s.size)(b:xZ (s.data.toList.drop k)=.yH):r=(some k,[]):=by
 cases h with
 |done e=>omega
 |skip _ a c=>rw[b]at a;cases a
 |zq _ a c=>rw[b]at a;cases a
 |yH _ a=>rfl
theorem xa.zbF(h:xa s k l r)(d:s.size<=k):r=(none,l):=by
 cases h with
 |done e=>rfl
 |skip a b c=>omega
 |zq a b c=>omega
 |yH a b=>omega
theorem zQ(s:ByteArray)(k:Nat)(h:k<s.size):(s.data.toList.drop k).headD 0=s[k]:=by rw[jI s k h];rfl
theorem zaS(a:k<s.size)(h:qD s[k]=true):xZ (s.data.toList.drop k)=.skip 1:=by
 simp only[xZ,zQ s k a,h];simp
theorem QW(a:k<s.size)(h:qD s[k]=false)(b:s[k]=35):xZ (s.data.toList.drop k)=.skip (L1 (λc=>c !=10) (s.data.toList.drop k)):=by
 simp only[xZ,zQ s k a,h];simp[b]
theorem Xc(b:k<s.size)(a:qm s[k]=true):xZ (s.data.toList.drop k)=if U4 ((s.data.toList.drop k).take (L1 T0 (s.data.toList.drop k)))then .zq 1 (L1 T0 (s.data.toList.drop k))else .yH:=by
 have h:qD s[k]=false:=by simp[qm,qD]at*;omega
 have c:(s[k]==35)=false:=by rw[B0];intro e;rw[e]at a;revert a;decide
 simp only[xZ,zQ s k b,h,a,c];simp
theorem Xm(b:k<s.size)(a:xY s[k]=true):xZ (s.data.toList.drop k)=if zX ((s.data.toList.drop k).take (L1 T0 (s.data.toList.drop k)))then .zq 3 (L1 T0 (s.data.toList.drop k))else if decide (16<L1 T0 (s.data.toList.drop k))then .yH else .zq 2 (L1 T0 (s.data.toList.drop k)):=by
 have h:qD s[k]=false:=by simp[xY,qD]at*;omega
 have c:(s[k]==35)=false:=by rw[B0];intro e;rw[e]at a;revert a;decide
 have d:qm s[k]=false:=by simp[xY,qm]at*;omega
 simp only[xZ,zQ s k b,h,a,c,d];simp
theorem Qi(a:k<s.size)(h:qD s[k]=false)(b:s[k]≠35)(c:qm s[k]=false)(d:xY s[k]=false){n:Nat}(e:O0 (s.data.toList.drop k)=n):xZ (s.data.toList.drop k)=if n=0 then .yH else .zq 4 n:=by
 have f:(s[k]==35)=false:=by rw[B0];exact b
 simp only[xZ,zQ s k a,h,f,c,d,e];cases n<;>simp
end
theorem yt(l:Bs):O0 l<=l.length/\O0 l<=2:=by
 unfold O0
 split
 ·rename_i h
  have:l.take 2∈W7:=by simpa using h
  simp only[W7,E7,List.mem_nil_iff,or_false]at this;have a:(l.take 2).length=2:=by rcases this with h|h|h|h|h|h<;>rw[h]<;>rfl
  rw[I5]at a;omega
 ·split
  ·rename_i h;simp at h;omega
  ·omega
theorem XH(p:UInt8->Bool)(l:Bs):L1 p l<=l.length:=by
 unfold L1;exact(List.takeWhile_sublist p).length_le
theorem YU{s:ByteArray}{k c m:Nat}(b:k<s.size)(a:xZ (s.data.toList.drop k)=.zq c m):0<m/\m<=s.size-k:=by
 have f:(s.data.toList.drop k).length=s.size-k:=by rw[I6];rfl
 by_cases h:qD s[k]=true
 ·rw[zaS b h]at a;cases a
 ·have h:qD s[k]=false:=by simpa using h
  have j:=XH T0 (s.data.toList.drop k)
  by_cases g:s[k]=35
  ·rw[QW b h g]at a;cases a
  ·by_cases d:qm s[k]=true
   ·have i:=qe s T0 k b (by simp[T0,d])
    rw[Xc b d]at a;split at a<;>cases a;omega
   ·by_cases e:xY s[k]=true
    ·have i:=qe s T0 k b (by simp[T0,e])
     rw[Xm b e]at a;repeat' (split at a)
     all_goals cases a
     all_goals omega
    ·have:=yt (s.data.toList.drop k)
     rw[Qi b h g (by simpa using d) (by simpa using e) rfl]at a;split at a
     ·cases a
     ·cases a;omega
end Tw
end Go.Proofs.YtalgmjmibamdfaaGreatDoor
namespace Go.Proofs.YtalgmjmibamdfaaGreatDoor
open Go.RowKit
structure R1(P:Program)(t e size:Nat):Prop where
 ut:P.underlying t=some (.slice e)
 inf:(P.info? e).map (λi=>(i.zero.map (λz=>z.cells.size),i.size,decide (i.bytes<=256)))=some (some size,size,true)
 pos:0<size
section
variable {P:Program}{w:World}
theorem R1.get{t e size:Nat}(h:R1 P t e size): ∃i z,P.info? e=some i/\i.zero=some z/\i.size=size/\i.bytes<=256/\z.cells.size=size:=by
 have a:=h.inf;cases d:P.info? e with
 |none=>rw[d]at a;cases a
 |some i=>
  rw[d]at a;simp only[Option.map_some,Option.some.injEq,Prod.mk.injEq,decide_eq_true_eq]at a;obtain⟨b,f,g⟩:=a;cases c:i.zero with
  |none=>rw[c]at b;cases b
  |some z=>
   rw[c]at b;exact⟨i,z,rfl,c,f,g,by simpa using b⟩
theorem qV{n b:Nat}(a:b<=256)(c:n<=500000000000):n*b<=140737488355328:=by
 have:n*b<=500000000000*256:=Nat.mul_le_mul c a;omega
theorem M7{ops:Array Oper}{b:List Oper}{o:Oper}{a:Act}{Q:Exit->Act->World->Prop}{t e size:Nat}(E:R1 P t e size)(l:o.guard=none)(s x:Operand)
 (r:o.op=.call {callee:=.builtin .append,args:= #[s,x],argTypes:= #[t,t]})
 (base:Nat) (v:Value) (n:Nat) (xs:List Value) (hs:a.eval s=v) (f:w.ownsRow base e size v n xs)
 (H c:Nat) (j:Array Value) (hx:a.eval x=.slice (some ⟨H,0,none⟩) 1 c) (k:w.heap[H]?=some (.cells j e (0,0))) (y:j.size=size) (A: ∀u∈j.toList,u.oneCell'=true)
 (B:n+1<=500000000000) (d:base<=w.heap.size)
 (h: ∀g cap w',w'.ownsRow base e size (.slice (some ⟨g,0,none⟩) (n+1) cap) (n+1) (xs++j.toList)->w.grownBy w' v.ownBlock->(v.ownBlock=some g\/g=w.heap.size)->g<w'.heap.size->wpList P ops Q b (a.put o.dst (.slice (some ⟨g,0,none⟩) (n+1) cap)) w'):wpList P ops Q (o::b) a w:=by
 obtain⟨i,z,C,D,m,p,q⟩:=E.get
 exact wpList_append_lies w l s x t r base e i z size i.bytes E.ut C D m rfl q E.pos v n xs hs f ⟨H,0,none⟩ 1 c j.toList hx (by simp[y]) (World.news_of_block k) A
  (by omega) (by unfold maxLen;omega) (qV p B) d w.heap.size rfl h
theorem J9{B:Nat}{a w:World}(h:Below B a w)(n:Nat):Below B a (w.drewN n):=⟨h.os,h.tape,h.output,h.size,h.block⟩
theorem L8{B:Nat}{w0 w':World}{base:Nat}{e size n:Nat}{v:Value}{xs:List Value}(c:Below B w0 w)(a:w.ownsRow base e size v n xs)(d:B<=base)(b:B<=w.heap.size)(f:w.grownBy w' v.ownBlock):Below B w0 w':=
 c.grown f b λk g=>Nat.le_trans d (a.lt k g).1
end
end Go.Proofs.YtalgmjmibamdfaaGreatDoor
namespace Go.Proofs.YtalgmjmibamdfaaGreatDoor
open Go.Proofs.Tryz
open Go.RowKit Tw
theorem Z7:R1 prog 111 158 3:=⟨underlying111,by kernel_rfl,by decide⟩
theorem Z8(c:UInt8)(t:Bool)(h:qm c=t)(w:World):Calls prog 84 #[.int .u8 c.toNat] w λe w'=>e=.returned (.bool t)/\w=w':=by subst h;exact zP c w
theorem zu(c:UInt8)(t:Bool)(h:xY c=t)(w:World):Calls prog 85 #[.int .u8 c.toNat] w λe w'=>e=.returned (.bool t)/\w=w':=by subst h;exact zI c w
theorem yV(s:ByteArray)(t:Bool)(h:U4 s.data.toList=t)(hs:s.size<=maxLen)(w:World):Calls prog 86 #[.string s] w λe w'=>e=.returned (.bool t)/\w=w':=by subst h;exact zaG s w hs
theorem xT(s:ByteArray)(t:Bool)(h:zX s.data.toList=t)(w:World):Calls prog 87 #[.string s] w λe w'=>e=.returned (.bool t)/\w=w':=by subst h;exact Zq s w
theorem zcH(s:ByteArray)(n:Nat)(h:O0 s.data.toList=n)(hs:s.size<=maxLen)(w:World)(a:U8 w):Calls prog 88 #[.string s] w λe w'=>e=.returned (.int .i64 n)/\w=w':=by subst h;exact zdE s w hs a
theorem U8.below{w w':World}(h:U8 w){B:Nat}(a:Below B w w')(b:3<B):U8 w':=by
 obtain⟨m,c⟩:=h;exact⟨m,(a.cell (p:=⟨3,0,none⟩) b).trans c⟩
theorem R6(l:List Wd)(x:Wd):P9 (l++[x])=P9 l++x.cells:=by simp[P9]
theorem zx(w:World)(a o2:Obj):((w.alloc a).alloc o2).heap[w.heap.size+1]?=some o2:=by
 have:=y9 (w.alloc a) o2;simpa using this
def zaK(r:Option Nat×List Wd):Int:=if r.1.isSome then 15 else 0
def zdn(r:Option Nat×List Wd):Int:=(r.1.getD 0:Nat)
theorem zaz(s:ByteArray)(w:World)(r:Option Nat×List Wd)(hs:s.size<=4000)(hm:U8 w)(h2:3<w.heap.size)(hr:xa s 0 [] r):
 Calls prog 50 #[.string s] w λe w'=> ∃v,e=.returned (.tuple #[v,.int .i64 (zdn r),.int .i64 (zaK r)])/\w'.ownsRow w.heap.size 158 3 v r.2.length (P9 r.2)/\Below w.heap.size w w':=by
 have HR:=zh hr;clear hr;have HM:=zh hm;clear hm
 go_enter func50,ntmps50
 go_wp2_with fail
 go_loopw[5,6] (λv i wr=> ∃(k:Nat)(l:List Wd),k<=s.size/\i=.int .i64 k/\l.length<=k/\wr.ownsRow w.heap.size 158 3 v l.length (P9 l)/\Below w.heap.size w wr/\Hid (xa s k l r)) (λ_ i _=>s.size-(intOf i).toNat)
 case atStart=>exact⟨0,[],E2 _,rfl,E2 _,G5 _ _ _ _,y7 _ _,HR⟩
 case round=>
  obtain⟨k,l,hk,rfl,hl,d,y,L⟩:=hrel;have x:=y.size
  by_cases o:k<s.size
  case neg=>
   have E:=zh (L.out.zbF (by omega))
   go_wp2_with fail
   go_ret3
   exact⟨_,by rw[E.out];rfl,by rw[E.out];exact d,y⟩
  have hc:s[k].toNat<256:=UInt8.toNat_lt _;cases I:qD s[k]
  case true=>
   have N:=zh (L.out.ZY o (zaS o I));have W:s[k].toNat=32\/s[k].toNat=10\/s[k].toNat=9:=by simpa[qD,or_assoc]using I
   clear I;obtain⟨e1,e2⟩:(((s[k].toNat:Int)==32)=true\/((s[k].toNat:Int)==32)=false/\(((s[k].toNat:Int)==10)=true\/((s[k].toNat:Int)==10)=false/\((s[k].toNat:Int)==9)=true))/\True:=by
    refine⟨?_,trivial⟩
    rcases W with h|h|h<;>rw[h]<;>decide
   clear e2 W
   rcases e1 with e1|⟨e1,a1|⟨a1,a2⟩⟩
   all_goals
    go_wp2_with fail
    go_roundw
    case rel=>exact⟨k+1,l,by omega,by go_num,by omega,d,y,N⟩
    case measure=>simp[intOf];omega
  have e1:((s[k].toNat:Int)==32)=false:=by
   rw[B0];intro h;have:s[k].toNat=32:=by omega
   simp[qD,this]at I
  have e2:((s[k].toNat:Int)==10)=false:=by
   rw[B0];intro h;have:s[k].toNat=10:=by omega
   simp[qD,this]at I
  have e3:((s[k].toNat:Int)==9)=false:=by
   rw[B0];intro h;have:s[k].toNat=9:=by omega
   simp[qD,this]at I
  by_cases R:s[k]=35
  ·have J:=zh (QW o I R)
   have N:=zh (L.out.ZY o J.out);have e4:((s[k].toNat:Int)==35)=true:=by rw[R];rfl
   clear R I
   go_wp2_with fail
   go_loop [6] (λi=> ∃j:Nat,k<=j/\j<=s.size/\i=.int .i64 j/\Hid (k+L1 (λc=>c !=10) (s.data.toList.drop k)=j+L1 (λc=>c !=10) (s.data.toList.drop j))) (λi=>s.size-(intOf i).toNat)
   case atStart=>exact⟨k,y6 _,by omega,rfl,zh rfl⟩
   case round=>
    obtain⟨j,X,hj,rfl,O⟩:=hrel
    by_cases b:j<s.size
    ·by_cases M:s[j].toNat=10
     ·have K:(s[j] !=10)=false:=by
       have:s[j]=10:=UInt8.toNat_inj.1 M;simp[this]
      have Y:k+L1 (λc=>c !=10) (s.data.toList.drop k)=j:=by rw[O.out,Xq s (λc=>c !=10) j b K];rfl
      have p:Hid (xa s j l r):=zh (by have:=N.out;rw[Y]at this;exact this);have e5:((s[j].toNat:Int) !=10)=false:=by rw[M];rfl
      have S:k<j:=by have:=qe s (λc=>c !=10) k o (by have:=e4;simp at this;simp;intro h;rw[h]at this;revert this;decide);omega
      clear M K Y
      go_wp2_with fail
      go_roundw
      case rel=>exact⟨j,l,by omega,rfl,by omega,d,y,p⟩
      case measure=>simp[intOf];omega
     ·have K:(s[j] !=10)=true:=by
       rw[bne_iff_ne];intro h;exact M (by rw[h];rfl)
      have B:Hid (k+L1 (λc=>c !=10) (s.data.toList.drop k)=(j+1)+L1 (λc=>c !=10) (s.data.toList.drop (j+1))):=zh (by rw[O.out,qe s (λc=>c !=10) j b K];omega);have e5:((s[j].toNat:Int) !=10)=true:=by rw[bne_iff_ne];omega
      clear M K
      go_wp2_with fail
      go_round
      case rel=>exact⟨j+1,by omega,by omega,by go_num,B⟩
      case measure=>simp[intOf];omega
    ·have Y:k+L1 (λc=>c !=10) (s.data.toList.drop k)=j:=by rw[O.out,XM s _ j (by omega)];rfl
     have p:Hid (xa s j l r):=zh (by have:=N.out;rw[Y]at this;exact this);clear Y
     go_wp2_with fail
     go_roundw
     case rel=>exact⟨j,l,by omega,rfl,by omega,d,y,p⟩
     case measure=>simp[intOf];omega
  have e4:((s[k].toNat:Int)==35)=false:=by rw[B0];intro h;exact R (UInt8.toNat_inj.1 (show s[k].toNat=35 by omega))
  cases P:qm s[k]
  case true=>
   have J:=zh (Xc o P);have HA:=zh (qe s T0 k o (by simp[T0,P]));have T:=zh P;clear P I R
   go_wp2_with(go_at_call 84;refine(Z8 _ _ T.out _).mono ?_;rintro e w' ⟨rfl,rfl⟩)
   go_loop [6] (λi=> ∃j:Nat,k<=j/\j<=s.size/\i=.int .i64 j/\Hid (k+L1 T0 (s.data.toList.drop k)=j+L1 T0 (s.data.toList.drop j))) (λi=>s.size-(intOf i).toNat)
   case atStart=>exact⟨k,y6 _,by omega,rfl,zh rfl⟩
   case round=>
    obtain⟨j,X,hj,rfl,O⟩:=hrel
    by_cases m: ∃h:j<s.size,T0 s[j]=true
    ·obtain⟨b,m⟩:=m
     have B:Hid (k+L1 T0 (s.data.toList.drop k)=(j+1)+L1 T0 (s.data.toList.drop (j+1))):=zh (by rw[O.out,qe s T0 j b m];omega);cases u:qm s[j]
     ·have z:=zh u
      have F:Hid (xY s[j]=true):=zh (by simpa[T0,u]using m);clear u m
      go_wp2_with(first|(go_at_call 84;refine(Z8 _ _ z.out _).mono ?_;rintro e w' ⟨rfl,rfl⟩)|(go_at_call 85;refine(zu _ _ F.out _).mono ?_;rintro e w' ⟨rfl,rfl⟩))
      go_round
      case rel=>exact⟨j+1,by omega,by omega,by go_num,B⟩
      case measure=>simp[intOf];omega
     ·have z:=zh u
      clear u m
      go_wp2_with(go_at_call 84;refine(Z8 _ _ z.out _).mono ?_;rintro e w' ⟨rfl,rfl⟩)
      go_round
      case rel=>exact⟨j+1,by omega,by omega,by go_num,B⟩
      case measure=>simp[intOf];omega
    ·have E:Hid (k+L1 T0 (s.data.toList.drop k)=j):=zh (by
      rw[O.out]
      by_cases b:j<s.size
      ·rw[Xq s T0 j b (by simpa using λh=>m ⟨b,h⟩)];rfl
      ·rw[XM s T0 j (by omega)];rfl)
     have S:k<j:=by have:=E.out;have:=HA.out;omega
     have U:Hid ((s.extract k j).data.toList=(s.data.toList.drop k).take (L1 T0 (s.data.toList.drop k))):=zh (by
      rw[qc];congr 1;have:=E.out;omega)
     cases C:U4 (s.extract k j).data.toList
     ·have t:=zh (L.out.yC o (by rw[J.out,<-U.out,C];rfl))
      have A:=zh C;clear C
      by_cases b:j<s.size
      ·have z:Hid (qm s[j]=false):=zh (by have h:=λh=>m ⟨b,h⟩;simp[T0]at h;exact h.1)
       have F:Hid (xY s[j]=false):=zh (by have h:=λh=>m ⟨b,h⟩;simp[T0]at h;exact h.2);clear m
       go_wp2_with(first|(go_at_call 84;refine(Z8 _ _ z.out _).mono ?_;rintro e w' ⟨rfl,rfl⟩)|(go_at_call 85;refine(zu _ _ F.out _).mono ?_;rintro e w' ⟨rfl,rfl⟩)|(go_at_call 86;refine(yV _ _ A.out (by unfold maxLen;simp;omega) _).mono ?_;rintro e w' ⟨rfl,rfl⟩))
       go_ret3
       exact⟨_,by rw[t.out];rfl,by rw[t.out];exact G5 _ _ _ _,y⟩
      ·clear m
       go_wp2_with(go_at_call 86;refine(yV _ _ A.out (by unfold maxLen;simp;omega) _).mono ?_;rintro e w' ⟨rfl,rfl⟩)
       go_ret3
       exact⟨_,by rw[t.out];rfl,by rw[t.out];exact G5 _ _ _ _,y⟩
     ·have p:Hid (xa s j (l++[⟨1,s.extract k j,k⟩]) r):=zh (by
       have:=L.out.jr o (c:=1) (n:=L1 T0 (s.data.toList.drop k)) (by rw[J.out,<-U.out,C];rfl);rw[E.out]at this;exact this)
      have A:=zh C;clear C
      by_cases b:j<s.size
      ·have z:Hid (qm s[j]=false):=zh (by have h:=λh=>m ⟨b,h⟩;simp[T0]at h;exact h.1)
       have F:Hid (xY s[j]=false):=zh (by have h:=λh=>m ⟨b,h⟩;simp[T0]at h;exact h.2);clear m
       go_wp2_with(first|(go_at_call 84;refine(Z8 _ _ z.out _).mono ?_;rintro e w' ⟨rfl,rfl⟩)|(go_at_call 85;refine(zu _ _ F.out _).mono ?_;rintro e w' ⟨rfl,rfl⟩)|(go_at_call 86;refine(yV _ _ A.out (by unfold maxLen;simp;omega) _).mono ?_;rintro e w' ⟨rfl,rfl⟩)|(at_builtin;go_must(refine M7 Z7 rfl _ _ rfl w.heap.size _ l.length (P9 l) rfl (d.alloc _) wr.heap.size 1 #[.int .i64 1,.string (s.extract k j),.int .i64 k] rfl (y9 wr _) rfl (by simp[Value.oneCell']) (by omega) (by simp;omega) ?_);intro g G V f a _ _;have q:=L8 (y.alloc x _) (d.alloc _) (y6 _) (by simp;omega) a;clear a))
       go_roundw
       case rel=>exact⟨j,l++[⟨1,s.extract k j,k⟩],by omega,rfl,by simp;omega,by rw[R6,z9];exact f,q,p⟩
       case measure=>simp[intOf];omega
      ·clear m
       go_wp2_with(first|(go_at_call 86;refine(yV _ _ A.out (by unfold maxLen;simp;omega) _).mono ?_;rintro e w' ⟨rfl,rfl⟩)|(at_builtin;go_must(refine M7 Z7 rfl _ _ rfl w.heap.size _ l.length (P9 l) rfl (d.alloc _) wr.heap.size 1 #[.int .i64 1,.string (s.extract k j),.int .i64 k] rfl (y9 wr _) rfl (by simp[Value.oneCell']) (by omega) (by simp;omega) ?_);intro g G V f a _ _;have q:=L8 (y.alloc x _) (d.alloc _) (y6 _) (by simp;omega) a;clear a))
       go_roundw
       case rel=>exact⟨j,l++[⟨1,s.extract k j,k⟩],by omega,rfl,by simp;omega,by rw[R6,z9];exact f,q,p⟩
       case measure=>simp[intOf];omega
  cases D:xY s[k]
  case true=>
   have J:=zh (Xm o D);have HA:=zh (qe s T0 k o (by simp[T0,D]));have T:=zh P;have Q:=zh D;clear P D I R
   go_wp2_with(first|(go_at_call 84;refine(Z8 _ _ T.out _).mono ?_;rintro e w' ⟨rfl,rfl⟩)|(go_at_call 85;refine(zu _ _ Q.out _).mono ?_;rintro e w' ⟨rfl,rfl⟩))
   go_loop [6] (λi=> ∃j:Nat,k<=j/\j<=s.size/\i=.int .i64 j/\Hid (k+L1 T0 (s.data.toList.drop k)=j+L1 T0 (s.data.toList.drop j))) (λi=>s.size-(intOf i).toNat)
   case atStart=>exact⟨k,y6 _,by omega,rfl,zh rfl⟩
   case round=>
    obtain⟨j,X,hj,rfl,O⟩:=hrel
    by_cases m: ∃h:j<s.size,T0 s[j]=true
    ·obtain⟨b,m⟩:=m
     have B:Hid (k+L1 T0 (s.data.toList.drop k)=(j+1)+L1 T0 (s.data.toList.drop (j+1))):=zh (by rw[O.out,qe s T0 j b m];omega);cases u:qm s[j]
     ·have z:=zh u
      have F:Hid (xY s[j]=true):=zh (by simpa[T0,u]using m);clear u m
      go_wp2_with(first|(go_at_call 84;refine(Z8 _ _ z.out _).mono ?_;rintro e w' ⟨rfl,rfl⟩)|(go_at_call 85;refine(zu _ _ F.out _).mono ?_;rintro e w' ⟨rfl,rfl⟩))
      go_round
      case rel=>exact⟨j+1,by omega,by omega,by go_num,B⟩
      case measure=>simp[intOf];omega
     ·have z:=zh u
      clear u m
      go_wp2_with(go_at_call 84;refine(Z8 _ _ z.out _).mono ?_;rintro e w' ⟨rfl,rfl⟩)
      go_round
      case rel=>exact⟨j+1,by omega,by omega,by go_num,B⟩
      case measure=>simp[intOf];omega
    ·have E:Hid (k+L1 T0 (s.data.toList.drop k)=j):=zh (by
      rw[O.out]
      by_cases b:j<s.size
      ·rw[Xq s T0 j b (by simpa using λh=>m ⟨b,h⟩)];rfl
      ·rw[XM s T0 j (by omega)];rfl)
     have S:k<j:=by have:=E.out;have:=HA.out;omega
     have U:Hid ((s.extract k j).data.toList=(s.data.toList.drop k).take (L1 T0 (s.data.toList.drop k))):=zh (by
      rw[qc];congr 1;have:=E.out;omega)
     have H:Hid (∀b:j<s.size,qm s[j]=false/\xY s[j]=false):=zh (by intro b;have h:=λh=>m ⟨b,h⟩;simpa[T0]using h);clear m;cases C:zX (s.extract k j).data.toList
     ·have A:=zh C
      by_cases a3:16<j-k
      ·have t:=zh (L.out.yC o (by rw[J.out,<-U.out,C];rw[B5 (by simp),E1 (by have:=E.out;simp;omega)]))
       clear C
       by_cases b:j<s.size
       ·have z:=zh (H.out b).1
        have F:=zh (H.out b).2
        go_wp2_with(first|(go_at_call 84;refine(Z8 _ _ z.out _).mono ?_;rintro e w' ⟨rfl,rfl⟩)|(go_at_call 85;refine(zu _ _ F.out _).mono ?_;rintro e w' ⟨rfl,rfl⟩)|(go_at_call 87;refine(xT _ _ A.out _).mono ?_;rintro e w' ⟨rfl,rfl⟩))
        go_ret3
        exact⟨_,by rw[t.out];rfl,by rw[t.out];exact G5 _ _ _ _,y.alloc x _⟩
       ·go_wp2_with(first|(go_at_call 87;refine(xT _ _ A.out _).mono ?_;rintro e w' ⟨rfl,rfl⟩))
        go_ret3
        exact⟨_,by rw[t.out];rfl,by rw[t.out];exact G5 _ _ _ _,y.alloc x _⟩
      ·have p:Hid (xa s j (l++[⟨2,s.extract k j,k⟩]) r):=zh (by
        have:=L.out.jr o (c:=2) (n:=L1 T0 (s.data.toList.drop k)) (by rw[J.out,<-U.out,C];rw[B5 (by simp),B5 (by have:=E.out;simp;omega)]);rw[E.out]at this;exact this)
       clear C
       by_cases b:j<s.size
       ·have z:=zh (H.out b).1
        have F:=zh (H.out b).2
        go_wp2_with(first|(go_at_call 84;refine(Z8 _ _ z.out _).mono ?_;rintro e w' ⟨rfl,rfl⟩)|(go_at_call 85;refine(zu _ _ F.out _).mono ?_;rintro e w' ⟨rfl,rfl⟩)|(go_at_call 87;refine(xT _ _ A.out _).mono ?_;rintro e w' ⟨rfl,rfl⟩)|(at_builtin;go_must(refine M7 Z7 rfl _ _ rfl w.heap.size _ l.length (P9 l) rfl ((d.alloc _).alloc _) (wr.heap.size+1) 1 #[.int .i64 2,.string (s.extract k j),.int .i64 k] rfl (zx wr _ _) rfl (by simp[Value.oneCell']) (by omega) (by simp;omega) ?_);intro g G V f a _ _;have q:=L8 ((y.alloc x _).alloc (by simp;omega) _) ((d.alloc _).alloc _) (y6 _) (by simp;omega) a;clear a))
        go_roundw
        case rel=>exact⟨j,l++[⟨2,s.extract k j,k⟩],by omega,rfl,by simp;omega,by rw[R6,z9];exact f,q,p⟩
        case measure=>simp[intOf];omega
       ·go_wp2_with(first|(go_at_call 87;refine(xT _ _ A.out _).mono ?_;rintro e w' ⟨rfl,rfl⟩)|(at_builtin;go_must(refine M7 Z7 rfl _ _ rfl w.heap.size _ l.length (P9 l) rfl ((d.alloc _).alloc _) (wr.heap.size+1) 1 #[.int .i64 2,.string (s.extract k j),.int .i64 k] rfl (zx wr _ _) rfl (by simp[Value.oneCell']) (by omega) (by simp;omega) ?_);intro g G V f a _ _;have q:=L8 ((y.alloc x _).alloc (by simp;omega) _) ((d.alloc _).alloc _) (y6 _) (by simp;omega) a;clear a))
        go_roundw
        case rel=>exact⟨j,l++[⟨2,s.extract k j,k⟩],by omega,rfl,by simp;omega,by rw[R6,z9];exact f,q,p⟩
        case measure=>simp[intOf];omega
     ·have A:=zh C
      have p:Hid (xa s j (l++[⟨3,s.extract k j,k⟩]) r):=zh (by
       have:=L.out.jr o (c:=3) (n:=L1 T0 (s.data.toList.drop k)) (by rw[J.out,<-U.out,C];rfl);rw[E.out]at this;exact this)
      clear C
      by_cases b:j<s.size
      ·have z:=zh (H.out b).1
       have F:=zh (H.out b).2
       go_wp2_with(first|(go_at_call 84;refine(Z8 _ _ z.out _).mono ?_;rintro e w' ⟨rfl,rfl⟩)|(go_at_call 85;refine(zu _ _ F.out _).mono ?_;rintro e w' ⟨rfl,rfl⟩)|(go_at_call 87;refine(xT _ _ A.out _).mono ?_;rintro e w' ⟨rfl,rfl⟩)|(at_builtin;go_must(refine M7 Z7 rfl _ _ rfl w.heap.size _ l.length (P9 l) rfl ((d.alloc _).alloc _) (wr.heap.size+1) 1 #[.int .i64 3,.string (s.extract k j),.int .i64 k] rfl (zx wr _ _) rfl (by simp[Value.oneCell']) (by omega) (by simp;omega) ?_);intro g G V f a _ _;have q:=L8 ((y.alloc x _).alloc (by simp;omega) _) ((d.alloc _).alloc _) (y6 _) (by simp;omega) a;clear a))
       go_roundw
       case rel=>exact⟨j,l++[⟨3,s.extract k j,k⟩],by omega,rfl,by simp;omega,by rw[R6,z9];exact f,q,p⟩
       case measure=>simp[intOf];omega
      ·go_wp2_with(first|(go_at_call 87;refine(xT _ _ A.out _).mono ?_;rintro e w' ⟨rfl,rfl⟩)|(at_builtin;go_must(refine M7 Z7 rfl _ _ rfl w.heap.size _ l.length (P9 l) rfl ((d.alloc _).alloc _) (wr.heap.size+1) 1 #[.int .i64 3,.string (s.extract k j),.int .i64 k] rfl (zx wr _ _) rfl (by simp[Value.oneCell']) (by omega) (by simp;omega) ?_);intro g G V f a _ _;have q:=L8 ((y.alloc x _).alloc (by simp;omega) _) ((d.alloc _).alloc _) (y6 _) (by simp;omega) a;clear a))
       go_roundw
       case rel=>exact⟨j,l++[⟨3,s.extract k j,k⟩],by omega,rfl,by simp;omega,by rw[R6,z9];exact f,q,p⟩
       case measure=>simp[intOf];omega
  have T:=zh P;have Q:=zh D;obtain⟨n,M⟩: ∃n,O0 (s.data.toList.drop k)=n:=⟨_,rfl⟩;have J:=zh (Qi o I R P D M);have a4:n<=s.size-k:=by have:=(yt (s.data.toList.drop k)).1;rw[M,I6,P7]at this;exact this
  have A:Hid (O0 (s.extract k s.size).data.toList=n):=zh (by
   rw[qc,List.take_of_length_le (by rw[I6,P7];omega)];exact M)
  have Z:Hid (U8 wr):=zh (HM.out.below y h2);have hx:(s.extract k s.size).size<=maxLen:=by unfold maxLen;simp;omega
  have a0:=zh hx;clear hx P D I R M
  by_cases h0:n=0
  ·subst h0
   have t:=zh (L.out.yC o (by rw[J.out];rfl))
   go_wp2_with(first|(go_at_call 84;refine(Z8 _ _ T.out _).mono ?_;rintro e w' ⟨rfl,rfl⟩)|(go_at_call 85;refine(zu _ _ Q.out _).mono ?_;rintro e w' ⟨rfl,rfl⟩)|(go_at_call 88;refine(zcH _ _ A.out a0.out _ Z.out).mono ?_;rintro e w' ⟨rfl,rfl⟩))
   go_ret3
   exact⟨_,by rw[t.out];rfl,by rw[t.out];exact G5 _ _ _ _,y⟩
  ·have p:Hid (xa s (k+n) (l++[⟨4,s.extract k (k+n),k⟩]) r):=zh (L.out.jr o (c:=4) (n:=n) (by rw[J.out,B5 h0]))
   have h1:1<=n:=by omega
   have a5:((n:Int)==0)=false:=by rw[B0];omega
   clear h0
   go_wp2_with(first|(go_at_call 84;refine(Z8 _ _ T.out _).mono ?_;rintro e w' ⟨rfl,rfl⟩)|(go_at_call 85;refine(zu _ _ Q.out _).mono ?_;rintro e w' ⟨rfl,rfl⟩)|(go_at_call 88;refine(zcH _ _ A.out a0.out _ Z.out).mono ?_;rintro e w' ⟨rfl,rfl⟩)|(at_builtin;go_must(refine M7 Z7 rfl _ _ rfl w.heap.size _ l.length (P9 l) rfl (d.alloc _) wr.heap.size 1 #[.int .i64 4,.string (s.extract k (k+n)),.int .i64 k] rfl (y9 wr _) rfl (by simp[Value.oneCell']) (by omega) (by simp;omega) ?_);intro g G V f a _ _;have q:=L8 (y.alloc x _) (d.alloc _) (y6 _) (by simp;omega) a;clear a))
   go_roundw
   case rel=>exact⟨k+n,l++[⟨4,s.extract k (k+n),k⟩],by omega,by go_num,by simp;omega,by rw[R6,z9];exact f,q,p⟩
   case measure=>simp[intOf];omega
end Go.Proofs.YtalgmjmibamdfaaGreatDoor
namespace Go.Proofs.YtalgmjmibamdfaaGreatDoor
open Go.RowKit Tw
theorem zbV(ws:List Wd): ∀(k:Nat)(x:Wd),ws[k]?=some x->(P9 ws)[k*3]?=some (.int .i64 x.N4)/\(P9 ws)[k*3+1]?=some (.string x.O9)/\(P9 ws)[k*3+2]?=some (.int .i64 x.pos):=by
 induction ws with
 |nil=>intro k x h;simp at h
 |cons y ws a=>
  intro k x h;have e:P9 (y::ws)=Value.int .i64 y.N4::Value.string y.O9::Value.int .i64 y.pos::P9 ws:=by simp[P9,Wd.cells]
  cases k with
  |zero=>simp at h;subst h;rw[e];exact⟨rfl,rfl,rfl⟩
  |succ k=>
   have:=a k x (by simpa using h);rw[e,show(k+1)*3=k*3+1+1+1 by omega];exact this
def jw(w:World)(B:Nat)(v:Value)(ws:List Wd):Prop:=
 (v=.slice none 0 0/\ws=[])\/ ∃g a,v=.slice (some ⟨g,0,none⟩) ws.length a/\g<B/\ ∀j u,(P9 ws)[j]?=some u->w.cell? ⟨g,j,none⟩=some u
section
variable {w w':World}{B:Nat}{v:Value}{ws:List Wd}
theorem jw.below{b:Nat}(h:jw w B v ws)(d:Below b w w')(e:B<=b):jw w' B v ws:=by
 rcases h with h|⟨g,a,f,c,i⟩
 ·exact .inl h
 ·exact .inr ⟨g,a,f,c,λj u k=>(d.cell (p:=⟨g,j,none⟩) (z6 c e)).trans (i j u k)⟩
theorem jw.ql{base t:Nat}(h:w.ownsRow base t 3 v ws.length (P9 ws)):jw w w.heap.size v ws:=by
 rcases h.2 with⟨a,c⟩|⟨g,b,d,a,_⟩
 ·exact .inl ⟨a,I3 c⟩
 ·right
  subst a;have f:=(h.lt g rfl).2;refine⟨g,b,rfl,f,λj u i=>?_⟩;have:=h.cells (g:=g) rfl j u i;have e:(⟨g,0,none⟩:Addr).add j=⟨g,j,none⟩:=by unfold Addr.add;split<;>simp_all
  rwa [e]at this
theorem jw.mono{b:Nat}(h:jw w B v ws)(c:B<=b):jw w b v ws:=by
 rcases h with h|⟨g,a,d,e,f⟩
 ·exact .inl h
 ·exact .inr ⟨g,a,d,z6 e c,f⟩
end
end Go.Proofs.YtalgmjmibamdfaaGreatDoor
namespace Go.Proofs.YtalgmjmibamdfaaGreatDoor
open Go.Proofs.Tryz
open Go.RowKit Tw
theorem zcJ(t:ByteArray)(z:t.size≠0)(G:t.size<=4000)(w:World):
 Calls prog 144 #[.string t,.int .i64 10,.int .i64 62] w λe w'=>e=.returned (Lib.uintTupleM 245 4611686018427387903 (Lib.parseUintM 4611686018427387903 0 t.data.toList))/\w'=Lib.bytesWorld w 5 t:=by
 have H:t.toList.isEmpty=false:=by
  rw[<-decide_eq_emptyBytes];exact G2 (λh=>z (by rw[h];rfl))
 have A:=Lib.run_convert_string_bytes (P:=prog) w 9 209 5 t (u:=.string) underlying9 underlying209 underlying5;have y: ∀j,j<t.size->(Lib.bytesWorld w 5 t).cell? ⟨w.heap.size,j,none⟩=some (.int .u8 (t.data.toList.getD j 0).toNat):=λj M=>Lib.bytesWorld_cell w 5 t j M;obtain⟨I,s⟩: ∃I,I=Lib.bytesWorld w 5 t:=⟨_,rfl⟩;rw[<-s]at A y|-
 clear s;obtain⟨d,B⟩: ∃d,d=t.data.toList:=⟨_,rfl⟩;have N:d.length=t.size:=by rw[B,Lib.size_eq]
 rw[<-B]at y|-
 clear B;have O:IntKind.u64.wrap (IntKind.u64.wrap 4611686018427387904-1)=4611686018427387903:=by
  rw[IntKind.wrap_u64,IntKind.wrap_u64]
  decide
 go_enter func144,ntmps144
 go_wp2
 go_loop [12,13,101] (λQ R C=> ∃(k acc:Nat)(a:Int),Q=.bool false/\R=.int .u64 a/\C=.int .i64 k/\k<=t.size/\Hid (a=(acc:Int)/\acc<=4611686018427387903/\Lib.parseUintM 4611686018427387903 0 d=Lib.parseUintM 4611686018427387903 acc (d.drop k)))
  (λ_ _ C=>t.size-(intOf C).toNat)
 case atStart=>exact⟨0,0,0,rfl,rfl,rfl,by omega,rfl,by omega,rfl⟩
 case round=>
  obtain⟨k,acc,a,rfl,rfl,rfl,hk,J⟩:=hrel;obtain⟨r,f,b⟩:=J.out;clear J;have S:0<=a:=by omega
  have T:a<=4611686018427387903:=by omega
  by_cases D:k<t.size
  ·have K:=y k D
   have i:d.drop k=d[k]'(by omega)::d.drop (k+1):=F9 (by omega);have m:d.getD k 0=d[k]'(by omega):=by simp[List.getD,y8 (show k<d.length by omega)]
   rw[i]at b;rw[m]at K;generalize d[k]'(by omega)=c at K b;have E:c.toNat<256:=c.toNat_lt;clear y i m
   by_cases n:48<=c.toNat/\c.toNat<=57
   ·obtain⟨p,q⟩:=n
    by_cases hcut:1844674407370955162<=acc
    ·have g:Lib.parseUintM 4611686018427387903 acc (c::d.drop (k+1))=.range:=by simp[Lib.parseUintM,p,q,hcut]
     rw[g]at b;have v:1844674407370955162<=a:=by omega
     clear hcut f g r
     go_wp2
     go_ret2;exact⟨rfl,rfl⟩
    by_cases l:4611686018427387903<acc*10+(c.toNat-48)
    ·have g:Lib.parseUintM 4611686018427387903 acc (c::d.drop (k+1))=.range:=by simp[Lib.parseUintM,p,q,hcut,l]
     rw[g]at b;have v:a<1844674407370955162:=by omega
     by_cases o:18446744073709551616<=acc*10+(c.toNat-48)
     ·have x:18446744073709551616<=a*10+((c.toNat:Int)-48):=by omega
      have U:IntKind.u64.wrap (a*10+((c.toNat:Int)-48))=a*10+((c.toNat:Int)-48)-18446744073709551616:=by
       rw[IntKind.wrap_u64];omega
      clear hcut f g l o r
      go_wp2
      go_ret2;exact⟨rfl,rfl⟩
     ·have x:4611686018427387903<a*10+((c.toNat:Int)-48):=by omega
      have L:a*10+((c.toNat:Int)-48)<18446744073709551616:=by omega
      clear hcut f g l o r
      go_wp2
      go_ret2;exact⟨rfl,rfl⟩
    ·have g:Lib.parseUintM 4611686018427387903 acc (c::d.drop (k+1))=Lib.parseUintM 4611686018427387903 (acc*10+(c.toNat-48)) (d.drop (k+1)):=by simp[Lib.parseUintM,p,q,hcut,l]
     have V:Hid (a*10+((c.toNat:Int)-48)=((acc*10+(c.toNat-48):Nat):Int)/\acc*10+(c.toNat-48)<=4611686018427387903/\Lib.parseUintM 4611686018427387903 0 d=Lib.parseUintM 4611686018427387903 (acc*10+(c.toNat-48)) (d.drop (k+1))):=zh ⟨by omega,by omega,b.trans g⟩;have x:a*10+((c.toNat:Int)-48)<=4611686018427387903:=by omega
     clear hcut f g l b r
     go_wp2
     refine⟨⟨k+1,acc*10+(c.toNat-48),a*10+((c.toNat:Int)-48),rfl,(by first|rfl|(congr 1;omega)),(by first|rfl|(congr 1;omega)),by omega,V⟩,by simp[intOf];omega⟩
   ·have g:Lib.parseUintM 4611686018427387903 acc (c::d.drop (k+1))=.syntax:=by simp[Lib.parseUintM,n]
    rw[g]at b;clear f g r;have W:=bits_lo_u8 .or (c.toNat:Int) 32;have X:=bits_hi_u8 .or (c.toNat:Int) 32;have Y:=bits_lo_u8 .or 95 32;have Z:=bits_hi_u8 .or 95 32
    go_wp2_with(go_at_call 178;refine(Tryz.internal_strconv_lower _ _).mono ?_;rintro e w' ⟨rfl,rfl⟩)
    all_goals go_ret2
    all_goals first|exact⟨rfl,rfl⟩|exact⟨by rw[b];rfl,rfl⟩
  ·have F:k=t.size:=by omega
   subst F;have g:Lib.parseUintM 4611686018427387903 acc (d.drop t.size)=.ok acc:=by rw[List.drop_eq_nil_of_le (by omega)];rfl
   rw[g]at b;subst r;clear f g S T
   go_wp2
   go_ret2;exact⟨rfl,rfl⟩
end Go.Proofs.YtalgmjmibamdfaaGreatDoor
