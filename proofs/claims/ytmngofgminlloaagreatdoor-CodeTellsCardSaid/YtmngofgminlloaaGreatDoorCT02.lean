/- Merged. -/
import Derived.Test.YtmngofgminlloaaGreatDoorCT01
import Derived.Test.YtmngofgminlloaaGreatDoorShelf
import Derived.Deep.AppendLies
import Derived.Lib.AppendIntMem
set_option linter.all false
set_option maxHeartbeats 32000000
set_option maxRecDepth 100000
namespace Go.Proofs.YtmngofgminlloaaGreatDoor
open Go.Proofs.Tryz
open Go.RowKit Tw
def zo(w:World):Prop:= ∃m:Int,w.cell? ⟨2,0,none⟩=some (.int .i64 m)
def je(s:ByteArray)(a b:Nat):(s.extract a b).data.toList=(s.data.toList.drop a).take (b-a):=by
 simp[ByteArray.data_extract,Array.toList_extract]
def zcW(a b:ByteArray):(a++b).data.toList=a.data.toList++b.data.toList:=by
 simp[ByteArray.data_append]
def Xy(K x:ByteArray)(w)(b:K.size<4294967281)(a:zo w):
 Calls prog 78 #[.string K,.string (⟨#[32]⟩++x++⟨#[32]⟩)] w λe w'=>e=.returned (.bool (Lib.contains K.data.toList (32::(x.data.toList++[32]))))/\w=w':=by
 obtain⟨m,a⟩:=a;refine(Tryz.strings_Contains K _ m w b a).mono ?_;rintro e w' ⟨rfl,rfl⟩;exact⟨by rw[zcW,zcW];rfl,rfl⟩
def znY(s:ByteArray)(h:1<s.size): ∃a b,(s.extract 0 2).data.toList=[a,b]/\s.data.toList.take 2=[a,b]:=by
 rw[je];have c:1<s.data.toList.length:=h
 rcases d:s.data.toList with _|⟨a,_|⟨b,l⟩⟩
 ·rw[d]at c;simp at c
 ·rw[d]at c;simp at c
 ·exact⟨a,b,by simp,by simp⟩
def ZA(s:ByteArray)(w)(t:Bool)(h:1<s.size)(c:zz.contains (s.data.toList.take 2)=t)(d:zo w):
 Calls prog 78 #[.string ⟨#[32,60,61,32,62,61,32,61,61,32,33,61,32,38,38,32,124,124,32]⟩,.string (⟨#[32]⟩++s.extract 0 2++⟨#[32]⟩)] w λe w'=>e=.returned (.bool t)/\w=w':=by
 refine(Xy _ _ w (by decide) d).mono ?_;rintro e w' ⟨rfl,rfl⟩;obtain⟨a,b,f,g⟩:=znY s h;refine⟨?_,rfl⟩;rw[<-c,f,g,<-Yh];rfl
def xj(c)(w:World)(t:Bool)(a:JC.contains c=t):
 Calls prog 189 #[.string ⟨#[43,45,42,47,37,60,62,61,33,40,41,123,125,44,59,58,64]⟩,.int .u8 c.toNat] w λe w'=>(∃i:Int,e=.returned (.int .i64 i)/\decide (0<=i)=t)/\w=w':=by
 refine(Tryz.strings_IndexByte _ _ w).mono ?_;rintro e w' ⟨rfl,rfl⟩;refine⟨⟨_,rfl,?_⟩,rfl⟩;rw[<-a,<-zaz];have:UInt8.ofNat (((c.toNat:Int)).toNat)=c:=by simp
 simp only[this];rfl
def zgY(s:ByteArray)(w)(hs:s.size<=maxLen)(p:zo w):
 Calls prog 135 #[.string s] w λe w'=>e=.returned (.int .i64 (P7 s.data.toList))/\w=w':=by
 unfold maxLen at hs;have k:=qh p;clear p
 by_cases m:0<s.size
 case neg=>
  have q:P7 s.data.toList=0:=by
   have:s.data.toList=[]:=I0 (by rw[R5];omega);rw[this];decide
  have f:=qh q;clear q
  go_enter func135,ntmps135
  go_wp2
  go_ret;exact⟨ZS (by rw[f.out];rfl),rfl⟩
 have h:=qh (xx s m)
 by_cases n:1<s.size
 ·cases c:zz.contains (s.data.toList.take 2)
  ·cases d:JC.contains s[0]
   ·have f:=qh (show P7 s.data.toList=0 by simp only[P7,c,h.out,d];simp)
    have j:=qh c;have g:=qh d;clear c d
    go_enter func135,ntmps135
    go_wp2_with fail
    refine(ZA s w _ n j.out k.out).mono ?_;rintro e w' ⟨rfl,rfl⟩
    go_wp2_with fail
    refine(xj _ _ _ g.out).mono ?_;rintro e w' ⟨⟨i,rfl,o⟩,rfl⟩
    go_wp2_with fail
    go_ret;exact⟨ZS (by rw[f.out];rfl),rfl⟩
   ·have f:=qh (show P7 s.data.toList=1 by simp only[P7,c,h.out,d];simp[R5,m])
    have j:=qh c;have g:=qh d;clear c d
    go_enter func135,ntmps135
    go_wp2_with fail
    refine(ZA s w _ n j.out k.out).mono ?_;rintro e w' ⟨rfl,rfl⟩
    go_wp2_with fail
    refine(xj _ _ _ g.out).mono ?_;rintro e w' ⟨⟨i,rfl,o⟩,rfl⟩
    go_wp2_with fail
    go_ret;exact⟨ZS (by rw[f.out];rfl),rfl⟩
  ·have f:=qh (show P7 s.data.toList=2 by simp only[P7,c];simp)
   have j:=qh c;clear c
   go_enter func135,ntmps135
   go_wp2_with fail
   refine(ZA s w _ n j.out k.out).mono ?_;rintro e w' ⟨rfl,rfl⟩
   go_wp2_with fail
   go_ret;exact⟨ZS (by rw[f.out];rfl),rfl⟩
 ·have c:zz.contains (s.data.toList.take 2)=false:=by
   have r:s.data.toList.length=s.size:=rfl
   rcases h:s.data.toList with _|⟨a,_|⟨b,l⟩⟩
   ·decide
   ·simp[zz]
   ·rw[h]at r;simp at r;omega
  cases d:JC.contains s[0]
  ·have f:=qh (show P7 s.data.toList=0 by simp only[P7,c,h.out,d];simp)
   have g:=qh d;clear c d
   go_enter func135,ntmps135
   go_wp2_with fail
   refine(xj _ _ _ g.out).mono ?_;rintro e w' ⟨⟨i,rfl,o⟩,rfl⟩
   go_wp2_with fail
   go_ret;exact⟨ZS (by rw[f.out];rfl),rfl⟩
  ·have f:=qh (show P7 s.data.toList=1 by simp only[P7,c,h.out,d];simp[R5,m])
   have g:=qh d;clear c d
   go_enter func135,ntmps135
   go_wp2_with fail
   refine(xj _ _ _ g.out).mono ?_;rintro e w' ⟨⟨i,rfl,o⟩,rfl⟩
   go_wp2_with fail
   go_ret;exact⟨ZS (by rw[f.out];rfl),rfl⟩
end Go.Proofs.YtmngofgminlloaaGreatDoor
namespace Go.Proofs.YtmngofgminlloaaGreatDoor
namespace Tw
theorem yi(s:ByteArray)(k:Nat)(h:k<s.size):s.data.toList.drop k=s[k]::s.data.toList.drop (k+1):=by
 rw[F8 (by simpa using h)];rfl
theorem zhf(s:ByteArray)(k:Nat)(h:s.size<=k):s.data.toList.drop k=[]:=by
 rw[List.drop_eq_nil_iff];simpa using h
theorem zZ(s:ByteArray)(p)(k:Nat)(h:k<s.size)(a:p s[k]=true):M4 p (s.data.toList.drop k)=1+M4 p (s.data.toList.drop (k+1)):=by
 rw[yi s k h];simp[M4,a];omega
theorem zbu(s:ByteArray)(p)(k:Nat)(h:k<s.size)(a:p s[k]=false):M4 p (s.data.toList.drop k)=0:=by
 rw[yi s k h];simp[M4,a]
theorem zbn(s:ByteArray)(p)(k:Nat)(h:s.size<=k):M4 p (s.data.toList.drop k)=0:=by
 rw[zhf s k h];rfl
section
variable {s:ByteArray}{k:Nat}{l:List Wd}{r:Option Nat×List Wd}
theorem xG.JE{n:Nat}(h:xG s k l r)(d:k<s.size)(b:ZL (s.data.toList.drop k)=.skip n):xG s (k+n) l r:=by
 cases h with
 |done e=>omega
 |skip _ a c=>rw[b]at a;cases a;exact c
 |Y5 _ a c=>rw[b]at a;cases a
 |J9 _ a=>rw[b]at a;cases a
theorem xG.xk{n c:Nat}(h:xG s k l r)(f:k<s.size)(b:ZL (s.data.toList.drop k)=.Y5 c n):xG s (k+n) (l++[⟨c,s.extract k (k+n),k⟩]) r:=by
 cases h with
 |done e=>omega
 |skip _ a d=>rw[b]at a;cases a
 |Y5 _ a d=>rw[b]at a;cases a;exact d
 |J9 _ a=>rw[b]at a;cases a
theorem xG.ZM(h:xG s k l r)(d:k<s.size)(b:ZL (s.data.toList.drop k)=.J9):r=(some k,[]):=by
 cases h with
 |done e=>omega
 |skip _ a c=>rw[b]at a;cases a
 |Y5 _ a c=>rw[b]at a;cases a
 |J9 _ a=>rfl
theorem xG.zbX(h:xG s k l r)(d:s.size<=k):r=(none,l):=by
 cases h with
 |done e=>rfl
 |skip a b c=>omega
 |Y5 a b c=>omega
 |J9 a b=>omega
theorem qR(s:ByteArray)(k:Nat)(h):(s.data.toList.drop k).headD 0=s[k]:=by rw[yi s k h];rfl
theorem YN(a:k<s.size)(h:qZ s[k]=true):ZL (s.data.toList.drop k)=.skip 1:=by
 simp only[ZL,qR s k a,h];simp
theorem Zy(a:k<s.size)(h:qZ s[k]=false)(b:s[k]=35):ZL (s.data.toList.drop k)=.skip (M4 (λc=>c !=10) (s.data.toList.drop k)):=by
 simp only[ZL,qR s k a,h];simp[b]
theorem Jr(b:k<s.size)(a:qX s[k]=true):ZL (s.data.toList.drop k)=if zj ((s.data.toList.drop k).take (M4 X8 (s.data.toList.drop k)))then .Y5 1 (M4 X8 (s.data.toList.drop k))else .J9:=by
 have h:qZ s[k]=false:=by simp[qX,qZ]at*;omega
 have c:(s[k]==35)=false:=by rw[B0];intro e;rw[e]at a;revert a;decide
 simp only[ZL,qR s k b,h,a,c];simp
theorem Ji(b:k<s.size)(a:Zl s[k]=true):ZL (s.data.toList.drop k)=if qd ((s.data.toList.drop k).take (M4 X8 (s.data.toList.drop k)))then .Y5 3 (M4 X8 (s.data.toList.drop k))else if decide (16<M4 X8 (s.data.toList.drop k))then .J9 else .Y5 2 (M4 X8 (s.data.toList.drop k)):=by
 have h:qZ s[k]=false:=by simp[Zl,qZ]at*;omega
 have c:(s[k]==35)=false:=by rw[B0];intro e;rw[e]at a;revert a;decide
 have d:qX s[k]=false:=by simp[Zl,qX]at*;omega
 simp only[ZL,qR s k b,h,a,c,d];simp
theorem Zu(a:k<s.size)(h:qZ s[k]=false)(b:s[k]≠35)(c:qX s[k]=false)(d:Zl s[k]=false){n:Nat}(e:P7 (s.data.toList.drop k)=n):ZL (s.data.toList.drop k)=if n=0 then .J9 else .Y5 4 n:=by
 have f:(s[k]==35)=false:=by rw[B0];exact b
 simp only[ZL,qR s k a,h,f,c,d,e];cases n<;>simp
end
theorem yQ(l:Bs):P7 l<=l.length/\P7 l<=2:=by
 unfold P7
 split
 ·rename_i h
  have:l.take 2∈zz:=by simpa using h
  simp only[zz,E7,List.mem_nil_iff,or_false]at this;have a:(l.take 2).length=2:=by rcases this with h|h|h|h|h|h<;>rw[h]<;>rfl
  rw[I2]at a;omega
 ·split
  ·rename_i h;simp at h;omega
  ·omega
theorem Xb(p)(l:Bs):M4 p l<=l.length:=by
 unfold M4;exact(List.takeWhile_sublist p).length_le
theorem zcG{s:ByteArray}{k c m:Nat}(b:k<s.size)(a:ZL (s.data.toList.drop k)=.Y5 c m):0<m/\m<=s.size-k:=by
 have f:(s.data.toList.drop k).length=s.size-k:=by rw[I3];rfl
 by_cases h:qZ s[k]=true
 ·rw[YN b h]at a;cases a
 ·have h:qZ s[k]=false:=by simpa using h
  have j:=Xb X8 (s.data.toList.drop k)
  by_cases g:s[k]=35
  ·rw[Zy b h g]at a;cases a
  ·by_cases d:qX s[k]=true
   ·have i:=zZ s X8 k b (by simp[X8,d])
    rw[Jr b d]at a;split at a<;>cases a;omega
   ·by_cases e:Zl s[k]=true
    ·have i:=zZ s X8 k b (by simp[X8,e])
     rw[Ji b e]at a;repeat' (split at a)
     all_goals cases a
     all_goals omega
    ·have:=yQ (s.data.toList.drop k)
     rw[Zu b h g (by simpa using d) (by simpa using e) rfl]at a;split at a
     ·cases a
     ·cases a;omega
theorem xG.zfv(s:ByteArray): ∀(n k:Nat)l,s.size-k<=n->k<=s.size-> ∃r,xG s k l r:=by
 intro n
 induction n with
 |zero=>intro k l p q;exact⟨_,.done (by omega)⟩
 |succ n i=>
  intro k l p q
  by_cases b:k<s.size
  case neg=>exact⟨_,.done (by omega)⟩
  have j:(s.data.toList.drop k).length=s.size-k:=by rw[I3];rfl
  cases a:ZL (s.data.toList.drop k)with
  |J9=>exact⟨_,.J9 b a⟩
  |skip m=>
   have t:0<m/\m<=s.size-k:=by
    by_cases h:qZ s[k]=true
    ·rw[YN b h]at a;cases a;omega
    ·have h:qZ s[k]=false:=by simpa using h
     by_cases d:s[k]=35
     ·rw[Zy b h d]at a
      have:=Xb (λc=>c !=10) (s.data.toList.drop k);have o:=zZ s (λc=>c !=10) k b (by rw[d];decide);cases a;omega
     ·by_cases e:qX s[k]=true
      ·rw[Jr b e]at a;split at a<;>cases a
      ·by_cases f:Zl s[k]=true
       ·rw[Ji b f]at a;repeat' (split at a)
        all_goals cases a
       ·rw[Zu b h d (by simpa using e) (by simpa using f) rfl]at a;split at a<;>cases a
   obtain⟨r,g⟩:=i (k+m) l (by omega) (by omega);exact⟨r,.skip b a g⟩
  |Y5 c m=>
   have t:0<m/\m<=s.size-k:=by
    by_cases h:qZ s[k]=true
    ·rw[YN b h]at a;cases a
    ·have h:qZ s[k]=false:=by simpa using h
     have u:=Xb X8 (s.data.toList.drop k)
     by_cases d:s[k]=35
     ·rw[Zy b h d]at a;cases a
     ·by_cases e:qX s[k]=true
      ·have o:=zZ s X8 k b (by simp[X8,e])
       rw[Jr b e]at a;split at a<;>cases a;omega
      ·by_cases f:Zl s[k]=true
       ·have o:=zZ s X8 k b (by simp[X8,f])
        rw[Ji b f]at a;repeat' (split at a)
        all_goals cases a
        all_goals omega
       ·have:=yQ (s.data.toList.drop k)
        rw[Zu b h d (by simpa using e) (by simpa using f) rfl]at a;split at a
        ·cases a
        ·cases a;omega
   obtain⟨r,g⟩:=i (k+m) _ (by omega) (by omega);exact⟨r,.Y5 b a g⟩
end Tw
end Go.Proofs.YtmngofgminlloaaGreatDoor
namespace Go.Proofs.YtmngofgminlloaaGreatDoor
open Go.RowKit
structure qC(P:Program)(t e size:Nat):Prop where
 ut:P.underlying t=some (.slice e)
 inf:(P.info? e).map (λi=>(i.zero.map (λz=>z.cells.size),i.size,decide (i.bytes<=256)))=some (some size,size,true)
 pos:0<size
section
variable {P:Program}{w:World}
theorem qC.get{t e size:Nat}(h:qC P t e size): ∃i z,P.info? e=some i/\i.zero=some z/\i.size=size/\i.bytes<=256/\z.cells.size=size:=by
 have a:=h.inf;cases d:P.info? e with
 |none=>rw[d]at a;cases a
 |some i=>
  rw[d]at a;simp only[Option.map_some,Option.some.injEq,Prod.mk.injEq,decide_eq_true_eq]at a;obtain⟨b,f,g⟩:=a;cases c:i.zero with
  |none=>rw[c]at b;cases b
  |some z=>
   rw[c]at b;exact⟨i,z,rfl,c,f,g,by simpa using b⟩
theorem za4{n b:Nat}(a:b<=256)(c:n<=500000000000):n*b<=140737488355328:=by
 have:n*b<=500000000000*256:=Nat.mul_le_mul c a;omega
theorem N0{ops:Array Oper}{b:List Oper}{o}{a:Act}{Q:Exit->Act->World->Prop}{t e size:Nat}(E:qC P t e size)(l:o.guard=none)(s x:Operand)
 (r:o.op=.call {callee:=.builtin .append,args:= #[s,x],argTypes:= #[t,t]})
 (base:Nat) (v:Value) (n:Nat) (xs:List Value) (hs:a.eval s=v) (f:w.ownsRow base e size v n xs)
 (H c:Nat) (j:Array Value) (y:a.eval x=.slice (some ⟨H,0,none⟩) 1 c) (k:w.heap[H]?=some (.cells j e (0,0))) (A:j.size=size) (B: ∀u∈j.toList,u.oneCell'=true)
 (C:n+1<=500000000000) (d:base<=w.heap.size)
 (h: ∀g cap w',w'.ownsRow base e size (.slice (some ⟨g,0,none⟩) (n+1) cap) (n+1) (xs++j.toList)->w.grownBy w' v.ownBlock->(v.ownBlock=some g\/g=w.heap.size)->g<w'.heap.size->wpList P ops Q b (a.put o.dst (.slice (some ⟨g,0,none⟩) (n+1) cap)) w'):wpList P ops Q (o::b) a w:=by
 obtain⟨i,z,D,F,m,p,q⟩:=E.get
 exact wpList_append_lies w l s x t r base e i z size i.bytes E.ut D F m rfl q E.pos v n xs hs f ⟨H,0,none⟩ 1 c j.toList y (by simp[A]) (World.news_of_block k) B
  (by omega) (by unfold maxLen;omega) (za4 p C) d w.heap.size rfl h
theorem J6{B:Nat}{a w}(h:Below B a w)(n:Nat):Below B a (w.drewN n):=⟨h.os,h.tape,h.output,h.size,h.block⟩
theorem Q7{B:Nat}{w0 w'}{base:Nat}{e size n:Nat}{v xs}(c:Below B w0 w)(a:w.ownsRow base e size v n xs)(d:B<=base)(b:B<=w.heap.size)(f:w.grownBy w' v.ownBlock):Below B w0 w':=
 c.grown f b λk g=>Nat.le_trans d (a.lt k g).1
end
end Go.Proofs.YtmngofgminlloaaGreatDoor
namespace Go.Proofs.YtmngofgminlloaaGreatDoor
open Go.Proofs.Tryz
open Go.RowKit Tw
theorem qe:qC prog 42 46 3:=⟨underlying42,by kernel_rfl,by decide⟩
theorem ql(c:UInt8)(t:Bool)(h:qX c=t)(w:World):Calls prog 105 #[.int .u8 c.toNat] w λe w'=>e=.returned (.bool t)/\w=w':=by subst h;exact qW c w
theorem qG(c:UInt8)(t:Bool)(h:Zl c=t)(w:World):Calls prog 103 #[.int .u8 c.toNat] w λe w'=>e=.returned (.bool t)/\w=w':=by subst h;exact qQ c w
theorem Jd(s:ByteArray)(t:Bool)(h:zj s.data.toList=t)(hs:s.size<=maxLen)(w:World):Calls prog 134 #[.string s] w λe w'=>e=.returned (.bool t)/\w=w':=by subst h;exact zd6 s w hs
theorem Qh(s:ByteArray)(t:Bool)(h:qd s.data.toList=t)(w:World):Calls prog 104 #[.string s] w λe w'=>e=.returned (.bool t)/\w=w':=by subst h;exact Xd s w
theorem zhg(s:ByteArray)(n:Nat)(h:P7 s.data.toList=n)(hs:s.size<=maxLen)(w:World)(a:zo w):Calls prog 135 #[.string s] w λe w'=>e=.returned (.int .i64 n)/\w=w':=by subst h;exact zgY s w hs a
theorem zo.below{w w'}(h:zo w){B:Nat}(a:Below B w w')(b:2<B):zo w':=by
 obtain⟨m,c⟩:=h;exact⟨m,(a.cell (p:=⟨2,0,none⟩) b).trans c⟩
theorem V0(l x):R6 (l++[x])=R6 l++x.cells:=by simp[R6]
theorem qJ(w:World)(a o2):((w.alloc a).alloc o2).heap[w.heap.size+1]?=some o2:=by
 have:=A5 (w.alloc a) o2;simpa using this
def zeh(r:Option Nat×List Wd):Int:=if r.1.isSome then 15 else 0
def zhM(r:Option Nat×List Wd):Int:=(r.1.getD 0:Nat)
theorem zdP(s:ByteArray)(w:World)(r:Option Nat×List Wd)(hs:s.size<=4000)(hm:zo w)(h2:2<w.heap.size)(hr:xG s 0 [] r):
 Calls prog 81 #[.string s] w λe w'=> ∃v,e=.returned (.tuple #[v,.int .i64 (zhM r),.int .i64 (zeh r)])/\w'.ownsRow w.heap.size 46 3 v r.2.length (R6 r.2)/\Below w.heap.size w w':=by
 have HR:=qh hr;clear hr;have HM:=qh hm;clear hm
 go_enter func81,ntmps81
 go_wp2_with fail
 go_loopw[5,6] (λv i wr=> ∃(k:Nat)(l:List Wd),k<=s.size/\i=.int .i64 k/\l.length<=k/\wr.ownsRow w.heap.size 46 3 v l.length (R6 l)/\Below w.heap.size w wr/\Hid (xG s k l r)) (λ_ i _=>s.size-(intOf i).toNat)
 case atStart=>exact⟨0,[],D0 _,rfl,D0 _,G4 _ _ _ _,x8 _ _,HR⟩
 case round=>
  obtain⟨k,l,hk,rfl,hl,d,y,L⟩:=hrel;have x:=y.size
  by_cases o:k<s.size
  case neg=>
   have E:=qh (L.out.zbX (by omega))
   go_wp2_with fail
   go_ret3
   exact⟨_,by rw[E.out];rfl,by rw[E.out];exact d,y⟩
  have hc:s[k].toNat<256:=UInt8.toNat_lt _;cases I:qZ s[k]
  case true=>
   have N:=qh (L.out.JE o (YN o I));have W:s[k].toNat=32\/s[k].toNat=10\/s[k].toNat=9:=by simpa[qZ,or_assoc]using I
   clear I;obtain⟨e1,e2⟩:(((s[k].toNat:Int)==32)=true\/((s[k].toNat:Int)==32)=false/\(((s[k].toNat:Int)==10)=true\/((s[k].toNat:Int)==10)=false/\((s[k].toNat:Int)==9)=true))/\True:=by
    refine⟨?_,trivial⟩
    rcases W with h|h|h<;>rw[h]<;>decide
   clear e2 W
   rcases e1 with e1|⟨e1,a1|⟨a1,a2⟩⟩
   all_goals
    go_wp2_with fail
    go_roundw
    case rel=>exact⟨k+1,l,by omega,by go_num,by omega,d,y,N⟩
    case measure=>simp[intOf];omega
  have e1:((s[k].toNat:Int)==32)=false:=by rw[B0];intro h;have:s[k].toNat=32:=by omega
                                           simp[qZ,this]at I
  have e2:((s[k].toNat:Int)==10)=false:=by rw[B0];intro h;have:s[k].toNat=10:=by omega
                                           simp[qZ,this]at I
  have e3:((s[k].toNat:Int)==9)=false:=by rw[B0];intro h;have:s[k].toNat=9:=by omega
                                          simp[qZ,this]at I
  by_cases R:s[k]=35
  ·have J:=qh (Zy o I R)
   have N:=qh (L.out.JE o J.out);have e4:((s[k].toNat:Int)==35)=true:=by rw[R];rfl
   clear R I
   go_wp2_with fail
   go_loop [6] (λi=> ∃j:Nat,k<=j/\j<=s.size/\i=.int .i64 j/\Hid (k+M4 (λc=>c !=10) (s.data.toList.drop k)=j+M4 (λc=>c !=10) (s.data.toList.drop j))) (λi=>s.size-(intOf i).toNat)
   case atStart=>exact⟨k,x7 _,by omega,rfl,qh rfl⟩
   case round=>
    obtain⟨j,X,hj,rfl,O⟩:=hrel
    by_cases b:j<s.size
    ·by_cases M:s[j].toNat=10
     ·have K:(s[j] !=10)=false:=by
       have:s[j]=10:=UInt8.toNat_inj.1 M;simp[this]
      have Y:k+M4 (λc=>c !=10) (s.data.toList.drop k)=j:=by rw[O.out,zbu s (λc=>c !=10) j b K];rfl
      have p:Hid (xG s j l r):=qh (by have:=N.out;rw[Y]at this;exact this);have e5:((s[j].toNat:Int) !=10)=false:=by rw[M];rfl
      have S:k<j:=by have:=zZ s (λc=>c !=10) k o (by have:=e4;simp at this;simp;intro h;rw[h]at this;revert this;decide);omega
      clear M K Y
      go_wp2_with fail
      go_roundw
      case rel=>exact⟨j,l,by omega,rfl,by omega,d,y,p⟩
      case measure=>simp[intOf];omega
     ·have K:(s[j] !=10)=true:=by
       rw[bne_iff_ne];intro h;exact M (by rw[h];rfl)
      have B:Hid (k+M4 (λc=>c !=10) (s.data.toList.drop k)=(j+1)+M4 (λc=>c !=10) (s.data.toList.drop (j+1))):=qh (by rw[O.out,zZ s (λc=>c !=10) j b K];omega);have e5:((s[j].toNat:Int) !=10)=true:=by rw[bne_iff_ne];omega
      clear M K
      go_wp2_with fail
      go_round
      case rel=>exact⟨j+1,by omega,by omega,by go_num,B⟩
      case measure=>simp[intOf];omega
    ·have Y:k+M4 (λc=>c !=10) (s.data.toList.drop k)=j:=by rw[O.out,zbn s _ j (by omega)];rfl
     have p:Hid (xG s j l r):=qh (by have:=N.out;rw[Y]at this;exact this);clear Y
     go_wp2_with fail
     go_roundw
     case rel=>exact⟨j,l,by omega,rfl,by omega,d,y,p⟩
     case measure=>simp[intOf];omega
  have e4:((s[k].toNat:Int)==35)=false:=by rw[B0];intro h;exact R (UInt8.toNat_inj.1 (show s[k].toNat=35 by omega))
  cases P:qX s[k]
  case true=>
   have J:=qh (Jr o P);have HA:=qh (zZ s X8 k o (by simp[X8,P]));have T:=qh P;clear P I R
   go_wp2_with(go_at_call 105;refine(ql _ _ T.out _).mono ?_;rintro e w' ⟨rfl,rfl⟩)
   go_loop [6] (λi=> ∃j:Nat,k<=j/\j<=s.size/\i=.int .i64 j/\Hid (k+M4 X8 (s.data.toList.drop k)=j+M4 X8 (s.data.toList.drop j))) (λi=>s.size-(intOf i).toNat)
   case atStart=>exact⟨k,x7 _,by omega,rfl,qh rfl⟩
   case round=>
    obtain⟨j,X,hj,rfl,O⟩:=hrel
    by_cases m: ∃h:j<s.size,X8 s[j]=true
    ·obtain⟨b,m⟩:=m
     have B:Hid (k+M4 X8 (s.data.toList.drop k)=(j+1)+M4 X8 (s.data.toList.drop (j+1))):=qh (by rw[O.out,zZ s X8 j b m];omega);cases u:qX s[j]
     ·have z:=qh u
      have F:Hid (Zl s[j]=true):=qh (by simpa[X8,u]using m);clear u m
      go_wp2_with(first|(go_at_call 105;refine(ql _ _ z.out _).mono ?_;rintro e w' ⟨rfl,rfl⟩)|(go_at_call 103;refine(qG _ _ F.out _).mono ?_;rintro e w' ⟨rfl,rfl⟩))
      go_round
      case rel=>exact⟨j+1,by omega,by omega,by go_num,B⟩
      case measure=>simp[intOf];omega
     ·have z:=qh u
      clear u m
      go_wp2_with(go_at_call 105;refine(ql _ _ z.out _).mono ?_;rintro e w' ⟨rfl,rfl⟩)
      go_round
      case rel=>exact⟨j+1,by omega,by omega,by go_num,B⟩
      case measure=>simp[intOf];omega
    ·have E:Hid (k+M4 X8 (s.data.toList.drop k)=j):=qh (by
      rw[O.out]
      by_cases b:j<s.size
      ·rw[zbu s X8 j b (by simpa using λh=>m ⟨b,h⟩)];rfl
      ·rw[zbn s X8 j (by omega)];rfl)
     have S:k<j:=by have:=E.out;have:=HA.out;omega
     have U:Hid ((s.extract k j).data.toList=(s.data.toList.drop k).take (M4 X8 (s.data.toList.drop k))):=qh (by
      rw[je];congr 1;have:=E.out;omega)
     cases C:zj (s.extract k j).data.toList
     ·have t:=qh (L.out.ZM o (by rw[J.out,<-U.out,C];rfl))
      have A:=qh C;clear C
      by_cases b:j<s.size
      ·have z:Hid (qX s[j]=false):=qh (by have h:=λh=>m ⟨b,h⟩;simp[X8]at h;exact h.1)
       have F:Hid (Zl s[j]=false):=qh (by have h:=λh=>m ⟨b,h⟩;simp[X8]at h;exact h.2);clear m
       go_wp2_with(first|(go_at_call 105;refine(ql _ _ z.out _).mono ?_;rintro e w' ⟨rfl,rfl⟩)|(go_at_call 103;refine(qG _ _ F.out _).mono ?_;rintro e w' ⟨rfl,rfl⟩)|(go_at_call 134;refine(Jd _ _ A.out (by unfold maxLen;simp;omega) _).mono ?_;rintro e w' ⟨rfl,rfl⟩))
       go_ret3
       exact⟨_,by rw[t.out];rfl,by rw[t.out];exact G4 _ _ _ _,y⟩
      ·clear m
       go_wp2_with(go_at_call 134;refine(Jd _ _ A.out (by unfold maxLen;simp;omega) _).mono ?_;rintro e w' ⟨rfl,rfl⟩)
       go_ret3
       exact⟨_,by rw[t.out];rfl,by rw[t.out];exact G4 _ _ _ _,y⟩
     ·have p:Hid (xG s j (l++[⟨1,s.extract k j,k⟩]) r):=qh (by
       have:=L.out.xk o (c:=1) (n:=M4 X8 (s.data.toList.drop k)) (by rw[J.out,<-U.out,C];rfl);rw[E.out]at this;exact this)
      have A:=qh C;clear C
      by_cases b:j<s.size
      ·have z:Hid (qX s[j]=false):=qh (by have h:=λh=>m ⟨b,h⟩;simp[X8]at h;exact h.1)
       have F:Hid (Zl s[j]=false):=qh (by have h:=λh=>m ⟨b,h⟩;simp[X8]at h;exact h.2);clear m
       go_wp2_with(first|(go_at_call 105;refine(ql _ _ z.out _).mono ?_;rintro e w' ⟨rfl,rfl⟩)|(go_at_call 103;refine(qG _ _ F.out _).mono ?_;rintro e w' ⟨rfl,rfl⟩)|(go_at_call 134;refine(Jd _ _ A.out (by unfold maxLen;simp;omega) _).mono ?_;rintro e w' ⟨rfl,rfl⟩)|(at_builtin;go_must(refine N0 qe rfl _ _ rfl w.heap.size _ l.length (R6 l) rfl (d.alloc _) wr.heap.size 1 #[.int .i64 1,.string (s.extract k j),.int .i64 k] rfl (A5 wr _) rfl (by simp[Value.oneCell']) (by omega) (by simp;omega) ?_);intro g G V f a _ _;have q:=Q7 (y.alloc x _) (d.alloc _) (x7 _) (by simp;omega) a;clear a))
       go_roundw
       case rel=>exact⟨j,l++[⟨1,s.extract k j,k⟩],by omega,rfl,by simp;omega,by rw[V0,A9];exact f,q,p⟩
       case measure=>simp[intOf];omega
      ·clear m
       go_wp2_with(first|(go_at_call 134;refine(Jd _ _ A.out (by unfold maxLen;simp;omega) _).mono ?_;rintro e w' ⟨rfl,rfl⟩)|(at_builtin;go_must(refine N0 qe rfl _ _ rfl w.heap.size _ l.length (R6 l) rfl (d.alloc _) wr.heap.size 1 #[.int .i64 1,.string (s.extract k j),.int .i64 k] rfl (A5 wr _) rfl (by simp[Value.oneCell']) (by omega) (by simp;omega) ?_);intro g G V f a _ _;have q:=Q7 (y.alloc x _) (d.alloc _) (x7 _) (by simp;omega) a;clear a))
       go_roundw
       case rel=>exact⟨j,l++[⟨1,s.extract k j,k⟩],by omega,rfl,by simp;omega,by rw[V0,A9];exact f,q,p⟩
       case measure=>simp[intOf];omega
  cases D:Zl s[k]
  case true=>
   have J:=qh (Ji o D);have HA:=qh (zZ s X8 k o (by simp[X8,D]));have T:=qh P;have Q:=qh D;clear P D I R
   go_wp2_with(first|(go_at_call 105;refine(ql _ _ T.out _).mono ?_;rintro e w' ⟨rfl,rfl⟩)|(go_at_call 103;refine(qG _ _ Q.out _).mono ?_;rintro e w' ⟨rfl,rfl⟩))
   go_loop [6] (λi=> ∃j:Nat,k<=j/\j<=s.size/\i=.int .i64 j/\Hid (k+M4 X8 (s.data.toList.drop k)=j+M4 X8 (s.data.toList.drop j))) (λi=>s.size-(intOf i).toNat)
   case atStart=>exact⟨k,x7 _,by omega,rfl,qh rfl⟩
   case round=>
    obtain⟨j,X,hj,rfl,O⟩:=hrel
    by_cases m: ∃h:j<s.size,X8 s[j]=true
    ·obtain⟨b,m⟩:=m
     have B:Hid (k+M4 X8 (s.data.toList.drop k)=(j+1)+M4 X8 (s.data.toList.drop (j+1))):=qh (by rw[O.out,zZ s X8 j b m];omega);cases u:qX s[j]
     ·have z:=qh u
      have F:Hid (Zl s[j]=true):=qh (by simpa[X8,u]using m);clear u m
      go_wp2_with(first|(go_at_call 105;refine(ql _ _ z.out _).mono ?_;rintro e w' ⟨rfl,rfl⟩)|(go_at_call 103;refine(qG _ _ F.out _).mono ?_;rintro e w' ⟨rfl,rfl⟩))
      go_round
      case rel=>exact⟨j+1,by omega,by omega,by go_num,B⟩
      case measure=>simp[intOf];omega
     ·have z:=qh u
      clear u m
      go_wp2_with(go_at_call 105;refine(ql _ _ z.out _).mono ?_;rintro e w' ⟨rfl,rfl⟩)
      go_round
      case rel=>exact⟨j+1,by omega,by omega,by go_num,B⟩
      case measure=>simp[intOf];omega
    ·have E:Hid (k+M4 X8 (s.data.toList.drop k)=j):=qh (by
      rw[O.out]
      by_cases b:j<s.size
      ·rw[zbu s X8 j b (by simpa using λh=>m ⟨b,h⟩)];rfl
      ·rw[zbn s X8 j (by omega)];rfl)
     have S:k<j:=by have:=E.out;have:=HA.out;omega
     have U:Hid ((s.extract k j).data.toList=(s.data.toList.drop k).take (M4 X8 (s.data.toList.drop k))):=qh (by
      rw[je];congr 1;have:=E.out;omega)
     have H:Hid (∀b:j<s.size,qX s[j]=false/\Zl s[j]=false):=qh (by intro b;have h:=λh=>m ⟨b,h⟩;simpa[X8]using h);clear m;cases C:qd (s.extract k j).data.toList
     ·have A:=qh C
      by_cases a3:16<j-k
      ·have t:=qh (L.out.ZM o (by rw[J.out,<-U.out,C];rw[B5 (by simp),C8 (by have:=E.out;simp;omega)]))
       clear C
       by_cases b:j<s.size
       ·have z:=qh (H.out b).1
        have F:=qh (H.out b).2
        go_wp2_with(first|(go_at_call 105;refine(ql _ _ z.out _).mono ?_;rintro e w' ⟨rfl,rfl⟩)|(go_at_call 103;refine(qG _ _ F.out _).mono ?_;rintro e w' ⟨rfl,rfl⟩)|(go_at_call 104;refine(Qh _ _ A.out _).mono ?_;rintro e w' ⟨rfl,rfl⟩))
        go_ret3
        exact⟨_,by rw[t.out];rfl,by rw[t.out];exact G4 _ _ _ _,y.alloc x _⟩
       ·go_wp2_with(first|(go_at_call 104;refine(Qh _ _ A.out _).mono ?_;rintro e w' ⟨rfl,rfl⟩))
        go_ret3
        exact⟨_,by rw[t.out];rfl,by rw[t.out];exact G4 _ _ _ _,y.alloc x _⟩
      ·have p:Hid (xG s j (l++[⟨2,s.extract k j,k⟩]) r):=qh (by
        have:=L.out.xk o (c:=2) (n:=M4 X8 (s.data.toList.drop k)) (by rw[J.out,<-U.out,C];rw[B5 (by simp),B5 (by have:=E.out;simp;omega)]);rw[E.out]at this;exact this)
       clear C
       by_cases b:j<s.size
       ·have z:=qh (H.out b).1
        have F:=qh (H.out b).2
        go_wp2_with(first|(go_at_call 105;refine(ql _ _ z.out _).mono ?_;rintro e w' ⟨rfl,rfl⟩)|(go_at_call 103;refine(qG _ _ F.out _).mono ?_;rintro e w' ⟨rfl,rfl⟩)|(go_at_call 104;refine(Qh _ _ A.out _).mono ?_;rintro e w' ⟨rfl,rfl⟩)|(at_builtin;go_must(refine N0 qe rfl _ _ rfl w.heap.size _ l.length (R6 l) rfl ((d.alloc _).alloc _) (wr.heap.size+1) 1 #[.int .i64 2,.string (s.extract k j),.int .i64 k] rfl (qJ wr _ _) rfl (by simp[Value.oneCell']) (by omega) (by simp;omega) ?_);intro g G V f a _ _;have q:=Q7 ((y.alloc x _).alloc (by simp;omega) _) ((d.alloc _).alloc _) (x7 _) (by simp;omega) a;clear a))
        go_roundw
        case rel=>exact⟨j,l++[⟨2,s.extract k j,k⟩],by omega,rfl,by simp;omega,by rw[V0,A9];exact f,q,p⟩
        case measure=>simp[intOf];omega
       ·go_wp2_with(first|(go_at_call 104;refine(Qh _ _ A.out _).mono ?_;rintro e w' ⟨rfl,rfl⟩)|(at_builtin;go_must(refine N0 qe rfl _ _ rfl w.heap.size _ l.length (R6 l) rfl ((d.alloc _).alloc _) (wr.heap.size+1) 1 #[.int .i64 2,.string (s.extract k j),.int .i64 k] rfl (qJ wr _ _) rfl (by simp[Value.oneCell']) (by omega) (by simp;omega) ?_);intro g G V f a _ _;have q:=Q7 ((y.alloc x _).alloc (by simp;omega) _) ((d.alloc _).alloc _) (x7 _) (by simp;omega) a;clear a))
        go_roundw
        case rel=>exact⟨j,l++[⟨2,s.extract k j,k⟩],by omega,rfl,by simp;omega,by rw[V0,A9];exact f,q,p⟩
        case measure=>simp[intOf];omega
     ·have A:=qh C
      have p:Hid (xG s j (l++[⟨3,s.extract k j,k⟩]) r):=qh (by
       have:=L.out.xk o (c:=3) (n:=M4 X8 (s.data.toList.drop k)) (by rw[J.out,<-U.out,C];rfl);rw[E.out]at this;exact this)
      clear C
      by_cases b:j<s.size
      ·have z:=qh (H.out b).1
       have F:=qh (H.out b).2
       go_wp2_with(first|(go_at_call 105;refine(ql _ _ z.out _).mono ?_;rintro e w' ⟨rfl,rfl⟩)|(go_at_call 103;refine(qG _ _ F.out _).mono ?_;rintro e w' ⟨rfl,rfl⟩)|(go_at_call 104;refine(Qh _ _ A.out _).mono ?_;rintro e w' ⟨rfl,rfl⟩)|(at_builtin;go_must(refine N0 qe rfl _ _ rfl w.heap.size _ l.length (R6 l) rfl ((d.alloc _).alloc _) (wr.heap.size+1) 1 #[.int .i64 3,.string (s.extract k j),.int .i64 k] rfl (qJ wr _ _) rfl (by simp[Value.oneCell']) (by omega) (by simp;omega) ?_);intro g G V f a _ _;have q:=Q7 ((y.alloc x _).alloc (by simp;omega) _) ((d.alloc _).alloc _) (x7 _) (by simp;omega) a;clear a))
       go_roundw
       case rel=>exact⟨j,l++[⟨3,s.extract k j,k⟩],by omega,rfl,by simp;omega,by rw[V0,A9];exact f,q,p⟩
       case measure=>simp[intOf];omega
      ·go_wp2_with(first|(go_at_call 104;refine(Qh _ _ A.out _).mono ?_;rintro e w' ⟨rfl,rfl⟩)|(at_builtin;go_must(refine N0 qe rfl _ _ rfl w.heap.size _ l.length (R6 l) rfl ((d.alloc _).alloc _) (wr.heap.size+1) 1 #[.int .i64 3,.string (s.extract k j),.int .i64 k] rfl (qJ wr _ _) rfl (by simp[Value.oneCell']) (by omega) (by simp;omega) ?_);intro g G V f a _ _;have q:=Q7 ((y.alloc x _).alloc (by simp;omega) _) ((d.alloc _).alloc _) (x7 _) (by simp;omega) a;clear a))
       go_roundw
       case rel=>exact⟨j,l++[⟨3,s.extract k j,k⟩],by omega,rfl,by simp;omega,by rw[V0,A9];exact f,q,p⟩
       case measure=>simp[intOf];omega
  have T:=qh P;have Q:=qh D;obtain⟨n,M⟩: ∃n,P7 (s.data.toList.drop k)=n:=⟨_,rfl⟩;have J:=qh (Zu o I R P D M);have a4:n<=s.size-k:=by have:=(yQ (s.data.toList.drop k)).1;rw[M,I3,R5]at this;exact this
  have A:Hid (P7 (s.extract k s.size).data.toList=n):=qh (by
   rw[je,List.take_of_length_le (by rw[I3,R5];omega)];exact M)
  have Z:Hid (zo wr):=qh (HM.out.below y h2);have hx:(s.extract k s.size).size<=maxLen:=by unfold maxLen;simp;omega
  have a0:=qh hx;clear hx P D I R M
  by_cases h0:n=0
  ·subst h0
   have t:=qh (L.out.ZM o (by rw[J.out];rfl))
   go_wp2_with(first|(go_at_call 105;refine(ql _ _ T.out _).mono ?_;rintro e w' ⟨rfl,rfl⟩)|(go_at_call 103;refine(qG _ _ Q.out _).mono ?_;rintro e w' ⟨rfl,rfl⟩)|(go_at_call 135;refine(zhg _ _ A.out a0.out _ Z.out).mono ?_;rintro e w' ⟨rfl,rfl⟩))
   go_ret3
   exact⟨_,by rw[t.out];rfl,by rw[t.out];exact G4 _ _ _ _,y⟩
  ·have p:Hid (xG s (k+n) (l++[⟨4,s.extract k (k+n),k⟩]) r):=qh (L.out.xk o (c:=4) (n:=n) (by rw[J.out,B5 h0]))
   have h1:1<=n:=by omega
   have a5:((n:Int)==0)=false:=by rw[B0];omega
   clear h0
   go_wp2_with(first|(go_at_call 105;refine(ql _ _ T.out _).mono ?_;rintro e w' ⟨rfl,rfl⟩)|(go_at_call 103;refine(qG _ _ Q.out _).mono ?_;rintro e w' ⟨rfl,rfl⟩)|(go_at_call 135;refine(zhg _ _ A.out a0.out _ Z.out).mono ?_;rintro e w' ⟨rfl,rfl⟩)|(at_builtin;go_must(refine N0 qe rfl _ _ rfl w.heap.size _ l.length (R6 l) rfl (d.alloc _) wr.heap.size 1 #[.int .i64 4,.string (s.extract k (k+n)),.int .i64 k] rfl (A5 wr _) rfl (by simp[Value.oneCell']) (by omega) (by simp;omega) ?_);intro g G V f a _ _;have q:=Q7 (y.alloc x _) (d.alloc _) (x7 _) (by simp;omega) a;clear a))
   go_roundw
   case rel=>exact⟨k+n,l++[⟨4,s.extract k (k+n),k⟩],by omega,by go_num,by simp;omega,by rw[V0,A9];exact f,q,p⟩
   case measure=>simp[intOf];omega
end Go.Proofs.YtmngofgminlloaaGreatDoor
namespace Go.Proofs.YtmngofgminlloaaGreatDoor
open Go.RowKit Tw
theorem zfx(ws): ∀(k:Nat)x,ws[k]?=some x->(R6 ws)[k*3]?=some (.int .i64 x.I9)/\(R6 ws)[k*3+1]?=some (.string x.K0)/\(R6 ws)[k*3+2]?=some (.int .i64 x.pos):=by
 induction ws with
 |nil=>intro k x h;simp at h
 |cons y ws a=>
  intro k x h;have e:R6 (y::ws)=Value.int .i64 y.I9::Value.string y.K0::Value.int .i64 y.pos::R6 ws:=by simp[R6,Wd.cells]
  cases k with
  |zero=>simp at h;subst h;rw[e];exact⟨rfl,rfl,rfl⟩
  |succ k=>
   have:=a k x (by simpa using h);rw[e,show(k+1)*3=k*3+1+1+1 by omega];exact this
def jZ(w:World)(B:Nat)(v:Value)(ws:List Wd):Prop:=
 (v=.slice none 0 0/\ws=[])\/ ∃g a,v=.slice (some ⟨g,0,none⟩) ws.length a/\g<B/\ ∀j u,(R6 ws)[j]?=some u->w.cell? ⟨g,j,none⟩=some u
section
variable {w w':World}{B:Nat}{v:Value}{ws:List Wd}
theorem jZ.below{b:Nat}(h:jZ w B v ws)(d:Below b w w')(e:B<=b):jZ w' B v ws:=by
 rcases h with h|⟨g,a,f,c,i⟩
 ·exact .inl h
 ·exact .inr ⟨g,a,f,c,λj u k=>(d.cell (p:=⟨g,j,none⟩) (A7 c e)).trans (i j u k)⟩
theorem jZ.ZK{base t:Nat}(h:w.ownsRow base t 3 v ws.length (R6 ws)):jZ w w.heap.size v ws:=by
 rcases h.2 with⟨a,c⟩|⟨g,b,d,a,_⟩
 ·exact .inl ⟨a,I0 c⟩
 ·right
  subst a;have f:=(h.lt g rfl).2;refine⟨g,b,rfl,f,λj u i=>?_⟩;have:=h.cells (g:=g) rfl j u i;have e:(⟨g,0,none⟩:Addr).add j=⟨g,j,none⟩:=by unfold Addr.add;split<;>simp_all
  rwa [e]at this
theorem jZ.mono{b:Nat}(h:jZ w B v ws)(c:B<=b):jZ w b v ws:=by
 rcases h with h|⟨g,a,d,e,f⟩
 ·exact .inl h
 ·exact .inr ⟨g,a,d,A7 e c,f⟩
end
inductive Ex where
 |mk (I9 n:Int) (K0:ByteArray) (args:List Ex) (pos:Int)
instance :Inhabited Ex:=⟨.mk 0 0 ⟨#[]⟩ [] 0⟩
namespace Ex
def I9:Ex->Int|.mk k _ _ _ _=>k
def n:Ex->Int|.mk _ n _ _ _=>n
def K0:Ex->ByteArray|.mk _ _ t _ _=>t
def args:Ex->List Ex|.mk _ _ _ a _=>a
def pos:Ex->Int|.mk _ _ _ _ p=>p
end Ex
inductive Sm where
 |mk (I9:Int) (J2:ByteArray) (a:Ex) (J0 M9:List Sm) (pos:Int)
namespace Sm
def I9:Sm->Int|.mk k _ _ _ _ _=>k
def J2:Sm->ByteArray|.mk _ n _ _ _ _=>n
def a:Sm->Ex|.mk _ _ a _ _ _=>a
def J0:Sm->List Sm|.mk _ _ _ b _ _=>b
def M9:Sm->List Sm|.mk _ _ _ _ e _=>e
def pos:Sm->Int|.mk _ _ _ _ _ p=>p
end Sm
structure Fn where
 J2:ByteArray
 J1:List ByteArray
 K4:List Int
 out:Int
 J0:List Sm
 pos:Int
def J4(ws:List Wd)(i en:Nat):Nat:=match ws[i]? with|some x=>x.pos|none=>en
def J3(ws:List Wd)(i:Nat)(s:ByteArray):Bool:=match ws[i]? with|some x=>x.K0.toList==s.toList|none=>false
def U8(ws:List Wd)(i:Nat)(b:Bool)(s:ByteArray):Bool:=!b&&J3 ws i s
def R4(ws:List Wd)(i:Nat):Bs:=match ws[i]? with|some x=>x.K0.data.toList|none=>[]
def sb(l:Bs):ByteArray:=⟨l.toArray⟩
def lv(s:Bs):Nat:=
 if s=[124,124]then 1 else if s=[38,38]then 2
 else if s=[60]\/s=[60,61]\/s=[62]\/s=[62,61]\/s=[61,61]\/s=[33,61]then 3
 else if s=[43]\/s=[45]then 4 else if s=[42]\/s=[47]\/s=[37]then 5 else 0
def L3(ws:List Wd)(i:Nat):Nat:=match ws[i]? with|some x=>x.I9|none=>0
def L8(ws:List Wd)(i:Nat):ByteArray:=match ws[i]? with|some x=>x.K0|none=>⟨#[]⟩
def O5(ws:List Wd)(i:Nat):Nat:=match ws[i]? with|some x=>lv x.K0.data.toList|none=>0
def jv(s:ByteArray):Int:=(Lib.atoi s.data.toList).getD 0
end Go.Proofs.YtmngofgminlloaaGreatDoor
namespace Go.Proofs.YtmngofgminlloaaGreatDoor
open Go.Proofs.Tryz
open Go.RowKit Tw
theorem jZ.jJ{w}{B:Nat}{v ws}(h:jZ w B v ws): ∃A cap,v=.slice A ws.length cap/\ ∀(k:Nat)x,ws[k]?=some x-> ∃g,A=some ⟨g,0,none⟩/\g<B/\w.cell? ⟨g,k*3,none⟩=some (.int .i64 x.I9)/\w.cell? ⟨g,k*3+1,none⟩=some (.string x.K0)/\w.cell? ⟨g,k*3+2,none⟩=some (.int .i64 x.pos):=by
 rcases h with⟨rfl,rfl⟩|⟨g,cap,rfl,d,a⟩
 ·exact⟨none,0,rfl,λk x c=>by simp at c⟩
 ·refine⟨_,cap,rfl,λk x c=>⟨g,rfl,d,?_⟩⟩
  have:=zfx ws k x c;exact⟨a _ _ this.1,a _ _ this.2.1,a _ _ this.2.2⟩
theorem jZ.Z3{w w'}{B:Nat}{v ws}(h:jZ w B v ws)(d: ∀k,k<B->w'.heap[k]?=w.heap[k]?):jZ w' B v ws:=by
 rcases h with h|⟨g,a,e,c,f⟩
 ·exact .inl h
 ·exact .inr ⟨g,a,e,c,λj u l=>(E8 (d g c)).trans (f j u l)⟩
structure Rd(w:World)(rb:Nat)(v:Value)(ws:List Wd)(i en:Nat)(b:Bool):Prop where
 P6:w.heap[rb]?=some (.cells #[v,.int .i64 i,.int .i64 en,.bool b] 115 (0,0))
 row:jZ w rb v ws
 X5:ws.length<=4000
 pos:i<=ws.length
section
variable {w w':World}{rb:Nat}{v:Value}{ws:List Wd}{i en:Nat}{b:Bool}
theorem Rd.lt(h:Rd w rb v ws i en b):rb<w.heap.size:=by
 rcases E0 rb w.heap.size with a|a
 ·exact a
 ·have:=h.P6;simp[G6 a]at this
theorem Rd.c0(h:Rd w rb v ws i en b):w.cell? ⟨rb,0,none⟩=some v:=x6 h.P6 0
theorem Rd.c1(h:Rd w rb v ws i en b):w.cell? ⟨rb,1,none⟩=some (.int .i64 i):=x6 h.P6 1
theorem Rd.c2(h:Rd w rb v ws i en b):w.cell? ⟨rb,2,none⟩=some (.int .i64 en):=x6 h.P6 2
theorem Rd.c3(h:Rd w rb v ws i en b):w.cell? ⟨rb,3,none⟩=some (.bool b):=x6 h.P6 3
theorem Rd.fz(h:Rd w rb v ws i en b)(j:Nat):w.frozen? ⟨rb,j,none⟩=false:=B4 h.P6 j
theorem Rd.K7(h:Rd w rb v ws i en b)(a:Below w.heap.size w w'):Rd w' rb v ws i en b:=
 ⟨(a.block rb h.lt).trans h.P6,h.row.Z3 λk c=>a.block k (Nat.lt_trans c h.lt),h.X5,h.pos⟩
theorem Rd.zb4(h:Rd w rb v ws i en b)(j:Nat)(a:j<=ws.length):Rd (w.setCell ⟨rb,1,none⟩ (.int .i64 j)) rb v ws j en b:=by
 refine⟨?_,h.row.Z3 λk c=>F9 w ⟨rb,1,none⟩ _ k (by simp;omega),h.X5,a⟩;have:=A6 w rb 1 _ _ (.int .i64 j) h.P6;simpa using this
theorem Rd.zgj(h:Rd w rb v ws i en b):Rd (w.setCell ⟨rb,3,none⟩ (.bool true)) rb v ws i en true:=by
 refine⟨?_,h.row.Z3 λk a=>F9 w ⟨rb,3,none⟩ _ k (by simp;omega),h.X5,h.pos⟩;have:=A6 w rb 3 _ _ (.bool true) h.P6;simpa using this
end
theorem I7{w w':World}(h:Below w.heap.size w w')(r):w.grownBy w' r:=⟨h.os,h.tape,h.output,h.size,λk a _=>h.block k a⟩
theorem I8(w:World)(rb j:Nat)(u):w.grownBy (w.setCell ⟨rb,j,none⟩ u) (some rb):=
 ⟨rfl,rfl,rfl,by simp,λk _ a=>F9 w ⟨rb,j,none⟩ u k (λe=>a (by simp[e]))⟩
theorem I4{w w' a:World}{r}(h:w.grownBy w' r)(k:w'.grownBy a r):w.grownBy a r:=
 ⟨k.os.trans h.os,k.tape.trans h.tape,k.output.trans h.output,C1 h.size k.size,λj c d=>(k.block j (A7 c h.size) d).trans (h.block j c d)⟩
theorem zg6{w}{rb:Nat}{v ws}{i en:Nat}{b:Bool}(h:Rd w rb v ws i en b):
 Calls prog 51 #[.pointer (some ⟨rb,0,none⟩)] w λe w'=>e=.returned (.int .i64 (J4 ws i en))/\Below w.heap.size w w':=by
 obtain⟨A,j,rfl,a⟩:=h.row.jJ;have n:=h.c0;have o:=h.c1;have k:=h.c2;have p:=h.X5;have q:=h.pos
 by_cases d:i<ws.length
 ·obtain⟨x,f⟩: ∃x,ws[i]?=some x:=⟨_,x9 d⟩
  obtain⟨g,rfl,r,l,m,s⟩:=a i x f;have c:J4 ws i en=x.pos:=by unfold J4;rw[f]
  rw[c];have t:(0:Int)<=(i:Int):=by omega
  have u:(i:Int)<(ws.length:Int):=by omega
  clear f c a h l m k
  go_enter func51,ntmps51
  go_wp2_with fail
  go_quiet (fail)
  go_wp2_with fail
  go_quiet (fail)
  go_wp2_with fail
  go_ret;exact⟨rfl,J6 (J6 (x8 _ _) _) _⟩
 ·have c:J4 ws i en=en:=by unfold J4;rw[C5 (by omega)]
  rw[c];have y:i=ws.length:=by omega
  clear c a h
  go_enter func51,ntmps51
  go_wp2_with fail
  go_quiet (fail)
  go_wp2_with fail
  go_ret;exact⟨rfl,J6 (x8 _ _) _⟩
theorem zk5{w}{rb:Nat}{v ws}{i en:Nat}{b:Bool}(s:ByteArray)(t:Bool)(h:Rd w rb v ws i en b)(c:U8 ws i b s=t):
 Calls prog 107 #[.pointer (some ⟨rb,0,none⟩),.string s] w λe w'=>e=.returned (.bool t)/\Below w.heap.size w w':=by
 obtain⟨A,k,rfl,a⟩:=h.row.jJ;have n:=h.c0;have o:=h.c1;have p:=h.c3;have q:=h.X5;have r:=h.pos;unfold U8 at c;cases b with
 |true=>
  simp only[Bool.not_true,Bool.false_and]at c;subst c;clear a h
  go_enter func107,ntmps107
  go_wp2_with fail
  go_quiet (fail)
  go_wp2_with fail
  go_ret;exact⟨rfl,J6 (x8 _ _) _⟩
 |false=>
  by_cases f:i<ws.length
  ·obtain⟨x,j⟩: ∃x,ws[i]?=some x:=⟨_,x9 f⟩
   obtain⟨g,rfl,u,l,y,m⟩:=a i x j;have d:J3 ws i s=(x.K0.toList==s.toList):=by unfold J3;rw[j]
   simp only[Bool.not_false,Bool.true_and,d]at c;have z:(0:Int)<=(i:Int):=by omega
   have B:(i:Int)<(ws.length:Int):=by omega
   clear j d a h l m
   go_enter func107,ntmps107
   go_wp2_with fail
   go_quiet (fail)
   go_wp2_with fail
   go_ret;exact⟨by first|rfl|rw[c],J6 (x8 _ _) _⟩
  ·have d:J3 ws i s=false:=by unfold J3;rw[C5 (by omega)]
   simp only[d,Bool.and_false]at c;subst c;have C:i=ws.length:=by omega
   clear d a h
   go_enter func107,ntmps107
   go_wp2_with fail
   go_quiet (fail)
   go_wp2_with fail
   go_ret;exact⟨rfl,J6 (x8 _ _) _⟩
theorem zeV{ws}{i:Nat}{s:ByteArray}(h:J3 ws i s=true):i<ws.length:=by
 unfold J3 at h
 rcases E0 i ws.length with a|a
 ·exact a
 ·rw[C5 a]at h;cases h
theorem zG{w}{rb:Nat}{v ws}{i en:Nat}{b:Bool}(s:ByteArray)(t:Bool)(h:Rd w rb v ws i en b)(d:U8 ws i b s=t):
 Calls prog 54 #[.pointer (some ⟨rb,0,none⟩),.string s] w λe w'=>e=.returned (.bool t)/\Rd w' rb v ws (if t then i+1 else i) en b/\w.grownBy w' (some rb):=by
 have c:t=true->i<ws.length:=λe=>by
  subst e;unfold U8 at d;exact zeV (Bool.and_eq_true_iff.1 d).2
 have g:=zk5 s t h d;have k:=qh h;have l:=qh g;have m:=qh c;clear h d g c
 go_enter func54,ntmps54
 go_wp2_with fail
 refine l.out.mono ?_;rintro e o ⟨rfl,f⟩;have a:=qh (k.out.K7 f);have j:=qh (I7 f (some rb));clear f;have p:=a.out.c1;have q:=a.out.fz 1;cases t with
 |true=>
  have r:=a.out.X5;have n:=m.out rfl
  go_wp2_with fail
  go_ret;exact⟨rfl,a.out.zb4 (i+1) n,I4 j.out (I8 _ _ _ _)⟩
 |false=>
  go_wp2_with fail
  go_ret;exact⟨rfl,a.out,j.out⟩
def Ze(ws:List Wd)(s:ByteArray)(i:Nat)(b:Bool)(a:Nat)(c:Bool):Prop:=
 (U8 ws i b s=true/\a=i+1/\c=b)\/(U8 ws i b s=false/\a=i/\c=true)
theorem ya{w}{rb:Nat}{v ws}{i en:Nat}{b:Bool}(s:ByteArray)(h:Rd w rb v ws i en b):
 Calls prog 52 #[.pointer (some ⟨rb,0,none⟩),.string s] w λe w'=>e=.returned (.tuple #[])/\(∃d f,Rd w' rb v ws d en f/\Ze ws s i b d f)/\w.grownBy w' (some rb):=by
 obtain⟨t,c⟩: ∃t,U8 ws i b s=t:=⟨_,rfl⟩;have g:=zG s t h c;have n:=qh g;have j:=qh c;clear h c g
 go_enter func52,ntmps52
 go_wp2_with fail
 refine n.out.mono ?_;rintro e o ⟨rfl,k,l⟩;have a:=qh k;have m:=qh l;clear k l;cases t with
 |true=>
  go_wp2_with fail
  go_end0;exact⟨rfl,⟨_,_,a.out,.inl ⟨j.out,rfl,rfl⟩⟩,m.out⟩
 |false=>
  have p:=a.out.c3;have q:=a.out.fz 3
  go_wp2_with fail
  go_end0;exact⟨rfl,⟨_,_,a.out.zgj,.inr ⟨j.out,rfl,rfl⟩⟩,I4 m.out (I8 _ _ _ _)⟩
def yl(ws:List Wd)(k:Int)(i:Nat)(b:Bool)(s:ByteArray)(a:Nat)(c:Bool):Prop:=
 (b=false/\(∃x,ws[i]?=some x/\(x.I9:Int)=k/\s=x.K0)/\a=i+1/\c=false)\/((b=false-> ∀x,ws[i]?=some x->(x.I9:Int)≠k)/\s=⟨#[]⟩/\a=i/\c=true)
def Xh{w}{rb:Nat}{v ws}{i en:Nat}{b:Bool}(k:Int)(h:Rd w rb v ws i en b):
 Calls prog 53 #[.pointer (some ⟨rb,0,none⟩),.int .i64 k] w λe w'=>(∃s m n,e=.returned (.string s)/\Rd w' rb v ws m en n/\yl ws k i b s m n)/\w.grownBy w' (some rb):=by
 obtain⟨A,q,rfl,a⟩:=h.row.jJ;have C:=h.c0;have D:=h.c1;have E:=h.c3;have F:=h.X5;have G:=h.pos;have H:=h.fz 3;have r:=h.fz 1;have f:=qh h;clear h;cases b with
 |true=>
  clear a
  go_enter func53,ntmps53
  go_wp2_with fail
  go_quiet (fail)
  go_wp2_with fail
  go_ret;exact⟨⟨_,_,_,rfl,(f.out.K7 (J6 (x8 _ _) _)).zgj,.inr ⟨(λe=>by cases e),rfl,rfl,rfl⟩⟩,I4 (I7 (J6 (x8 _ _) _) _) (I8 _ _ _ _)⟩
 |false=>
  by_cases c:i<ws.length
  ·obtain⟨x,l⟩: ∃x,ws[i]?=some x:=⟨_,x9 c⟩
   obtain⟨g,rfl,I,J,K,t⟩:=a i x l;have L:(0:Int)<=(i:Int):=by omega
   have M:(i:Int)<(ws.length:Int):=by omega
   have o:=qh l;clear l a t
   by_cases d:(x.I9:Int)=k
   ·have u:((x.I9:Int) !=k)=false:=by simpa using d
    go_enter func53,ntmps53
    go_wp2_with fail
    go_quiet (fail)
    go_wp2_with fail
    have z:g≠rb:=by omega
    have p:rb≠g:=by omega
    have N:(0:Int)<=(i:Int)+1-1:=by omega
    have O:(i:Int)+1-1<(ws.length:Int):=by omega
    have P:((i:Int)+1-1)=(i:Int):=by omega
    go_quiet (fail)
    go_wp2_with fail
    go_ret;refine⟨⟨_,_,_,rfl,((f.out.K7 (J6 (x8 _ _) _)).zb4 (i+1) c).K7 (J6 (x8 _ _) _),.inl ⟨rfl,⟨x,o.out,d,rfl⟩,rfl,rfl⟩⟩,?_⟩;exact I4 (I4 (I7 (J6 (x8 _ _) _) _) (I8 _ rb 1 _)) (I7 (J6 (x8 _ _) _) _)
   ·have u:((x.I9:Int) !=k)=true:=by simpa using d
    have B:=qh d;clear d
    go_enter func53,ntmps53
    go_wp2_with fail
    go_quiet (fail)
    go_wp2_with fail
    go_ret;exact⟨⟨_,_,_,rfl,(f.out.K7 (J6 (x8 _ _) _)).zgj,.inr ⟨(λ_ y j=>by have:=o.out.symm.trans j;cases this;exact B.out),rfl,rfl,rfl⟩⟩,I4 (I7 (J6 (x8 _ _) _) _) (I8 _ _ _ _)⟩
  ·have Q:i=ws.length:=by omega
   clear a
   go_enter func53,ntmps53
   go_wp2_with fail
   go_quiet (fail)
   go_wp2_with fail
   go_ret;exact⟨⟨_,_,_,rfl,(f.out.K7 (J6 (x8 _ _) _)).zgj,.inr ⟨(λ_ y j=>by rw[C5 (by omega)]at j;cases j),rfl,rfl,rfl⟩⟩,I4 (I7 (J6 (x8 _ _) _) _) (I8 _ _ _ _)⟩
def zhT:ByteArray:=⟨#[58]⟩
def ziJ:ByteArray:=⟨#[105,110,116]⟩
def zeS:ByteArray:=⟨#[98,111,111,108]⟩
def zj7(ws:List Wd)(i:Nat)(b:Bool)(t:Int)(d:Nat)(e:Bool):Prop:=
 ∃a c,Ze ws zhT i b a c/\((U8 ws a c ziJ=true/\t=1/\d=a+1/\e=c)\/(U8 ws a c ziJ=false/\U8 ws a c zeS=true/\t=2/\d=a+1/\e=c)\/(U8 ws a c ziJ=false/\U8 ws a c zeS=false/\t=0/\d=a/\e=true))
def zkW{w}{q:Nat}{v ws}{i en:Nat}{b:Bool}(h:Rd w q v ws i en b):
 Calls prog 55 #[.pointer (some ⟨q,0,none⟩)] w λe w'=>(∃(t:Int)(y:Nat)(z:Bool),e=.returned (.int .i64 t)/\Rd w' q v ws y en z/\zj7 ws i b t y z)/\w.grownBy w' (some q):=by
 have F:=qh h;clear h
 go_enter func55,ntmps55
 go_wp2_with fail
 refine(ya zhT F.out).mono ?_;rintro e G ⟨rfl,⟨d,f,A,hs1⟩,g⟩;have s:=qh A;have c:=qh hs1;have u:=qh g;clear A hs1 g;obtain⟨B,j⟩: ∃t,U8 ws d f ziJ=t:=⟨_,rfl⟩;have r:=qh j;clear j
 go_wp2_with fail
 refine(zG ziJ B s.out r.out).mono ?_;rintro e H ⟨rfl,C,k⟩;have l:=qh C;have m:=qh (I4 u.out k);clear C k;cases B with
 |true=>
  go_wp2_with fail
  go_ret;exact⟨⟨_,_,_,rfl,l.out,d,f,c.out,.inl ⟨r.out,rfl,rfl,rfl⟩⟩,m.out⟩
 |false=>
  obtain⟨D,n⟩: ∃t,U8 ws d f zeS=t:=⟨_,rfl⟩;have x:=qh n;clear n
  go_wp2_with fail
  refine(zG zeS D l.out x.out).mono ?_;rintro e I ⟨rfl,E,o⟩;have a:=qh E;have p:=qh (I4 m.out o);clear E o;cases D with
  |true=>
   go_wp2_with fail
   go_ret;exact⟨⟨_,_,_,rfl,a.out,d,f,c.out,.inr (.inl ⟨r.out,x.out,rfl,rfl,rfl⟩)⟩,p.out⟩
  |false=>
   have J:=a.out.c3;have K:=a.out.fz 3
   go_wp2_with fail
   go_ret;exact⟨⟨_,_,_,rfl,a.out.zgj,d,f,c.out,.inr (.inr ⟨r.out,x.out,rfl,rfl,rfl⟩)⟩,I4 p.out (I8 _ _ _ _)⟩
def zip(t:ByteArray)(z:t.size≠0)(G:t.size<=4000)(w:World):
 Calls prog 127 #[.string t,.int .i64 10,.int .i64 62] w λe w'=>e=.returned (Lib.uintTupleM 252 4611686018427387903 (Lib.parseUintM 4611686018427387903 0 t.data.toList))/\w'=Lib.bytesWorld w 5 t:=by
 have H:t.toList.isEmpty=false:=by
  rw[<-decide_eq_emptyBytes];exact G1 (λh=>z (by rw[h];rfl))
 have A:=Lib.run_convert_string_bytes (P:=prog) w 9 50 5 t (u:=.string) underlying9 underlying50 underlying5;have y: ∀j,j<t.size->(Lib.bytesWorld w 5 t).cell? ⟨w.heap.size,j,none⟩=some (.int .u8 (t.data.toList.getD j 0).toNat):=λj M=>Lib.bytesWorld_cell w 5 t j M
 obtain⟨I,s⟩: ∃I,I=Lib.bytesWorld w 5 t:=⟨_,rfl⟩;rw[<-s]at A y|-;clear s;obtain⟨d,B⟩: ∃d,d=t.data.toList:=⟨_,rfl⟩;have N:d.length=t.size:=by rw[B,Lib.size_eq]
 rw[<-B]at y|-;clear B;have O:IntKind.u64.wrap (IntKind.u64.wrap 4611686018427387904-1)=4611686018427387903:=by
  rw[IntKind.wrap_u64,IntKind.wrap_u64]
  decide
 go_enter func127,ntmps127
 go_wp2
 go_loop [12,13,101] (λQ R C=> ∃(k acc:Nat)(a:Int),Q=.bool false/\R=.int .u64 a/\C=.int .i64 k/\k<=t.size/\Hid (a=(acc:Int)/\acc<=4611686018427387903/\Lib.parseUintM 4611686018427387903 0 d=Lib.parseUintM 4611686018427387903 acc (d.drop k)))
  (λ_ _ C=>t.size-(intOf C).toNat)
 case atStart=>exact⟨0,0,0,rfl,rfl,rfl,by omega,rfl,by omega,rfl⟩
 case round=>
  obtain⟨k,acc,a,rfl,rfl,rfl,hk,J⟩:=hrel;obtain⟨r,f,b⟩:=J.out;clear J;have S:0<=a:=by omega
  have T:a<=4611686018427387903:=by omega
  by_cases D:k<t.size
  ·have K:=y k D
   have i:d.drop k=d[k]'(by omega)::d.drop (k+1):=F8 (by omega);have m:d.getD k 0=d[k]'(by omega):=by simp[List.getD,x9 (show k<d.length by omega)]
   rw[i]at b;rw[m]at K;generalize d[k]'(by omega)=c at K b;have E:c.toNat<256:=c.toNat_lt;clear y i m
   by_cases n:48<=c.toNat/\c.toNat<=57
   ·obtain⟨p,q⟩:=n
    by_cases hcut:1844674407370955162<=acc
    ·have g:Lib.parseUintM 4611686018427387903 acc (c::d.drop (k+1))=.range:=by simp[Lib.parseUintM,p,q,hcut]
     rw[g]at b;have v:1844674407370955162<=a:=by omega
     clear hcut f g r
     go_wp2
     go_ret2;exact⟨rfl,rfl⟩
    by_cases l:4611686018427387903<acc*10+(c.toNat-48)
    ·have g:Lib.parseUintM 4611686018427387903 acc (c::d.drop (k+1))=.range:=by simp[Lib.parseUintM,p,q,hcut,l]
     rw[g]at b;have v:a<1844674407370955162:=by omega
     by_cases o:18446744073709551616<=acc*10+(c.toNat-48)
     ·have x:18446744073709551616<=a*10+((c.toNat:Int)-48):=by omega
      have U:IntKind.u64.wrap (a*10+((c.toNat:Int)-48))=a*10+((c.toNat:Int)-48)-18446744073709551616:=by
       rw[IntKind.wrap_u64];omega
      clear hcut f g l o r
      go_wp2
      go_ret2;exact⟨rfl,rfl⟩
     ·have x:4611686018427387903<a*10+((c.toNat:Int)-48):=by omega
      have L:a*10+((c.toNat:Int)-48)<18446744073709551616:=by omega
      clear hcut f g l o r
      go_wp2
      go_ret2;exact⟨rfl,rfl⟩
    ·have g:Lib.parseUintM 4611686018427387903 acc (c::d.drop (k+1))=Lib.parseUintM 4611686018427387903 (acc*10+(c.toNat-48)) (d.drop (k+1)):=by simp[Lib.parseUintM,p,q,hcut,l]
     have V:Hid (a*10+((c.toNat:Int)-48)=((acc*10+(c.toNat-48):Nat):Int)/\acc*10+(c.toNat-48)<=4611686018427387903/\Lib.parseUintM 4611686018427387903 0 d=Lib.parseUintM 4611686018427387903 (acc*10+(c.toNat-48)) (d.drop (k+1))):=qh ⟨by omega,by omega,b.trans g⟩;have x:a*10+((c.toNat:Int)-48)<=4611686018427387903:=by omega
     clear hcut f g l b r
     go_wp2
     refine⟨⟨k+1,acc*10+(c.toNat-48),a*10+((c.toNat:Int)-48),rfl,(by first|rfl|(congr 1;omega)),(by first|rfl|(congr 1;omega)),by omega,V⟩,by simp[intOf];omega⟩
   ·have g:Lib.parseUintM 4611686018427387903 acc (c::d.drop (k+1))=.syntax:=by simp[Lib.parseUintM,n]
    rw[g]at b;clear f g r;have W:=bits_lo_u8 .or (c.toNat:Int) 32;have X:=bits_hi_u8 .or (c.toNat:Int) 32;have Y:=bits_lo_u8 .or 95 32;have Z:=bits_hi_u8 .or 95 32
    go_wp2_with(go_at_call 178;refine(Tryz.internal_strconv_lower _ _).mono ?_;rintro e w' ⟨rfl,rfl⟩)
    all_goals go_ret2
    all_goals first|exact⟨rfl,rfl⟩|exact⟨by rw[b];rfl,rfl⟩
  ·have F:k=t.size:=by omega
   subst F;have g:Lib.parseUintM 4611686018427387903 acc (d.drop t.size)=.ok acc:=by rw[List.drop_eq_nil_of_le (by omega)];rfl
   rw[g]at b;subst r;clear f g S T
   go_wp2
   go_ret2;exact⟨rfl,rfl⟩
section
open Go.Shelf Go.Sort
def Ye(w)(k:Nat)(os):Below w.heap.size w (grow (w.drewN k) os):=by
 refine⟨rfl,rfl,rfl,by simp[grow,World.drewN],λi a=>?_⟩;simp only[grow];rw[Array.getElem?_append_left (by simpa using a)];simp[World.drewN]
def znI(u:Nat)(a:u<18446744073709551616)(w)(f:Lib.TabIs prog w "internal/strconv.uint64pow10" .u64 Lib.pow10Tab):
 Calls prog 129 #[.int .u64 u,.int .i64 10] w λe w'=>e=.returned (.string ⟨(Lib.decDigits u).toArray⟩)/\Below w.heap.size w w':=by
 by_cases s:u<100
 ·go_enter func129,ntmps129
  go_wp2_with(go_at_call 184;refine(Tryz.internal_strconv_small u s _).mono ?_;rintro e w' ⟨rfl,rfl⟩)
  go_ret;exact⟨rfl,x8 _ _⟩
 ·have g:1<=u:=by omega
  have m:Lib.nDigits u<=20:=by have:=Lib.numDigits_eq u g a;split at this<;>omega
  have i:Tryz.prog.arrayLen 258=24:=by kernel_rfl
  have r: ∀W,(Instr.sliceAt 258 (.pointer (some ⟨w.heap.size,0,none⟩)) none (some (.int .i64 (Lib.nDigits u:Int))) none).run prog W=.ok (.slice (some ⟨w.heap.size,0,none⟩) (Lib.nDigits u) 24) W:=λW=>by
   rw[run_sliceAt_array_h W 258 ⟨w.heap.size,0,none⟩ (by simp[Program.arrayLen,Program.elem,underlying258]) .i64 (Lib.nDigits u:Int) (by omega) (by rw[i];omega)];go_simp
  have d:=Lib.holds_zero0 w 258 (Lib.nDigits u) (by omega);have c:=Tryz.internal_strconv_formatBase10 w.heap.size 0 24 u (Array.replicate (Lib.nDigits u) 0) (w.alloc (.cells Lib.zeros24 258)) d (by rw[Array.size_replicate];exact Lib.lt_pow_nDigits u) a (by rw[Array.size_replicate];omega);rw[Array.size_replicate]at c;have n:=qh d;clear d i
  go_enter func129,ntmps129
  go_wp2_with(go_at_call 185;refine(Tryz.internal_strconv_numDigits u g a _ (Lib.tabIs_alloc f _)).mono ?_;rintro e w' ⟨rfl,rfl⟩)
  go_at_call 186
  refine c.mono ?_;rintro e w' ⟨rfl,k,v,l,rfl,o⟩;have t:(convert 50 9 (.slice (some ⟨w.heap.size,0,none⟩) (Lib.nDigits u) 24)).run prog ((putRow (fun(b:UInt8)=>Value.int .u8 (b.toNat:Int)) (w.alloc (.cells Lib.zeros24 258)) w.heap.size 0 l).drewN k)=.ok (.string ⟨(Lib.decDigits u).toArray⟩) ((putRow (fun(b:UInt8)=>Value.int .u8 (b.toNat:Int)) (w.alloc (.cells Lib.zeros24 258)) w.heap.size 0 l).drewN k):=by
   have h:=run_convert_bytes_back (P:=prog) ((putRow (fun(b:UInt8)=>Value.int .u8 (b.toNat:Int)) (w.alloc (.cells Lib.zeros24 258)) w.heap.size 0 l).drewN k) 50 9 5 ⟨w.heap.size,0,none⟩ 24 (Lib.decDigits u) underlying50 underlying5 underlying9 (λj p=>by
    rw[Lib.row_is_numeral o j p,Lib.add_plain,World.cell?_drewN];exact cell?_putRow (fun(b:UInt8)=>Value.int .u8 (b.toNat:Int)) _ w.heap.size 0 _ l n.out (by rw[o.size,Array.size_replicate]) j (by rw[o.size];rw[Lib.decDigits_length]at p;exact p))
   rw[Lib.decDigits_length]at h;exact h
  go_wp2
  go_ret;refine⟨rfl,?_⟩;rw[alloc_eq_grow];obtain⟨q,_,e⟩:=putRow_grow_new (fun(b:UInt8)=>Value.int .u8 (b.toNat:Int)) w #[.cells Lib.zeros24 258] w.heap.size 0 l (x7 _);rw[e];exact Ye w k q
def zpr(u:Nat)(a:u<18446744073709551616)(w)(b:Lib.TabIs prog w "internal/strconv.uint64pow10" .u64 Lib.pow10Tab):
 Calls prog 77 #[.int .u64 u,.int .i64 10] w λe w'=>e=.returned (.string ⟨(Lib.decDigits u).toArray⟩)/\Below w.heap.size w w':=by
 have H:=qh (znI u a w b)
 go_enter func77,ntmps77
 go_wp2_with fail
 refine H.out.mono ?_;rintro e w' ⟨rfl,c⟩
 go_wp2_with fail
 go_ret;exact⟨rfl,c⟩
def zf6(M:Nat)(l:Bs): ∀(a u:Nat),Lib.parseUintM M a l=.ok u->a<=M->u<=M:=by
 induction l with
 |nil=>intro a u h b;simp only[Lib.parseUintM]at h;cases h;exact b
 |cons c l d=>
  intro a u h b;simp only[Lib.parseUintM]at h
  repeat' (split at h)
  all_goals first|(cases h;done)|exact d _ _ h (by omega)
def zgw(v:Value):Prop:=v=.nilIface\/ ∃a b,v=.iface a b
def ze6(w:World):Prop:=(∃v,w.cell? ⟨3,0,none⟩=some v/\zgw v)/\(∃v,w.cell? ⟨4,0,none⟩=some v/\zgw v)
def zkc(s:ByteArray)(x:s.size≠0)(l:s.size<=4000)(w)(D:ze6 w)(H:5<w.heap.size):
 Calls prog 76 #[.string s,.int .i64 10,.int .i64 62] w λe w'=>(∃(u:Nat)(y:Value),e=.returned (.tuple #[.int .u64 u,y])/\u<18446744073709551616/\
  ((Lib.parseUintM 4611686018427387903 0 s.data.toList=.ok u/\y=.nilIface)\/((∀n,Lib.parseUintM 4611686018427387903 0 s.data.toList≠.ok n)/\ ∃te E,y=.iface te (.pointer E))))/\Below w.heap.size w w':=by
 obtain⟨⟨ev1,d,m⟩,⟨ev2,f,o⟩⟩:=D;have a:=zip s x l w;have c:=Lib.bytesWorld_below w 5 s;cases i:Lib.parseUintM 4611686018427387903 0 s.data.toList with
 |ok u=>
  have C:u<18446744073709551616:=by
   have:=zf6 _ _ _ _ i (D0 _);omega
  rw[i]at a;have a:Calls prog 127 #[.string s,.int .i64 10,.int .i64 62] w λe w'=>e=.returned (.tuple #[.int .u64 u,.nilIface])/\w'=Lib.bytesWorld w 5 s:=a
  have q:=qh a;have F:=qh C;have r:=qh c;clear a i C c d f m o
  go_enter func76,ntmps76
  go_wp2_with fail
  refine q.out.mono ?_;rintro e v ⟨rfl,g⟩;have G:=qh g;clear g
  go_wp2
  go_ret2;exact⟨⟨u,_,rfl,F.out,.inl ⟨rfl,rfl⟩⟩,by rw[G.out];exact r.out⟩
 |range=>
  rw[i]at a;have a:Calls prog 127 #[.string s,.int .i64 10,.int .i64 62] w λe w'=>e=.returned (.tuple #[.int .u64 4611686018427387903,.iface 252 (.int .i64 1)])/\w'=Lib.bytesWorld w 5 s:=a
  have q:=qh a;have r:=qh c;have j: ∀W,Below w.heap.size w W->W.cell? ⟨4,0,none⟩=some ev2:=λW h=>(h.cell (p:=⟨4,0,none⟩) (by show 4<_;omega)).trans f
  have j:=qh j;clear a i c d f
  go_enter func76,ntmps76
  go_wp2_with fail
  refine q.out.mono ?_;rintro e v ⟨rfl,g⟩;have b:Hid (Below w.heap.size w v):=qh (by rw[g];exact r.out);clear g
  go_wp2_with fail
  refine(Tryz.strconv_toError_range ⟨#[80,97,114,115,101,85,105,110,116]⟩ s 10 62 ev2 _ (by omega) (j.out _ b.out) o).mono ?_;rintro e z ⟨N,rfl,A,B,t⟩;have k:Hid (Below w.heap.size w z):=qh (b.out.trans (t.mono b.out.size));clear A B t
  go_wp2
  go_ret2;exact⟨⟨4611686018427387903,_,rfl,by omega,.inr ⟨(λn h=>by cases h),_,_,rfl⟩⟩,k.out⟩
 |_=>
  rw[i]at a;have a:Calls prog 127 #[.string s,.int .i64 10,.int .i64 62] w λe w'=>e=.returned (.tuple #[.int .u64 0,.iface 252 (.int .i64 2)])/\w'=Lib.bytesWorld w 5 s:=a
  have q:=qh a;have r:=qh c;have j: ∀W,Below w.heap.size w W->W.cell? ⟨3,0,none⟩=some ev1:=λW h=>(h.cell (p:=⟨3,0,none⟩) (by show 3<_;omega)).trans d
  have j:=qh j;clear a i c d f
  go_enter func76,ntmps76
  go_wp2_with fail
  refine q.out.mono ?_;rintro e v ⟨rfl,g⟩;have b:Hid (Below w.heap.size w v):=qh (by rw[g];exact r.out);clear g
  go_wp2_with fail
  refine(Tryz.strconv_toError_syntax ⟨#[80,97,114,115,101,85,105,110,116]⟩ s 10 62 ev1 _ (by omega) (j.out _ b.out) m).mono ?_;rintro e z ⟨N,rfl,A,B,t⟩;have k:Hid (Below w.heap.size w z):=qh (b.out.trans (t.mono b.out.size));clear A B t
  go_wp2
  go_ret2;exact⟨⟨0,_,rfl,by omega,.inr ⟨(λn h=>by cases h),_,_,rfl⟩⟩,k.out⟩
end
end Go.Proofs.YtmngofgminlloaaGreatDoor
