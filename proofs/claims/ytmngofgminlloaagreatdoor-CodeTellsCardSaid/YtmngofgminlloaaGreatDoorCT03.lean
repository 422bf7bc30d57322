/- Merged. -/
import Derived.Test.YtmngofgminlloaaGreatDoorCT02
import Derived.Shelf.Strings.SlTrimAscii
import Derived.Shelf.Unicode.PredsPay
import Derived.Deep.RegionHeld3
import Derived.Deep.DrawnRows
set_option linter.all false
set_option maxHeartbeats 8000000
set_option maxRecDepth 100000
namespace Go.Proofs.YtmngofgminlloaaGreatDoor
open Go.Proofs.Tryz
open Go.RowKit Tw
section
open Go.Shelf
def zol:Bs:=[97,98,99,100,101,102,103,104,105,106,107,108,109,110,111,112,113,114,115,116,117,118,119,120,121,122,95,48,49,50,51,52,53,54,55,56,57]
def zpu:Bs:=[97,98,99,100,101,102,103,104,105,106,107,108,109,110,111,112,113,114,115,116,117,118,119,120,121,122,95]
def zpe:Bs:=[48,49,50,51,52,53,54,55,56,57]
def zpv:Bs:=[32,10,9]
def XQ(l:Bs)(p:UInt8->Bool)(h: ∀n:Fin 256,l.contains (UInt8.ofFin n)=p (UInt8.ofFin n))(c:UInt8):l.contains c=p c:=by
 have:=h c.toFin;simpa using this
def zfi(c:UInt8):zol.contains c=X8 c:=XQ _ _ (by decide+kernel) c
def zjK(c:UInt8):zpu.contains c=Zl c:=XQ _ _ (by decide+kernel) c
def zjk(c:UInt8):zpe.contains c=qX c:=XQ _ _ (by decide+kernel) c
def zj3(c:UInt8):zpv.contains c=qZ c:=XQ _ _ (by decide+kernel) c
def jh(p)(l:Bs):l.dropWhile p=[]↔l.all p=true:=by
 induction l with
 |nil=>simp
 |cons c l a=>
  cases h:p c
  ·simp[h]
  ·simp[h,a]
def zfW(l b:Bs):(Lib.trimS l b).isEmpty=l.all (b.contains ·):=by
 rw[F7,List.isEmpty_iff];unfold Lib.trimS Lib.trimLeftS Lib.trimRightS;rw[jh];constructor
 ·intro h
  rw[List.all_reverse]at h
  by_cases d:l.reverse.dropWhile (b.contains ·)=[]
  ·rw[jh,List.all_reverse]at d;exact d
  ·exfalso
   rcases c:l.reverse.dropWhile (b.contains ·)with _|⟨a,r⟩
   ·exact d c
   ·have e:=List.head_dropWhile_not (λx=>b.contains x) (l:=l.reverse) (by rw[c];simp)
    simp only[c,List.head_cons]at e;rw[c]at h;simp only[List.all_cons,F3]at h;rw[h.1]at e;simp at e
 ·intro h
  have:l.reverse.dropWhile (b.contains ·)=[]:=by rw[jh,List.all_reverse];exact h
  rw[this];rfl
def zlX(s a:ByteArray)(w:World)(hs:s.size<=9223372036854775807)(c:a.size<4294967281)(d: ∀(j:Nat) b,a.data.toList[j]?=some b->b.toNat<128):
 Calls prog 125 #[.string s,.string a] w λe w'=>e=.returned (.string ⟨(Lib.trimS s.data.toList a.data.toList).toArray⟩)/\Below w.heap.size w w':=
 Any.strings_Trim_laid Tryz.lays160 (by kernel_rfl) s a w hs c d
def zdx(s a:ByteArray)(w:World)(c:a.size<4294967281)(d: ∀(j:Nat) b,a.data.toList[j]?=some b->b.toNat<128):
 Calls prog 73 #[.string s,.string a] w λe w'=>e=.returned (.string ⟨(Lib.trimLeftS s.data.toList a.data.toList).toArray⟩)/\Below w.heap.size w w':=
 Any.strings_TrimLeft_laid Tryz.lays161 (by kernel_rfl) s a w c d
def zlG(s a:ByteArray)(t:Bool)(w:World)(hs:s.size<=9223372036854775807)(c:a.size<4294967281)(f: ∀(j:Nat) b,a.data.toList[j]?=some b->b.toNat<128)
 (d:s.data.toList.all (a.data.toList.contains ·)=t):
 Calls prog 74 #[.string s,.string a] w λe w'=>e=.returned (.bool t)/\Below w.heap.size w w':=by
 have H:=qh (zlX s a w hs c f);have g:Hid ((Lib.trimS s.data.toList a.data.toList).isEmpty=t):=qh (by rw[zfW];exact d);clear f d c
 go_enter func74,ntmps74
 go_wp2_with fail
 refine H.out.mono ?_;rintro e w' ⟨rfl,h⟩;have d:=g.out;generalize Lib.trimS s.data.toList a.data.toList=y at d|-
 go_wp2_with fail
 go_ret;exact⟨rfl,h⟩
def xT(s:ByteArray)(k:Nat):(s.extract k s.size).data.toList=s.data.toList.drop k:=by
 rw[je,List.take_of_length_le (by simp)]
def zkd(s:ByteArray)(k:Nat)(h:k<s.size):((s.extract k s.size).extract 0 1).data.toList=[s[k]]:=by
 rw[je,xT,List.drop_zero,yi s k h];rfl
def zbS(s:ByteArray)(k m:Nat):((s.extract k s.size).extract 0 m).data.toList=(s.data.toList.drop k).take m:=by
 rw[je,xT,List.drop_zero];rfl
def zbt(s:ByteArray)(k m:Nat):(s.extract k s.size).extract 0 m=s.extract k (k+m):=by
 apply ByteArray.ext;apply Array.ext';rw[zbS,je];congr 1;omega
def zhs(s:ByteArray)(k:Nat)(h:k<s.size)(a:ByteArray)(p:UInt8->Bool)(t:Bool)(w:World)(d:a.size<4294967281)(f: ∀(j:Nat) b,a.data.toList[j]?=some b->b.toNat<128)
 (g: ∀c,a.data.toList.contains c=p c) (i:p s[k]=t):
 Calls prog 74 #[.string ((s.extract k s.size).extract 0 1),.string a] w λe w'=>e=.returned (.bool t)/\Below w.heap.size w w':=
 zlG _ a t w (by simp;omega) d f (by rw[zkd s k h];simp only[List.all_cons,List.all_nil,Bool.and_true];exact(g _).trans i)
def zn7(s:ByteArray)(k:Nat)(h:k<s.size)(t:Bool)(w:World)(a:qZ s[k]=t):
 Calls prog 74 #[.string ((s.extract k s.size).extract 0 1),.string ⟨#[32,10,9]⟩] w λe w'=>e=.returned (.bool t)/\Below w.heap.size w w':=
 zhs s k h _ qZ t w (by decide) (ascii_of_all (by decide)) zj3 a
def zon(s:ByteArray)(k:Nat)(h:k<s.size)(t:Bool)(w:World)(a:qX s[k]=t):
 Calls prog 74 #[.string ((s.extract k s.size).extract 0 1),.string ⟨#[48,49,50,51,52,53,54,55,56,57]⟩] w λe w'=>e=.returned (.bool t)/\Below w.heap.size w w':=
 zhs s k h _ qX t w (by decide) (ascii_of_all (by decide)) zjk a
def zhI(p)(l:Bs):(l.dropWhile p).length+M4 p l=l.length:=by
 unfold M4
 induction l with
 |nil=>rfl
 |cons c l a=>cases h:p c<;>simp[h];omega
def zd1(p q)(h: ∀c,p c=q c)(l:Bs):l.dropWhile p=l.dropWhile q:=by
 have:p=q:=funext h;rw[this]
def zos(s:ByteArray)(k:Nat)(w:World):
 Calls prog 73 #[.string (s.extract k s.size),.string ⟨#[97,98,99,100,101,102,103,104,105,106,107,108,109,110,111,112,113,114,115,116,117,118,119,120,121,122,95,48,49,50,51,52,53,54,55,56,57]⟩] w λe w'=>(∃y:ByteArray,e=.returned (.string y)/\y.size+M4 X8 (s.data.toList.drop k)=s.size-k)/\Below w.heap.size w w':=by
 refine(zdx _ _ w (by decide) (ascii_of_all (by decide))).mono ?_;rintro e w' ⟨rfl,b⟩;refine⟨⟨_,rfl,?_⟩,b⟩;have c:(Lib.trimLeftS (s.extract k s.size).data.toList zol)=(s.data.toList.drop k).dropWhile X8:=by
  rw[xT];exact zd1 _ _ zfi _
 have a:=zhI X8 (s.data.toList.drop k);rw[<-c,I3,R5]at a;exact a
def zfk(x:ByteArray)(t:Bool)(w)(a:x.data.toList.all X8=true)(b:qd x.data.toList=t)(c:zo w):
 Calls prog 78 #[.string ⟨#[32,102,117,110,32,108,101,116,32,105,102,32,101,108,115,101,32,119,104,105,108,101,32,114,101,116,117,114,110,32,121,105,101,108,100,32,116,114,117,101,32,102,97,108,115,101,32,105,110,116,32,98,111,111,108,32]⟩,.string (⟨#[32]⟩++x++⟨#[32]⟩)] w λe w'=>e=.returned (.bool t)/\w=w':=by
 refine(Xy _ x w (by decide) c).mono ?_;rintro e w' ⟨rfl,rfl⟩;refine⟨?_,rfl⟩;rw[<-b,<-zax _ a];rfl
end
end Go.Proofs.YtmngofgminlloaaGreatDoor
namespace Go.Proofs.YtmngofgminlloaaGreatDoor
namespace Tw
def dv(a:Nat)(c:UInt8):Nat:=a*10+(c.toNat-48)
def zbQ(c:UInt8)(h:qX c=true):48<=c.toNat/\c.toNat<=57:=by simpa[qX]using h
def zh1(l:Bs): ∀a,l.all qX=true->(a+1)*10^l.length<=10^12->Lib.parseUintM 4611686018427387903 a l=.ok (l.foldl dv a):=by
 induction l with
 |nil=>intro a _ _;rfl
 |cons c l g=>
  intro a h f;simp only[List.all_cons,F3]at h;obtain⟨i,j⟩:=zbQ c h.1;have k:1<=10^l.length:=Nat.pos_of_ne_zero (by simp);have b:(a+1)*10*10^l.length<=10^12:=by
   rw[A8,Nat.pow_succ]at f
   calc(a+1)*10*10^l.length=(a+1)*(10^l.length*10):=by rw[Nat.mul_assoc,Nat.mul_comm 10]
    _<=_:=f
  have d:(a+1)*10<=10^12:=C1 (Nat.le_mul_of_pos_right _ k) b;have e:(10:Nat)^12=1000000000000:=by decide
  rw[e]at d;have m: ¬1844674407370955162<=a:=by omega
  have n: ¬4611686018427387903<a*10+(c.toNat-48):=by omega
  simp only[Lib.parseUintM,i,j,and_self,if_true,m,n,if_false,List.foldl_cons];refine g _ h.2 (C1 (G5 _ ?_) b);omega
def zja(l:Bs): ∀a,a<=l.foldl dv a:=by
 induction l with
 |nil=>intro a;exact x7 _
 |cons c l b=>intro a;exact C1 (by unfold dv;omega) (b (dv a c))
def ziv(l:Bs)(h:l≠[])(a:l.all qX=true)(b:l.headD 0≠48):1<=l.foldl dv 0:=by
 cases l with
 |nil=>exact H9 rfl h
 |cons c l=>
  simp only[List.all_cons,F3]at a;obtain⟨d,f⟩:=zbQ c a.1;have g:c.toNat≠48:=λe=>b (UInt8.toNat_inj.1 e)
  refine C1 ?_ (zja l (dv 0 c));unfold dv;omega
def zaZ(c:UInt8)(h:qX c=true):UInt8.ofNat (48+(c.toNat-48))=c:=by
 obtain⟨a,b⟩:=zbQ c h;rw[show 48+(c.toNat-48)=c.toNat by omega];simp
def zin: ∀(n:Nat)(l:Bs),l.length=n->l≠[]->l.all qX=true->(l.length=1\/l.headD 0≠48)->Lib.decDigits (l.foldl dv 0)=l:=by
 intro n
 induction n with
 |zero=>intro l k o;exact H9 (I0 k) o
 |succ n p=>
  intro l q e d f;obtain⟨b,c,rfl⟩: ∃b c,l=b++[c]:=⟨l.dropLast,l.getLast e,(List.dropLast_concat_getLast e).symm⟩;rw[List.all_append]at d;simp only[List.all_cons,List.all_nil,Bool.and_true,F3]at d;obtain⟨t,k⟩:=zbQ c d.2;rw[List.foldl_append];simp only[List.foldl_cons,List.foldl_nil]
  by_cases g:b=[]
  ·subst g
   simp only[List.foldl_nil,C0,dv];rw[Lib.decDigits_one (by omega),Nat.zero_mul,Nat.zero_add,zaZ c d.2]
  ·have j:b.length=n:=by simpa using q
   have m:0<b.length:=List.length_pos_iff.2 g;have h:b.headD 0≠48:=by
    rcases f with f|f
    ·rw[A9,List.length_singleton]at f;omega
    ·cases b with
     |nil=>exact H9 rfl g
     |cons a r=>simpa using f
   have s:=ziv b g d.1 h;have i:=p b j g d.1 (.inr h);generalize b.foldl dv 0=v at s i;unfold dv;rw[Lib.decDigits,dif_neg (by omega),show(v*10+(c.toNat-48))/10=v by omega,show(v*10+(c.toNat-48))%10=c.toNat-48 by omega,i,zaZ c d.2]
def zjr: ∀(n u:Nat),u<=n->(Lib.decDigits u).all qX=true/\Lib.decDigits u≠[]/\(1<=u->(Lib.decDigits u).headD 0≠48):=by
 intro n
 induction n with
 |zero=>
  intro u g;obtain rfl:u=0:=by omega
  rw[Lib.decDigits_one (by omega)];exact⟨by decide,by simp,λh=>by omega⟩
 |succ n i=>
  intro u g
  by_cases b:u<10
  ·rw[Lib.decDigits_one b]
   have e:(UInt8.ofNat (48+u)).toNat=48+u:=by simp;omega
   refine⟨?_,by simp,λh=>?_⟩
   ·simp[qX];omega
   ·intro c
    have:(UInt8.ofNat (48+u)).toNat=48:=by simpa using H0 UInt8.toNat c
    omega
  ·rw[Lib.decDigits,dif_neg b]
   obtain⟨j,c,k⟩:=i (u/10) (by omega);have e:(UInt8.ofNat (48+u%10)).toNat=48+u%10:=by simp;omega
   refine⟨?_,by simp,λ_=>?_⟩
   ·rw[List.all_append,j];simp[qX];omega
   ·have d:=k (by omega)
    cases f:Lib.decDigits (u/10)with
    |nil=>exact H9 f c
    |cons a r=>rw[f]at d;simpa using d
def Zv(l:Bs)(h:zj l=true):l.length<=12/\(l.length<=1\/l.headD 0≠48)/\l.all qX=true:=by
 simp only[zj,F3,F1,Bool.not_eq_true',Bool.and_eq_false_iff,decide_eq_false_iff_not]at h;obtain⟨⟨b,a⟩,c⟩:=h;refine⟨b,?_,c⟩
 rcases a with a|a
 ·exact .inl (by omega)
 ·exact .inr (by simpa using a)
def zhj(l:Bs)(a:l≠[])(h:zj l=true): ∃u,Lib.parseUintM 4611686018427387903 0 l=.ok u/\Lib.decDigits u=l:=by
 obtain⟨e,b,c⟩:=Zv l h;have d:0<l.length:=List.length_pos_iff.2 a;refine⟨_,zh1 l 0 c (by rw[Nat.zero_add,Nat.one_mul];exact Nat.pow_le_pow_right (by omega) e),zin _ l rfl a c ?_⟩
 rcases b with b|b
 ·exact .inl (by omega)
 ·exact .inr b
def zl3(u:Nat)(h:(Lib.decDigits u).length<=12):zj (Lib.decDigits u)=true:=by
 obtain⟨a,e,b⟩:=zjr u u (x7 _);have c:(decide (1<(Lib.decDigits u).length)&&(Lib.decDigits u).headD 0==48)=false:=by
  by_cases d:1<=u
  ·have:((Lib.decDigits u).headD 0==48)=false:=by rw[B0];exact b d
   rw[this,Bool.and_false]
  ·obtain rfl:u=0:=by omega
   rw[Lib.decDigits_one (by omega)];rfl
 simp only[zj,a,c,Bool.not_false,Bool.and_true,F1];exact h
end Tw
end Go.Proofs.YtmngofgminlloaaGreatDoor
namespace Go.Proofs.YtmngofgminlloaaGreatDoor
open Go.Proofs.Tryz
open Go.RowKit Tw
section
open Go.Shelf
structure St(w wK:World)(b:Nat)(cs:Array Value)(v:Value)(l:List Wd):Prop where
 own:wK.ownsRow w.heap.size 46 3 v l.length (R6 l)
 M1:Below w.heap.size w wK
 P6:wK.heap[b]?=some (.cells cs 46 (0,0))
 ne:v.ownBlock≠some b
 le:w.heap.size<=b
theorem qp{w w'}{base e size n:Nat}{v xs}(h:w.ownsRow base e size v n xs)(a:Below w.heap.size w w'):w'.ownsRow base e size v n xs:=by
 refine h.kept (row:=none) ⟨a.os,a.tape,a.output,a.size,λk b _=>a.block k b⟩ ?_;cases c:v.ownBlock with
 |none=>exact .inl rfl
 |some k=>exact .inr (by simp)
theorem zI{w:World}{base e size n:Nat}{v xs}(h:w.ownsRow base e size v n xs){p:Addr}(u)(a:v.ownBlock≠some p.block):(w.setCell p u).ownsRow base e size v n xs:=by
 refine h.kept (row:=some p.block) ⟨rfl,rfl,rfl,by simp[World.setCell],λk c b=>F9 w p u k (λe=>b (by rw[e]))⟩ (.inr a)
theorem zhy{w:World}{b:Nat}{o}(h:w.heap[b]?=some o):b<w.heap.size:=by
 rcases E0 b w.heap.size with a|c
 ·exact a
 ·rw[G6 c]at h;cases h
theorem St.next{w a d}{b:Nat}{e v l}(h:St w a b e v l)(c:Below a.heap.size a d):St w d b e v l:=
 ⟨qp h.own c,h.M1.trans (c.mono h.M1.size),(c.block b (zhy h.P6)).trans h.P6,h.ne,h.le⟩
theorem St.start{w wr v l}(c)(a:wr.ownsRow w.heap.size 46 3 v l.length (R6 l))(b:Below w.heap.size w wr):St w (wr.alloc (.cells c 46)) wr.heap.size c v l:=
 ⟨a.alloc _,b.alloc b.size _,A5 wr _,λh=>by have:=(a.lt _ h).2;omega,b.size⟩
theorem St.cell{w a}{b:Nat}{c v l}(h:St w a b c v l)(j:Nat):a.cell? ⟨b,j,none⟩=c[j]?:=x6 h.P6 j
theorem St.ZR{w a}{b:Nat}{c v l}(h:St w a b c v l)(j:Nat):a.frozen? ⟨b,j,none⟩=false:=B4 h.P6 j
structure O4(w:World):Prop where
 maxLen:zo w
 zet:ze6 w
 pow:Lib.TabIs prog w "internal/strconv.uint64pow10" .u64 Lib.pow10Tab
 spc:Lib.TabIs prog w "strings.asciiSpace" .u8 Lib.asciiSpaceTab
 xM:10<w.heap.size
theorem O4.to{w w'}(h:O4 w)(a:Below w.heap.size w w'):O4 w' where
 maxLen:=h.maxLen.below a (by have:=h.xM;show 2<_;omega)
 zet:=by
  obtain⟨⟨b,c,d⟩,e,f,i⟩:=h.zet;have:=h.xM;exact⟨⟨b,(a.cell (p:=⟨3,0,none⟩) (by show 3<_;omega)).trans c,d⟩,e,(a.cell (p:=⟨4,0,none⟩) (by show 4<_;omega)).trans f,i⟩
 pow:=TabIs_below (g:=5) (by kernel_rfl) h.pow a
 spc:=TabIs_below (g:=0) (by kernel_rfl) h.spc a
 xM:=A7 h.xM a.size
theorem zgS(l:Bs):(Lib.index l [10]= -1/\M4 (λc=>c !=10) l=l.length)\/(0<=Lib.index l [10]/\(Lib.index l [10]).toNat=M4 (λc=>c !=10) l):=by
 induction l with
 |nil=>left;exact⟨by simp[Lib.index],rfl⟩
 |cons b l g=>
  rw[Lib.index]
  by_cases a:b=10
  ·subst a;right;simp[List.isPrefixOf,M4]
  ·have h:((10:UInt8)==b)=false:=by simpa using λe=>a e.symm
   have i:([10]:Bs).isPrefixOf (b::l)=false:=by simp[List.isPrefixOf,h]
   have j:M4 (λc=>c !=10) (b::l)=1+M4 (λc=>c !=10) l:=by simp[M4,a];omega
   rw[i,j,A8]
   rcases g with⟨d,f⟩|⟨d,f⟩
   ·left;rw[d,f];exact⟨by simp,by omega⟩
   ·right
    have k:(Lib.index l [10]== -1)=false:=by rw[B0];omega
    simp only[k,C2,if_false];omega
theorem zmH(l:Bs):(Lib.cut l [10]).1.length=M4 (λc=>c !=10) l:=by
 have d:=Xb (λc=>c !=10) l;unfold Lib.cut
 rcases zgS l with⟨a,b⟩|⟨a,b⟩
 ·rw[a,B5 (by omega)];exact b.symm
 ·rw[C8 a,b];simp;omega
theorem zop(s:ByteArray)(k:Nat)(w)(hs:s.size<=4000)(d:zo w):
 Calls prog 75 #[.string (s.extract k s.size),.string ⟨#[10]⟩] w λe w'=>(∃(a b:ByteArray)(c:Bool),e=.returned (.tuple #[.string a,.string b,.bool c])/\a.size=M4 (λc=>c !=10) (s.data.toList.drop k))/\Below w.heap.size w w':=by
 obtain⟨m,d⟩:=d;refine(Tryz.strings_Cut (s.extract k s.size) ⟨#[10]⟩ m w (by simp;omega) d).mono ?_;rintro e w' ⟨rfl,n,rfl⟩;refine⟨⟨_,_,_,rfl,?_⟩,J6 (x8 _ _) n⟩;rw[<-zmH,xT];rfl
def zj6(u:Nat):ByteArray:=⟨(Lib.decDigits u).toArray⟩
theorem zhX(u:Nat)(a:u<18446744073709551616)(w)(b:Lib.TabIs prog w "internal/strconv.uint64pow10" .u64 Lib.pow10Tab):
 Calls prog 77 #[.int .u64 u,.int .i64 10] w λe w'=>e=.returned (.string (zj6 u))/\Below w.heap.size w w':=zpr u a w b
theorem zbU(w:World)(b:Nat)(a c o):(((w.setCell ⟨b,0,none⟩ a).setCell ⟨b,1,none⟩ c).alloc o).heap[w.heap.size]?=some o:=by
 have:=A5 ((w.setCell ⟨b,0,none⟩ a).setCell ⟨b,1,none⟩ c) o;simpa[World.setCell]using this
theorem zjW(w:World)(b:Nat)(u o):((w.setCell ⟨b,1,none⟩ u).alloc o).heap[w.heap.size]?=some o:=by
 have:=A5 (w.setCell ⟨b,1,none⟩ u) o;simpa[World.setCell]using this
theorem xZ{w w':World}(h:Below w.drew.heap.size w.drew w'):Below w.heap.size w w':=⟨h.os,h.tape,h.output,h.size,h.block⟩
theorem zjx(p)(l:Bs):(l.take (l.takeWhile p).length).all p=true:=by
 induction l with
 |nil=>rfl
 |cons c l a=>cases h:p c<;>simp[h];simpa using a
def Zq:List Bs:=[[60,61],[62,61],[61,61],[33,61],[38,38],[124,124],[43],[45],[42],[47],[37],[60],[62],[61],[33],[40],[41],[123],[125],[44],[59],[58],[64]]
def ys(D:Bs)(n:Nat)(p:Bs):Nat:=if n=0/\Lib.hasPrefix D p=true then p.length else n
def jg(ps:List Bs)(D:Bs):Nat:=ps.foldl (ys D) 0
theorem zbb(D:Bs)(ps:List Bs): ∀n,n≠0->ps.foldl (ys D) n=n:=by
 induction ps with
 |nil=>intro n _;rfl
 |cons p ps b=>
  intro n a;have:ys D n p=n:=by unfold ys;rw[B5 (λh=>a h.1)]
  rw[List.foldl_cons,this];exact b n a
theorem zdf(D:Bs)(L:Nat)(b:L≠0)(ps:List Bs)(h: ∀p∈ps,p.length=L):ps.foldl (ys D) 0=if ps.any (Lib.hasPrefix D)then L else 0:=by
 induction ps with
 |nil=>rfl
 |cons p ps c=>
  rw[List.foldl_cons,List.any_cons];have d:=h p (B2 ..);cases a:Lib.hasPrefix D p
  ·have:ys D 0 p=0:=by unfold ys;rw[B5 (by simp[a])]
   rw[this,c (λq e=>h q (x5 _ e))];simp
  ·have:ys D 0 p=L:=by unfold ys;rw[C8 ⟨rfl,a⟩,d]
   rw[this,zbb D ps L b];simp
theorem zd5:Zq=zz++JC.map (λc=>[c]):=by decide
theorem zpo(D:Bs):zz.any (Lib.hasPrefix D)=zz.contains (D.take 2):=by
 rcases D with _|⟨a,_|⟨b,r⟩⟩
 ·decide
 ·simp[zz,Lib.hasPrefix,List.isPrefixOf]
 ·rw[F7]
  simp[zz,Lib.hasPrefix,List.isPrefixOf];simp only[eq_comm]
theorem zpa(D:Bs):(JC.map (λc=>[c])).any (Lib.hasPrefix D)=(JC.contains (D.headD 0)&&decide (0<D.length)):=by
 rcases D with _|⟨a,r⟩
 ·decide
 ·rw[F7]
  simp[Lib.hasPrefix,List.isPrefixOf]
theorem zdD(D:Bs):jg Zq D=P7 D:=by
 unfold jg;rw[zd5,List.foldl_append,zdf D 2 (by decide) zz (by decide),zpo];unfold P7;cases h:zz.contains (D.take 2)
 ·simp only[C2,if_false]
  rw[zdf D 1 (by decide) _ (by simp),zpa]
 ·simp only[if_true]
  exact zbb D _ 2 (by decide)
def zc4(j:Nat):ByteArray:=⟨(Zq.getD j []).toArray⟩
def zbT:Array Value:=(Zq.map λx=>Value.string ⟨x.toArray⟩).toArray
theorem zgc(j:Nat)(h:j<23):zbT[j]?=some (.string (zc4 j)):=by
 have:j<Zq.length:=h;simp[zbT,zc4,this,List.getD_eq_getElem?_getD]
theorem zgH(w)(a:Lib.TabIs prog w "strings.asciiSpace" .u8 Lib.asciiSpaceTab):
 Calls prog 79 #[.string ⟨#[60,61,32,62,61,32,61,61,32,33,61,32,38,38,32,124,124,32,43,32,45,32,42,32,47,32,37,32,60,32,62,32,61,32,33,32,40,32,41,32,123,32,125,32,44,32,59,32,58,32,64]⟩] w λe w'=>e=.returned (.slice (some ⟨w.heap.size,0,none⟩) 23 23)/\w.alloc (.cells zbT 9)=w':=by
 refine(Tryz.strings_Fields _ w (by decide) (ascii_of_all (by decide)) a).mono ?_;rintro e w' ⟨rfl,rfl⟩;have b:Lib.fields (ByteArray.data ⟨#[60,61,32,62,61,32,61,61,32,33,61,32,38,38,32,124,124,32,43,32,45,32,42,32,47,32,37,32,60,32,62,32,61,32,33,32,40,32,41,32,123,32,125,32,44,32,59,32,58,32,64]⟩).toList=Zq:=by decide+kernel
 rw[b];exact⟨rfl,rfl⟩
theorem zgU(s:ByteArray)(k j:Nat)(w:World)(t:Bool)(a:Lib.hasPrefix (s.data.toList.drop k) (Zq.getD j [])=t):
 Calls prog 80 #[.string (s.extract k s.size),.string (zc4 j)] w λe w'=>e=.returned (.bool t)/\w=w':=by
 refine(Tryz.strings_HasPrefix _ _ w).mono ?_;rintro e w' ⟨rfl,rfl⟩;refine⟨?_,rfl⟩;rw[xT,<-a];rfl
theorem zfX(j:Nat):(zc4 j).size=(Zq.getD j []).length:=by simp[zc4,ByteArray.size]
theorem QH(D:Bs)(j:Nat)(h:j<23):jg (Zq.take (j+1)) D=ys D (jg (Zq.take j) D) (Zq.getD j []):=by
 have a:j<Zq.length:=h;unfold jg;rw[List.take_succ_eq_append_getElem a,List.foldl_append,List.getD_eq_getElem?_getD,x9 a];rfl
theorem St.zoS{w a}{b:Nat}{c v l}(h:St w a b c v l)(j:Nat)(u):St w (a.setCell ⟨b,j,none⟩ u) b (c.setIfInBounds j u) v l:=
 ⟨zI h.own _ h.ne,h.M1.setCell (p:=⟨b,j,none⟩) h.le _,by have:=h.P6;simp[World.setCell,Array.getElem?_modify,this],h.ne,h.le⟩
theorem St.alloc{w a}{b:Nat}{c v l}(h:St w a b c v l)(o):St w (a.alloc o) b c v l:=
 ⟨h.own.alloc o,h.M1.alloc h.M1.size o,(Below.heap_alloc a o b (zhy h.P6)).trans h.P6,h.ne,h.le⟩
theorem zfS(s:ByteArray)(w r)(hs:s.size<=4000)(hm:O4 w)(hr:xG s 0 [] r):
 Calls prog 20 #[.string s] w λe w'=> ∃v,e=.returned (.tuple #[v,.int .i64 (zhM r),.int .i64 (zeh r)])/\w'.ownsRow w.heap.size 46 3 v r.2.length (R6 r.2)/\Below w.heap.size w w':=by
 have HR:=qh hr;clear hr;have HG:=qh hm;clear hm
 go_enter func20,ntmps20
 go_wp2_with fail
 go_loopw[5,6] (λv i wr=> ∃(k:Nat)(l:List Wd),k<=s.size/\i=.int .i64 k/\l.length<=k/\wr.ownsRow w.heap.size 46 3 v l.length (R6 l)/\Below w.heap.size w wr/\Hid (xG s k l r)) (λ_ i _=>s.size-(intOf i).toNat)
 case atStart=>exact⟨0,[],D0 _,rfl,D0 _,G4 _ _ _ _,x8 _ _,HR⟩
 case round=>
  obtain⟨k,l,hk,rfl,hl,O,hb,P⟩:=hrel;have b3:=hb.size
  by_cases f:k<s.size
  case neg=>
   have HE:=qh (P.out.zbX (by omega))
   go_wp2_with fail
   go_ret3
   exact⟨_,by rw[HE.out];rfl,by rw[HE.out];exact O,hb⟩
  obtain⟨m,hm⟩: ∃m,M4 X8 (s.data.toList.drop k)=m:=⟨_,rfl⟩;have c8:k+m<=s.size:=by have:=Xb X8 (s.data.toList.drop k);rw[hm,I3,R5]at this;omega
  have Q:=qh hm;clear hm
  go_wp2_with fail
  refine(zos s k _).mono ?_;rintro e w1 ⟨⟨y,rfl,hy⟩,X⟩;rw[Q.out]at hy;have c9:((s.size-k:Nat):Int)-(y.size:Int)=(m:Int):=by omega
  have a2:Hid (St w (w1.alloc (.cells #[.int .i64 0,.string ⟨#[]⟩,.int .i64 k] 46)) w1.heap.size #[.int .i64 0,.string ⟨#[]⟩,.int .i64 k] u5 l):=qh (St.start _ (qp O X) (hb.trans (X.mono b3)));have b4:=qh X;clear X O hy
  go_wp2_with fail
  obtain⟨b,a8⟩: ∃b,b=w1.heap.size:=⟨_,rfl⟩;cases T:qZ s[k]
  case true=>
   have a3:=qh (P.out.JE f (YN f T));refine(zn7 s k f true _ T).mono ?_;rintro e w2 ⟨rfl,R⟩;have C:=qh (a2.out.next R);clear R T
   go_wp2_with fail
   go_roundw
   case rel=>exact⟨k+1,l,by omega,by go_num,by omega,C.out.own,C.out.M1,a3⟩
   case measure=>simp[intOf];omega
  refine(zn7 s k f false _ T).mono ?_;rintro e w2 ⟨rfl,R⟩;have C:=qh (a2.out.next R);clear R;rw[<-a8]at C|-;clear a8 a2 b4
  by_cases hH:s[k]=35
  ·have a3:=qh (P.out.JE f (Zy f T hH))
   have e4:(((s.extract k s.size)[0]'(by simp;omega)).toNat==35)=true:=by
    have:=xx (s.extract k s.size) (by simp;omega);rw[xT,qR s k f,hH]at this;rw[<-this];rfl
   have b5:((((s.extract k s.size)[0]'(by simp;omega)).toNat:Int)==35)=true:=by rw[beq_iff_eq]at e4|-;omega
   clear e4 hH T
   go_wp2_with fail
   refine(zop s k _ hs (HG.out.to C.out.M1).maxLen).mono ?_;rintro e I ⟨⟨a,bb,c,rfl,ha⟩,F⟩;have d:=qh (C.out.next F);have E:Hid (xG s (k+a.size) l r):=qh (by rw[ha];exact a3.out);have d0:k+a.size<=s.size:=by have:=Xb (λc=>c !=10) (s.data.toList.drop k);rw[I3,R5]at this;omega
   have c7:0<a.size:=by
    rw[ha,zZ s (λc=>c !=10) k f ?_]
    ·omega
    ·have:=b5;rw[beq_iff_eq]at this
     have h2:=xx (s.extract k s.size) (by simp;omega);rw[xT,qR s k f]at h2;rw[bne_iff_ne,h2];intro h3;rw[h3]at this;revert this;decide
   clear F ha
   go_wp2_with fail
   go_roundw
   case rel=>exact⟨k+a.size,l,by omega,by go_num,by omega,d.out.own,d.out.M1,E⟩
   case measure=>simp[intOf];omega
  have e4:((((s.extract k s.size)[0]'(by simp;omega)).toNat:Int)==35)=false:=by
   have:=xx (s.extract k s.size) (by simp;omega);rw[xT,qR s k f]at this;rw[B0,<-this];intro h;exact hH (UInt8.toNat_inj.1 (show s[k].toNat=35 by omega))
  cases U:qX s[k]
  case true=>
   have V:=qh (Jr f U);have b6:0<m:=by have:=zZ s X8 k f (by simp[X8,U]);rw[Q.out]at this;omega
   have HD:=qh U;clear U T hH
   go_wp2_with fail
   refine(zon s k f true _ HD.out).mono ?_;rintro e I ⟨rfl,F⟩;have d:=qh (C.out.next F);clear F;have J:Hid (((s.extract k s.size).extract 0 m).data.toList=(s.data.toList.drop k).take m):=qh (zbS s k m);have a9:((s.extract k s.size).extract 0 m).size=m:=by simp;omega
   have K:=qh a9;clear a9
   go_wp2_with fail
   refine(zkc ((s.extract k s.size).extract 0 m) (by rw[K.out];omega) (by rw[K.out];omega) _ (HG.out.to d.out.M1).zet (by have:=(HG.out.to d.out.M1).xM;omega)).mono ?_;rintro e N ⟨⟨u,ev,rfl,hu,a4⟩,b0⟩;have t:=qh (d.out.next b0);clear b0
   rcases a4 with⟨b1,rfl⟩|⟨b2,te,pe,rfl⟩
   case inr=>
    have L:zj ((s.data.toList.drop k).take m)=false:=by
     cases L:zj ((s.data.toList.drop k).take m)
     ·rfl
     ·exfalso
      obtain⟨u',h1,_⟩:=zhj _ (by intro h;have:=K.out;rw[<-R5,J.out,h]at this;simp at this;omega) L;exact b2 u' (by rw[J.out];exact h1)
    have B:=qh (P.out.ZM f (by rw[V.out,Q.out,L];rfl));clear b2 L
    go_wp2_with fail
    go_quiet (fail)
    go_wp2_with fail
    go_ret3
    exact⟨_,by rw[B.out];rfl,by rw[B.out];exact G4 _ _ _ _,J6 t.out.M1 _⟩
   case inl=>
    have b7:=qh b1;clear b1;have HU:=qh hu;clear hu;have HP:=qh (HG.out.to t.out.M1).pow
    by_cases D:Lib.decDigits u=(s.data.toList.drop k).take m/\m<=12
    case pos=>
     obtain⟨Y,b8⟩:=D;have L:zj ((s.data.toList.drop k).take m)=true:=by
      rw[<-Y];apply zl3;rw[Y,<-J.out,R5,K.out];exact b8
     have E:Hid (xG s (k+m) (l++[⟨1,s.extract k (k+m),k⟩]) r):=qh (by
      have:=P.out.xk f (c:=1) (n:=m) (by rw[V.out,Q.out,L];rfl);exact this)
     have a1:((zj6 u).toList==((s.extract k s.size).extract 0 m).toList)=true:=by
      rw[beq_iff_eq,C7,C7,J.out];exact Y
     clear L Y
     go_wp2_with fail
     have b9:m<=s.size-k:=by omega
     have i0:(0:Int)<=(m:Int):=by omega
     have i1:(m:Int)<=((s.size-k:Nat):Int):=by omega
     have i2:((0:Int)<=(m:Int)/\(m:Int)<=((s.size-k:Nat):Int)):=⟨i0,i1⟩
     go_region_held3 (λ_=>True) (trivial) (first|(go_at_call 77;refine(zhX u HU.out _ (by exact HP.out)).mono ?_;rintro e W ⟨rfl,G⟩))
     have z:=qh (t.out.next (xZ G));clear G;have c0:W.cell? ⟨b,0,none⟩=some (.int .i64 0):=z.out.cell 0;have c1:W.cell? ⟨b,1,none⟩=some (.string ⟨#[]⟩):=z.out.cell 1;have c2:W.cell? ⟨b,2,none⟩=some (.int .i64 k):=z.out.cell 2;have f0:W.frozen? ⟨b,0,none⟩=false:=z.out.ZR 0;have f1:W.frozen? ⟨b,1,none⟩=false:=z.out.ZR 1
     go_wp2_with(at_builtin;go_must(refine N0 qe rfl _ _ rfl w.heap.size _ l.length (R6 l) rfl ((zI (zI z.out.own _ z.out.ne) _ z.out.ne).alloc _) W.heap.size 1 #[.int .i64 1,.string ((s.extract k s.size).extract 0 m),.int .i64 k] rfl (zbU _ _ _ _ _) rfl (by simp[Value.oneCell']) (by omega) (by have:=z.out.M1.size;simp;omega) ?_);intro g a5 w9 A o _ _;have H:=Q7 (((z.out.M1.setCell (p:=⟨b,0,none⟩) z.out.le _).setCell (p:=⟨b,1,none⟩) z.out.le _).alloc (by have:=z.out.M1.size;simp;omega) _) ((zI (zI z.out.own _ z.out.ne) _ z.out.ne).alloc _) (x7 _) (by have:=z.out.M1.size;simp;omega) o;clear o)
     go_roundw
     case rel=>exact⟨k+m,l++[⟨1,s.extract k (k+m),k⟩],by omega,by go_num,by simp;omega,by rw[V0,A9,<-zbt];exact A,H,E⟩
     case measure=>simp[intOf];omega
    case neg=>
     have L:zj ((s.data.toList.drop k).take m)=false:=by
      cases L:zj ((s.data.toList.drop k).take m)
      ·rfl
      ·exfalso
       obtain⟨u',h1,h2⟩:=zhj _ (by intro h;have:=K.out;rw[<-R5,J.out,h]at this;simp at this;omega) L;rw[<-J.out,b7.out]at h1;cases h1;have h3:=(Zv _ L).1;rw[<-J.out,R5,K.out]at h3;exact D ⟨h2,h3⟩
     have B:=qh (P.out.ZM f (by rw[V.out,Q.out,L];rfl));clear L;have b9:m<=s.size-k:=by omega
     have i0:(0:Int)<=(m:Int):=by omega
     have i1:(m:Int)<=((s.size-k:Nat):Int):=by omega
     by_cases Z:Lib.decDigits u=(s.data.toList.drop k).take m
     ·have d1:12<m:=by
       rcases E0 12 m with h|h
       ·exact h
       ·exact H9 ⟨Z,h⟩ D
      have a1:((zj6 u).toList==((s.extract k s.size).extract 0 m).toList)=true:=by
       rw[beq_iff_eq,C7,C7,J.out];exact Z
      clear Z D
      go_wp2_with fail
      go_region_held3 (λ_=>True) (trivial) (first|(go_at_call 77;refine(zhX u HU.out _ (by exact HP.out)).mono ?_;rintro e W ⟨rfl,G⟩))
      have a6:=qh (t.out.M1.trans ((xZ G).mono t.out.M1.size));clear G
      go_wp2_with fail
      go_ret3
      exact⟨_,by rw[B.out];rfl,by rw[B.out];exact G4 _ _ _ _,a6.out⟩
     ·have a1:((zj6 u).toList==((s.extract k s.size).extract 0 m).toList)=false:=by
       rw[B0,C7,C7,J.out];exact Z
      clear Z D
      go_wp2_with fail
      first|(go_region_with (go_at_call 77;refine(zhX u HU.out _ (by exact HP.out)).mono ?_;rintro e W ⟨rfl,G⟩))|fail
      all_goals have a6:=qh (t.out.M1.trans ((xZ G).mono t.out.M1.size))
      all_goals clear G
      all_goals go_wp2_with fail
      all_goals go_ret3
      all_goals exact⟨_,by rw[B.out];rfl,by rw[B.out];exact G4 _ _ _ _,a6.out⟩
  cases M:Zl s[k]
  case true=>
   have V:=qh (Ji f M);have b6:0<m:=by have:=zZ s X8 k f (by simp[X8,M]);rw[Q.out]at this;omega
   have J:Hid (((s.extract k s.size).extract 0 m).data.toList=(s.data.toList.drop k).take m):=qh (zbS s k m);have HA:Hid (((s.extract k s.size).extract 0 m).data.toList.all X8=true):=qh (by
    rw[J.out,<-Q.out];unfold M4;exact zjx X8 _)
   have HD:=qh U;clear U M T hH
   go_wp2_with fail
   refine(zon s k f false _ HD.out).mono ?_;rintro e I ⟨rfl,F⟩;have d:=qh (C.out.next F);clear F;cases hK:qd ((s.data.toList.drop k).take m)
   case true=>
    have E:Hid (xG s (k+m) (l++[⟨3,s.extract k (k+m),k⟩]) r):=qh (P.out.xk f (c:=3) (n:=m) (by rw[V.out,Q.out,hK];rfl));have HK:Hid (qd ((s.extract k s.size).extract 0 m).data.toList=true):=qh (by rw[J.out];exact hK);clear hK
    go_wp2_with fail
    refine(zfk _ true _ HA.out HK.out (HG.out.to d.out.M1).maxLen).mono ?_;rintro e N ⟨rfl,rfl⟩;have c0:I.cell? ⟨b,0,none⟩=some (.int .i64 0):=d.out.cell 0;have c1:I.cell? ⟨b,1,none⟩=some (.string ⟨#[]⟩):=d.out.cell 1;have c2:I.cell? ⟨b,2,none⟩=some (.int .i64 k):=d.out.cell 2;have f0:I.frozen? ⟨b,0,none⟩=false:=d.out.ZR 0;have f1:I.frozen? ⟨b,1,none⟩=false:=d.out.ZR 1
    go_wp2_with(at_builtin;go_must(refine N0 qe rfl _ _ rfl w.heap.size _ l.length (R6 l) rfl ((zI (zI d.out.own _ d.out.ne) _ d.out.ne).alloc _) I.heap.size 1 #[.int .i64 3,.string ((s.extract k s.size).extract 0 m),.int .i64 k] rfl (zbU _ _ _ _ _) rfl (by simp[Value.oneCell']) (by omega) (by have:=d.out.M1.size;simp;omega) ?_);intro g a5 w9 A o _ _;have H:=Q7 (((d.out.M1.setCell (p:=⟨b,0,none⟩) d.out.le _).setCell (p:=⟨b,1,none⟩) d.out.le _).alloc (by have:=d.out.M1.size;simp;omega) _) ((zI (zI d.out.own _ d.out.ne) _ d.out.ne).alloc _) (x7 _) (by have:=d.out.M1.size;simp;omega) o;clear o)
    go_roundw
    case rel=>exact⟨k+m,l++[⟨3,s.extract k (k+m),k⟩],by omega,by go_num,by simp;omega,by rw[V0,A9,<-zbt];exact A,H,E⟩
    case measure=>simp[intOf];omega
   case false=>
    have HK:Hid (qd ((s.extract k s.size).extract 0 m).data.toList=false):=qh (by rw[J.out];exact hK)
    by_cases d2:16<m
    ·have B:=qh (P.out.ZM f (by rw[V.out,Q.out,hK,B5 (by simp),C8 (by simp;omega)]))
     clear hK
     go_wp2_with fail
     refine(zfk _ false _ HA.out HK.out (HG.out.to d.out.M1).maxLen).mono ?_;rintro e N ⟨rfl,rfl⟩
     go_wp2_with fail
     go_ret3
     exact⟨_,by rw[B.out];rfl,by rw[B.out];exact G4 _ _ _ _,d.out.M1⟩
    ·have E:Hid (xG s (k+m) (l++[⟨2,s.extract k (k+m),k⟩]) r):=qh (P.out.xk f (c:=2) (n:=m) (by rw[V.out,Q.out,hK,B5 (by simp),B5 (by simp;omega)]))
     clear hK
     go_wp2_with fail
     refine(zfk _ false _ HA.out HK.out (HG.out.to d.out.M1).maxLen).mono ?_;rintro e N ⟨rfl,rfl⟩;have c0:I.cell? ⟨b,0,none⟩=some (.int .i64 0):=d.out.cell 0;have c1:I.cell? ⟨b,1,none⟩=some (.string ⟨#[]⟩):=d.out.cell 1;have c2:I.cell? ⟨b,2,none⟩=some (.int .i64 k):=d.out.cell 2;have f0:I.frozen? ⟨b,0,none⟩=false:=d.out.ZR 0;have f1:I.frozen? ⟨b,1,none⟩=false:=d.out.ZR 1
     go_wp2_with(at_builtin;go_must(refine N0 qe rfl _ _ rfl w.heap.size _ l.length (R6 l) rfl ((zI (zI d.out.own _ d.out.ne) _ d.out.ne).alloc _) I.heap.size 1 #[.int .i64 2,.string ((s.extract k s.size).extract 0 m),.int .i64 k] rfl (zbU _ _ _ _ _) rfl (by simp[Value.oneCell']) (by omega) (by have:=d.out.M1.size;simp;omega) ?_);intro g a5 w9 A o _ _;have H:=Q7 (((d.out.M1.setCell (p:=⟨b,0,none⟩) d.out.le _).setCell (p:=⟨b,1,none⟩) d.out.le _).alloc (by have:=d.out.M1.size;simp;omega) _) ((zI (zI d.out.own _ d.out.ne) _ d.out.ne).alloc _) (x7 _) (by have:=d.out.M1.size;simp;omega) o;clear o)
     go_roundw
     case rel=>exact⟨k+m,l++[⟨2,s.extract k (k+m),k⟩],by omega,by go_num,by simp;omega,by rw[V0,A9,<-zbt];exact A,H,E⟩
     case measure=>simp[intOf];omega
  have c3:m=0:=by
   rw[<-Q.out,zbu s X8 k f (by simp[X8,U,M])]
  obtain⟨n,hn⟩: ∃n,P7 (s.data.toList.drop k)=n:=⟨_,rfl⟩;have V:=qh (Zu f T hH U M hn);have d3:n<=s.size-k:=by have:=(yQ (s.data.toList.drop k)).1;rw[hn,I3,R5]at this;exact this
  have HN:=qh hn;have HD:=qh U;clear U M T hH hn;subst c3;have c0:w2.cell? ⟨b,0,none⟩=some (.int .i64 0):=C.out.cell 0;have f0:w2.frozen? ⟨b,0,none⟩=false:=C.out.ZR 0;have c4:=qh (HG.out.to (C.out.zoS 0 (.int .i64 4)).M1).spc
  go_wp2_with fail
  refine(zgH _ c4.out).mono ?_;rintro e N ⟨rfl,a7⟩;have t:Hid (St w N b #[.int .i64 4,.string ⟨#[]⟩,.int .i64 k] u5 l):=qh (by rw[<-a7];exact(C.out.zoS 0 (.int .i64 4)).alloc _);obtain⟨q,Z⟩: ∃q,q=(w2.setCell ⟨b,0,none⟩ (.int .i64 4)).heap.size:=⟨_,rfl⟩;have HQ:Hid (N.heap[q]?=some (.cells zbT 9 (0,0))):=qh (by rw[<-a7,Z];exact A5 _ _);rw[<-Z];clear a7 Z c0 f0
  go_wp2_with fail
  go_loop [38,8] (λi x=> ∃j c:Nat,j<=23/\i=.int .i64 j/\x=.int .i64 c/\Hid (jg (Zq.take j) (s.data.toList.drop k)=c)) (λi _=>23-(intOf i).toNat)
  case atStart=>exact⟨0,0,by omega,rfl,rfl,qh rfl⟩
  case round=>
   obtain⟨j,c,hj,rfl,rfl,HF⟩:=hrel
   by_cases a0:j<23
   ·have cj:N.cell? ⟨q,j,none⟩=some (.string (zc4 j)):=by rw[x6 HQ.out];exact zgc j a0
    by_cases h0:c=0
    ·subst h0
     cases hp:Lib.hasPrefix (s.data.toList.drop k) (Zq.getD j [])
     ·have S:Hid (jg (Zq.take (j+1)) (s.data.toList.drop k)=0):=qh (by rw[QH _ j a0,HF.out];unfold ys;rw[B5 (by rw[hp];simp)])
      have HP:=qh hp;clear hp
      go_wp2_with fail
      refine(zgU s k j _ false HP.out).mono ?_;rintro e W ⟨rfl,rfl⟩
      go_wp2_with fail
      go_round
      case rel=>exact⟨j+1,0,by omega,by go_num,rfl,S⟩
      case measure=>simp[intOf];omega
     ·have S:Hid (jg (Zq.take (j+1)) (s.data.toList.drop k)=(zc4 j).size):=qh (by rw[QH _ j a0,HF.out];unfold ys;rw[C8 ⟨rfl,hp⟩,zfX])
      have HP:=qh hp;clear hp
      go_wp2_with fail
      refine(zgU s k j _ true HP.out).mono ?_;rintro e W ⟨rfl,rfl⟩
      go_wp2_with fail
      go_round
      case rel=>exact⟨j+1,(zc4 j).size,by omega,by go_num,rfl,S⟩
      case measure=>simp[intOf];omega
    ·have S:Hid (jg (Zq.take (j+1)) (s.data.toList.drop k)=c):=qh (by rw[QH _ j a0,HF.out];unfold ys;rw[B5 (λh=>h0 h.1)])
     have c5:((c:Int)==0)=false:=by rw[B0];omega
     clear h0
     go_wp2_with fail
     go_round
     case rel=>exact⟨j+1,c,by omega,by go_num,rfl,S⟩
     case measure=>simp[intOf];omega
   ·obtain rfl:j=23:=by omega
    have c6:c=n:=by rw[<-HF.out,<-HN.out];exact zdD _
    subst c6
    by_cases h0:c=0
    ·subst h0
     have B:=qh (P.out.ZM f (by rw[V.out];rfl))
     go_wp2_with fail
     go_ret3
     exact⟨_,by rw[B.out];rfl,by rw[B.out];exact G4 _ _ _ _,t.out.M1⟩
    ·have E:Hid (xG s (k+c) (l++[⟨4,s.extract k (k+c),k⟩]) r):=qh (P.out.xk f (c:=4) (n:=c) (by rw[V.out,B5 h0]))
     have c5:((c:Int)==0)=false:=by rw[B0];omega
     have h1:1<=c:=by omega
     clear h0;have c0:N.cell? ⟨b,0,none⟩=some (.int .i64 4):=t.out.cell 0;have c1:N.cell? ⟨b,1,none⟩=some (.string ⟨#[]⟩):=t.out.cell 1;have c2:N.cell? ⟨b,2,none⟩=some (.int .i64 k):=t.out.cell 2;have f1:N.frozen? ⟨b,1,none⟩=false:=t.out.ZR 1
     go_wp2_with(at_builtin;go_must(refine N0 qe rfl _ _ rfl w.heap.size _ l.length (R6 l) rfl ((zI t.out.own _ t.out.ne).alloc _) N.heap.size 1 #[.int .i64 4,.string ((s.extract k s.size).extract 0 c),.int .i64 k] rfl (zjW _ _ _ _) rfl (by simp[Value.oneCell']) (by omega) (by have:=t.out.M1.size;simp;omega) ?_);intro g a5 w9 A o _ _;have H:=Q7 ((t.out.M1.setCell (p:=⟨b,1,none⟩) t.out.le _).alloc (by have:=t.out.M1.size;simp;omega) _) ((zI t.out.own _ t.out.ne).alloc _) (x7 _) (by have:=t.out.M1.size;simp;omega) o;clear o)
     go_roundw
     case rel=>exact⟨k+c,l++[⟨4,s.extract k (k+c),k⟩],by omega,by go_num,by simp;omega,by rw[V0,A9,<-zbt];exact A,H,E⟩
     case measure=>simp[intOf];omega
end
section
open Go.Shelf
def Zz(s:ByteArray)(p e:Int)(ws:List Wd):Prop:=
 (4000<s.size/\p=0/\e=2/\ws=[])\/(s.size<=4000/\ ∃r,xG s 0 [] r/\p=zhM r/\e=zeh r/\ws=r.2)
def Zz.zfv(s:ByteArray): ∃p e ws,Zz s p e ws:=by
 by_cases h:s.size<=4000
 ·obtain⟨r,a⟩:=xG.zfv s s.size 0 [] (by omega) (by omega)
  exact⟨_,_,_,.inr ⟨h,r,a,rfl,rfl,rfl⟩⟩
 ·exact⟨_,_,_,.inl ⟨by omega,rfl,rfl,rfl⟩⟩
def Tw.xG.zB{s:ByteArray}{k:Nat}{l r}(h:xG s k l r):l.length<=k->k<=s.size->(∀x∈l,x.K0.size<=s.size)->r.2.length<=s.size/\ ∀x∈r.2,x.K0.size<=s.size:=by
 induction h with
 |done e=>intro j m f;exact⟨by simp;omega,f⟩
 |J9 _ _=>intro j m f;exact⟨by simp,by simp⟩
 | @skip i n l r j m f o=>
   intro a b c
   rcases E0 s.size (i+n)with p|d
   ·cases f with
    |done e=>omega
    |skip h=>omega
    |Y5 h=>omega
    |J9 h=>omega
   ·exact o (by omega) d c
 | @Y5 i k n l r j m f o=>
   intro a b c;have q:=zcG j m
   rcases E0 s.size (i+n)with p|d
   ·cases f with
    |done e=>omega
    |skip h=>omega
    |Y5 h=>omega
    |J9 h=>omega
   ·refine o (by simp;omega) d λx g=>?_
    rcases List.mem_append.1 g with g|g
    ·exact c x g
    ·simp at g;subst g;simp;omega
def Zz.zB{s:ByteArray}{p e:Int}{ws}(h:Zz s p e ws):ws.length<=4000/\ ∀x∈ws,x.K0.size<=4000:=by
 rcases h with⟨_,_,_,rfl⟩|⟨c,r,d,_,_,rfl⟩
 ·exact⟨by simp,by simp⟩
 ·obtain⟨a,b⟩:=d.zB (by simp) (by omega) (by simp)
  exact⟨by omega,λx f=>C1 (b x f) c⟩
def zjb(s:ByteArray)(w)(p e:Int)(ws)(hs:s.size<=maxLen)(b:O4 w)(a:Zz s p e ws):
 Calls prog 81 #[.string s] w λx w'=>(∃v,x=.returned (.tuple #[v,.int .i64 p,.int .i64 e])/\jZ w' w'.heap.size v ws)/\Below w.heap.size w w':=by
 rcases a with⟨c,rfl,rfl,rfl⟩|⟨c,r,a,rfl,rfl,rfl⟩
 ·unfold maxLen at hs
  go_enter func81,ntmps81
  go_wp2_with fail
  go_ret3
  exact⟨⟨_,rfl,.inl ⟨rfl,rfl⟩⟩,x8 _ _⟩
 ·refine(zdP s w r c b.maxLen (by have:=b.xM;omega) a).mono ?_
  rintro x w' ⟨v,rfl,d,f⟩;exact⟨⟨v,rfl,jZ.ZK d⟩,f⟩
def zjy(s:ByteArray)(w)(p e:Int)(ws)(hs:s.size<=maxLen)(c:O4 w)(a:Zz s p e ws):
 Calls prog 20 #[.string s] w λx w'=>(∃v,x=.returned (.tuple #[v,.int .i64 p,.int .i64 e])/\jZ w' w'.heap.size v ws)/\Below w.heap.size w w':=by
 rcases a with⟨b,rfl,rfl,rfl⟩|⟨b,r,a,rfl,rfl,rfl⟩
 ·unfold maxLen at hs
  go_enter func20,ntmps20
  go_wp2_with fail
  go_ret3
  exact⟨⟨_,rfl,.inl ⟨rfl,rfl⟩⟩,x8 _ _⟩
 ·refine(zfS s w r b c a).mono ?_
  rintro x w' ⟨v,rfl,d,f⟩;exact⟨⟨v,rfl,jZ.ZK d⟩,f⟩
end
end Go.Proofs.YtmngofgminlloaaGreatDoor
namespace Go.Proofs.YtmngofgminlloaaGreatDoor
open Go.RowKit Tw
def ze7(x:Ex)(a:Value):List Value:=[.int .i64 x.I9,.int .i64 x.n,.string x.K0,a,.int .i64 x.pos]
def zeY(s:Sm)(b c d:Value):List Value:=[.int .i64 s.I9,.string s.J2,.int .i64 s.a.I9,.int .i64 s.a.n,.string s.a.K0,b,.int .i64 s.a.pos,c,d,.int .i64 s.pos]
def zfo(f:Fn)(a b c:Value):List Value:=[.string f.J2,a,b,.int .i64 f.out,c,.int .i64 f.pos]
def ZY(w:World)(g a:Nat)(l:List Value):Prop:= ∀j u,l[j]?=some u->w.cell? ⟨g,a+j,none⟩=some u
inductive J7(w:World)(F:Nat->Prop):Value->List Ex->Prop
 |nil (a:Option Addr) (c:Nat):J7 w F (.slice a 0 c) []
 |row (g off cap:Nat) (l:List Ex) (vs:Nat->Value) (hF:F g) (hg:g<w.heap.size) (hc: ∀k x,l[k]?=some x->ZY w g (off+k*5) (ze7 x (vs k)))
  (hr: ∀k x,l[k]?=some x->J7 w F (vs k) x.args):J7 w F (.slice (some ⟨g,off,none⟩) l.length cap) l
inductive K9(w:World)(F:Nat->Prop):Value->List Sm->Prop
 |nil (a:Option Addr) (c:Nat):K9 w F (.slice a 0 c) []
 |row (g off cap:Nat) (l:List Sm) (va vb ve:Nat->Value) (hF:F g) (hg:g<w.heap.size) (hc: ∀k x,l[k]?=some x->ZY w g (off+k*10) (zeY x (va k) (vb k) (ve k)))
  (ha: ∀k x,l[k]?=some x->J7 w F (va k) x.a.args) (hb: ∀k x,l[k]?=some x->K9 w F (vb k) x.J0) (he: ∀k x,l[k]?=some x->K9 w F (ve k) x.M9):
  K9 w F (.slice (some ⟨g,off,none⟩) l.length cap) l
def Jp(F F':Nat->Prop)(w w':World):Prop:= ∀g,F g->g<w.heap.size->F' g/\g<w'.heap.size/\w'.heap[g]?=w.heap[g]?
def ZY.K7{w w'}{g b:Nat}{l}(h:ZY w g b l)(c:w'.heap[g]?=w.heap[g]?):ZY w' g b l:=
 λj u d=>(E8 (a:=⟨g,b+j,none⟩) c).trans (h j u d)
def J7.K7{w w'}{F F':Nat->Prop}(e:Jp F F' w w'){v l}(h:J7 w F v l):J7 w' F' v l:=by
 induction h with
 |nil a c=>exact .nil a c
 |row g b d l f i j m s n=>
  obtain⟨o,p,q⟩:=e g i j;exact .row g b d l f o p (λk x r=>(m k x r).K7 q) n
def K9.K7{w w'}{F F':Nat->Prop}(j:Jp F F' w w'){v l}(h:K9 w F v l):K9 w' F' v l:=by
 induction h with
 |nil a c=>exact .nil a c
 |row g b d l m n o p q r s z A e f=>
  obtain⟨t,u,y⟩:=j g p q;exact .row g b d l m n o t u (λk x i=>(r k x i).K7 y) (λk x i=>(s k x i).K7 j) e f
structure XG(α:Type)where
 cells:α->List Value
 XD:World->(Nat->Prop)->α->Prop
 K7: ∀{w w':World}{F F':Nat->Prop}{a:α},Jp F F' w w'->XD w F a->XD w' F' a
def O8{α:Type}(E:XG α)(w:World)(base T sz:Nat)(v:Value)(l:List α):Prop:=
 w.ownsRow base T sz v l.length (l.flatMap E.cells)/\ ∀a∈l,E.XD w (λg=>base<=g/\v.ownBlock≠some g) a
section
variable {α:Type}{E:XG α}{w w':World}{base T sz:Nat}{v:Value}{l:List α}
theorem O8.nil(E:XG α)(w:World)(base T sz:Nat):O8 E w base T sz (.slice none 0 0) []:=⟨G4 w base T sz,by simp⟩
theorem O8.kept{row}(h:O8 E w base T sz v l)(b:w.grownBy w' row)(c: ∀k,row=some k->k<base\/w.heap.size<=k):O8 E w' base T sz v l:=by
 refine⟨h.1.kept b ?_,λa f=>E.K7 (λg i d=>⟨i,A7 d b.size,b.block g d ?_⟩) (h.2 a f)⟩
 ·cases j:v.ownBlock with
  |none=>exact .inl rfl
  |some k=>right;intro e;have:=h.1.lt k j;have:=c k e.symm;omega
 ·intro e;have:=c g e.symm;omega
theorem O8.below(h:O8 E w base T sz v l)(a:Below w.heap.size w w'):O8 E w' base T sz v l:=
 h.kept (row:=none) ⟨a.os,a.tape,a.output,a.size,λk b _=>a.block k b⟩ (by simp)
theorem O8.qv{a}{g cap:Nat}{F:Nat->Prop}(h:O8 E w base T sz v l)(o:E.XD w F a)(d: ∀g,F g->base<=g/\v.ownBlock≠some g)
 (p:w'.ownsRow base T sz (.slice (some ⟨g,0,none⟩) (l.length+1) cap) (l.length+1) (l.flatMap E.cells++E.cells a)) (i:w.grownBy w' v.ownBlock) (f:v.ownBlock=some g\/g=w.heap.size):
 O8 E w' base T sz (.slice (some ⟨g,0,none⟩) (l.length+1) cap) (l++[a]):=by
 have j: ∀F:Nat->Prop,(∀g,F g->base<=g/\v.ownBlock≠some g)->Jp F (λk=>base<=k/\(Value.slice (some ⟨g,0,none⟩) (l.length+1) cap).ownBlock≠some k) w w':=by
  intro F d k q m;obtain⟨r,n⟩:=d k q;refine⟨⟨r,?_⟩,A7 m i.size,i.block k m (λe=>n e.symm)⟩;rintro e;simp[Value.ownBlock]at e;subst e
  rcases f with e|e
  ·exact n e
  ·omega
 refine⟨by simpa using p,λb c=>?_⟩
 rcases List.mem_append.1 c with c|c
 ·exact E.K7 (j _ λ_ h=>h) (h.2 b c)
 ·simp at c;subst c;exact E.K7 (j _ d) o
end
theorem zY{α}(f)(sz:Nat)(d: ∀a,(f a).length=sz): ∀(l:List α)(k:Nat)(a:α),l[k]?=some a-> ∀(j:Nat)(u:Value),(f a)[j]?=some u->(l.flatMap f)[k*sz+j]?=some u:=by
 intro l
 induction l with
 |nil=>intro k a h;simp at h
 |cons b l e=>
  intro k a h j u c;simp only[List.flatMap_cons];cases k with
  |zero=>
   simp at h;subst h;have g:j<(f b).length:=by rcases E0 j (f b).length with h|h;exact h;rw[C5 h]at c;cases c
   rw[Nat.zero_mul,Nat.zero_add,List.getElem?_append_left g];exact c
  |succ k=>
   have:=e k a (by simpa using h) j u c;rw[List.getElem?_append_right (by rw[d,Nat.succ_mul];omega),d,show(k+1)*sz+j-sz=k*sz+j by rw[Nat.succ_mul];omega];exact this
def xp:XG (Ex×Value)where
 cells a:=ze7 a.1 a.2
 XD w F a:=J7 w F a.2 a.1.args
 K7 hk h:=h.K7 hk
def zH:XG (Sm×Value×Value×Value)where
 cells a:=zeY a.1 a.2.1 a.2.2.1 a.2.2.2
 XD w F a:=J7 w F a.2.1 a.1.a.args/\K9 w F a.2.2.1 a.1.J0/\K9 w F a.2.2.2 a.1.M9
 K7 hk h:=⟨h.1.K7 hk,h.2.1.K7 hk,h.2.2.K7 hk⟩
theorem J7.U9{w:World}{F:Nat->Prop}{g cap:Nat}(l:List (Ex×Value))(d:g<w.heap.size)(e:F g)(f: ∀j u,(l.flatMap xp.cells)[j]?=some u->w.cell? ⟨g,j,none⟩=some u)(h: ∀a∈l,J7 w F a.2 a.1.args):
 J7 w F (.slice (some ⟨g,0,none⟩) l.length cap) (l.map (·.1)):=by
 have:=J7.row (w:=w) (F:=F) g 0 cap (l.map (·.1)) (λk=>((l[k]?).map (·.2)).getD undef) e d
  (λk x c j u i=>by
   obtain⟨a,b,rfl⟩: ∃a,l[k]?=some a/\a.1=x:=by simpa[G2,Option.map_eq_some_iff]using c
   have:=zY xp.cells 5 (λ_=>rfl) l k a b j u (by simpa[xp,b]using i);have:=f _ _ this;simpa using this)
  (λk x c=>by
   obtain⟨a,b,rfl⟩: ∃a,l[k]?=some a/\a.1=x:=by simpa[G2,Option.map_eq_some_iff]using c
   have:=h a (B7 b);simpa[b]using this)
 simpa using this
theorem K9.U9{w:World}{F:Nat->Prop}{g cap:Nat}(l:List (Sm×Value×Value×Value))(e:g<w.heap.size)(f:F g)(i: ∀j u,(l.flatMap zH.cells)[j]?=some u->w.cell? ⟨g,j,none⟩=some u)(d: ∀a∈l,zH.XD w F a):
 K9 w F (.slice (some ⟨g,0,none⟩) l.length cap) (l.map (·.1)):=by
 have c: ∀(k:Nat)(x:Sm),(l.map (·.1))[k]?=some x-> ∃a,l[k]?=some a/\a.1=x:=λk x c=>by simpa[G2,Option.map_eq_some_iff]using c
 have:=K9.row (w:=w) (F:=F) g 0 cap (l.map (·.1)) (λk=>((l[k]?).map (·.2.1)).getD undef) (λk=>((l[k]?).map (·.2.2.1)).getD undef) (λk=>((l[k]?).map (·.2.2.2)).getD undef) f e
  (λk x h j u m=>by
   obtain⟨a,b,rfl⟩:=c k x h;have:=zY zH.cells 10 (λ_=>rfl) l k a b j u (by simpa[zH,b]using m);have:=i _ _ this;simpa using this)
  (λk x h=>by
   obtain⟨a,b,rfl⟩:=c k x h;have:=(d a (B7 b)).1;simpa[b]using this)
  (λk x h=>by
   obtain⟨a,b,rfl⟩:=c k x h;have:=(d a (B7 b)).2.1;simpa[b]using this)
  (λk x h=>by
   obtain⟨a,b,rfl⟩:=c k x h;have:=(d a (B7 b)).2.2;simpa[b]using this)
 simpa using this
theorem zQ{w:World}{base T sz n:Nat}{v xs}(h:w.ownsRow base T sz v n xs):(v=.slice none 0 0/\n=0)\/ ∃g cap,v=.slice (some ⟨g,0,none⟩) n cap/\base<=g/\g<w.heap.size/\ ∀j u,xs[j]?=some u->w.cell? ⟨g,j,none⟩=some u:=by
 rcases h.2 with c|⟨g,cap,d,e,f,b,_,_,_,i⟩
 ·exact .inl c
 ·refine .inr ⟨g,cap,e,f,(Array.getElem?_eq_some_iff.1 b).1,λj u a=>?_⟩
  subst i;rw[x6 b j];rw[List.getElem?_take]at a
  split at a
  ·simpa using a
  ·cases a
theorem O8.args{w}{base T:Nat}{v l}(h:O8 xp w base T 5 v l):J7 w (λg=>base<=g) v (l.map (·.1)):=by
 have b: ∀a∈l,J7 w (λg=>base<=g) a.2 a.1.args:=λa c=>(h.2 a c).K7 λg d e=>⟨d.1,e,rfl⟩
 rcases zQ h.1 with⟨rfl,f⟩|⟨g,i,rfl,j,k,m⟩
 ·cases l with
  |nil=>exact .nil none 0
  |cons=>simp at f
 ·exact J7.U9 l k j m b
theorem O8.qj{w}{base T:Nat}{v l}(h:O8 zH w base T 10 v l):K9 w (λg=>base<=g) v (l.map (·.1)):=by
 have b: ∀a∈l,zH.XD w (λg=>base<=g) a:=λa c=>zH.K7 (λg d e=>⟨d.1,e,rfl⟩) (h.2 a c)
 rcases zQ h.1 with⟨rfl,f⟩|⟨g,i,rfl,j,k,m⟩
 ·cases l with
  |nil=>exact .nil none 0
  |cons=>simp at f
 ·exact K9.U9 l k j m b
theorem J7.JK{w:World}{F:Nat->Prop}{g cap T:Nat}(l:List (Ex×Value))(c:Array Value)(b:c.toList=l.flatMap xp.cells)(d:w.heap[g]?=some (.cells c T (0,0)))(e:F g)(f: ∀a∈l,J7 w F a.2 a.1.args):
 J7 w F (.slice (some ⟨g,0,none⟩) l.length cap) (l.map (·.1)):=
 J7.U9 l (Array.getElem?_eq_some_iff.1 d).1 e (λj u h=>by rw[x6 d j,<-h,<-b];simp) f
theorem K9.JK{w:World}{F:Nat->Prop}{g cap T:Nat}(l:List (Sm×Value×Value×Value))(c:Array Value)(b:c.toList=l.flatMap zH.cells)(d:w.heap[g]?=some (.cells c T (0,0)))(e:F g)(f: ∀a∈l,zH.XD w F a):
 K9 w F (.slice (some ⟨g,0,none⟩) l.length cap) (l.map (·.1)):=
 K9.U9 l (Array.getElem?_eq_some_iff.1 d).1 e (λj u h=>by rw[x6 d j,<-h,<-b];simp) f
theorem ze2{α E w}{base T sz c:Nat}{A}{l:List α}(h:O8 E w base T sz (.slice A l.length c) l):l.length<=c:=by
 obtain⟨-,a⟩:=h.1
 rcases a with⟨e,i⟩|⟨g,b,d,e,-,-,f,-⟩
 ·omega
 ·cases e;exact f
def zU:ByteArray:=⟨#[45]⟩
def jR:ByteArray:=⟨#[33]⟩
def O6:ByteArray:=⟨#[40]⟩
def N4:ByteArray:=⟨#[41]⟩
def xq:ByteArray:=⟨#[116,114,117,101]⟩
def jm:ByteArray:=⟨#[102,97,108,115,101]⟩
def yv:ByteArray:=⟨#[64]⟩
def U0:ByteArray:=⟨#[44]⟩
def L1:ByteArray:=⟨#[]⟩
def K8(ws:List Wd)(i:Nat):Nat:=
 if J3 ws i zU then 1 else if J3 ws i jR then 2 else if J3 ws i O6 then 3 else if J3 ws i xq then 4 else if J3 ws i jm then 5 else if J3 ws i yv then 6
 else if L3 ws i=1 then 7 else if L3 ws i=2 then 8 else 0
inductive Qe where
 |lvl (n i:Nat)|rest (n:Nat) (a:Ex) (i:Nat)|zk (i:Nat)|args (k i:Nat)
inductive Re where
 |ex (x:Ex) (j:Nat)|xH (l:List Ex) (j:Nat)|J9 (j:Nat)
def Qe.at:Qe->Nat
 |.lvl _ i=>i|.rest _ _ i=>i|.zk i=>i|.args _ i=>i
def Y9(ws:List Wd)(en j:Nat)(a b:Ex):Ex:=.mk 6 0 (L8 ws j) [a,b] (J4 ws j en)
inductive De(ws:List Wd)(en:Nat):Qe->Re->Prop
 |lvl6 {i:Nat} {r:Re}:De ws en (.zk i) r->De ws en (.lvl 6 i) r
 |lvl {n i j:Nat} {a:Ex} {r:Re}:n≠6->De ws en (.lvl (n+1) i) (.ex a j)->De ws en (.rest n a j) r->De ws en (.lvl n i) r
 |ziI {n i j:Nat}:n≠6->De ws en (.lvl (n+1) i) (.J9 j)->De ws en (.lvl n i) (.J9 j)
 |stop {n j:Nat} {a:Ex}:O5 ws j≠n->De ws en (.rest n a j) (.ex a j)
 |go {n j j':Nat} {a b:Ex} {r:Re}:n≠3->O5 ws j=n->De ws en (.lvl (n+1) (j+1)) (.ex b j')->De ws en (.rest n (Y9 ws en j a b) j') r->De ws en (.rest n a j) r
 |goB {n j j':Nat} {a:Ex}:O5 ws j=n->De ws en (.lvl (n+1) (j+1)) (.J9 j')->De ws en (.rest n a j) (.J9 j')
 |jx {j j':Nat} {a b:Ex}:O5 ws j=3->De ws en (.lvl 4 (j+1)) (.ex b j')->O5 ws j'≠3->De ws en (.rest 3 a j) (.ex (Y9 ws en j a b) j')
 |JG {j j':Nat} {a b:Ex}:O5 ws j=3->De ws en (.lvl 4 (j+1)) (.ex b j')->O5 ws j'=3->De ws en (.rest 3 a j) (.J9 j')
 |neg {i j:Nat} {y:Ex}:K8 ws i=1->De ws en (.zk (i+1)) (.ex y j)->De ws en (.zk i) (.ex (.mk 4 0 L1 [y] (J4 ws i en)) j)
 |zgm {i j:Nat}:K8 ws i=1->De ws en (.zk (i+1)) (.J9 j)->De ws en (.zk i) (.J9 j)
 |not {i j:Nat} {y:Ex}:K8 ws i=2->De ws en (.zk (i+1)) (.ex y j)->De ws en (.zk i) (.ex (.mk 5 0 L1 [y] (J4 ws i en)) j)
 |zgo {i j:Nat}:K8 ws i=2->De ws en (.zk (i+1)) (.J9 j)->De ws en (.zk i) (.J9 j)
 |par {i j:Nat} {x:Ex}:K8 ws i=3->De ws en (.lvl 1 (i+1)) (.ex x j)->J3 ws j N4=true->De ws en (.zk i) (.ex x (j+1))
 |zep {i j:Nat}:K8 ws i=3->De ws en (.lvl 1 (i+1)) (.J9 j)->De ws en (.zk i) (.J9 j)
 |zeo {i j:Nat} {x:Ex}:K8 ws i=3->De ws en (.lvl 1 (i+1)) (.ex x j)->J3 ws j N4=false->De ws en (.zk i) (.J9 j)
 |tru {i:Nat}:K8 ws i=4->De ws en (.zk i) (.ex (.mk 2 1 L1 [] (J4 ws i en)) (i+1))
 |fls {i:Nat}:K8 ws i=5->De ws en (.zk i) (.ex (.mk 2 0 L1 [] (J4 ws i en)) (i+1))
 |X0 {i j:Nat} {l:List Ex}:K8 ws i=6->L3 ws (i+1)=1->J3 ws (i+2) O6=true->De ws en (.args 0 (i+3)) (.xH l j)->De ws en (.zk i) (.ex (.mk 8 (jv (L8 ws (i+1))) L1 l (J4 ws i en)) j)
 |XB {i j:Nat}:K8 ws i=6->L3 ws (i+1)=1->J3 ws (i+2) O6=true->De ws en (.args 0 (i+3)) (.J9 j)->De ws en (.zk i) (.J9 j)
 |Xz {i:Nat}:K8 ws i=6->L3 ws (i+1)=1->J3 ws (i+2) O6=false->De ws en (.zk i) (.J9 (i+2))
 |XA {i:Nat}:K8 ws i=6->L3 ws (i+1)≠1->De ws en (.zk i) (.J9 (i+1))
 |num {i:Nat}:K8 ws i=7->De ws en (.zk i) (.ex (.mk 1 (jv (L8 ws i)) L1 [] (J4 ws i en)) (i+1))
 |qE {i:Nat}:K8 ws i=8->J3 ws (i+1) O6=false->De ws en (.zk i) (.ex (.mk 3 0 (L8 ws i) [] (J4 ws i en)) (i+1))
 |call {i j:Nat} {l:List Ex}:K8 ws i=8->J3 ws (i+1) O6=true->De ws en (.args 0 (i+2)) (.xH l j)->De ws en (.zk i) (.ex (.mk 7 0 (L8 ws i) l (J4 ws i en)) j)
 |JH {i j:Nat}:K8 ws i=8->J3 ws (i+1) O6=true->De ws en (.args 0 (i+2)) (.J9 j)->De ws en (.zk i) (.J9 j)
 |QX {i:Nat}:K8 ws i=0->De ws en (.zk i) (.J9 i)
 |U4 {k i:Nat}:J3 ws i N4=true->De ws en (.args k i) (.xH [] (i+1))
 |first{i j j':Nat} {x:Ex} {l:List Ex}:J3 ws i N4=false->De ws en (.lvl 1 i) (.ex x j)->De ws en (.args 1 j) (.xH l j')->De ws en (.args 0 i) (.xH (x::l) j')
 |yY {i j j':Nat} {x:Ex}:J3 ws i N4=false->De ws en (.lvl 1 i) (.ex x j)->De ws en (.args 1 j) (.J9 j')->De ws en (.args 0 i) (.J9 j')
 |yZ {i j:Nat}:J3 ws i N4=false->De ws en (.lvl 1 i) (.J9 j)->De ws en (.args 0 i) (.J9 j)
 |next {k i j j':Nat} {x:Ex} {l:List Ex}:J3 ws i N4=false->J3 ws i U0=true->De ws en (.lvl 1 (i+1)) (.ex x j)->De ws en (.args (k+2) j) (.xH l j')->De ws en (.args (k+1) i) (.xH (x::l) j')
 |qY {k i j j':Nat} {x:Ex}:J3 ws i N4=false->J3 ws i U0=true->De ws en (.lvl 1 (i+1)) (.ex x j)->De ws en (.args (k+2) j) (.J9 j')->De ws en (.args (k+1) i) (.J9 j')
 |Qz {k i j:Nat}:J3 ws i N4=false->J3 ws i U0=true->De ws en (.lvl 1 (i+1)) (.J9 j)->De ws en (.args (k+1) i) (.J9 j)
 |QA {k i:Nat}:J3 ws i N4=false->J3 ws i U0=false->De ws en (.args (k+1) i) (.J9 i)
end Go.Proofs.YtmngofgminlloaaGreatDoor
