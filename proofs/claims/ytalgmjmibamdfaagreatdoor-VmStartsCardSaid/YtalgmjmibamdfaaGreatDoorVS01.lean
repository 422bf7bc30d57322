/- Merged. -/
import Derived.Lib.Hide
import Derived.Test.YtalgmjmibamdfaaGreatDoorRows
import Derived.WalkSpells
import Derived.WalkLawsBesides
import Derived.Lib.IndexMore
import Derived.Lib.SlTrimSet
set_option linter.all false
set_option maxHeartbeats 1000000
namespace Go.Proofs.YtalgmjmibamdfaaGreatDoor
abbrev x4:=@List.mem_cons_of_mem
abbrev x5:=@Go.Lib.cell_of_heap
abbrev x6:=@Nat.le_refl
abbrev x7:=@Go.RowKit.Below.refl
abbrev x8:=@List.getElem?_eq_getElem
abbrev x9:=@Go.heap_alloc_new
abbrev y4:=@Go.heap_setCell_same
abbrev y5:=@Nat.lt_of_lt_of_le
abbrev y6:=@List.length_cons
abbrev y7:=@List.length_append
abbrev y8:=@beq_eq_false_iff_ne
abbrev y9:=@List.length_nil
abbrev z5:=@List.mem_cons_self
abbrev z6:=@Go.Lib.frozen_of_heap
abbrev z7:=@if_neg
abbrev z9:=@List.cons_append
abbrev B0:=@List.mem_of_getElem?
abbrev B1:=@List.getElem?_eq_some_iff
abbrev B2:=@List.append_assoc
abbrev B4:=@List.nil_append
abbrev B5:=@Nat.le_trans
abbrev B6:=@Bool.false_eq_true
abbrev B7:=@ByteArray.size_append
abbrev B8:=@Go.heap_alloc_old
abbrev B9:=@List.getElem?_eq_none
abbrev C0:=@List.length_map
abbrev C4:=@Go.ByteArray.toList_eq
abbrev C5:=@if_pos
abbrev C6:=@Nat.zero_le
abbrev D0:=@Array.getElem?_setIfInBounds_ne
abbrev D4:=@List.size_toArray
abbrev D6:=@Nat.lt_or_ge
abbrev D9:=@List.mem_cons
abbrev E0:=@Go.World.cell?_of_block
abbrev E1:=@Go.bodyPost_ret
abbrev E2:=@decide_eq_true_eq
abbrev E3:=@Go.results_cell_row
abbrev E4:=@Bool.and_eq_true
abbrev E5:=@Array.getD_eq_getD_getElem?
abbrev E7:=@List.take_length
abbrev E9:=@Option.some.inj
abbrev F1:=@Bool.eq_iff_iff
abbrev F2:=@List.drop_eq_getElem_cons
abbrev F3:=@Go.RowKit.Below.heap_setCell
abbrev F4:=@List.all_eq_true
abbrev F5:=@decide_eq_false
abbrev F6:=@List.getElem?_map
abbrev F7:=@Array.getElem?_eq_some_iff
abbrev F8:=@Go.World.ownsRow_nil
abbrev F9:=@Nat.mul_le_mul_right
abbrev G0:=@Array.getElem?_eq_none
abbrev G1:=@List.mem_map_of_mem
abbrev G2:=@List.mem_append
abbrev G3:=@Nat.le_of_lt
abbrev G4:=@congrArg
abbrev G5:=@absurd
abbrev G6:=@List.eq_nil_of_length_eq_zero
abbrev G7:=@List.mem_singleton
abbrev G8:=@List.length_take
abbrev G9:=@List.length_drop
theorem zh{p:Prop}(h:p):Go.RowKit.Hid p:=Go.Lib.hid h
namespace Tw
abbrev Bs:=List UInt8
def xn(c:UInt8):Bool:=(decide (97<=c.toNat)&&decide (c.toNat<=122))||decide (c.toNat=95)
def zI(c:UInt8):Bool:=decide (48<=c.toNat)&&decide (c.toNat<=57)
def Q7(c:UInt8):Bool:=zI c||xn c
def zT(c:UInt8):Bool:=decide (c.toNat=32)||decide (c.toNat=10)||decide (c.toNat=9)
def Z2:List Bs:=[[102,117,110],[108,101,116],[105,102],[101,108,115,101],[119,104,105,108,101],[114,101,116,117,114,110],[121,105,101,108,100],[116,114,117,101],[102,97,108,115,101],[105,110,116],[98,111,111,108]]
def zC(s:Bs):Bool:=Z2.contains s
def L9(s:Bs):Bool:=decide (1<=s.length)&&decide (s.length<=16)&&xn (s.headD 0)&&!zC s&&s.all Q7
def S4(s:Bs):Bool:=decide (s.length<=12)&&!(decide (1<s.length)&&s.headD 0==48)&&s.all zI
def T8:List Bs:=[[60,61],[62,61],[61,61],[33,61],[38,38],[124,124]]
def yk:Bs:=[43,45,42,47,37,60,62,61,33,40,41,123,125,44,59,58,64]
def M6(s:Bs):Nat:=if T8.contains (s.take 2)then 2 else if yk.contains (s.headD 0)&&decide (0<s.length)then 1 else 0
inductive Tok where
 |skip (n:Nat)
 |Y8 (M0 n:Nat)
 |xS
def K0(p:UInt8->Bool)(s:Bs):Nat:=(s.takeWhile p).length
def xp(s:Bs):Tok:=
 if zT (s.headD 0)then .skip 1
 else if s.headD 0==35 then .skip (K0 (λc=>c !=10) s)
 else if zI (s.headD 0)then(if S4 (s.take (K0 Q7 s))then .Y8 1 (K0 Q7 s)else .xS)
 else if xn (s.headD 0)then(if zC (s.take (K0 Q7 s))then .Y8 3 (K0 Q7 s)else if decide (16<K0 Q7 s)then .xS else .Y8 2 (K0 Q7 s))
 else match M6 s with
  |0=>.xS
  |n=>.Y8 4 n
structure Wd where
 M0:Nat
 N4:ByteArray
 pos:Nat
def Wd.cells(x:Wd):List Value:=[.int .i64 x.M0,.string x.N4,.int .i64 x.pos]
def O6(l:List Wd):List Value:=l.flatMap Wd.cells
inductive jz(s:ByteArray):Nat->List Wd->Option Nat×List Wd->Prop where
 |done {i:Nat} {l:List Wd}:i=s.size->jz s i l (none,l)
 |skip {i n:Nat} {l:List Wd} {r:Option Nat×List Wd}:i<s.size->xp (s.data.toList.drop i)=.skip n->jz s (i+n) l r->jz s i l r
 |Y8 {i k n:Nat} {l:List Wd} {r:Option Nat×List Wd}:i<s.size->xp (s.data.toList.drop i)=.Y8 k n->jz s (i+n) (l++[⟨k,s.extract i (i+n),i⟩]) r->jz s i l r
 |xS {i:Nat} {l:List Wd}:i<s.size->xp (s.data.toList.drop i)=.xS->jz s i l (some i,[])
end Tw
end Go.Proofs.YtalgmjmibamdfaaGreatDoor
namespace Go.Proofs.YtalgmjmibamdfaaGreatDoor
open Go.Proofs.Tryz
open Go.RowKit Tw
theorem Xl{a b:Bool}(h:a=true↔b=true):Ending.returned (.bool a)=.returned (.bool b):=by rw[Bool.eq_iff_iff.2 h]
theorem W8{b c:Bool}(h:c=b):Ending.returned (.bool b)=.returned (.bool c):=by rw[h]
theorem xe{k:IntKind}{a b:Int}(h:a=b):Ending.returned (.int k a)=.returned (.int k b):=by rw[h]
theorem XC(s:ByteArray)(k:Nat)(h:k<s.size):s.data.toList[k]?=some s[k]:=by
 rw[x8 (by simpa using h)];rfl
theorem zaP(s:ByteArray)(k:Nat)(h:k<s.size):s.data.toList.take (k+1)=s.data.toList.take k++[s[k]]:=by
 rw[List.take_succ_eq_append_getElem (by simpa using h)];rfl
theorem N9(s:ByteArray):s.data.toList.length=s.size:=rfl
theorem qt(s:ByteArray)(h:0<s.size):s.data.toList.headD 0=s[0]:=by
 have:=XC s 0 h
 rcases b:s.data.toList with _|⟨a,r⟩
 ·rw[b]at this;cases this
 ·rw[b]at this;simpa using this
theorem ZI(s:ByteArray)(p:UInt8->Bool)(k:Nat)(h:k<s.size):(s.data.toList.take (k+1)).all p=((s.data.toList.take k).all p&&p s[k]):=by
 rw[zaP s k h];simp
theorem yB(s:ByteArray)(p:UInt8->Bool)(k:Nat)(h:k<s.size)(a:p s[k]=false):s.data.toList.all p=false:=by
 rw[List.all_eq_false];exact⟨s[k],B0 (XC s k h),by simp[a]⟩
theorem ZL(s:ByteArray)(p:UInt8->Bool)(k:Nat)(h:s.size<=k)(a:(s.data.toList.take k).all p=true):s.data.toList.all p=true:=by
 rwa [List.take_of_length_le (by rw[N9];exact h)]at a
theorem zn(c:UInt8)(w:World):
 Calls prog 84 #[.int .u8 c.toNat] w λe w'=>e=.returned (.bool (zI c))/\w=w':=by
 go_enter func84,ntmps84
 go_wp2
 all_goals go_ret;exact⟨Xl (by simp[zI];try omega),rfl⟩
theorem Z9(c:UInt8)(w:World):
 Calls prog 85 #[.int .u8 c.toNat] w λe w'=>e=.returned (.bool (xn c))/\w=w':=by
 go_enter func85,ntmps85
 go_wp2
 all_goals go_ret;exact⟨Xl (by simp[xn];try omega),rfl⟩
theorem yw(s:ByteArray)(w:World):
 Calls prog 87 #[.string s] w λe w'=>e=.returned (.bool (zC s.data.toList))/\w=w':=by
 go_enter func87,ntmps87
 go_wp2
 all_goals(first|(exfalso;simp_all;done)|(go_ret;refine⟨?_,rfl⟩;simp_all[zC,Z2,C4]))
theorem YA(s:ByteArray)(w:World)(hs:s.size<=maxLen):
 Calls prog 95 #[.string s] w λe w'=>e=.returned (.bool (L9 s.data.toList))/\w=w':=by
 unfold maxLen at hs
 by_cases h:1<=s.size
 case neg=>
  have a:L9 s.data.toList=false:=by simp[L9];omega
  have c:=zh a;clear a
  go_enter func95,ntmps95
  go_wp2
  go_ret;exact⟨W8 c.out,rfl⟩
 by_cases r:s.size<=16
 case neg=>
  have a:L9 s.data.toList=false:=by simp[L9];omega
  have c:=zh a;clear a
  go_enter func95,ntmps95
  go_wp2
  go_ret;exact⟨W8 c.out,rfl⟩
 have j:=zh (qt s h);cases l:xn s[0]
 case false=>
  have a:L9 s.data.toList=false:=by simp only[L9,j.out,l];simp
  have c:=zh a;clear a
  go_enter func95,ntmps95
  go_wp2_with(go_at_call 85;refine(Z9 _ _).mono ?_;rintro e w' ⟨rfl,rfl⟩)
  go_ret;exact⟨W8 c.out,rfl⟩
 cases m:zC s.data.toList
 case true=>
  have a:L9 s.data.toList=false:=by simp only[L9,m];simp
  have c:=zh a;clear a
  go_enter func95,ntmps95
  go_wp2_with(first|(go_at_call 85;refine(Z9 _ _).mono ?_;rintro e w' ⟨rfl,rfl⟩)|(go_at_call 87;refine(yw _ _).mono ?_;rintro e w' ⟨rfl,rfl⟩))
  go_ret;exact⟨W8 c.out,rfl⟩
 have a:L9 s.data.toList=s.data.toList.all Q7:=by
  simp only[L9,j.out,l,m,N9];simp[h,r]
 have c:=zh a;clear a
 go_enter func95,ntmps95
 go_wp2_with(first|(go_at_call 85;refine(Z9 _ _).mono ?_;rintro e w' ⟨rfl,rfl⟩)|(go_at_call 87;refine(yw _ _).mono ?_;rintro e w' ⟨rfl,rfl⟩))
 go_loop [24] (λi=> ∃k:Nat,k<=s.size/\i=.int .i64 k/\Hid ((s.data.toList.take k).all Q7=true)) (λi=>s.size-(intOf i).toNat)
 case atStart=>exact⟨0,C6 _,rfl,zh rfl⟩
 case round=>
  obtain⟨k,u,rfl,b⟩:=hrel
  by_cases d:k<s.size
  ·have n:=zh (ZI s Q7 k d)
   have t:=zh (yB s Q7 k d);cases o:xn s[k]
   ·cases p:zI s[k]
    ·have q:s.data.toList.all Q7=false:=t.out (by simp[Q7,o,p])
     have f:=zh (c.out.trans q);clear q
     go_wp2_with(first|(go_at_call 85;refine(Z9 _ _).mono ?_;rintro e w' ⟨rfl,rfl⟩)|(go_at_call 84;refine(zn _ _).mono ?_;rintro e w' ⟨rfl,rfl⟩))
     go_ret;exact⟨W8 f.out,rfl⟩
    ·have g:(s.data.toList.take (k+1)).all Q7=true:=by rw[n.out,b.out];simp[Q7,p]
     have f:=zh g;clear g
     go_wp2_with(first|(go_at_call 85;refine(Z9 _ _).mono ?_;rintro e w' ⟨rfl,rfl⟩)|(go_at_call 84;refine(zn _ _).mono ?_;rintro e w' ⟨rfl,rfl⟩))
     go_round
     case rel=>exact⟨k+1,by omega,by go_num,f⟩
     case measure=>simp[intOf];omega
   ·have g:(s.data.toList.take (k+1)).all Q7=true:=by rw[n.out,b.out];simp[Q7,o]
    have f:=zh g;clear g
    go_wp2_with(first|(go_at_call 85;refine(Z9 _ _).mono ?_;rintro e w' ⟨rfl,rfl⟩)|(go_at_call 84;refine(zn _ _).mono ?_;rintro e w' ⟨rfl,rfl⟩))
    go_round
    case rel=>exact⟨k+1,by omega,by go_num,f⟩
    case measure=>simp[intOf];omega
  ·go_wp2
   go_ret;exact⟨W8 (c.out.trans (ZL s _ k (by omega) b.out)),rfl⟩
theorem YC(s:ByteArray)(w:World)(hs:s.size<=maxLen):
 Calls prog 86 #[.string s] w λe w'=>e=.returned (.bool (S4 s.data.toList))/\w=w':=by
 unfold maxLen at hs
 by_cases p:s.size<=12
 case neg=>
  have b:S4 s.data.toList=false:=by simp[S4];omega
  have d:=zh b;clear b
  go_enter func86,ntmps86
  go_wp2
  go_ret;exact⟨W8 d.out,rfl⟩
 by_cases m:1<s.size
 ·have q:=zh (qt s (by omega))
  by_cases g:s[0].toNat=48
  ·have b:S4 s.data.toList=false:=by
    have:s[0]=48:=UInt8.toNat_inj.1 g;simp only[S4,q.out,this,N9,m];simp
   have d:=zh b;clear b;have r:((s[0].toNat:Int)==48)=true:=by rw[g];rfl
   clear g
   go_enter func86,ntmps86
   go_wp2
   go_ret;exact⟨W8 d.out,rfl⟩
  ·have b:S4 s.data.toList=s.data.toList.all zI:=by
    have:(s[0]==48)=false:=by
     rw[y8];intro h;exact g (by rw[h];rfl)
    simp only[S4,q.out,this,N9,m,p];simp
   have d:=zh b;clear b;have r:((s[0].toNat:Int)==48)=false:=by rw[y8];omega
   clear g
   go_enter func86,ntmps86
   go_wp2
   go_loop [19] (λi=> ∃k:Nat,k<=s.size/\i=.int .i64 k/\Hid ((s.data.toList.take k).all zI=true)) (λi=>s.size-(intOf i).toNat)
   case atStart=>exact⟨0,C6 _,rfl,zh rfl⟩
   case round=>
    obtain⟨k,t,rfl,a⟩:=hrel
    by_cases c:k<s.size
    ·have n:=zh (ZI s zI k c)
     have o:=zh (yB s zI k c);cases j:zI s[k]
     ·have f:=zh (d.out.trans (o.out j))
      go_wp2_with(go_at_call 84;refine(zn _ _).mono ?_;rintro e w' ⟨rfl,rfl⟩)
      go_ret;exact⟨W8 f.out,rfl⟩
     ·have l:(s.data.toList.take (k+1)).all zI=true:=by rw[n.out,a.out,j];rfl
      have f:=zh l;clear l
      go_wp2_with(go_at_call 84;refine(zn _ _).mono ?_;rintro e w' ⟨rfl,rfl⟩)
      go_round
      case rel=>exact⟨k+1,by omega,by go_num,f⟩
      case measure=>simp[intOf];omega
    ·go_wp2
     go_ret;exact⟨W8 (d.out.trans (ZL s _ k (by omega) a.out)),rfl⟩
 ·have b:S4 s.data.toList=s.data.toList.all zI:=by
   simp only[S4,N9,m,p];simp
  have d:=zh b;clear b
  go_enter func86,ntmps86
  go_wp2
  go_loop [19] (λi=> ∃k:Nat,k<=s.size/\i=.int .i64 k/\Hid ((s.data.toList.take k).all zI=true)) (λi=>s.size-(intOf i).toNat)
  case atStart=>exact⟨0,C6 _,rfl,zh rfl⟩
  case round=>
   obtain⟨k,t,rfl,a⟩:=hrel
   by_cases c:k<s.size
   ·have n:=zh (ZI s zI k c)
    have o:=zh (yB s zI k c);cases j:zI s[k]
    ·have f:=zh (d.out.trans (o.out j))
     go_wp2_with(go_at_call 84;refine(zn _ _).mono ?_;rintro e w' ⟨rfl,rfl⟩)
     go_ret;exact⟨W8 f.out,rfl⟩
    ·have l:(s.data.toList.take (k+1)).all zI=true:=by rw[n.out,a.out,j];rfl
     have f:=zh l;clear l
     go_wp2_with(go_at_call 84;refine(zn _ _).mono ?_;rintro e w' ⟨rfl,rfl⟩)
     go_round
     case rel=>exact⟨k+1,by omega,by go_num,f⟩
     case measure=>simp[intOf];omega
   ·go_wp2
    go_ret;exact⟨W8 (d.out.trans (ZL s _ k (by omega) a.out)),rfl⟩
end Go.Proofs.YtalgmjmibamdfaaGreatDoor
namespace Go.Proofs.YtalgmjmibamdfaaGreatDoor
namespace Tw
theorem jy(b:Bs)(h:b≠[]):Lib.contains [] b=false:=by
 cases b with
 |nil=>exact G5 rfl h
 |cons a l=>simp[Lib.contains,Lib.index]
theorem contains_cons(b:UInt8)(l a:Bs):Lib.contains (b::l) a=(a.isPrefixOf (b::l)||Lib.contains l a):=by
 have e:=Lib.index_ge l a;unfold Lib.contains;rw[Lib.index];cases h:a.isPrefixOf (b::l)
 ·by_cases c:Lib.index l a= -1
  ·simp[c]
  ·have d:(Lib.index l a== -1)=false:=by simpa using c
   simp only[d,B6,if_false,Bool.false_or];rw[decide_eq_decide];omega
 ·simp
theorem Qw(v a b:Bs)(d: ∀c∈v,c≠32):Lib.contains (v++a) (32::b)=Lib.contains a (32::b):=by
 induction v with
 |nil=>rfl
 |cons c v e=>
  rw[z9,contains_cons,e (λx f=>d x (x4 _ f))];have:((32:UInt8)==c)=false:=by rw[y8];exact λh=>d c (z5 ..) h.symm
  simp[List.isPrefixOf,this]
theorem Xm(w v d:Bs)(f: ∀c∈w,c≠32)(g: ∀c∈v,c≠32):(w++[32]).isPrefixOf (v++32::d)=decide (v=w):=by
 induction w generalizing v with
 |nil=>
  cases v with
  |nil=>simp[List.isPrefixOf]
  |cons c v=>
   have:((32:UInt8)==c)=false:=by rw[y8];exact λh=>g c (z5 ..) h.symm
   simp[List.isPrefixOf,this]
 |cons a w i=>
  have j:=f a (z5 ..);cases v with
  |nil=>
   have:(a==(32:UInt8))=false:=by rw[y8];exact j
   simp[List.isPrefixOf,this]
  |cons c v=>
   have:=i v (λx e=>f x (x4 _ e)) (λx e=>g x (x4 _ e));simp only[z9,List.isPrefixOf,this]
   by_cases b:a=c
   ·subst b;simp
   ·have:(a==c)=false:=by simpa using b
    simp[this];intro h;exact G5 h.symm b
def yx(ws:List Bs):Bs:=ws.flatMap λv=>v++[32]
theorem jE(ws:List Bs)(a: ∀v∈ws,∀c∈v,c≠32)(w:Bs)(b: ∀c∈w,c≠32):Lib.contains (32::yx ws) (32::(w++[32]))=ws.contains w:=by
 induction ws with
 |nil=>
  simp only[yx,List.flatMap_nil,contains_cons];rw[jy _ (by simp)];cases w<;>simp[List.isPrefixOf]
 |cons v ws d=>
  have e:yx (v::ws)=v++32::yx ws:=by simp[yx]
  rw[e,contains_cons,Qw _ _ _ (a v (z5 ..)),d (λx f=>a x (x4 _ f))];have g:=Xm w v (yx ws) b (a v (z5 ..));simp only[List.isPrefixOf,beq_self_eq_true,Bool.true_and,g,List.contains_cons]
  congr 1
  rw[F1];simp only[E2,beq_iff_eq];exact⟨λh=>h.symm,λh=>h.symm⟩
theorem zfN(c:UInt8)(h:Q7 c=true):c≠32:=by
 rintro rfl;revert h;decide
def zcJ:Bs:=[32,102,117,110,32,108,101,116,32,105,102,32,101,108,115,101,32,119,104,105,108,101,32,114,101,116,117,114,110,32,121,105,101,108,100,32,116,114,117,101,32,102,97,108,115,101,32,105,110,116,32,98,111,111,108,32]
theorem Qt(w:Bs)(a:w.all Q7=true):Lib.contains zcJ (32::(w++[32]))=zC w:=
 jE Z2 (by decide) w (λc b=>zfN c (List.all_eq_true.1 a c b))
def yD:Bs:=[32,60,61,32,62,61,32,61,61,32,33,61,32,38,38,32,124,124,32]
theorem ZS(a b:UInt8):Lib.contains yD [32,a,b,32]=T8.contains [a,b]:=by
 by_cases c:a=32
 ·subst c
  simp[yD,contains_cons,jy,List.isPrefixOf,T8]
 ·by_cases d:b=32
  ·subst d
   simp[yD,contains_cons,jy,List.isPrefixOf,T8]
  ·exact jE T8 (by decide) [a,b] (by simp[c,d])
theorem Qn(l:Bs)(c:UInt8):decide (0<=Lib.indexByte l c)=l.contains c:=by
 induction l with
 |nil=>simp[Lib.indexByte]
 |cons b l d=>
  rw[Lib.indexByte,List.contains_cons];have j:=Lib.indexByte_ge l c
  by_cases h:b=c
  ·subst h;simp
  ·have f:(b==c)=false:=by simpa using h
   have g:(c==b)=false:=by simpa using λe=>h e.symm
   rw[<-d];simp only[f,g,B6,if_false,Bool.false_or]
   by_cases a:Lib.indexByte l c= -1
   ·simp[a]
   ·have i:(Lib.indexByte l c== -1)=false:=by simpa using a
    simp only[i,B6,if_false];rw[decide_eq_decide];omega
end Tw
end Go.Proofs.YtalgmjmibamdfaaGreatDoor
