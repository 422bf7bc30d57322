/- Merged. -/
import Derived.Lib.Hide
import Derived.Test.YtalgmjmibamdfaaGreatDoorRows
import Derived.WalkSpells
import Derived.WalkLawsBesides
import Derived.Lib.IndexMore
import Derived.Lib.SlTrimSet
set_option linter.all false
set_option maxHeartbeats 1000000
namespace Go.Proofs.YtalgmjmibamdfaaGreatDoor
abbrev y4:=@List.mem_cons_of_mem
abbrev y5:=@Go.Lib.cell_of_heap
abbrev y6:=@Nat.le_refl
abbrev y7:=@Go.RowKit.Below.refl
abbrev y8:=@List.getElem?_eq_getElem
abbrev y9:=@Go.heap_alloc_new
abbrev z5:=@Go.heap_setCell_same
abbrev z6:=@Nat.lt_of_lt_of_le
abbrev z7:=@List.length_cons
abbrev z9:=@List.length_append
abbrev B0:=@beq_eq_false_iff_ne
abbrev B1:=@List.length_nil
abbrev B2:=@List.mem_cons_self
abbrev B4:=@Go.Lib.frozen_of_heap
abbrev B5:=@if_neg
abbrev B6:=@List.cons_append
abbrev B7:=@List.mem_of_getElem?
abbrev B8:=@List.getElem?_eq_some_iff
abbrev B9:=@List.append_assoc
abbrev C0:=@List.nil_append
abbrev C4:=@Nat.le_trans
abbrev C6:=@Bool.false_eq_true
abbrev D0:=@ByteArray.size_append
abbrev D4:=@Go.heap_alloc_old
abbrev D6:=@List.getElem?_eq_none
abbrev D9:=@List.length_map
abbrev E0:=@Go.ByteArray.toList_eq
abbrev E1:=@if_pos
abbrev E2:=@Nat.zero_le
abbrev E3:=@Array.getElem?_setIfInBounds_ne
abbrev E4:=@List.size_toArray
abbrev E5:=@Nat.lt_or_ge
abbrev E7:=@List.mem_cons
abbrev E9:=@Go.World.cell?_of_block
abbrev F1:=@Go.bodyPost_ret
abbrev F2:=@decide_eq_true_eq
abbrev F3:=@Go.results_cell_row
abbrev F4:=@Bool.and_eq_true
abbrev F5:=@Array.getD_eq_getD_getElem?
abbrev F6:=@List.take_length
abbrev F7:=@Option.some.inj
abbrev F8:=@Bool.eq_iff_iff
abbrev F9:=@List.drop_eq_getElem_cons
abbrev G0:=@Go.RowKit.Below.heap_setCell
abbrev G1:=@List.all_eq_true
abbrev G2:=@decide_eq_false
abbrev G3:=@List.getElem?_map
abbrev G4:=@Array.getElem?_eq_some_iff
abbrev G5:=@Go.World.ownsRow_nil
abbrev G6:=@Nat.mul_le_mul_right
abbrev G7:=@Array.getElem?_eq_none
abbrev G8:=@List.mem_map_of_mem
abbrev G9:=@List.mem_append
abbrev I0:=@Nat.le_of_lt
abbrev I1:=@congrArg
abbrev I2:=@absurd
abbrev I3:=@List.eq_nil_of_length_eq_zero
abbrev I4:=@List.mem_singleton
abbrev I5:=@List.length_take
abbrev I6:=@List.length_drop
theorem zh{p:Prop}(h:p):Go.RowKit.Hid p:=Go.Lib.hid h
namespace Tw
abbrev Bs:=List UInt8
def xY(c:UInt8):Bool:=(decide (97<=c.toNat)&&decide (c.toNat<=122))||decide (c.toNat=95)
def qm(c:UInt8):Bool:=decide (48<=c.toNat)&&decide (c.toNat<=57)
def T0(c:UInt8):Bool:=qm c||xY c
def qD(c:UInt8):Bool:=decide (c.toNat=32)||decide (c.toNat=10)||decide (c.toNat=9)
def zt:List Bs:=[[102,117,110],[108,101,116],[105,102],[101,108,115,101],[119,104,105,108,101],[114,101,116,117,114,110],[121,105,101,108,100],[116,114,117,101],[102,97,108,115,101],[105,110,116],[98,111,111,108]]
def zX(s:Bs):Bool:=zt.contains s
def N3(s:Bs):Bool:=decide (1<=s.length)&&decide (s.length<=16)&&xY (s.headD 0)&&!zX s&&s.all T0
def U4(s:Bs):Bool:=decide (s.length<=12)&&!(decide (1<s.length)&&s.headD 0==48)&&s.all qm
def W7:List Bs:=[[60,61],[62,61],[61,61],[33,61],[38,38],[124,124]]
def yZ:Bs:=[43,45,42,47,37,60,62,61,33,40,41,123,125,44,59,58,64]
def O0(s:Bs):Nat:=if W7.contains (s.take 2)then 2 else if yZ.contains (s.headD 0)&&decide (0<s.length)then 1 else 0
inductive Tok where
 |skip (n:Nat)
 |zq (N4 n:Nat)
 |yH
def L1(p:UInt8->Bool)(s:Bs):Nat:=(s.takeWhile p).length
def xZ(s:Bs):Tok:=
 if qD (s.headD 0)then .skip 1
 else if s.headD 0==35 then .skip (L1 (λc=>c !=10) s)
 else if qm (s.headD 0)then(if U4 (s.take (L1 T0 s))then .zq 1 (L1 T0 s)else .yH)
 else if xY (s.headD 0)then(if zX (s.take (L1 T0 s))then .zq 3 (L1 T0 s)else if decide (16<L1 T0 s)then .yH else .zq 2 (L1 T0 s))
 else match O0 s with
  |0=>.yH
  |n=>.zq 4 n
structure Wd where
 N4:Nat
 O9:ByteArray
 pos:Nat
def Wd.cells(x:Wd):List Value:=[.int .i64 x.N4,.string x.O9,.int .i64 x.pos]
def P9(l:List Wd):List Value:=l.flatMap Wd.cells
inductive xa(s:ByteArray):Nat->List Wd->Option Nat×List Wd->Prop where
 |done {i:Nat} {l:List Wd}:i=s.size->xa s i l (none,l)
 |skip {i n:Nat} {l:List Wd} {r:Option Nat×List Wd}:i<s.size->xZ (s.data.toList.drop i)=.skip n->xa s (i+n) l r->xa s i l r
 |zq {i k n:Nat} {l:List Wd} {r:Option Nat×List Wd}:i<s.size->xZ (s.data.toList.drop i)=.zq k n->xa s (i+n) (l++[⟨k,s.extract i (i+n),i⟩]) r->xa s i l r
 |yH {i:Nat} {l:List Wd}:i<s.size->xZ (s.data.toList.drop i)=.yH->xa s i l (some i,[])
end Tw
end Go.Proofs.YtalgmjmibamdfaaGreatDoor
namespace Go.Proofs.YtalgmjmibamdfaaGreatDoor
open Go.Proofs.Tryz
open Go.RowKit Tw
theorem YK{a b:Bool}(h:a=true↔b=true):Ending.returned (.bool a)=.returned (.bool b):=by rw[Bool.eq_iff_iff.2 h]
theorem Z4{b c:Bool}(h:c=b):Ending.returned (.bool b)=.returned (.bool c):=by rw[h]
theorem xX{k:IntKind}{a b:Int}(h:a=b):Ending.returned (.int k a)=.returned (.int k b):=by rw[h]
theorem YO(s:ByteArray)(k:Nat)(h:k<s.size):s.data.toList[k]?=some s[k]:=by
 rw[y8 (by simpa using h)];rfl
theorem zbT(s:ByteArray)(k:Nat)(h:k<s.size):s.data.toList.take (k+1)=s.data.toList.take k++[s[k]]:=by
 rw[List.take_succ_eq_append_getElem (by simpa using h)];rfl
theorem P7(s:ByteArray):s.data.toList.length=s.size:=rfl
theorem qZ(s:ByteArray)(h:0<s.size):s.data.toList.headD 0=s[0]:=by
 have:=YO s 0 h
 rcases b:s.data.toList with _|⟨a,r⟩
 ·rw[b]at this;cases this
 ·rw[b]at this;simpa using this
theorem Qg(s:ByteArray)(p:UInt8->Bool)(k:Nat)(h:k<s.size):(s.data.toList.take (k+1)).all p=((s.data.toList.take k).all p&&p s[k]):=by
 rw[zbT s k h];simp
theorem Zs(s:ByteArray)(p:UInt8->Bool)(k:Nat)(h:k<s.size)(a:p s[k]=false):s.data.toList.all p=false:=by
 rw[List.all_eq_false];exact⟨s[k],B7 (YO s k h),by simp[a]⟩
theorem Qt(s:ByteArray)(p:UInt8->Bool)(k:Nat)(h:s.size<=k)(a:(s.data.toList.take k).all p=true):s.data.toList.all p=true:=by
 rwa [List.take_of_length_le (by rw[P7];exact h)]at a
theorem zP(c:UInt8)(w:World):
 Calls prog 84 #[.int .u8 c.toNat] w λe w'=>e=.returned (.bool (qm c))/\w=w':=by
 go_enter func84,ntmps84
 go_wp2
 all_goals go_ret;exact⟨YK (by simp[qm];try omega),rfl⟩
theorem zI(c:UInt8)(w:World):
 Calls prog 85 #[.int .u8 c.toNat] w λe w'=>e=.returned (.bool (xY c))/\w=w':=by
 go_enter func85,ntmps85
 go_wp2
 all_goals go_ret;exact⟨YK (by simp[xY];try omega),rfl⟩
theorem Zq(s:ByteArray)(w:World):
 Calls prog 87 #[.string s] w λe w'=>e=.returned (.bool (zX s.data.toList))/\w=w':=by
 go_enter func87,ntmps87
 go_wp2
 all_goals(first|(exfalso;simp_all;done)|(go_ret;refine⟨?_,rfl⟩;simp_all[zX,zt,E0]))
theorem zak(s:ByteArray)(w:World)(hs:s.size<=maxLen):
 Calls prog 95 #[.string s] w λe w'=>e=.returned (.bool (N3 s.data.toList))/\w=w':=by
 unfold maxLen at hs
 by_cases h:1<=s.size
 case neg=>
  have a:N3 s.data.toList=false:=by simp[N3];omega
  have c:=zh a;clear a
  go_enter func95,ntmps95
  go_wp2
  go_ret;exact⟨Z4 c.out,rfl⟩
 by_cases r:s.size<=16
 case neg=>
  have a:N3 s.data.toList=false:=by simp[N3];omega
  have c:=zh a;clear a
  go_enter func95,ntmps95
  go_wp2
  go_ret;exact⟨Z4 c.out,rfl⟩
 have j:=zh (qZ s h);cases l:xY s[0]
 case false=>
  have a:N3 s.data.toList=false:=by simp only[N3,j.out,l];simp
  have c:=zh a;clear a
  go_enter func95,ntmps95
  go_wp2_with(go_at_call 85;refine(zI _ _).mono ?_;rintro e w' ⟨rfl,rfl⟩)
  go_ret;exact⟨Z4 c.out,rfl⟩
 cases m:zX s.data.toList
 case true=>
  have a:N3 s.data.toList=false:=by simp only[N3,m];simp
  have c:=zh a;clear a
  go_enter func95,ntmps95
  go_wp2_with(first|(go_at_call 85;refine(zI _ _).mono ?_;rintro e w' ⟨rfl,rfl⟩)|(go_at_call 87;refine(Zq _ _).mono ?_;rintro e w' ⟨rfl,rfl⟩))
  go_ret;exact⟨Z4 c.out,rfl⟩
 have a:N3 s.data.toList=s.data.toList.all T0:=by
  simp only[N3,j.out,l,m,P7];simp[h,r]
 have c:=zh a;clear a
 go_enter func95,ntmps95
 go_wp2_with(first|(go_at_call 85;refine(zI _ _).mono ?_;rintro e w' ⟨rfl,rfl⟩)|(go_at_call 87;refine(Zq _ _).mono ?_;rintro e w' ⟨rfl,rfl⟩))
 go_loop [24] (λi=> ∃k:Nat,k<=s.size/\i=.int .i64 k/\Hid ((s.data.toList.take k).all T0=true)) (λi=>s.size-(intOf i).toNat)
 case atStart=>exact⟨0,E2 _,rfl,zh rfl⟩
 case round=>
  obtain⟨k,u,rfl,b⟩:=hrel
  by_cases d:k<s.size
  ·have n:=zh (Qg s T0 k d)
   have t:=zh (Zs s T0 k d);cases o:xY s[k]
   ·cases p:qm s[k]
    ·have q:s.data.toList.all T0=false:=t.out (by simp[T0,o,p])
     have f:=zh (c.out.trans q);clear q
     go_wp2_with(first|(go_at_call 85;refine(zI _ _).mono ?_;rintro e w' ⟨rfl,rfl⟩)|(go_at_call 84;refine(zP _ _).mono ?_;rintro e w' ⟨rfl,rfl⟩))
     go_ret;exact⟨Z4 f.out,rfl⟩
    ·have g:(s.data.toList.take (k+1)).all T0=true:=by rw[n.out,b.out];simp[T0,p]
     have f:=zh g;clear g
     go_wp2_with(first|(go_at_call 85;refine(zI _ _).mono ?_;rintro e w' ⟨rfl,rfl⟩)|(go_at_call 84;refine(zP _ _).mono ?_;rintro e w' ⟨rfl,rfl⟩))
     go_round
     case rel=>exact⟨k+1,by omega,by go_num,f⟩
     case measure=>simp[intOf];omega
   ·have g:(s.data.toList.take (k+1)).all T0=true:=by rw[n.out,b.out];simp[T0,o]
    have f:=zh g;clear g
    go_wp2_with(first|(go_at_call 85;refine(zI _ _).mono ?_;rintro e w' ⟨rfl,rfl⟩)|(go_at_call 84;refine(zP _ _).mono ?_;rintro e w' ⟨rfl,rfl⟩))
    go_round
    case rel=>exact⟨k+1,by omega,by go_num,f⟩
    case measure=>simp[intOf];omega
  ·go_wp2
   go_ret;exact⟨Z4 (c.out.trans (Qt s _ k (by omega) b.out)),rfl⟩
theorem zaG(s:ByteArray)(w:World)(hs:s.size<=maxLen):
 Calls prog 86 #[.string s] w λe w'=>e=.returned (.bool (U4 s.data.toList))/\w=w':=by
 unfold maxLen at hs
 by_cases p:s.size<=12
 case neg=>
  have b:U4 s.data.toList=false:=by simp[U4];omega
  have d:=zh b;clear b
  go_enter func86,ntmps86
  go_wp2
  go_ret;exact⟨Z4 d.out,rfl⟩
 by_cases m:1<s.size
 ·have q:=zh (qZ s (by omega))
  by_cases g:s[0].toNat=48
  ·have b:U4 s.data.toList=false:=by
    have:s[0]=48:=UInt8.toNat_inj.1 g;simp only[U4,q.out,this,P7,m];simp
   have d:=zh b;clear b;have r:((s[0].toNat:Int)==48)=true:=by rw[g];rfl
   clear g
   go_enter func86,ntmps86
   go_wp2
   go_ret;exact⟨Z4 d.out,rfl⟩
  ·have b:U4 s.data.toList=s.data.toList.all qm:=by
    have:(s[0]==48)=false:=by
     rw[B0];intro h;exact g (by rw[h];rfl)
    simp only[U4,q.out,this,P7,m,p];simp
   have d:=zh b;clear b;have r:((s[0].toNat:Int)==48)=false:=by rw[B0];omega
   clear g
   go_enter func86,ntmps86
   go_wp2
   go_loop [19] (λi=> ∃k:Nat,k<=s.size/\i=.int .i64 k/\Hid ((s.data.toList.take k).all qm=true)) (λi=>s.size-(intOf i).toNat)
   case atStart=>exact⟨0,E2 _,rfl,zh rfl⟩
   case round=>
    obtain⟨k,t,rfl,a⟩:=hrel
    by_cases c:k<s.size
    ·have n:=zh (Qg s qm k c)
     have o:=zh (Zs s qm k c);cases j:qm s[k]
     ·have f:=zh (d.out.trans (o.out j))
      go_wp2_with(go_at_call 84;refine(zP _ _).mono ?_;rintro e w' ⟨rfl,rfl⟩)
      go_ret;exact⟨Z4 f.out,rfl⟩
     ·have l:(s.data.toList.take (k+1)).all qm=true:=by rw[n.out,a.out,j];rfl
      have f:=zh l;clear l
      go_wp2_with(go_at_call 84;refine(zP _ _).mono ?_;rintro e w' ⟨rfl,rfl⟩)
      go_round
      case rel=>exact⟨k+1,by omega,by go_num,f⟩
      case measure=>simp[intOf];omega
    ·go_wp2
     go_ret;exact⟨Z4 (d.out.trans (Qt s _ k (by omega) a.out)),rfl⟩
 ·have b:U4 s.data.toList=s.data.toList.all qm:=by
   simp only[U4,P7,m,p];simp
  have d:=zh b;clear b
  go_enter func86,ntmps86
  go_wp2
  go_loop [19] (λi=> ∃k:Nat,k<=s.size/\i=.int .i64 k/\Hid ((s.data.toList.take k).all qm=true)) (λi=>s.size-(intOf i).toNat)
  case atStart=>exact⟨0,E2 _,rfl,zh rfl⟩
  case round=>
   obtain⟨k,t,rfl,a⟩:=hrel
   by_cases c:k<s.size
   ·have n:=zh (Qg s qm k c)
    have o:=zh (Zs s qm k c);cases j:qm s[k]
    ·have f:=zh (d.out.trans (o.out j))
     go_wp2_with(go_at_call 84;refine(zP _ _).mono ?_;rintro e w' ⟨rfl,rfl⟩)
     go_ret;exact⟨Z4 f.out,rfl⟩
    ·have l:(s.data.toList.take (k+1)).all qm=true:=by rw[n.out,a.out,j];rfl
     have f:=zh l;clear l
     go_wp2_with(go_at_call 84;refine(zP _ _).mono ?_;rintro e w' ⟨rfl,rfl⟩)
     go_round
     case rel=>exact⟨k+1,by omega,by go_num,f⟩
     case measure=>simp[intOf];omega
   ·go_wp2
    go_ret;exact⟨Z4 (d.out.trans (Qt s _ k (by omega) a.out)),rfl⟩
end Go.Proofs.YtalgmjmibamdfaaGreatDoor
namespace Go.Proofs.YtalgmjmibamdfaaGreatDoor
namespace Tw
theorem jU(b:Bs)(h:b≠[]):Lib.contains [] b=false:=by
 cases b with
 |nil=>exact I2 rfl h
 |cons a l=>simp[Lib.contains,Lib.index]
theorem contains_cons(b:UInt8)(l a:Bs):Lib.contains (b::l) a=(a.isPrefixOf (b::l)||Lib.contains l a):=by
 have e:=Lib.index_ge l a;unfold Lib.contains;rw[Lib.index];cases h:a.isPrefixOf (b::l)
 ·by_cases c:Lib.index l a= -1
  ·simp[c]
  ·have d:(Lib.index l a== -1)=false:=by simpa using c
   simp only[d,C6,if_false,Bool.false_or];rw[decide_eq_decide];omega
 ·simp
theorem Jr(v a b:Bs)(d: ∀c∈v,c≠32):Lib.contains (v++a) (32::b)=Lib.contains a (32::b):=by
 induction v with
 |nil=>rfl
 |cons c v e=>
  rw[B6,contains_cons,e (λx f=>d x (y4 _ f))];have:((32:UInt8)==c)=false:=by rw[B0];exact λh=>d c (B2 ..) h.symm
  simp[List.isPrefixOf,this]
theorem Yx(w v d:Bs)(f: ∀c∈w,c≠32)(g: ∀c∈v,c≠32):(w++[32]).isPrefixOf (v++32::d)=decide (v=w):=by
 induction w generalizing v with
 |nil=>
  cases v with
  |nil=>simp[List.isPrefixOf]
  |cons c v=>
   have:((32:UInt8)==c)=false:=by rw[B0];exact λh=>g c (B2 ..) h.symm
   simp[List.isPrefixOf,this]
 |cons a w i=>
  have j:=f a (B2 ..);cases v with
  |nil=>
   have:(a==(32:UInt8))=false:=by rw[B0];exact j
   simp[List.isPrefixOf,this]
  |cons c v=>
   have:=i v (λx e=>f x (y4 _ e)) (λx e=>g x (y4 _ e));simp only[B6,List.isPrefixOf,this]
   by_cases b:a=c
   ·subst b;simp
   ·have:(a==c)=false:=by simpa using b
    simp[this];intro h;exact I2 h.symm b
def Zr(ws:List Bs):Bs:=ws.flatMap λv=>v++[32]
theorem xd(ws:List Bs)(a: ∀v∈ws,∀c∈v,c≠32)(w:Bs)(b: ∀c∈w,c≠32):Lib.contains (32::Zr ws) (32::(w++[32]))=ws.contains w:=by
 induction ws with
 |nil=>
  simp only[Zr,List.flatMap_nil,contains_cons];rw[jU _ (by simp)];cases w<;>simp[List.isPrefixOf]
 |cons v ws d=>
  have e:Zr (v::ws)=v++32::Zr ws:=by simp[Zr]
  rw[e,contains_cons,Jr _ _ _ (a v (B2 ..)),d (λx f=>a x (y4 _ f))];have g:=Yx w v (Zr ws) b (a v (B2 ..));simp only[List.isPrefixOf,beq_self_eq_true,Bool.true_and,g,List.contains_cons]
  congr 1
  rw[F8];simp only[F2,beq_iff_eq];exact⟨λh=>h.symm,λh=>h.symm⟩
theorem zgF(c:UInt8)(h:T0 c=true):c≠32:=by
 rintro rfl;revert h;decide
def zdU:Bs:=[32,102,117,110,32,108,101,116,32,105,102,32,101,108,115,101,32,119,104,105,108,101,32,114,101,116,117,114,110,32,121,105,101,108,100,32,116,114,117,101,32,102,97,108,115,101,32,105,110,116,32,98,111,111,108,32]
theorem Ji(w:Bs)(a:w.all T0=true):Lib.contains zdU (32::(w++[32]))=zX w:=
 xd zt (by decide) w (λc b=>zgF c (List.all_eq_true.1 a c b))
def Zn:Bs:=[32,60,61,32,62,61,32,61,61,32,33,61,32,38,38,32,124,124,32]
theorem QC(a b:UInt8):Lib.contains Zn [32,a,b,32]=W7.contains [a,b]:=by
 by_cases c:a=32
 ·subst c
  simp[Zn,contains_cons,jU,List.isPrefixOf,W7]
 ·by_cases d:b=32
  ·subst d
   simp[Zn,contains_cons,jU,List.isPrefixOf,W7]
  ·exact xd W7 (by decide) [a,b] (by simp[c,d])
theorem Jh(l:Bs)(c:UInt8):decide (0<=Lib.indexByte l c)=l.contains c:=by
 induction l with
 |nil=>simp[Lib.indexByte]
 |cons b l d=>
  rw[Lib.indexByte,List.contains_cons];have j:=Lib.indexByte_ge l c
  by_cases h:b=c
  ·subst h;simp
  ·have f:(b==c)=false:=by simpa using h
   have g:(c==b)=false:=by simpa using λe=>h e.symm
   rw[<-d];simp only[f,g,C6,if_false,Bool.false_or]
   by_cases a:Lib.indexByte l c= -1
   ·simp[a]
   ·have i:(Lib.indexByte l c== -1)=false:=by simpa using a
    simp only[i,C6,if_false];rw[decide_eq_decide];omega
end Tw
end Go.Proofs.YtalgmjmibamdfaaGreatDoor
