/- Merged. -/
import Derived.Lib.Hide
import Derived.Test.YtmngofgminlloaaGreatDoorRows
import Derived.WalkSpells
import Derived.WalkLawsBesides
import Derived.Lib.IndexMore
import Derived.Lib.SlTrimSet
set_option linter.all false
set_option maxHeartbeats 1000000
namespace Go.Proofs.YtmngofgminlloaaGreatDoor
abbrev x5:=@List.mem_cons_of_mem
abbrev x6:=@Go.Lib.cell_of_heap
abbrev x7:=@Nat.le_refl
abbrev x8:=@Go.RowKit.Below.refl
abbrev x9:=@List.getElem?_eq_getElem
abbrev A5:=@Go.heap_alloc_new
abbrev A6:=@Go.heap_setCell_same
abbrev A7:=@Nat.lt_of_lt_of_le
abbrev A8:=@List.length_cons
abbrev A9:=@List.length_append
abbrev B0:=@beq_eq_false_iff_ne
abbrev B1:=@List.length_nil
abbrev B2:=@List.mem_cons_self
abbrev B4:=@Go.Lib.frozen_of_heap
abbrev B5:=@if_neg
abbrev B6:=@List.cons_append
abbrev B7:=@List.mem_of_getElem?
abbrev B8:=@List.getElem?_eq_some_iff
abbrev B9:=@List.append_assoc
abbrev C0:=@List.nil_append
abbrev C1:=@Nat.le_trans
abbrev C2:=@Bool.false_eq_true
abbrev C3:=@ByteArray.size_append
abbrev C4:=@Go.heap_alloc_old
abbrev C5:=@List.getElem?_eq_none
abbrev C6:=@List.length_map
abbrev C7:=@Go.ByteArray.toList_eq
abbrev C8:=@if_pos
abbrev D0:=@Nat.zero_le
abbrev D8:=@Array.getElem?_setIfInBounds_ne
abbrev D9:=@List.size_toArray
abbrev E0:=@Nat.lt_or_ge
abbrev E7:=@List.mem_cons
abbrev E8:=@Go.World.cell?_of_block
abbrev E9:=@Go.bodyPost_ret
abbrev F1:=@decide_eq_true_eq
abbrev F2:=@Go.results_cell_row
abbrev F3:=@Bool.and_eq_true
abbrev F4:=@Array.getD_eq_getD_getElem?
abbrev F5:=@List.take_length
abbrev F6:=@Option.some.inj
abbrev F7:=@Bool.eq_iff_iff
abbrev F8:=@List.drop_eq_getElem_cons
abbrev F9:=@Go.RowKit.Below.heap_setCell
abbrev G0:=@List.all_eq_true
abbrev G1:=@decide_eq_false
abbrev G2:=@List.getElem?_map
abbrev G3:=@Array.getElem?_eq_some_iff
abbrev G4:=@Go.World.ownsRow_nil
abbrev G5:=@Nat.mul_le_mul_right
abbrev G6:=@Array.getElem?_eq_none
abbrev G7:=@List.mem_map_of_mem
abbrev G8:=@List.mem_append
abbrev G9:=@Nat.le_of_lt
abbrev H0:=@congrArg
abbrev H9:=@absurd
abbrev I0:=@List.eq_nil_of_length_eq_zero
abbrev I1:=@List.mem_singleton
abbrev I2:=@List.length_take
abbrev I3:=@List.length_drop
def qh{p:Prop}(h:p):Go.RowKit.Hid p:=Go.Lib.hid h
namespace Tw
abbrev Bs:=List UInt8
def Zl(c:UInt8):Bool:=(decide (97<=c.toNat)&&decide (c.toNat<=122))||decide (c.toNat=95)
def qX(c:UInt8):Bool:=decide (48<=c.toNat)&&decide (c.toNat<=57)
def X8(c:UInt8):Bool:=qX c||Zl c
def qZ(c:UInt8):Bool:=decide (c.toNat=32)||decide (c.toNat=10)||decide (c.toNat=9)
def qF:List Bs:=[[102,117,110],[108,101,116],[105,102],[101,108,115,101],[119,104,105,108,101],[114,101,116,117,114,110],[121,105,101,108,100],[116,114,117,101],[102,97,108,115,101],[105,110,116],[98,111,111,108]]
def qd(s:Bs):Bool:=qF.contains s
def M5(s:Bs):Bool:=decide (1<=s.length)&&decide (s.length<=16)&&Zl (s.headD 0)&&!qd s&&s.all X8
def zj(s:Bs):Bool:=decide (s.length<=12)&&!(decide (1<s.length)&&s.headD 0==48)&&s.all qX
def zz:List Bs:=[[60,61],[62,61],[61,61],[33,61],[38,38],[124,124]]
def JC:Bs:=[43,45,42,47,37,60,62,61,33,40,41,123,125,44,59,58,64]
def P7(s:Bs):Nat:=if zz.contains (s.take 2)then 2 else if JC.contains (s.headD 0)&&decide (0<s.length)then 1 else 0
inductive Tok where
 |skip (n:Nat)
 |Y5 (I9 n:Nat)
 |J9
def M4(p:UInt8->Bool)(s:Bs):Nat:=(s.takeWhile p).length
def ZL(s:Bs):Tok:=
 if qZ (s.headD 0)then .skip 1
 else if s.headD 0==35 then .skip (M4 (λc=>c !=10) s)
 else if qX (s.headD 0)then(if zj (s.take (M4 X8 s))then .Y5 1 (M4 X8 s)else .J9)
 else if Zl (s.headD 0)then(if qd (s.take (M4 X8 s))then .Y5 3 (M4 X8 s)else if decide (16<M4 X8 s)then .J9 else .Y5 2 (M4 X8 s))
 else match P7 s with
  |0=>.J9
  |n=>.Y5 4 n
structure Wd where
 I9:Nat
 K0:ByteArray
 pos:Nat
def Wd.cells(x:Wd):List Value:=[.int .i64 x.I9,.string x.K0,.int .i64 x.pos]
def R6(l:List Wd):List Value:=l.flatMap Wd.cells
inductive xG(s:ByteArray):Nat->List Wd->Option Nat×List Wd->Prop where
 |done {i:Nat} {l:List Wd}:i=s.size->xG s i l (none,l)
 |skip {i n:Nat} {l:List Wd} {r:Option Nat×List Wd}:i<s.size->ZL (s.data.toList.drop i)=.skip n->xG s (i+n) l r->xG s i l r
 |Y5 {i k n:Nat} {l:List Wd} {r:Option Nat×List Wd}:i<s.size->ZL (s.data.toList.drop i)=.Y5 k n->xG s (i+n) (l++[⟨k,s.extract i (i+n),i⟩]) r->xG s i l r
 |J9 {i:Nat} {l:List Wd}:i<s.size->ZL (s.data.toList.drop i)=.J9->xG s i l (some i,[])
end Tw
end Go.Proofs.YtmngofgminlloaaGreatDoor
namespace Go.Proofs.YtmngofgminlloaaGreatDoor
open Go.Proofs.Tryz
open Go.RowKit Tw
def zdb{a b:Bool}(h:a=true↔b=true):Ending.returned (.bool a)=.returned (.bool b):=by rw[Bool.eq_iff_iff.2 h]
def qf{b c:Bool}(h:c=b):Ending.returned (.bool b)=.returned (.bool c):=by rw[h]
def ZS{k:IntKind}{a b:Int}(h:a=b):Ending.returned (.int k a)=.returned (.int k b):=by rw[h]
def zch(s:ByteArray)(k:Nat)(h:k<s.size):s.data.toList[k]?=some s[k]:=by
 rw[x9 (by simpa using h)];rfl
def zfY(s:ByteArray)(k:Nat)(h:k<s.size):s.data.toList.take (k+1)=s.data.toList.take k++[s[k]]:=by
 rw[List.take_succ_eq_append_getElem (by simpa using h)];rfl
def R5(s:ByteArray):s.data.toList.length=s.size:=rfl
def xx(s:ByteArray)(h:0<s.size):s.data.toList.headD 0=s[0]:=by
 have:=zch s 0 h
 rcases b:s.data.toList with _|⟨a,r⟩
 ·rw[b]at this;cases this
 ·rw[b]at this;simpa using this
def YZ(s:ByteArray)(p)(k:Nat)(h:k<s.size):(s.data.toList.take (k+1)).all p=((s.data.toList.take k).all p&&p s[k]):=by
 rw[zfY s k h];simp
def JY(s:ByteArray)(p)(k:Nat)(h:k<s.size)(a:p s[k]=false):s.data.toList.all p=false:=by
 rw[List.all_eq_false];exact⟨s[k],B7 (zch s k h),by simp[a]⟩
def Yw(s:ByteArray)(p)(k:Nat)(h:s.size<=k)(a:(s.data.toList.take k).all p=true):s.data.toList.all p=true:=by
 rwa [List.take_of_length_le (by rw[R5];exact h)]at a
def qW(c:UInt8)(w:World):
 Calls prog 105 #[.int .u8 c.toNat] w λe w'=>e=.returned (.bool (qX c))/\w=w':=by
 go_enter func105,ntmps105
 go_wp2
 all_goals go_ret;exact⟨zdb (by simp[qX];try omega),rfl⟩
def qQ(c:UInt8)(w:World):
 Calls prog 103 #[.int .u8 c.toNat] w λe w'=>e=.returned (.bool (Zl c))/\w=w':=by
 go_enter func103,ntmps103
 go_wp2
 all_goals go_ret;exact⟨zdb (by simp[Zl];try omega),rfl⟩
def Xd(s:ByteArray)(w:World):
 Calls prog 104 #[.string s] w λe w'=>e=.returned (.bool (qd s.data.toList))/\w=w':=by
 go_enter func104,ntmps104
 go_wp2
 all_goals(first|(exfalso;simp_all;done)|(go_ret;refine⟨?_,rfl⟩;simp_all[qd,qF,C7]))
def zee(s:ByteArray)(w:World)(hs:s.size<=maxLen):
 Calls prog 49 #[.string s] w λe w'=>e=.returned (.bool (M5 s.data.toList))/\w=w':=by
 unfold maxLen at hs
 by_cases h:1<=s.size
 case neg=>
  have a:M5 s.data.toList=false:=by simp[M5];omega
  have c:=qh a;clear a
  go_enter func49,ntmps49
  go_wp2
  go_ret;exact⟨qf c.out,rfl⟩
 by_cases r:s.size<=16
 case neg=>
  have a:M5 s.data.toList=false:=by simp[M5];omega
  have c:=qh a;clear a
  go_enter func49,ntmps49
  go_wp2
  go_ret;exact⟨qf c.out,rfl⟩
 have j:=qh (xx s h);cases l:Zl s[0]
 case false=>
  have a:M5 s.data.toList=false:=by simp only[M5,j.out,l];simp
  have c:=qh a;clear a
  go_enter func49,ntmps49
  go_wp2_with(go_at_call 103;refine(qQ _ _).mono ?_;rintro e w' ⟨rfl,rfl⟩)
  go_ret;exact⟨qf c.out,rfl⟩
 cases m:qd s.data.toList
 case true=>
  have a:M5 s.data.toList=false:=by simp only[M5,m];simp
  have c:=qh a;clear a
  go_enter func49,ntmps49
  go_wp2_with(first|(go_at_call 103;refine(qQ _ _).mono ?_;rintro e w' ⟨rfl,rfl⟩)|(go_at_call 104;refine(Xd _ _).mono ?_;rintro e w' ⟨rfl,rfl⟩))
  go_ret;exact⟨qf c.out,rfl⟩
 have a:M5 s.data.toList=s.data.toList.all X8:=by
  simp only[M5,j.out,l,m,R5];simp[h,r]
 have c:=qh a;clear a
 go_enter func49,ntmps49
 go_wp2_with(first|(go_at_call 103;refine(qQ _ _).mono ?_;rintro e w' ⟨rfl,rfl⟩)|(go_at_call 104;refine(Xd _ _).mono ?_;rintro e w' ⟨rfl,rfl⟩))
 go_loop [24] (λi=> ∃k:Nat,k<=s.size/\i=.int .i64 k/\Hid ((s.data.toList.take k).all X8=true)) (λi=>s.size-(intOf i).toNat)
 case atStart=>exact⟨0,D0 _,rfl,qh rfl⟩
 case round=>
  obtain⟨k,u,rfl,b⟩:=hrel
  by_cases d:k<s.size
  ·have n:=qh (YZ s X8 k d)
   have t:=qh (JY s X8 k d);cases o:Zl s[k]
   ·cases p:qX s[k]
    ·have q:s.data.toList.all X8=false:=t.out (by simp[X8,o,p])
     have f:=qh (c.out.trans q);clear q
     go_wp2_with(first|(go_at_call 103;refine(qQ _ _).mono ?_;rintro e w' ⟨rfl,rfl⟩)|(go_at_call 105;refine(qW _ _).mono ?_;rintro e w' ⟨rfl,rfl⟩))
     go_ret;exact⟨qf f.out,rfl⟩
    ·have g:(s.data.toList.take (k+1)).all X8=true:=by rw[n.out,b.out];simp[X8,p]
     have f:=qh g;clear g
     go_wp2_with(first|(go_at_call 103;refine(qQ _ _).mono ?_;rintro e w' ⟨rfl,rfl⟩)|(go_at_call 105;refine(qW _ _).mono ?_;rintro e w' ⟨rfl,rfl⟩))
     go_round
     case rel=>exact⟨k+1,by omega,by go_num,f⟩
     case measure=>simp[intOf];omega
   ·have g:(s.data.toList.take (k+1)).all X8=true:=by rw[n.out,b.out];simp[X8,o]
    have f:=qh g;clear g
    go_wp2_with(first|(go_at_call 103;refine(qQ _ _).mono ?_;rintro e w' ⟨rfl,rfl⟩)|(go_at_call 105;refine(qW _ _).mono ?_;rintro e w' ⟨rfl,rfl⟩))
    go_round
    case rel=>exact⟨k+1,by omega,by go_num,f⟩
    case measure=>simp[intOf];omega
  ·go_wp2
   go_ret;exact⟨qf (c.out.trans (Yw s _ k (by omega) b.out)),rfl⟩
def zd6(s:ByteArray)(w:World)(hs:s.size<=maxLen):
 Calls prog 134 #[.string s] w λe w'=>e=.returned (.bool (zj s.data.toList))/\w=w':=by
 unfold maxLen at hs
 by_cases p:s.size<=12
 case neg=>
  have b:zj s.data.toList=false:=by simp[zj];omega
  have d:=qh b;clear b
  go_enter func134,ntmps134
  go_wp2
  go_ret;exact⟨qf d.out,rfl⟩
 by_cases m:1<s.size
 ·have q:=qh (xx s (by omega))
  by_cases g:s[0].toNat=48
  ·have b:zj s.data.toList=false:=by
    have:s[0]=48:=UInt8.toNat_inj.1 g;simp only[zj,q.out,this,R5,m];simp
   have d:=qh b;clear b;have r:((s[0].toNat:Int)==48)=true:=by rw[g];rfl
   clear g
   go_enter func134,ntmps134
   go_wp2
   go_ret;exact⟨qf d.out,rfl⟩
  ·have b:zj s.data.toList=s.data.toList.all qX:=by
    have:(s[0]==48)=false:=by
     rw[B0];intro h;exact g (by rw[h];rfl)
    simp only[zj,q.out,this,R5,m,p];simp
   have d:=qh b;clear b;have r:((s[0].toNat:Int)==48)=false:=by rw[B0];omega
   clear g
   go_enter func134,ntmps134
   go_wp2
   go_loop [19] (λi=> ∃k:Nat,k<=s.size/\i=.int .i64 k/\Hid ((s.data.toList.take k).all qX=true)) (λi=>s.size-(intOf i).toNat)
   case atStart=>exact⟨0,D0 _,rfl,qh rfl⟩
   case round=>
    obtain⟨k,t,rfl,a⟩:=hrel
    by_cases c:k<s.size
    ·have n:=qh (YZ s qX k c)
     have o:=qh (JY s qX k c);cases j:qX s[k]
     ·have f:=qh (d.out.trans (o.out j))
      go_wp2_with(go_at_call 105;refine(qW _ _).mono ?_;rintro e w' ⟨rfl,rfl⟩)
      go_ret;exact⟨qf f.out,rfl⟩
     ·have l:(s.data.toList.take (k+1)).all qX=true:=by rw[n.out,a.out,j];rfl
      have f:=qh l;clear l
      go_wp2_with(go_at_call 105;refine(qW _ _).mono ?_;rintro e w' ⟨rfl,rfl⟩)
      go_round
      case rel=>exact⟨k+1,by omega,by go_num,f⟩
      case measure=>simp[intOf];omega
    ·go_wp2
     go_ret;exact⟨qf (d.out.trans (Yw s _ k (by omega) a.out)),rfl⟩
 ·have b:zj s.data.toList=s.data.toList.all qX:=by
   simp only[zj,R5,m,p];simp
  have d:=qh b;clear b
  go_enter func134,ntmps134
  go_wp2
  go_loop [19] (λi=> ∃k:Nat,k<=s.size/\i=.int .i64 k/\Hid ((s.data.toList.take k).all qX=true)) (λi=>s.size-(intOf i).toNat)
  case atStart=>exact⟨0,D0 _,rfl,qh rfl⟩
  case round=>
   obtain⟨k,t,rfl,a⟩:=hrel
   by_cases c:k<s.size
   ·have n:=qh (YZ s qX k c)
    have o:=qh (JY s qX k c);cases j:qX s[k]
    ·have f:=qh (d.out.trans (o.out j))
     go_wp2_with(go_at_call 105;refine(qW _ _).mono ?_;rintro e w' ⟨rfl,rfl⟩)
     go_ret;exact⟨qf f.out,rfl⟩
    ·have l:(s.data.toList.take (k+1)).all qX=true:=by rw[n.out,a.out,j];rfl
     have f:=qh l;clear l
     go_wp2_with(go_at_call 105;refine(qW _ _).mono ?_;rintro e w' ⟨rfl,rfl⟩)
     go_round
     case rel=>exact⟨k+1,by omega,by go_num,f⟩
     case measure=>simp[intOf];omega
   ·go_wp2
    go_ret;exact⟨qf (d.out.trans (Yw s _ k (by omega) a.out)),rfl⟩
end Go.Proofs.YtmngofgminlloaaGreatDoor
namespace Go.Proofs.YtmngofgminlloaaGreatDoor
namespace Tw
def yD(b:Bs)(h:b≠[]):Lib.contains [] b=false:=by
 cases b with
 |nil=>exact H9 rfl h
 |cons a l=>simp[Lib.contains,Lib.index]
def contains_cons(b)(l a:Bs):Lib.contains (b::l) a=(a.isPrefixOf (b::l)||Lib.contains l a):=by
 have e:=Lib.index_ge l a;unfold Lib.contains;rw[Lib.index];cases h:a.isPrefixOf (b::l)
 ·by_cases c:Lib.index l a= -1
  ·simp[c]
  ·have d:(Lib.index l a== -1)=false:=by simpa using c
   simp only[d,C2,if_false,Bool.false_or];rw[decide_eq_decide];omega
 ·simp
def zaA(v a b:Bs)(d: ∀c∈v,c≠32):Lib.contains (v++a) (32::b)=Lib.contains a (32::b):=by
 induction v with
 |nil=>rfl
 |cons c v e=>
  rw[B6,contains_cons,e (λx f=>d x (x5 _ f))];have:((32:UInt8)==c)=false:=by rw[B0];exact λh=>d c (B2 ..) h.symm
  simp[List.isPrefixOf,this]
def zcO(w v d:Bs)(f: ∀c∈w,c≠32)(g: ∀c∈v,c≠32):(w++[32]).isPrefixOf (v++32::d)=decide (v=w):=by
 induction w generalizing v with
 |nil=>
  cases v with
  |nil=>simp[List.isPrefixOf]
  |cons c v=>
   have:((32:UInt8)==c)=false:=by rw[B0];exact λh=>g c (B2 ..) h.symm
   simp[List.isPrefixOf,this]
 |cons a w i=>
  have j:=f a (B2 ..);cases v with
  |nil=>
   have:(a==(32:UInt8))=false:=by rw[B0];exact j
   simp[List.isPrefixOf,this]
  |cons c v=>
   have:=i v (λx e=>f x (x5 _ e)) (λx e=>g x (x5 _ e));simp only[B6,List.isPrefixOf,this]
   by_cases b:a=c
   ·subst b;simp
   ·have:(a==c)=false:=by simpa using b
    simp[this];intro h;exact H9 h.symm b
def Xj(ws:List Bs):Bs:=ws.flatMap λv=>v++[32]
def Zd(ws)(a: ∀v∈ws,∀c∈v,c≠32)(w:Bs)(b: ∀c∈w,c≠32):Lib.contains (32::Xj ws) (32::(w++[32]))=ws.contains w:=by
 induction ws with
 |nil=>
  simp only[Xj,List.flatMap_nil,contains_cons];rw[yD _ (by simp)];cases w<;>simp[List.isPrefixOf]
 |cons v ws d=>
  have e:Xj (v::ws)=v++32::Xj ws:=by simp[Xj]
  rw[e,contains_cons,zaA _ _ _ (a v (B2 ..)),d (λx f=>a x (x5 _ f))];have g:=zcO w v (Xj ws) b (a v (B2 ..));simp only[List.isPrefixOf,beq_self_eq_true,Bool.true_and,g,List.contains_cons]
  congr 1
  rw[F7];simp only[F1,beq_iff_eq];exact⟨λh=>h.symm,λh=>h.symm⟩
def zmD(c)(h:X8 c=true):c≠32:=by
 rintro rfl;revert h;decide
def zid:Bs:=[32,102,117,110,32,108,101,116,32,105,102,32,101,108,115,101,32,119,104,105,108,101,32,114,101,116,117,114,110,32,121,105,101,108,100,32,116,114,117,101,32,102,97,108,115,101,32,105,110,116,32,98,111,111,108,32]
def zax(w:Bs)(a:w.all X8=true):Lib.contains zid (32::(w++[32]))=qd w:=
 Zd qF (by decide) w (λc b=>zmD c (List.all_eq_true.1 a c b))
def Xl:Bs:=[32,60,61,32,62,61,32,61,61,32,33,61,32,38,38,32,124,124,32]
def Yh(a b):Lib.contains Xl [32,a,b,32]=zz.contains [a,b]:=by
 by_cases c:a=32
 ·subst c
  simp[Xl,contains_cons,yD,List.isPrefixOf,zz]
 ·by_cases d:b=32
  ·subst d
   simp[Xl,contains_cons,yD,List.isPrefixOf,zz]
  ·exact Zd zz (by decide) [a,b] (by simp[c,d])
def zaz(l:Bs)(c):decide (0<=Lib.indexByte l c)=l.contains c:=by
 induction l with
 |nil=>simp[Lib.indexByte]
 |cons b l d=>
  rw[Lib.indexByte,List.contains_cons];have j:=Lib.indexByte_ge l c
  by_cases h:b=c
  ·subst h;simp
  ·have f:(b==c)=false:=by simpa using h
   have g:(c==b)=false:=by simpa using λe=>h e.symm
   rw[<-d];simp only[f,g,C2,if_false,Bool.false_or]
   by_cases a:Lib.indexByte l c= -1
   ·simp[a]
   ·have i:(Lib.indexByte l c== -1)=false:=by simpa using a
    simp only[i,C2,if_false];rw[decide_eq_decide];omega
end Tw
end Go.Proofs.YtmngofgminlloaaGreatDoor
