/- Merged. -/
import Derived.Test.YtmngofgminlloaaGreatDoorCT06
set_option linter.all false
set_option maxHeartbeats 64000000
set_option maxRecDepth 100000
namespace Go.Proofs.YtmngofgminlloaaGreatDoor
open Go.RowKit Tw
def R2(s:ByteArray):Bool:=M5 s.data.toList
def zJ(k n:Int)(t:ByteArray)(a:Nat):Bool:=
 if k=1 then decide (0<=n)&&decide (n<=999999999999)&&decide (a=0)
 else if k=2 then(decide (n=0)||decide (n=1))&&decide (a=0)
 else if k=3 then R2 t&&decide (a=0)
 else if k=4\/k=5 then decide (a=1)
 else if k=6 then decide (a=2)&&decide (lv t.data.toList≠0)
 else if k=7 then R2 t
 else if k=8 then decide (0<=n)
 else false
def yo(k n:Int)(t:ByteArray)(a left:Nat):Option Int:=
 if left=0 then some 2
 else if zJ k n t a=false then some 3
 else if 6<a\/(k=8/\15<n)then some 2
 else none
mutual
def zK:Ex->Nat->Int
 |.mk k n t xs _,left=>match yo k n t xs.length left with|some e=>e|none=>zx xs (left-1)
def zx:List Ex->Nat->Int
 |[],_=>0
 |a::l,left=>if zK a left=0 then zx l left else zK a left
end
mutual
def xK:Sm->Nat->Int
 |.mk k nm a J0 M9 _,left=>
  if left=0 then 2
  else if k<1\/7<k\/(k<=2/\R2 nm=false)then 3
  else if zK a (left-1)≠0 then zK a (left-1)
  else if(k=3\/k=4)/\O0 J0 (left-1)≠0 then O0 J0 (left-1)
  else if k=3 then O0 M9 (left-1)else 0
def O0:List Sm->Nat->Int
 |[],_=>0
 |s::l,left=>if xK s left=0 then O0 l left else xK s left
end
def jc(t:Int):Bool:=decide (t=1)||decide (t=2)
def QZ(f:Fn):Int:=
 if 6<f.J1.length then 2
 else if(decide (f.J1.length=f.K4.length)&&R2 f.J2&&jc f.out&&f.J1.all R2&&f.K4.all jc)=false then 3
 else O0 f.J0 40
def ja:List Fn->Int
 |[]=>0
 |f::l=>if QZ f=0 then ja l else QZ f
def U6(l:List Fn):Int:=if 16<l.length then 2 else ja l
section
variable {k n:Int}{t:ByteArray}{L left:Nat}
theorem XO(h:1<=left)(a:zJ k n t L=false):yo k n t L left=some 3:=by
 unfold yo;rw[B5 (by omega),C8 a]
theorem zeB(h:1<=left)(a:zJ k n t L=true)(b:6<L\/(k=8/\15<n)):yo k n t L left=some 2:=by
 unfold yo;rw[B5 (by omega),B5 (by rw[a];decide),C8 b]
theorem zbm(h:1<=left)(a:zJ k n t L=true)(b: ¬(6<L\/(k=8/\15<n))):yo k n t L left=none:=by
 unfold yo;rw[B5 (by omega),B5 (by rw[a];decide),B5 b]
theorem ok1:zJ 1 n t L=(decide (0<=n)&&decide (n<=999999999999)&&decide (L=0)):=by simp[zJ]
theorem ok2:zJ 2 n t L=((decide (n=0)||decide (n=1))&&decide (L=0)):=by simp[zJ]
theorem ok3:zJ 3 n t L=(R2 t&&decide (L=0)):=by simp[zJ]
theorem ok4:zJ 4 n t L=decide (L=1):=by simp[zJ]
theorem ok5:zJ 5 n t L=decide (L=1):=by simp[zJ]
theorem ok6:zJ 6 n t L=(decide (L=2)&&decide (lv t.data.toList≠0)):=by simp[zJ]
theorem ok7:zJ 7 n t L=R2 t:=by simp[zJ]
theorem ok8:zJ 8 n t L=decide (0<=n):=by simp[zJ]
theorem oko(h:k<1\/8<k):zJ k n t L=false:=by
 unfold zJ;rw[B5 (by omega),B5 (by omega),B5 (by omega),B5 (by omega),B5 (by omega),B5 (by omega),B5 (by omega)]
end
theorem zff{l}{left:Nat}{k:Nat}(h:zx (l.take k) left=0):zx l left=zx (l.drop k) left:=by
 induction k generalizing l with
 |zero=>simp
 |succ k c=>
  cases l with
  |nil=>simp
  |cons a l=>
   simp only[List.take_succ_cons,List.drop_succ_cons]at*;rw[zx]at h|-
   split at h
   ·rename_i b;rw[C8 b];exact c h
   ·rename_i b;exact H9 h b
theorem zaR{l:List Ex}{left k:Nat}{x:Ex}(a:l[k]?=some x)(h:zx (l.take k) left=0)(c:zK x left=0):zx (l.take (k+1)) left=0:=by
 have b:k<l.length:=by rcases E0 k l.length with h|h;exact h;rw[C5 h]at a;cases a
 have e:zx (l.take (k+1)) left=zx ((l.take (k+1)).drop k) left:=zff (by rw[List.take_take,Nat.min_eq_left (by omega)];exact h);rw[e,List.drop_take,show k+1-k=1 by omega,F8 b];have:l[k]=x:=by rw[x9 b]at a;exact F6 a
 rw[this,List.take_succ_cons,List.take_zero,zx,C8 c,zx]
theorem zc7{l}{left k:Nat}{x}(a:l[k]?=some x)(h:zx (l.take k) left=0)(c:zK x left≠0):zx l left=zK x left:=by
 have b:k<l.length:=by rcases E0 k l.length with h|h;exact h;rw[C5 h]at a;cases a
 have:l[k]=x:=by rw[x9 b]at a;exact F6 a
 rw[zff h,F8 b,this,zx,B5 c]
theorem zeK{l}{left:Nat}{k:Nat}(h:O0 (l.take k) left=0):O0 l left=O0 (l.drop k) left:=by
 induction k generalizing l with
 |zero=>simp
 |succ k c=>
  cases l with
  |nil=>simp
  |cons a l=>
   simp only[List.take_succ_cons,List.drop_succ_cons]at*;rw[O0]at h|-
   split at h
   ·rename_i b;rw[C8 b];exact c h
   ·rename_i b;exact H9 h b
theorem xo{l:List Sm}{left k:Nat}{x:Sm}(a:l[k]?=some x)(h:O0 (l.take k) left=0)(c:xK x left=0):O0 (l.take (k+1)) left=0:=by
 have b:k<l.length:=by rcases E0 k l.length with h|h;exact h;rw[C5 h]at a;cases a
 have e:O0 (l.take (k+1)) left=O0 ((l.take (k+1)).drop k) left:=zeK (by rw[List.take_take,Nat.min_eq_left (by omega)];exact h);rw[e,List.drop_take,show k+1-k=1 by omega,F8 b];have:l[k]=x:=by rw[x9 b]at a;exact F6 a
 rw[this,List.take_succ_cons,List.take_zero,O0,C8 c,O0]
theorem za{l}{left k:Nat}{x}(a:l[k]?=some x)(h:O0 (l.take k) left=0)(c:xK x left≠0):O0 l left=xK x left:=by
 have b:k<l.length:=by rcases E0 k l.length with h|h;exact h;rw[C5 h]at a;cases a
 have:l[k]=x:=by rw[x9 b]at a;exact F6 a
 rw[zeK h,F8 b,this,O0,B5 c]
theorem zeN{l}{k:Nat}(h:ja (l.take k)=0):ja l=ja (l.drop k):=by
 induction k generalizing l with
 |zero=>simp
 |succ k c=>
  cases l with
  |nil=>simp
  |cons a l=>
   simp only[List.take_succ_cons,List.drop_succ_cons]at*;rw[ja]at h|-
   split at h
   ·rename_i b;rw[C8 b];exact c h
   ·rename_i b;exact H9 h b
theorem zaG{l:List Fn}{k:Nat}{x:Fn}(a:l[k]?=some x)(h:ja (l.take k)=0)(c:QZ x=0):ja (l.take (k+1))=0:=by
 have b:k<l.length:=by rcases E0 k l.length with h|h;exact h;rw[C5 h]at a;cases a
 have e:ja (l.take (k+1))=ja ((l.take (k+1)).drop k):=zeN (by rw[List.take_take,Nat.min_eq_left (by omega)];exact h);rw[e,List.drop_take,show k+1-k=1 by omega,F8 b];have:l[k]=x:=by rw[x9 b]at a;exact F6 a
 rw[this,List.take_succ_cons,List.take_zero,ja,C8 c,ja]
theorem jS{l}{k:Nat}{x}(a:l[k]?=some x)(h:ja (l.take k)=0)(c:QZ x≠0):ja l=QZ x:=by
 have b:k<l.length:=by rcases E0 k l.length with h|h;exact h;rw[C5 h]at a;cases a
 have:l[k]=x:=by rw[x9 b]at a;exact F6 a
 rw[zeN h,F8 b,this,ja,B5 c]
inductive xN:Ex->Prop
 |mk {k n:Int} {t:ByteArray} {xs:List Ex} {p:Int}:(Lit.int .i64 k).wf=true->t.size<=maxLen->xs.length<=281474976710656->(∀a∈xs,xN a)->xN (.mk k n t xs p)
inductive SmZ:Sm->Prop
 |mk {k:Int} {nm:ByteArray} {a:Ex} {J0 M9:List Sm} {p:Int}:nm.size<=maxLen->xN a->J0.length<=281474976710656->M9.length<=281474976710656->(∀s∈J0,SmZ s)->(∀s∈M9,SmZ s)->SmZ (.mk k nm a J0 M9 p)
structure FnZ(f:Fn):Prop where
 J2:f.J2.size<=maxLen
 J1: ∀n∈f.J1,n.size<=maxLen
 zkt:f.J1.length<=281474976710656
 zm8:f.K4.length<=281474976710656
 zej:f.J0.length<=281474976710656
 J0: ∀s∈f.J0,SmZ s
theorem xN.args{x}(h:xN x):x.K0.size<=maxLen/\x.args.length<=281474976710656/\ ∀a∈x.args,xN a:=by
 cases h with|mk _ b c d=>exact⟨b,c,d⟩
theorem xN.kwf{x}(h:xN x):(Lit.int .i64 x.I9).wf=true:=by
 cases h with|mk h _ _ _=>exact h
theorem SmZ.Z1{s}(h:SmZ s):s.J2.size<=maxLen/\xN s.a/\s.J0.length<=281474976710656/\s.M9.length<=281474976710656/\(∀q∈s.J0,SmZ q)/\(∀q∈s.M9,SmZ q):=by
 cases h with|mk b c d e f g=>exact⟨b,c,d,e,f,g⟩
end Go.Proofs.YtmngofgminlloaaGreatDoor
namespace Go.Proofs.YtmngofgminlloaaGreatDoor
open Go.Proofs.Tryz
open Go.RowKit Tw
section
open Go.Shelf
def zpl(s:ByteArray)(h:0<s.size):(s.extract 0 1).data.toList=[s[0]]:=by
 rw[je,List.drop_zero];have:=yi s 0 h;rw[List.drop_zero]at this;rw[this];rfl
def zlR(s:ByteArray)(t:Bool)(w:World)(hs:s.size<=9223372036854775807)(a:s.data.toList.all X8=t):
 Calls prog 74 #[.string s,.string ⟨#[97,98,99,100,101,102,103,104,105,106,107,108,109,110,111,112,113,114,115,116,117,118,119,120,121,122,95,48,49,50,51,52,53,54,55,56,57]⟩] w λe w'=>e=.returned (.bool t)/\Below w.heap.size w w':=
 zlG _ _ t w hs (by decide) (ascii_of_all (by decide)) (by
  rw[<-a];have:(λx=>(ByteArray.data ⟨#[97,98,99,100,101,102,103,104,105,106,107,108,109,110,111,112,113,114,115,116,117,118,119,120,121,122,95,48,49,50,51,52,53,54,55,56,57]⟩).toList.contains x)=X8:=funext zfi;rw[this])
def zoE(s:ByteArray)(h:0<s.size)(t:Bool)(w:World)(a:Zl s[0]=t):
 Calls prog 74 #[.string (s.extract 0 1),.string ⟨#[97,98,99,100,101,102,103,104,105,106,107,108,109,110,111,112,113,114,115,116,117,118,119,120,121,122,95]⟩] w λe w'=>e=.returned (.bool t)/\Below w.heap.size w w':=
 zlG _ _ t w (by simp;omega) (by decide) (ascii_of_all (by decide)) (by rw[zpl s h];simp only[List.all_cons,List.all_nil,Bool.and_true];exact(zjK _).trans a)
def zdy(s:ByteArray)(w)(hs:s.size<=maxLen)(p:zo w)(q:5<w.heap.size):
 Calls prog 47 #[.string s] w λe w'=>e=.returned (.bool (M5 s.data.toList))/\Below w.heap.size w w':=by
 unfold maxLen at hs;have z:=qh p;clear p;have A:=qh q;clear q
 by_cases m:1<=s.size
 case neg=>
  have d:M5 s.data.toList=false:=by simp[M5];omega
  have i:=qh d;clear d;have r:s.toList.isEmpty=true:=by
   rw[C7,List.isEmpty_iff];exact I0 (by rw[R5];omega)
  have B:s.toList=[]:=by simpa using r
  go_enter func47,ntmps47
  go_wp2_with fail
  go_ret;exact⟨qf i.out,x8 _ _⟩
 have r:s.toList.isEmpty=false:=by
  rw[C7];cases C:s.data.toList with
  |nil=>have:=R5 s;rw[C]at this;simp at this;omega
  |cons a l=>rfl
 by_cases D:s.size<=16
 case neg=>
  have d:M5 s.data.toList=false:=by simp[M5];omega
  have i:=qh d;clear d
  go_enter func47,ntmps47
  go_wp2_with fail
  go_ret;exact⟨qf i.out,x8 _ _⟩
 have u:=qh (xx s m);cases h:s.data.toList.all X8
 case false=>
  have d:M5 s.data.toList=false:=by simp only[M5,h];simp
  have i:=qh d;have j:=qh h;clear d h
  go_enter func47,ntmps47
  go_wp2_with fail
  refine(zlR s false _ (by omega) j.out).mono ?_;rintro e v ⟨rfl,b⟩;have c:=qh b;clear b
  go_wp2_with fail
  go_ret;exact⟨qf i.out,c.out⟩
 cases k:Zl s[0]
 case false=>
  have d:M5 s.data.toList=false:=by simp only[M5,u.out,k];simp
  have i:=qh d;have j:=qh h;have o:=qh k;clear d h k
  go_enter func47,ntmps47
  go_wp2_with fail
  refine(zlR s true _ (by omega) j.out).mono ?_;rintro e v ⟨rfl,b⟩;have c:=qh b;clear b
  go_wp2_with fail
  refine(zoE s m false _ o.out).mono ?_;rintro e E ⟨rfl,f⟩;have g:=qh (c.out.trans (f.mono c.out.size));clear f
  go_wp2_with fail
  go_ret;exact⟨qf i.out,g.out⟩
 have x: ∀t,qd s.data.toList=t->M5 s.data.toList=!t:=by
  intro t n;simp only[M5,u.out,h,k,n,R5,m,D];simp
 have F:=qh x;have j:=qh h;have o:=qh k;clear x h k;obtain⟨t,n⟩: ∃t,qd s.data.toList=t:=⟨_,rfl⟩;have y:=qh n;clear n
 go_enter func47,ntmps47
 go_wp2_with fail
 refine(zlR s true _ (by omega) j.out).mono ?_;rintro e v ⟨rfl,b⟩;have c:=qh b;clear b
 go_wp2_with fail
 refine(zoE s m true _ o.out).mono ?_;rintro e E ⟨rfl,f⟩;have g:=qh (c.out.trans (f.mono c.out.size));clear f
 go_wp2_with fail
 refine(zfk s t _ j.out y.out (z.out.below g.out (by have:=A.out;show 2<_;omega))).mono ?_;rintro e G ⟨rfl,rfl⟩
 go_wp2_with fail
 go_ret;exact⟨qf (F.out t y.out),g.out⟩
end
section
open Go.Maps
def J7.jJ{w}{F:Nat->Prop}{v l}(h:J7 w F v l): ∃A c,v=.slice A l.length c:=by
 cases h with
 |nil a c=>exact⟨a,c,rfl⟩
 |row g d b=>exact⟨_,b,rfl⟩
def J7.at{w}{F:Nat->Prop}{A}{c:Nat}{l}(h:J7 w F (.slice A l.length c) l)(k:Nat)(x)(i:l[k]?=some x):
 ∃g b j e,A=some ⟨g,b,none⟩/\F g/\g<w.heap.size/\J7 w F (.slice j x.args.length e) x.args/\w.cell? ⟨g,b+k*5,none⟩=some (.int .i64 x.I9)/\w.cell? ⟨g,b+k*5+1,none⟩=some (.int .i64 x.n)/\w.cell? ⟨g,b+k*5+2,none⟩=some (.string x.K0)/\w.cell? ⟨g,b+k*5+3,none⟩=some (.slice j x.args.length e)/\w.cell? ⟨g,b+k*5+4,none⟩=some (.int .i64 x.pos):=by
 generalize o:Value.slice A l.length c=v at h;cases h with
 |nil a e=>simp at i
 |row g b p _ y q r s m=>
  injection o with t z B
  obtain⟨j,e,u⟩:=(m k x i).jJ;have d:=s k x i;have f:=m k x i;rw[u]at d f;exact⟨g,b,j,e,t,q,r,f,d 0 _ rfl,d 1 _ rfl,d 2 _ rfl,d 3 _ rfl,d 4 _ rfl⟩
def Zo(s:ByteArray)(t:Bool)(b:R2 s=t)(w)(hs:s.size<=maxLen)(a:O4 w):Calls prog 47 #[.string s] w λe w'=>e=.returned (.bool t)/\Below w.heap.size w w':=by
 have h:=zdy s w hs a.maxLen (by have:=a.xM;omega);rw[show M5 s.data.toList=t from b]at h;exact h
def ExF(left:Nat):Prop:=
 ∀(a:Int),a=left-> ∀(x:Ex)(A:Option Addr)(c:Nat)(F:Nat->Prop)(w:World),J7 w F (.slice A x.args.length c) x.args->xN x->O4 w->
  Calls prog 102 #[.agg #[.int .i64 x.I9,.int .i64 x.n,.string x.K0,.slice A x.args.length c,.int .i64 x.pos],.int .i64 a] w λe b=>e=.returned (.int .i64 (zK x left))/\Below w.heap.size w b
end
section
open Go.Maps
def zeM{k n:Int}{t:ByteArray}{xs:List Ex}{p:Int}{left:Nat}(_:Hid (xN (.mk k n t xs p)))(c:1<=left)(a:zJ k n t xs.length=true)(b: ¬(6<xs.length\/(k=8/\15<n))):Hid (yo k n t xs.length left=none):=qh (zbm c a b)
def zmq(left:Nat)(y:1<=left)(T:left<=40)(M:ExF (left-1))(k:Int)(z:k=1\/k=2\/k=3)(B:(Lit.int .i64 k).wf=true)(n:Int)(t:ByteArray)(xs)(p:Int)(A)(c:Nat)(F:Nat->Prop)(w)(N:J7 w F (.slice A xs.length c) xs)(O:xN (.mk k n t xs p))(P:O4 w):
 Calls prog 102 #[.agg #[.int .i64 k,.int .i64 n,.string t,.slice A xs.length c,.int .i64 p],.int .i64 left] w λe w'=>e=.returned (.int .i64 (zK (.mk k n t xs p) left))/\Below w.heap.size w w':=by
 have HA:=qh N;have C:=qh O;have U:=qh P;have IH:=qh M;obtain⟨w1,w2,w3,w4,w5,g,V,W,X,Y,Z,r6,f,j⟩:=zcj (w.alloc (.cells #[.int .i64 k,.int .i64 n,.string t,.slice A xs.length c,.int .i64 p] 186));have Q:(w.alloc (.cells #[.int .i64 k,.int .i64 n,.string t,.slice A xs.length c,.int .i64 p] 186)).heap.size=w.heap.size+1:=by simp
 rw[Q]at V W X Y Z r6 f;have h:g.heap[w.heap.size]?=some (.cells #[.int .i64 k,.int .i64 n,.string t,.slice A xs.length c,.int .i64 p] 186 (0,0)):=(j.block _ (by simp)).trans (A5 w _);have d:=qh (((x8 w.heap.size w).alloc (x7 _) (.cells #[.int .i64 k,.int .i64 n,.string t,.slice A xs.length c,.int .i64 p] 186)).trans (j.mono (by simp)));have a0:=qh h;have r:=qh (U.out.to d.out);obtain⟨⟨u,v,c2,x,c4⟩,-⟩:=K6 h;have hs6:w.heap.size<g.heap.size:=I5 h;have s:t.size<=maxLen:=C.out.args.1;have a1:xs.length<=281474976710656:=C.out.args.2.1;obtain⟨bn,l⟩: ∃b,R2 t=b:=⟨_,rfl⟩;obtain⟨m,o⟩: ∃m,lv t.data.toList=m:=⟨_,rfl⟩;have D:=qh l;have HM:=qh o;have R:=qh (Zo t bn l g s r.out);have S:Hid (Calls prog 161 #[.string t] g λe w'=>e=.returned (.int .i64 m)/\Below g.heap.size g w'):=qh (by rw[<-o];exact zdI t g r.out);have a2:(1:Int)<=(left:Int):=by omega
 have a3:= @run_makeMap prog;clear N O P M Q h j l o s;have E: ∃G,(Instr.lookup 207 (.map (some (w.heap.size+1))) (.int .i64 k) true).run prog g=.ok (.tuple #[.int .i64 G,.bool true]) g/\G=0:=by
  rcases z with rfl|rfl|rfl
  ·exact⟨0,ZG f 1 0 true (by decide) zkO.1 zkO.2,rfl⟩
  ·exact⟨0,ZG f 2 0 true (by decide) zll.1 zll.2,rfl⟩
  ·exact⟨0,ZG f 3 0 true (by decide) zkY.1 zkY.2,rfl⟩
 obtain⟨G,lk,rfl⟩:=E;clear f B
 by_cases q:xs=[]
 ·subst q
  simp only[B1]at*
  rcases z with rfl|rfl|rfl
  case' inr.inr=>cases bn
  all_goals(go_enter func102,ntmps102;go_wp2_with(first|(go_at_call 161;refine S.out.mono ?_;rintro e H ⟨rfl,a⟩;have I:=(a.cell (p:=⟨w.heap.size,3,none⟩) hs6).trans x;have J:=(a.cell (p:=⟨w.heap.size,1,none⟩) hs6).trans v;have K:=(a.cell (p:=⟨w.heap.size,0,none⟩) hs6).trans u)|(go_at_call 47;refine R.out.mono ?_;rintro e H ⟨rfl,a⟩;have I:=(a.cell (p:=⟨w.heap.size,3,none⟩) hs6).trans x;have J:=(a.cell (p:=⟨w.heap.size,1,none⟩) hs6).trans v;have K:=(a.cell (p:=⟨w.heap.size,0,none⟩) hs6).trans u)))
  all_goals try(go_ret;(try simp only[beq_iff_eq,B0,ne_eq,B1]at*);exact⟨by rw[zK,XO y (by(first|rw[ok1]|rw[ok2]|rw[ok3,D.out])<;>first|rfl|(simp only[Bool.true_and,Bool.false_and,F3,Bool.or_eq_true,Bool.and_eq_false_iff,Bool.or_eq_false_iff,F1,decide_eq_false_iff_not,ne_eq,B1,and_true,true_and];omega))];rfl,by first|exact d.out|exact d.out.trans (a.mono d.out.size)⟩)
  all_goals
   have HH:=zeM C y (by(try simp only[beq_iff_eq,B0,ne_eq,B1]at*);exact(by(first|rw[ok1]|rw[ok2]|rw[ok3,D.out])<;>first|rfl|(simp only[Bool.true_and,Bool.false_and,F3,Bool.or_eq_true,Bool.and_eq_false_iff,Bool.or_eq_false_iff,F1,decide_eq_false_iff_not,ne_eq,B1,and_true,true_and];omega))) (by simp)
   go_loopw[122] (λi wr=>i=.int .i64 0/\Hid (Below w.heap.size w wr)) (λ_ _=>0)
   case atStart=>exact⟨rfl,by first|exact d|exact qh (d.out.trans (a.mono d.out.size))⟩
   case round=>
    obtain⟨rfl,HB⟩:=hrel
    go_wp2_with fail
    go_ret;exact⟨by rw[zK,HH.out,zx];rfl,HB.out⟩
 ·have a4:0<xs.length:=List.length_pos_iff.2 q
  clear q
  rcases z with rfl|rfl|rfl
  case' inr.inr=>cases bn
  all_goals(go_enter func102,ntmps102;go_wp2_with(first|(go_at_call 161;refine S.out.mono ?_;rintro e H ⟨rfl,a⟩;have I:=(a.cell (p:=⟨w.heap.size,3,none⟩) hs6).trans x;have J:=(a.cell (p:=⟨w.heap.size,1,none⟩) hs6).trans v;have K:=(a.cell (p:=⟨w.heap.size,0,none⟩) hs6).trans u)|(go_at_call 47;refine R.out.mono ?_;rintro e H ⟨rfl,a⟩;have I:=(a.cell (p:=⟨w.heap.size,3,none⟩) hs6).trans x;have J:=(a.cell (p:=⟨w.heap.size,1,none⟩) hs6).trans v;have K:=(a.cell (p:=⟨w.heap.size,0,none⟩) hs6).trans u)))
  all_goals(go_ret;generalize hL:xs.length=L at*;(try simp only[beq_iff_eq,B0,ne_eq]at*);exact⟨by rw[zK,hL,XO y (by(first|rw[ok1]|rw[ok2]|rw[ok3,D.out])<;>first|rfl|(simp only[Bool.true_and,Bool.false_and,F3,Bool.or_eq_true,Bool.and_eq_false_iff,Bool.or_eq_false_iff,F1,decide_eq_false_iff_not,ne_eq,B1,and_true,true_and];omega))];rfl,by first|exact d.out|exact d.out.trans (a.mono d.out.size)⟩)
end
section
open Go.Maps
def zme(left:Nat)(G:1<=left)(a8:left<=40)(ih:ExF (left-1))(k:Int)(E:k=4\/k=5\/k=6\/k=7\/k=8\/(k<1\/8<k))(H:(Lit.int .i64 k).wf=true)(n:Int)(t:ByteArray)(xs)(p:Int)(A)(c:Nat)(F:Nat->Prop)(w)(hA:J7 w F (.slice A xs.length c) xs)(hZ:xN (.mk k n t xs p))(hG:O4 w):
 Calls prog 102 #[.agg #[.int .i64 k,.int .i64 n,.string t,.slice A xs.length c,.int .i64 p],.int .i64 left] w λe w'=>e=.returned (.int .i64 (zK (.mk k n t xs p) left))/\Below w.heap.size w w':=by
 have HA:=qh hA;have R:=qh hZ;have HG:=qh hG;have IH:=qh ih;obtain⟨w1,w2,w3,w4,w5,u,r1,r2,r3,r4,r5,r6,a,v⟩:=zcj (w.alloc (.cells #[.int .i64 k,.int .i64 n,.string t,.slice A xs.length c,.int .i64 p] 186));have hm:(w.alloc (.cells #[.int .i64 k,.int .i64 n,.string t,.slice A xs.length c,.int .i64 p] 186)).heap.size=w.heap.size+1:=by simp
 rw[hm]at r1 r2 r3 r4 r5 r6 a;have o:u.heap[w.heap.size]?=some (.cells #[.int .i64 k,.int .i64 n,.string t,.slice A xs.length c,.int .i64 p] 186 (0,0)):=(v.block _ (by simp)).trans (A5 w _);have d:=qh (((x8 w.heap.size w).alloc (x7 _) (.cells #[.int .i64 k,.int .i64 n,.string t,.slice A xs.length c,.int .i64 p] 186)).trans (v.mono (by simp)));have a9:=qh o;have I:=qh (HG.out.to d.out);obtain⟨⟨T,U,c2,V,c4⟩,-⟩:=K6 o;have hs6:w.heap.size<u.heap.size:=I5 o;have J:t.size<=maxLen:=R.out.args.1;have b5:xs.length<=281474976710656:=R.out.args.2.1;obtain⟨bn,y⟩: ∃b,R2 t=b:=⟨_,rfl⟩;obtain⟨m,B⟩: ∃m,lv t.data.toList=m:=⟨_,rfl⟩;have W:=qh y;have X:=qh B;have NC:=qh (Zo t bn y u J I.out);have BC:Hid (Calls prog 161 #[.string t] u λe w'=>e=.returned (.int .i64 m)/\Below u.heap.size u w'):=qh (by rw[<-B];exact zdI t u I.out);have b6:(1:Int)<=(left:Int):=by omega
 have b7:= @run_makeMap prog;clear hA hZ hG ih hm o v y B J
 rcases E with rfl|rfl|rfl|rfl|rfl|E
 case' inl=>have C:=ZG a 4 1 true (by decide) zk6.1 zk6.2
 case' inr.inl=>have C:=ZG a 5 1 true (by decide) zkZ.1 zkZ.2
 case' inr.inr.inl=>have C:=ZG a 6 2 true (by decide) zlj.1 zlj.2
 case' inr.inr.inr.inl=>
  have C:=ZG a 7 0 false (by decide) zkX.1 zkX.2;cases bn
 case' inr.inr.inr.inr.inl=>have C:=ZG a 8 0 false (by decide) zkQ.1 zkQ.2
 case' inr.inr.inr.inr.inr=>
  obtain⟨cc,C,-⟩:=zc3 a k H;generalize Maps.has xm (.int .i64 k)=Y at C;cases Y
 all_goals clear a H
 all_goals(go_enter func102,ntmps102;go_wp2_with(first|(go_at_call 161;refine BC.out.mono ?_;rintro e w7 ⟨rfl,f⟩;have d3:=(f.cell (p:=⟨w.heap.size,3,none⟩) hs6).trans V;have d1:=(f.cell (p:=⟨w.heap.size,1,none⟩) hs6).trans U;have d0:=(f.cell (p:=⟨w.heap.size,0,none⟩) hs6).trans T)|(go_at_call 47;refine NC.out.mono ?_;rintro e w7 ⟨rfl,f⟩;have d3:=(f.cell (p:=⟨w.heap.size,3,none⟩) hs6).trans V;have d1:=(f.cell (p:=⟨w.heap.size,1,none⟩) hs6).trans U;have d0:=(f.cell (p:=⟨w.heap.size,0,none⟩) hs6).trans T)))
 all_goals try(go_ret;generalize K:xs.length=L at*;(try simp only[beq_iff_eq,B0,ne_eq]at*);exact⟨by rw[zK,K,XO G (by first|exact oko E|exact(by(first|rw[ok4]|rw[ok5]|rw[ok6,X.out]|rw[ok7,W.out]|rw[ok8])<;>first|rfl|(simp only[Bool.true_and,Bool.false_and,F3,Bool.or_eq_true,Bool.and_eq_false_iff,Bool.or_eq_false_iff,F1,decide_eq_false_iff_not,ne_eq,B1,and_true,true_and];omega)))];rfl,by first|exact d.out|exact d.out.trans (f.mono d.out.size)⟩)
 all_goals try(go_ret;generalize K:xs.length=L at*;(try simp only[beq_iff_eq,B0,ne_eq]at*);exact⟨by rw[zK,K,zeB G (by(first|rw[ok4]|rw[ok5]|rw[ok6,X.out]|rw[ok7,W.out]|rw[ok8])<;>first|rfl|(simp only[Bool.true_and,Bool.false_and,F3,Bool.or_eq_true,Bool.and_eq_false_iff,Bool.or_eq_false_iff,F1,decide_eq_false_iff_not,ne_eq,B1,and_true,true_and];omega)) (by omega)];rfl,by first|exact d.out|exact d.out.trans (f.mono d.out.size)⟩)
 all_goals
  have HH:=zeM R G (by generalize K:xs.length=L at*;(try simp only[beq_iff_eq,B0,ne_eq]at*);exact(by(first|rw[ok4]|rw[ok5]|rw[ok6,X.out]|rw[ok7,W.out]|rw[ok8])<;>first|rfl|(simp only[Bool.true_and,Bool.false_and,F3,Bool.or_eq_true,Bool.and_eq_false_iff,Bool.or_eq_false_iff,F1,decide_eq_false_iff_not,ne_eq,B1,and_true,true_and];omega))) (by generalize K:xs.length=L at*;(try simp only[beq_iff_eq,B0,ne_eq]at*);omega)
  go_loopw[122] (λi wr=> ∃j:Nat,j<=xs.length/\i=.int .i64 j/\Hid (zx (xs.take j) (left-1)=0)/\Hid (Below w.heap.size w wr)) (λi _=>xs.length-(intOf i).toNat)
  case atStart=>exact⟨0,D0 _,rfl,qh (by rw[List.take_zero,zx]),by first|exact d|exact qh (d.out.trans (f.mono d.out.size))⟩
  case round=>
   clear T U c2 V c4 C r1 r2 r3 r4 r5 r6;obtain⟨j,hj,rfl,Z,s⟩:=hrel
   by_cases a5:j<xs.length
   ·obtain⟨x,S⟩: ∃x,xs[j]?=some x:=⟨_,x9 a5⟩
    obtain⟨g,h,A',c',rfl,-,M,E,a0,a1,a2,a3,a4⟩:=HA.out.at j x S;have b0:=(s.out.cell (p:=⟨g,h+j*5,none⟩) M).trans a0;have b1:=(s.out.cell (p:=⟨g,h+j*5+1,none⟩) M).trans a1;have b2:=(s.out.cell (p:=⟨g,h+j*5+2,none⟩) M).trans a2;have b3:=(s.out.cell (p:=⟨g,h+j*5+3,none⟩) M).trans a3;have b4:=(s.out.cell (p:=⟨g,h+j*5+4,none⟩) M).trans a4;clear a0 a1 a2 a3 a4;have N:x∈xs:=B7 S;have HX:=qh S;have HK:=qh E;have a6:=qh N;clear S E N;have k0:(0:Int)<=(j:Int):=by omega
    have k1:(j:Int)<(xs.length:Int):=by omega
    go_wp2_with fail
    have l:=qh (s.out.alloc s.out.size (.cells #[.int .i64 x.I9,.int .i64 x.n,.string x.K0,.slice A' x.args.length c',.int .i64 x.pos] 186));refine(IH.out _ (by omega) x A' c' F _ (HK.out.K7 (F':=F) (λq G h2=>⟨G,A7 h2 l.out.size,l.out.block q h2⟩)) (R.out.args.2.2 x a6.out) (HG.out.to l.out)).mono ?_;rintro e w8 ⟨rfl,O⟩;have P:=qh (l.out.trans (O.mono l.out.size));obtain⟨z,hz⟩: ∃z,zK x (left-1)=z:=⟨_,rfl⟩;rw[hz];have D:=qh hz;clear hz O b0 b1 b2 b3 b4
    by_cases r:z=0
    ·subst r
     go_wp2_with fail
     go_roundw
     case rel=>exact⟨j+1,by omega,by go_num,qh (zaR HX.out Z.out D.out),P⟩
     case measure=>simp[intOf];omega
    ·have e0:(z !=0)=true:=by simpa using r
     have a7:=qh r;clear r
     go_wp2_with fail
     go_ret;exact⟨by rw[zK,HH.out,zc7 HX.out Z.out (by rw[D.out];exact a7.out),D.out];rfl,P.out⟩
   ·have Q:j=xs.length:=by omega
    have HF:Hid (zx xs (left-1)=0):=qh (by have:=Z.out;rw[Q,F5]at this;exact this);clear Q
    go_wp2_with fail
    go_ret;exact⟨by rw[zK,HH.out,HF.out];rfl,s.out⟩
end
section
open Go.Maps
def zn8:ExF 0:=by
 intro g a x A c F w b d f;subst a;have e:zK x 0=2:=by cases x with|mk k n t h p=>rw[zK];rfl
 rw[e];clear b d f e
 go_enter func102,ntmps102
 go_wp2_with fail
 go_ret;exact⟨rfl,(x8 _ _).alloc (x7 _) _⟩
def znJ: ∀left,left<=40->ExF left:=by
 intro left
 induction left with
 |zero=>exact λ_=>zn8
 |succ left f=>
  intro h l b x A c F w d e g;subst b;cases x with|mk k n t i p=>
  simp only[Ex.I9,Ex.n,Ex.K0,Ex.args,Ex.pos]at d|-;have a:=e.kwf
  by_cases j:k=1\/k=2\/k=3
  ·exact zmq (left+1) (by omega) h (f (by omega)) k j a n t i p A c F w d e g
  ·exact zme (left+1) (by omega) h (f (by omega)) k (by omega) a n t i p A c F w d e g
end
section
open Go.Maps
def K9.jJ{w}{F:Nat->Prop}{v l}(h:K9 w F v l): ∃A c,v=.slice A l.length c:=by
 cases h with
 |nil a c=>exact⟨a,c,rfl⟩
 |row g d b=>exact⟨_,b,rfl⟩
def K9.at{w}{F:Nat->Prop}{A}{c:Nat}{l}(h:K9 w F (.slice A l.length c) l)(k:Nat)(s)(d:l[k]?=some s):
 ∃g b Aa ca f i m o,A=some ⟨g,b,none⟩/\F g/\g<w.heap.size/\J7 w F (.slice Aa s.a.args.length ca) s.a.args/\K9 w F (.slice f s.J0.length i) s.J0/\K9 w F (.slice m s.M9.length o) s.M9/\
  ∀j u,(#[.int .i64 s.I9,.string s.J2,.int .i64 s.a.I9,.int .i64 s.a.n,.string s.a.K0,.slice Aa s.a.args.length ca,.int .i64 s.a.pos,.slice f s.J0.length i,.slice m s.M9.length o,.int .i64 s.pos]:Array Value).toList[j]?=some u->w.cell? ⟨g,b+k*10+j,none⟩=some u:=by
 generalize D:Value.slice A l.length c=v at h;cases h with
 |nil a K=>simp at d
 |row g b E _ L M N G H I p q r=>
  injection D with J O P
  obtain⟨Aa,ca,t⟩:=(p k s d).jJ;obtain⟨f,i,x⟩:=(q k s d).jJ;obtain⟨m,o,y⟩:=(r k s d).jJ;have e:=I k s d;have z:=p k s d;have B:=q k s d;have C:=r k s d;rw[t,x,y]at e;rw[t]at z;rw[x]at B;rw[y]at C;exact⟨g,b,Aa,ca,f,i,m,o,J,G,H,z,B,C,e⟩
def zh9(s:Sm)(m:Nat):List Sm:=if m=0 then s.J0 else s.M9
def zmT(left:Nat):Prop:=
 ∀(a:Int),a=left-> ∀(l:List Sm)(A:Option Addr)(c:Nat)(F:Nat->Prop)(w:World),K9 w F (.slice A l.length c) l->(∀s∈l,SmZ s)->l.length<=281474976710656->O4 w->
  Calls prog 48 #[.slice A l.length c,.int .i64 a] w λe b=>e=.returned (.int .i64 (O0 l left))/\Below w.heap.size w b
def zbP:qC prog 192 30 1:=⟨underlying192,by kernel_rfl,by decide⟩
def zlf{s}{left:Nat}(b:1<=left)(h:s.I9<1\/7<s.I9\/(s.I9<=2/\R2 s.J2=false)):xK s left=3:=by
 cases s with|mk k c a J0 M9 p=>
 simp only[Sm.I9,Sm.J2]at h;rw[xK,B5 (by omega),C8 h]
def zk0{s}{left:Nat}(d:1<=left)(h: ¬(s.I9<1\/7<s.I9\/(s.I9<=2/\R2 s.J2=false))){z:Int}(c:z≠0)(b:zK s.a (left-1)=z):xK s left=z:=by
 cases s with|mk k e a J0 M9 p=>
 simp only[Sm.a]at b;simp only[Sm.I9,Sm.J2]at h;rw[xK,B5 (by omega),B5 h,C8 (by rw[b];exact c),b]
def zk3{s}{left:Nat}(c:1<=left)(h: ¬(s.I9<1\/7<s.I9\/(s.I9<=2/\R2 s.J2=false)))(b:zK s.a (left-1)=0):
 xK s left=if(s.I9=3\/s.I9=4)/\O0 s.J0 (left-1)≠0 then O0 s.J0 (left-1)else if s.I9=3 then O0 s.M9 (left-1)else 0:=by
 cases s with|mk k d a J0 M9 p=>
 simp only[Sm.a]at b;simp only[Sm.I9,Sm.J2]at h;rw[xK,B5 (by omega),B5 h,B5 (by rw[b];decide)];rfl
def zaS(left:Nat)(h6:left<=40)(ih:1<=left->zmT (left-1)):zmT left:=by
 intro li f7 l A c F w hA hZ g9 hG;subst f7;have HA:=qh hA;have HZ:=qh hZ;have HG:=qh hG;have IH:=qh ih;clear hA hZ hG ih
 go_enter func48,ntmps48
 go_wp2_with fail
 go_loopw[14] (λi wr=> ∃j:Nat,j<=l.length/\i=.int .i64 j/\Hid (O0 (l.take j) left=0)/\Hid (Below w.heap.size w wr)) (λi _=>l.length-(intOf i).toNat)
 case atStart=>exact⟨0,D0 _,rfl,qh (by rw[List.take_zero,O0]),qh (x8 _ _)⟩
 case round=>
  obtain⟨j,hj,rfl,HE,X⟩:=hrel
  by_cases f8:j<l.length
  ·obtain⟨s,hs⟩: ∃s,l[j]?=some s:=⟨_,x9 f8⟩
   obtain⟨g,H,Aa,ca,I,J,Ae,ce,rfl,-,hg,e2,e5,e6,Y⟩:=HA.out.at j s hs;have b0:=(X.out.cell (p:=⟨g,H+j*10,none⟩) hg).trans (Y 0 _ rfl);have b1:=(X.out.cell (p:=⟨g,H+j*10+1,none⟩) hg).trans (Y 1 _ rfl);have b2:=(X.out.cell (p:=⟨g,H+j*10+2,none⟩) hg).trans (Y 2 _ rfl);have b3:=(X.out.cell (p:=⟨g,H+j*10+3,none⟩) hg).trans (Y 3 _ rfl);have b4:=(X.out.cell (p:=⟨g,H+j*10+4,none⟩) hg).trans (Y 4 _ rfl);have b5:=(X.out.cell (p:=⟨g,H+j*10+5,none⟩) hg).trans (Y 5 _ rfl);have b6:=(X.out.cell (p:=⟨g,H+j*10+6,none⟩) hg).trans (Y 6 _ rfl);have b7:=(X.out.cell (p:=⟨g,H+j*10+7,none⟩) hg).trans (Y 7 _ rfl);have b8:=(X.out.cell (p:=⟨g,H+j*10+8,none⟩) hg).trans (Y 8 _ rfl);have b9:=(X.out.cell (p:=⟨g,H+j*10+9,none⟩) hg).trans (Y 9 _ rfl);have e7:s∈l:=B7 hs;have HS:=qh hs;have f9:=qh e2;have e8:=qh e5;have g0:=qh e6;have Q:=qh (HZ.out s e7);clear hs e2 e5 e6 Y e7;have k0:(0:Int)<=(j:Int):=by omega
   have k1:(j:Int)<(l.length:Int):=by omega
   by_cases g3:left=0
   ·subst g3
    go_wp2_with fail
    go_ret;have e:xK s 0=2:=by cases s with|mk=>rw[xK];rfl
    exact⟨by rw[za HS.out HE.out (by rw[e];decide),e];rfl,X.out.alloc X.out.size _⟩
   ·have a3:1<=left:=by omega
    have h7:(1:Int)<=(left:Int):=by omega
    go_upto_region 6 with(fail)
    clear b0 b1 b2 b3 b4 b5 b6 b7 b8 b9;have K:=qh (X.out.alloc X.out.size (.cells #[.int .i64 s.I9,.string s.J2,.int .i64 s.a.I9,.int .i64 s.a.n,.string s.a.K0,.slice Aa s.a.args.length ca,.int .i64 s.a.pos,.slice I s.J0.length J,.slice Ae s.M9.length ce,.int .i64 s.pos] 188));have HQ:=qh (A5 wr (.cells #[.int .i64 s.I9,.string s.J2,.int .i64 s.a.I9,.int .i64 s.a.n,.string s.a.K0,.slice Aa s.a.args.length ca,.int .i64 s.a.pos,.slice I s.J0.length J,.slice Ae s.M9.length ce,.int .i64 s.pos] 188));generalize wr.alloc _=wa at K HQ|-;have e9:=I5 HQ.out;generalize wr.heap.size=b6 at HQ e9|-;obtain⟨bn,d5⟩: ∃b,R2 s.J2=b:=⟨_,rfl⟩;have HN:=qh d5;have NC:=qh (Zo s.J2 bn d5 wa Q.out.Z1.1 (HG.out.to K.out));obtain⟨kd,d6⟩: ∃k,s.I9=k:=⟨_,rfl⟩;rw[d6]at HQ;have R:=qh d6;clear d5 d6;obtain⟨⟨S,c1,c2,c3,B,c5,c6,c7,c8,c9⟩,-⟩:=J5 HQ.out
    by_cases o:kd<1\/7<kd\/(kd<=2/\bn=false)
    ·have H3:Hid (xK s left=3):=qh (zlf a3 (by rw[R.out,HN.out];exact o))
     cases bn with
     |true=>
      have a9:kd<1\/7<kd:=by rcases o with h|h|⟨_,h⟩<;>first|exact .inl h|exact .inr h|cases h
      clear o
      rcases a9 with a9|a9
      all_goals
       go_wp2_with fail
       go_ret;exact⟨by rw[za HS.out HE.out (by rw[H3.out];decide),H3.out];rfl,K.out⟩
     |false=>
      by_cases h8:kd<1
      ·clear o
       go_wp2_with fail
       go_ret;exact⟨by rw[za HS.out HE.out (by rw[H3.out];decide),H3.out];rfl,K.out⟩
      by_cases h9:7<kd
      ·clear o
       go_wp2_with fail
       go_ret;exact⟨by rw[za HS.out HE.out (by rw[H3.out];decide),H3.out];rfl,K.out⟩
      have a9:kd<=2:=by rcases o with h|h|⟨h,_⟩<;>omega
      clear o
      go_wp2_with(go_at_call 47;refine NC.out.mono ?_;rintro e w7 ⟨rfl,a5⟩)
      go_ret;exact⟨by rw[za HS.out HE.out (by rw[H3.out];decide),H3.out];rfl,K.out.trans (a5.mono K.out.size)⟩
    ·have i0:1<=kd:=by omega
     have i1:kd<=7:=by omega
     have f0:Hid (¬(s.I9<1\/7<s.I9\/(s.I9<=2/\R2 s.J2=false))):=qh (by rw[R.out,HN.out];exact o)
     go_cut[38] (λu W=>u=.bool false/\Hid (Below wa.heap.size wa W))
     case first=>
      by_cases g4:kd<=2
      ·have g5:bn=true:=by cases bn with|true=>rfl|false=>exact H9 (.inr (.inr ⟨g4,rfl⟩)) o
       subst g5;clear o
       go_wp2_with(go_at_call 47;refine NC.out.mono ?_;rintro e w7 ⟨rfl,a5⟩)
       go_meet
       case rel=>exact⟨H0 Value.bool (by simp;omega),qh a5⟩
      ·clear o
       go_wp2_with fail
       go_meet
       case rel=>exact⟨H0 Value.bool (by simp;omega),qh (x8 _ _)⟩
     case rest=>
      obtain⟨rfl,d7⟩:=hcut;replace HQ:=qh ((d7.out.block b6 e9).trans HQ.out);have a4:=qh (K.out.trans (d7.out.mono K.out.size));clear S c1 c2 c3 B c5 c6 c7 c8 c9 o NC;clear K d7;have a5:=I5 HQ.out;obtain⟨⟨S,c1,c2,c3,B,c5,c6,c7,c8,c9⟩,-⟩:=J5 HQ.out
      go_wp2_with fail
      clear S c1 c2 c3 B c5 c6 c7 c8 c9;refine(znJ (left-1) (by omega) _ (by omega) s.a Aa ca F _ (f9.out.K7 (F':=F) (λq h1 N=>⟨h1,A7 N a4.out.size,a4.out.block q N⟩)) Q.out.Z1.2.1 (HG.out.to a4.out)).mono ?_;rintro e w8 ⟨rfl,T⟩;replace HQ:=qh ((T.block b6 a5).trans HQ.out);have c4:=qh (a4.out.trans (T.mono a4.out.size));clear T a4;obtain⟨z,Z⟩: ∃z,zK s.a (left-1)=z:=⟨_,rfl⟩;rw[Z];have f1:=qh Z;clear Z
      by_cases f:z=0
      ·subst f
       have HR:=qh (zk3 a3 f0.out f1.out);have T:=I5 HQ.out;obtain⟨⟨S,c1,c2,c3,B,c5,c6,c7,c8,c9⟩,-⟩:=J5 HQ.out;have C:=qh (World.ownsRow_made (e:=30) (size:=1) (base:=w.heap.size) w8 #[] 0 c4.out.size (by decide) rfl);have x:=qh (c4.out.alloc c4.out.size (.cells #[] 30));have v:=qh ((C4 w8 (.cells #[] 30) T).trans HQ.out)
       by_cases a6:kd=3\/kd=4
       ·rcases a6 with g6|g7
        ·subst g6
         go_upto_region 13 with(fail)
         clear S c1 c2 c3 B c5 c6 c7 c8 c9;generalize w8.alloc _=wo at C x v|-;generalize w8.heap.size=bo at C T|-;obtain⟨⟨S,c1,c2,c3,B,c5,c6,c7,c8,c9⟩,-⟩:=J5 v.out
         go_upto_region 14 with((at_builtin;go_must(refine N0 zbP rfl _ _ rfl w.heap.size _ 0 [] rfl (C.out.alloc _) wo.heap.size 1 #[.slice I s.J0.length J] rfl (A5 wo _) rfl (by simp[Value.oneCell']) (by decide) (by have:=x.out.size;simp;omega) ?_);intro g1 a0 w9 D y a1 d3))
         have E:(wo.alloc (.cells #[.slice I s.J0.length J] 30)).grownBy w9 (some bo):=y;have d0:=qh (Q7 (x.out.alloc x.out.size (.cells #[.slice I s.J0.length J] 30)) (C.out.alloc (.cells #[.slice I s.J0.length J] 30)) (x7 _) (by have:=x.out.size;simp;omega) E);have t:w9.ownsRow w.heap.size 30 1 (.slice (some ⟨g1,0,none⟩) 1 a0) 1 [.slice I s.J0.length J]:=D;have d8:=qh t;have d9:=qh ((E.block b6 (by have:=I5 v.out;simp;omega) (by simp;omega)).trans ((C4 wo (.cells #[.slice I s.J0.length J] 30) (I5 v.out)).trans v.out));have h5:b6≠g1:=by
          have h0:(Value.slice (some ⟨bo,0,none⟩) 0 0).ownBlock=some g1\/g1=(wo.alloc (.cells #[.slice I s.J0.length J] 30)).heap.size:=a1;have:=I5 v.out
          rcases h0 with h0|h0
          ·simp[Value.ownBlock]at h0;omega
          ·simp at h0;omega
         clear y a1 D t E S c1 c2 c3 B c5 c6 c7 c8 c9 v C x;obtain⟨⟨S,c1,c2,c3,B,c5,c6,c7,c8,c9⟩,-⟩:=J5 d9.out
         go_upto_region 16 with((at_builtin;go_must(refine N0 zbP rfl _ _ rfl w.heap.size _ 1 [.slice I s.J0.length J] rfl (d8.out.alloc _) w9.heap.size 1 #[.slice Ae s.M9.length ce] rfl (A5 w9 _) rfl (by simp[Value.oneCell']) (by decide) (by have:=d0.out.size;simp;omega) ?_);intro g2 e1 w10 a7 a2 f2 f3))
         have d4:(w9.alloc (.cells #[.slice Ae s.M9.length ce] 30)).grownBy w10 (some g1):=a2;have d:=qh (Q7 (d0.out.alloc d0.out.size (.cells #[.slice Ae s.M9.length ce] 30)) (d8.out.alloc (.cells #[.slice Ae s.M9.length ce] 30)) (x7 _) (by have:=d0.out.size;simp;omega) d4);have O:w10.ownsRow w.heap.size 30 1 (.slice (some ⟨g2,0,none⟩) 2 e1) 2 [.slice I s.J0.length J,.slice Ae s.M9.length ce]:=a7;have i2:=qh O;clear a2 f2 a7 d4 S c1 c2 c3 B c5 c6 c7 c8 c9;have d1:g2<w10.heap.size:=f3;have d2:Hid (∀j u,([.slice I s.J0.length J,.slice Ae s.M9.length ce]:List Value)[j]?=some u->w10.cell? ⟨g2,j,none⟩=some u):=qh (by
          rcases zQ O with⟨h,_⟩|⟨g,g8,h,_,_,Y⟩
          ·cases h
          ·cases h;exact Y)
         obtain⟨wz,rfl⟩: ∃wz:World,wz=w10:=⟨_,rfl⟩;clear O
         go_wp2_with fail
         go_loopw[71] (λi wq=> ∃q:Nat,q<=2/\i=.int .i64 q/\Hid (∀m,m<q->O0 (zh9 s m) (left-1)=0)/\Hid (Below wz.heap.size wz wq)) (λi _=>2-(intOf i).toNat)
         case atStart=>exact⟨0,D0 _,rfl,qh (λm h=>H9 h (Nat.not_lt_zero m)),qh (x8 _ _)⟩
         case round=>
          obtain⟨q,hq,rfl,P,r⟩:=hrel;obtain rfl|rfl|rfl:q=0\/q=1\/q=2:=by omega
          ·have kc:wr.cell? ⟨g2,0,none⟩=some (.slice I s.J0.length J):=(r.out.cell (p:=⟨g2,0,none⟩) d1).trans (d2.out 0 _ rfl)
           go_wp2_with fail
           clear kc;have G:=qh (d.out.trans (r.out.mono d.out.size));refine(IH.out a3 _ (by omega) s.J0 _ _ F _ (e8.out.K7 (F':=F) (λq h1 N=>⟨h1,A7 N G.out.size,G.out.block q N⟩)) Q.out.Z1.2.2.2.2.1 Q.out.Z1.2.2.1 (HG.out.to G.out)).mono ?_;rintro e wv ⟨rfl,U⟩;have V:=qh (r.out.trans (U.mono r.out.size));clear U;obtain⟨z,Z⟩: ∃z,O0 s.J0 (left-1)=z:=⟨_,rfl⟩;rw[Z];have L:=qh Z;clear Z
           by_cases f:z=0
           ·subst f
            go_wp2_with fail
            go_roundw
            case rel=>exact⟨1,by omega,rfl,qh (λm h=>by
             rcases E0 m 0 with N|N
             ·exact P.out m N
             ·obtain rfl:m=0:=by omega
              exact L.out),V⟩
            case measure=>simp[intOf]
           ·have e0:(z !=0)=true:=by simpa using f
            have M:=qh f;clear f
            go_wp2_with fail
            go_ret;have e:xK s left=z:=by
             rw[HR.out];rw[C8 ⟨by rw[R.out];simp,by rw[L.out];exact M.out⟩];exact L.out
            exact⟨by rw[za HS.out HE.out (by rw[e];exact M.out),e];rfl,d.out.trans (V.out.mono d.out.size)⟩
          ·have kc:wr.cell? ⟨g2,1,none⟩=some (.slice Ae s.M9.length ce):=(r.out.cell (p:=⟨g2,1,none⟩) d1).trans (d2.out 1 _ rfl)
           go_wp2_with fail
           clear kc;have G:=qh (d.out.trans (r.out.mono d.out.size));refine(IH.out a3 _ (by omega) s.M9 _ _ F _ (g0.out.K7 (F':=F) (λq h1 N=>⟨h1,A7 N G.out.size,G.out.block q N⟩)) Q.out.Z1.2.2.2.2.2 Q.out.Z1.2.2.2.1 (HG.out.to G.out)).mono ?_;rintro e wv ⟨rfl,U⟩;have V:=qh (r.out.trans (U.mono r.out.size));clear U;obtain⟨z,Z⟩: ∃z,O0 s.M9 (left-1)=z:=⟨_,rfl⟩;rw[Z];have L:=qh Z;clear Z
           by_cases f:z=0
           ·subst f
            go_wp2_with fail
            go_roundw
            case rel=>exact⟨2,by omega,rfl,qh (λm h=>by
             rcases E0 m 1 with N|N
             ·exact P.out m N
             ·obtain rfl:m=1:=by omega
              exact L.out),V⟩
            case measure=>simp[intOf]
           ·have e0:(z !=0)=true:=by simpa using f
            have M:=qh f;clear f
            go_wp2_with fail
            go_ret;have e:xK s left=z:=by
             rw[HR.out];rw[B5 (λh=>h.2 (P.out 0 (by decide))),C8 R.out];exact L.out
            exact⟨by rw[za HS.out HE.out (by rw[e];exact M.out),e];rfl,d.out.trans (V.out.mono d.out.size)⟩
          ·have e:xK s left=0:=by
            rw[HR.out];rw[B5 (λh=>h.2 (P.out 0 (by decide))),C8 R.out];exact P.out 1 (by decide)
           have a8:=qh e;clear e
           go_wp2_with fail
           go_roundw
           case rel=>exact⟨j+1,by omega,by go_num,qh (xo HS.out HE.out a8.out),qh (d.out.trans (r.out.mono d.out.size))⟩
           case measure=>simp[intOf];omega
        ·subst g7
         go_upto_region 13 with(fail)
         clear S c1 c2 c3 B c5 c6 c7 c8 c9;generalize w8.alloc _=wo at C x v|-;generalize w8.heap.size=bo at C T|-;obtain⟨⟨S,c1,c2,c3,B,c5,c6,c7,c8,c9⟩,-⟩:=J5 v.out
         go_upto_region 14 with((at_builtin;go_must(refine N0 zbP rfl _ _ rfl w.heap.size _ 0 [] rfl (C.out.alloc _) wo.heap.size 1 #[.slice I s.J0.length J] rfl (A5 wo _) rfl (by simp[Value.oneCell']) (by decide) (by have:=x.out.size;simp;omega) ?_);intro g1 a0 w9 D y a1 d3))
         have E:(wo.alloc (.cells #[.slice I s.J0.length J] 30)).grownBy w9 (some bo):=y;have d:=qh (Q7 (x.out.alloc x.out.size (.cells #[.slice I s.J0.length J] 30)) (C.out.alloc (.cells #[.slice I s.J0.length J] 30)) (x7 _) (by have:=x.out.size;simp;omega) E);have t:w9.ownsRow w.heap.size 30 1 (.slice (some ⟨g1,0,none⟩) 1 a0) 1 [.slice I s.J0.length J]:=D;have d8:=qh t;have d9:=qh ((E.block b6 (by have:=I5 v.out;simp;omega) (by simp;omega)).trans ((C4 wo (.cells #[.slice I s.J0.length J] 30) (I5 v.out)).trans v.out));clear y a1 D E S c1 c2 c3 B c5 c6 c7 c8 c9 v C x;have d1:g1<w9.heap.size:=d3;have d2:Hid (∀j u,([.slice I s.J0.length J]:List Value)[j]?=some u->w9.cell? ⟨g1,j,none⟩=some u):=qh (by
          rcases zQ t with⟨h,_⟩|⟨g,g8,h,_,_,Y⟩
          ·cases h
          ·cases h;exact Y)
         clear t;obtain⟨⟨S,-⟩,-⟩:=J5 d9.out
         go_upto_region 16 with(fail)
         clear S;obtain⟨wz,rfl⟩: ∃wz:World,wz=w9:=⟨_,rfl⟩
         go_wp2_with fail
         go_loopw[71] (λi wq=> ∃q:Nat,q<=1/\i=.int .i64 q/\Hid (∀m,m<q->O0 (zh9 s m) (left-1)=0)/\Hid (Below wz.heap.size wz wq)) (λi _=>1-(intOf i).toNat)
         case atStart=>exact⟨0,D0 _,rfl,qh (λm h=>H9 h (Nat.not_lt_zero m)),qh (x8 _ _)⟩
         case round=>
          obtain⟨q,hq,rfl,P,r⟩:=hrel;obtain rfl|rfl:q=0\/q=1:=by omega
          ·have kc:wr.cell? ⟨g1,0,none⟩=some (.slice I s.J0.length J):=(r.out.cell (p:=⟨g1,0,none⟩) d1).trans (d2.out 0 _ rfl)
           go_wp2_with fail
           clear kc;have G:=qh (d.out.trans (r.out.mono d.out.size));refine(IH.out a3 _ (by omega) s.J0 _ _ F _ (e8.out.K7 (F':=F) (λq h1 N=>⟨h1,A7 N G.out.size,G.out.block q N⟩)) Q.out.Z1.2.2.2.2.1 Q.out.Z1.2.2.1 (HG.out.to G.out)).mono ?_;rintro e wv ⟨rfl,U⟩;have V:=qh (r.out.trans (U.mono r.out.size));clear U;obtain⟨z,Z⟩: ∃z,O0 s.J0 (left-1)=z:=⟨_,rfl⟩;rw[Z];have L:=qh Z;clear Z
           by_cases f:z=0
           ·subst f
            go_wp2_with fail
            go_roundw
            case rel=>exact⟨1,by omega,rfl,qh (λm h=>by
             rcases E0 m 0 with N|N
             ·exact P.out m N
             ·obtain rfl:m=0:=by omega
              exact L.out),V⟩
            case measure=>simp[intOf]
           ·have e0:(z !=0)=true:=by simpa using f
            have M:=qh f;clear f
            go_wp2_with fail
            go_ret;have e:xK s left=z:=by
             rw[HR.out];rw[C8 ⟨by rw[R.out];simp,by rw[L.out];exact M.out⟩];exact L.out
            exact⟨by rw[za HS.out HE.out (by rw[e];exact M.out),e];rfl,d.out.trans (V.out.mono d.out.size)⟩
          ·have e:xK s left=0:=by
            rw[HR.out];rw[B5 (λh=>h.2 (P.out 0 (by decide))),B5 (by rw[R.out];decide)]
           have a8:=qh e;clear e
           go_wp2_with fail
           go_roundw
           case rel=>exact⟨j+1,by omega,by go_num,qh (xo HS.out HE.out a8.out),qh (d.out.trans (r.out.mono d.out.size))⟩
           case measure=>simp[intOf];omega
       ·have e3:(kd==3)=false:=by simp;omega
        have e4:(kd==4)=false:=by simp;omega
        have f4:Hid (¬(s.I9=3\/s.I9=4)):=qh (by rw[R.out];exact a6);clear a6
        go_upto_region 14 with(fail)
        clear S c1 c2 c3 B c5 c6 c7 c8 c9;have f5:w8.heap.size<(w8.alloc (.cells #[] 30)).heap.size:=by simp
        generalize w8.alloc _=wo at C x v f5|-;generalize w8.heap.size=bo at C T f5|-;obtain⟨⟨S,-⟩,-⟩:=J5 v.out
        go_upto_region 16 with(fail)
        clear S e3 e4;have d:=x;obtain⟨wz,rfl⟩: ∃wz:World,wz=wo:=⟨_,rfl⟩
        go_wp2_with fail
        go_loopw[71] (λi wq=> ∃q:Nat,q<=0/\i=.int .i64 q/\Hid (∀m,m<q->O0 (zh9 s m) (left-1)=0)/\Hid (Below wz.heap.size wz wq)) (λi _=>0-(intOf i).toNat)
        case atStart=>exact⟨0,D0 _,rfl,qh (λm h=>H9 h (Nat.not_lt_zero m)),qh (x8 _ _)⟩
        case round=>
         obtain⟨q,hq,rfl,P,r⟩:=hrel;obtain rfl:q=0:=by omega
         have e:xK s left=0:=by
          rw[HR.out];rw[B5 (λh=>f4.out h.1),B5 (λh=>f4.out (.inl h))]
         have a8:=qh e;clear e
         go_wp2_with fail
         go_roundw
         case rel=>exact⟨j+1,by omega,by go_num,qh (xo HS.out HE.out a8.out),qh (d.out.trans (r.out.mono d.out.size))⟩
         case measure=>simp[intOf];omega
      ·have e0:(z !=0)=true:=by simpa using f
       have M:=qh f;clear f
       go_wp2_with fail
       go_ret;have e:=zk0 a3 f0.out M.out f1.out;exact⟨by rw[za HS.out HE.out (by rw[e];exact M.out),e];rfl,c4.out⟩
  ·have f6:j=l.length:=by omega
   have HF:Hid (O0 l left=0):=qh (by have:=HE.out;rw[f6,F5]at this;exact this);clear f6
   go_wp2_with fail
   go_ret;exact⟨by rw[HF.out];rfl,X.out⟩
def zmo: ∀left,left<=40->zmT left:=by
 intro left
 induction left with
 |zero=>exact λh=>zaS 0 h (λh=>H9 h (by decide))
 |succ left a=>exact λh=>zaS (left+1) h (λ_=>a (by omega))
end
section
open Go.Maps
def qP.jJ{w}{F:Nat->Prop}{v l}(h:qP w F v l): ∃A c,v=.slice A l.length c:=by
 rcases h with⟨a,c,rfl,rfl⟩|⟨g,d,b,rfl,_⟩
 ·exact⟨a,c,rfl⟩
 ·exact⟨_,b,rfl⟩
def zn.jJ{w}{F:Nat->Prop}{v l}(h:zn w F v l): ∃A c,v=.slice A l.length c:=by
 rcases h with⟨a,c,rfl,rfl⟩|⟨g,d,b,rfl,_⟩
 ·exact⟨a,c,rfl⟩
 ·exact⟨_,b,rfl⟩
def qP.at{w}{F:Nat->Prop}{A}{c:Nat}{l}(h:qP w F (.slice A l.length c) l)(k:Nat)(s:ByteArray)(hs:l[k]?=some s): ∃g b,A=some ⟨g,b,none⟩/\g<w.heap.size/\w.cell? ⟨g,b+k,none⟩=some (.string s):=by
 rcases h with⟨a,c,e,rfl⟩|⟨g,b,d,e,_,f,i⟩
 ·simp at hs
 ·injection e with j m n
  exact⟨g,b,j,f,i k s hs⟩
def zn.at{w}{F:Nat->Prop}{A}{c:Nat}{l}(h:zn w F (.slice A l.length c) l)(k:Nat)(s:Int)(hs:l[k]?=some s): ∃g b,A=some ⟨g,b,none⟩/\g<w.heap.size/\w.cell? ⟨g,b+k,none⟩=some (.int .i64 s):=by
 rcases h with⟨a,c,e,rfl⟩|⟨g,b,d,e,_,f,i⟩
 ·simp at hs
 ·injection e with j m n
  exact⟨g,b,j,f,i k s hs⟩
def U2.at{w}{F:Nat->Prop}{A}{c:Nat}{l}(h:U2 w F (.slice A l.length c) l)(k:Nat)(f)(x:l[k]?=some f):
 ∃g b n cn o p q r,A=some ⟨g,b,none⟩/\g<w.heap.size/\qP w F (.slice n f.J1.length cn) f.J1/\zn w F (.slice o f.K4.length p) f.K4/\K9 w F (.slice q f.J0.length r) f.J0/\
  ∀j u,(#[.string f.J2,.slice n f.J1.length cn,.slice o f.K4.length p,.int .i64 f.out,.slice q f.J0.length r,.int .i64 f.pos]:Array Value).toList[j]?=some u->w.cell? ⟨g,b+k*6+j,none⟩=some u:=by
 rcases h with⟨a,c,e,rfl⟩|⟨g,b,z,E,G,H,e,_,B,C⟩
 ·simp at x
 ·injection e with D I J
  obtain⟨y,s,t,v⟩:=C k f x;obtain⟨n,cn,d⟩:=s.jJ;obtain⟨o,p,i⟩:=t.jJ;obtain⟨q,r,m⟩:=v.jJ;rw[d,i,m]at y;rw[d]at s;rw[i]at t;rw[m]at v;exact⟨g,b,n,cn,o,p,q,r,D,B,s,t,v,y⟩
def zla(t:Int)(b:Bool)(d:jc t=b)(w):Calls prog 46 #[.int .i64 t] w λe w'=>e=.returned (.bool b)/\w=w':=by
 subst d;unfold jc
 by_cases a:t=1
 ·subst a
  go_enter func46,ntmps46
  go_wp2_with fail
  go_ret;exact⟨rfl,rfl⟩
 ·by_cases c:t=2
  ·subst c
   go_enter func46,ntmps46
   go_wp2_with fail
   go_ret;exact⟨rfl,rfl⟩
  ·have h:(t==1)=false:=by simpa using a
   have i:(t==2)=false:=by simpa using c
   have f:=qh a;have g:=qh c;clear a c
   go_enter func46,ntmps46
   go_wp2_with fail
   go_ret;exact⟨by rw[G1 f.out,G1 g.out];rfl,rfl⟩
def xX(f:Fn):Bool:=decide (f.J1.length=f.K4.length)&&R2 f.J2&&jc f.out
def jy(f:Fn)(q:Nat):Bool:=xX f&&(f.J1.take q).all R2&&(f.K4.take q).all jc
def yk(f):jy f 0=xX f:=by simp[jy]
def JB(f):jy f f.J1.length=(decide (f.J1.length=f.K4.length)&&R2 f.J2&&jc f.out&&f.J1.all R2&&f.K4.all jc):=by
 unfold jy xX
 by_cases h:f.J1.length=f.K4.length
 ·rw[F5,h,F5]
 ·simp[h]
def ZU(f)(q:Nat)(n:ByteArray)(t:Int)(a:f.J1[q]?=some n)(b:f.K4[q]?=some t):jy f (q+1)=(jy f q&&R2 n&&jc t):=by
 have c:q<f.J1.length:=by rcases E0 q f.J1.length with h|h;exact h;rw[C5 h]at a;cases a
 have d:q<f.K4.length:=by rcases E0 q f.K4.length with h|h;exact h;rw[C5 h]at b;cases b
 unfold jy;rw[List.take_succ_eq_append_getElem c,List.take_succ_eq_append_getElem d];have e:f.J1[q]=n:=by rw[x9 c]at a;exact F6 a
 have g:f.K4[q]=t:=by rw[x9 d]at b;exact F6 b
 rw[e,g,List.all_append,List.all_append];simp only[List.all_cons,List.all_nil,Bool.and_true];cases xX f<;>cases(f.J1.take q).all R2<;>cases(f.K4.take q).all jc<;>cases R2 n<;>cases jc t<;>rfl
def zfc(f)(q:Nat)(h:jy f q=false):jy f (q+1)=false:=by
 unfold jy at*;cases e:xX f with
 |false=>simp
 |true=>
  rw[e]at h;simp only[Bool.true_and]at h|-;rw[Bool.and_eq_false_iff]at h|-;have a: ∀{α:Type}(p:α->Bool)(l:List α),(l.take q).all p=false->(l.take (q+1)).all p=false:=by
   intro α p l c;rw[List.all_eq_false]at c|-;obtain⟨x,d,b⟩:=c;refine⟨x,?_,b⟩;have:l.take q=(l.take (q+1)).take q:=by rw[List.take_take,Nat.min_eq_left (by omega)]
   rw[this]at d;exact List.mem_of_mem_take d
  exact h.imp (a R2 _) (a jc _)
def zbe(f)(q:Nat)(n:ByteArray)(a:f.J1[q]?=some n)(h:R2 n=false):jy f (q+1)=false:=by
 have b:q<f.J1.length:=by rcases E0 q f.J1.length with h|h;exact h;rw[C5 h]at a;cases a
 have c:f.J1[q]=n:=by rw[x9 b]at a;exact F6 a
 unfold jy;rw[List.take_succ_eq_append_getElem b,c,List.all_append];simp[h]
end
section
open Go.Maps
def M6{w:World}{b t:Nat}{a c d e f g}(h:w.heap[b]?=some (.cells #[a,c,d,e,f,g] t (0,0))):
 (w.cell? ⟨b,0,none⟩=some a/\w.cell? ⟨b,1,none⟩=some c/\w.cell? ⟨b,2,none⟩=some d/\w.cell? ⟨b,3,none⟩=some e/\w.cell? ⟨b,4,none⟩=some f/\w.cell? ⟨b,5,none⟩=some g)/\
 w.frozen? ⟨b,0,none⟩=false/\w.frozen? ⟨b,1,none⟩=false/\w.frozen? ⟨b,2,none⟩=false/\w.frozen? ⟨b,3,none⟩=false/\w.frozen? ⟨b,4,none⟩=false/\w.frozen? ⟨b,5,none⟩=false:=
 ⟨⟨x6 h 0,x6 h 1,x6 h 2,x6 h 3,x6 h 4,x6 h 5⟩,B4 h 0,B4 h 1,B4 h 2,B4 h 3,B4 h 4,B4 h 5⟩
def zeP(l:List Fn)(A)(c:Nat)(F:Nat->Prop)(w)(hA:U2 w F (.slice A l.length c) l)(hZ: ∀f∈l,FnZ f)(d5:l.length<=281474976710656)(hG:O4 w):
 Calls prog 13 #[.agg #[.slice A l.length c]] w λe w'=>e=.returned (.int .i64 (U6 l))/\Below w.heap.size w w':=by
 have HA:=qh hA;have HZ:=qh hZ;have HG:=qh hG;clear hA hZ hG
 by_cases G:16<l.length
 ·have S:(16:Int)<(l.length:Int):=by omega
  go_enter func13,ntmps13
  go_wp2_with fail
  go_ret;exact⟨by unfold U6;rw[C8 G];rfl,(x8 _ _).alloc (x7 _) _⟩
 have S:(l.length:Int)<=16:=by omega
 have hU:Hid (U6 l=ja l):=qh (by unfold U6;rw[B5 G]);clear G
 go_enter func13,ntmps13
 go_wp2_with fail
 go_loopw[17] (λi wr=> ∃j:Nat,j<=l.length/\i=.int .i64 j/\Hid (ja (l.take j)=0)/\Hid (Below w.heap.size w wr)) (λi _=>l.length-(intOf i).toNat)
 case atStart=>exact⟨0,D0 _,rfl,qh (by rw[List.take_zero,ja]),qh ((x8 _ _).alloc (x7 _) _)⟩
 case round=>
  obtain⟨j,hj,rfl,T,d⟩:=hrel
  by_cases a8:j<l.length
  ·obtain⟨f,hf⟩: ∃f,l[j]?=some f:=⟨_,x9 a8⟩
   obtain⟨g,s,An,cn,At,ct,U,V,rfl,N,X,Y,Z,H⟩:=HA.out.at j f hf;have b0:=(d.out.cell (p:=⟨g,s+j*6,none⟩) N).trans (H 0 _ rfl);have b1:=(d.out.cell (p:=⟨g,s+j*6+1,none⟩) N).trans (H 1 _ rfl);have b2:=(d.out.cell (p:=⟨g,s+j*6+2,none⟩) N).trans (H 2 _ rfl);have b3:=(d.out.cell (p:=⟨g,s+j*6+3,none⟩) N).trans (H 3 _ rfl);have b4:=(d.out.cell (p:=⟨g,s+j*6+4,none⟩) N).trans (H 4 _ rfl);have b5:=(d.out.cell (p:=⟨g,s+j*6+5,none⟩) N).trans (H 5 _ rfl);have a0:f∈l:=B7 hf;have HS:=qh hf;have a9:=qh X;have b7:=qh Y;have b8:=qh Z;have m:=qh (HZ.out f a0);clear hf X Y Z H a0;have k0:(0:Int)<=(j:Int):=by omega
   have k1:(j:Int)<(l.length:Int):=by omega
   go_upto_region 7 with(fail)
   clear b0 b1 b2 b3 b4 b5;have v:=qh (d.out.alloc d.out.size (.cells #[.string f.J2,.slice An f.J1.length cn,.slice At f.K4.length ct,.int .i64 f.out,.slice U f.J0.length V,.int .i64 f.pos] 32));have h:=qh (A5 wr (.cells #[.string f.J2,.slice An f.J1.length cn,.slice At f.K4.length ct,.int .i64 f.out,.slice U f.J0.length V,.int .i64 f.pos] 32));generalize wr.alloc _=wa at v h|-;have I:=I5 h.out;generalize wr.heap.size=J at h I|-;have d6:=m.out.zkt;have d7:=m.out.zm8;have d8:=m.out.zej;obtain⟨⟨c0,c1,K,O,c4,c5⟩,-⟩:=M6 h.out
   by_cases h6:6<f.J1.length
   ·have b9:(6:Int)<(f.J1.length:Int):=by omega
    have e:QZ f=2:=by unfold QZ;rw[C8 h6]
    have B:=qh e;clear e h6
    go_wp2_with fail
    go_ret;exact⟨by rw[hU.out,jS HS.out T.out (by rw[B.out];decide),B.out];rfl,v.out⟩
   have b9:(f.J1.length:Int)<=6:=by omega
   have H6:=qh h6;clear h6;obtain⟨bn,o⟩: ∃b,R2 f.J2=b:=⟨_,rfl⟩;obtain⟨bt,y⟩: ∃b,jc f.out=b:=⟨_,rfl⟩;have P:=qh (Zo f.J2 bn o wa m.out.J2 (HG.out.to v.out));have HN:=qh o;have Q:=qh y;clear o y
   go_upto_region 9 with(fail)
   go_cut[6] (λu W=>u=.bool (jy f 0)/\Hid (Below wa.heap.size wa W))
   case first=>
    by_cases C:f.J1.length=f.K4.length
    ·have e1:((f.J1.length:Int)==(f.K4.length:Int))=true:=beq_iff_eq.2 (by omega)
     have c6:(f.J1.length==f.K4.length)=true:=by simpa using C
     have HL:=qh C;clear C;cases bn with
     |false=>
      go_wp2_with(go_at_call 47;refine P.out.mono ?_;rintro e w7 ⟨rfl,a⟩)
      go_meet
      case rel=>exact⟨H0 Value.bool (by rw[yk];unfold xX;rw[HN.out,Q.out];simp),qh a⟩
     |true=>
      go_wp2_with(first|(go_at_call 47;refine P.out.mono ?_;rintro e w7 ⟨rfl,a⟩;have d3:=(a.cell (p:=⟨J,3,none⟩) I).trans O)|(go_at_call 46;refine(zla f.out bt Q.out _).mono ?_;rintro e w8 ⟨rfl,rfl⟩))
      go_meet
      case rel=>exact⟨H0 Value.bool (by rw[yk];unfold xX;rw[HN.out,Q.out];simp[HL.out]),qh a⟩
    ·have e1:((f.J1.length:Int)==(f.K4.length:Int))=false:=beq_eq_false_iff_ne.2 (by omega)
     have c6:(f.J1.length==f.K4.length)=false:=by simpa using C
     have HL:=qh C;clear C
     go_wp2_with fail
     go_meet
     case rel=>exact⟨H0 Value.bool (by rw[yk];unfold xX;simp[HL.out]),qh (x8 _ _)⟩
   case rest=>
    obtain⟨rfl,L⟩:=hcut;replace h:=qh ((L.out.block J I).trans h.out);have k:=qh (v.out.trans (L.out.mono v.out.size));clear c0 c1 K O c4 c5 P v L;have a:=I5 h.out;obtain⟨⟨c0,c1,K,O,c4,c5⟩,-⟩:=M6 h.out
    go_upto_block 2 with(fail)
    clear c0 c1 K O c4 c5
    go_cut[6] (λu W=>u=.bool (jy f f.J1.length)/\Hid (W.heap[J]?=some (.cells #[.string f.J2,.slice An f.J1.length cn,.slice At f.K4.length ct,.int .i64 f.out,.slice U f.J0.length V,.int .i64 f.pos] 32 (0,0)))/\Hid (Below w.heap.size w W))
    case first=>
     go_wp2_with fail
     go_loopw[6,46] (λu i wq=> ∃q:Nat,q<=f.J1.length/\i=.int .i64 q/\u=.bool (jy f q)/\Hid (wq.heap[J]?=some (.cells #[.string f.J2,.slice An f.J1.length cn,.slice At f.K4.length ct,.int .i64 f.out,.slice U f.J0.length V,.int .i64 f.pos] 32 (0,0)))/\Hid (Below w.heap.size w wq)) (λ_ i _=>f.J1.length-(intOf i).toNat)
     case atStart=>exact⟨0,D0 _,rfl,rfl,h,k⟩
     case round=>
      obtain⟨q,hq,rfl,rfl,h,d⟩:=hrel
      by_cases c7:q<f.J1.length
      ·obtain⟨n,hn⟩: ∃n,f.J1[q]?=some n:=⟨_,x9 c7⟩
       obtain⟨gn,on,rfl,c8,a1⟩:=a9.out.at q n hn;have kc:=(d.out.cell (p:=⟨gn,on+q,none⟩) c8).trans a1;have E:n∈f.J1:=B7 hn;have a2:=qh hn;have c9:=qh E;have q0:(0:Int)<=(q:Int):=by omega
       have q1:(q:Int)<(f.J1.length:Int):=by omega
       clear a1 hn E;obtain⟨bo,r⟩: ∃b,jy f q=b:=⟨_,rfl⟩;rw[r];have R:=qh r;clear r;have x:=I5 h.out;obtain⟨⟨-,-,K,-⟩,-⟩:=M6 h.out;cases bo with
       |false=>
        go_wp2_with fail
        go_roundw
        case rel=>exact⟨q+1,by omega,by go_num,by rw[zfc f q R.out],h,d⟩
        case measure=>simp[intOf];omega
       |true=>
        have C:f.J1.length=f.K4.length:=by
         have:=R.out;unfold jy xX at this;simp only[F3,F1]at this;exact this.1.1.1.1
        obtain⟨t,ht⟩: ∃t,f.K4[q]?=some t:=⟨_,x9 (by omega)⟩;obtain⟨gt,ot,rfl,a3,a4⟩:=b7.out.at q t ht;have kt:=(d.out.cell (p:=⟨gt,ot+q,none⟩) a3).trans a4;have q2:(q:Int)<(f.K4.length:Int):=by omega
        have d0:=qh ht;have HL:=qh C;clear a4 ht C;obtain⟨bn,o⟩: ∃b,R2 n=b:=⟨_,rfl⟩;obtain⟨bt,y⟩: ∃b,jc t=b:=⟨_,rfl⟩;have P:=qh (Zo n bn o wr (m.out.J1 n c9.out) (HG.out.to d.out));have HN:=qh o;have Q:=qh y;clear o y;have a5:gt<wr.heap.size:=A7 a3 d.out.size;cases bn with
        |false=>
         go_wp2_with(go_at_call 47;refine P.out.mono ?_;rintro e w7 ⟨rfl,a⟩)
         go_roundw
         case rel=>exact⟨q+1,by omega,by go_num,by rw[zbe f q n a2.out HN.out],qh ((a.block J x).trans h.out),qh (d.out.trans (a.mono d.out.size))⟩
         case measure=>simp[intOf];omega
        |true=>
         go_wp2_with(first|(go_at_call 47;refine P.out.mono ?_;rintro e w7 ⟨rfl,a⟩;have d2:=(a.cell (p:=⟨J,2,none⟩) x).trans K;have dt:=(a.cell (p:=⟨gt,ot+q,none⟩) a5).trans kt)|(go_at_call 46;refine(zla t bt Q.out _).mono ?_;rintro e w8 ⟨rfl,rfl⟩))
         go_roundw
         case rel=>exact⟨q+1,by omega,by go_num,by rw[ZU f q n t a2.out d0.out,R.out,HN.out,Q.out];rfl,qh ((a.block J x).trans h.out),qh (d.out.trans (a.mono d.out.size))⟩
         case measure=>simp[intOf];omega
      ·have d1:q=f.J1.length:=by omega
       subst d1
       go_wp2_with fail
       go_meet
       case rel=>exact⟨rfl,h,d⟩
    case rest=>
     clear h k;obtain⟨rfl,h,k⟩:=hcut;obtain⟨bo,r⟩: ∃b,jy f f.J1.length=b:=⟨_,rfl⟩;rw[r];have R:=qh r;clear r;have d9:=I5 h.out;obtain⟨⟨c0,c1,K,O,c4,c5⟩,-⟩:=M6 h.out;cases bo with
     |false=>
      have e:QZ f=3:=by unfold QZ;rw[B5 H6.out,C8 (by rw[<-JB];exact R.out)]
      have B:=qh e;clear e
      go_wp2_with fail
      go_ret;exact⟨by rw[hU.out,jS HS.out T.out (by rw[B.out];decide),B.out];rfl,k.out⟩
     |true=>
      have e:QZ f=O0 f.J0 40:=by unfold QZ;rw[B5 H6.out,B5 (by rw[<-JB,R.out];decide)]
      have B:=qh e;clear e
      go_wp2_with fail
      clear c0 c1 K O c4 c5;refine(zmo 40 (by decide) 40 rfl f.J0 U V F _ (b8.out.K7 (F':=F) (λq h1 h2=>⟨h1,A7 h2 k.out.size,k.out.block q h2⟩)) m.out.J0 m.out.zej (HG.out.to k.out)).mono ?_;rintro e w8 ⟨rfl,x⟩;have a6:=qh (k.out.trans (x.mono k.out.size));clear x;obtain⟨z,hz⟩: ∃z,O0 f.J0 40=z:=⟨_,rfl⟩;rw[hz];have M:=qh (B.out.trans hz);clear hz
      by_cases D:z=0
      ·subst D
       go_wp2_with fail
       go_roundw
       case rel=>exact⟨j+1,by omega,by go_num,qh (zaG HS.out T.out M.out),a6⟩
       case measure=>simp[intOf];omega
      ·have e0:(z !=0)=true:=by simpa using D
       have d4:=qh D;clear D
       go_wp2_with fail
       go_ret;exact⟨by rw[hU.out,jS HS.out T.out (by rw[M.out];exact d4.out),M.out];rfl,a6.out⟩
  ·have a7:j=l.length:=by omega
   have B:Hid (ja l=0):=qh (by have:=T.out;rw[a7,F5]at this;exact this);clear a7
   go_wp2_with fail
   go_ret;exact⟨by rw[hU.out,B.out];rfl,d.out⟩
end
end Go.Proofs.YtmngofgminlloaaGreatDoor
