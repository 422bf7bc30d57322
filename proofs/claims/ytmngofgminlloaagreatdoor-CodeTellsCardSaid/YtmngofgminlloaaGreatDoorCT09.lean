/- Merged. -/
import Derived.Test.YtmngofgminlloaaGreatDoorCT08
set_option linter.all false
namespace Go.Proofs.YtmngofgminlloaaGreatDoor
open Go.Proofs.Tryz
open Go.RowKit Tw
section
open Go.Maps
def R3l:List Value->Option (XH×List MemPlace)
 |[.int .i64 a,.int .i64 b,.int .i64 c]=>some (.agg [.lit (.int .i64 a),.lit (.int .i64 b),.lit (.int .i64 c)],[])
 |_=>none
def R3:Value->Option (XH×List MemPlace)
 |.agg ⟨l⟩=>R3l l
 |_=>none
def tri(a b c:Int):XH:=.agg [.lit (.int .i64 a),.lit (.int .i64 b),.lit (.int .i64 c)]
def znF(a b c:Int):Value:=.agg #[.int .i64 a,.int .i64 b,.int .i64 c]
def zma{v ps}{a b c:Int}(h:R3 v=some (tri a b c,ps)):v=znF a b c:=by
 unfold R3 at h
 split at h
 ·unfold R3l at h
  split at h
  ·injection h with h;injection h with h _;unfold tri at h;injection h with h
   injection h with d h;injection h with e h;injection h with f _
   injection d with d;injection d with _ d;injection e with e;injection e with _ e;injection f with f;injection f with _ f
   subst d e f;rfl
  ·cases h
 ·cases h
def t3P(D:XH)(k a b c:Int):XH:=D.put (.int .i64 k) (tri a b c)
def t3D:XH:=t3P (t3P (t3P (t3P (t3P (t3P (t3P (t3P (t3P (t3P (t3P (t3P (.map []) 1 0 1 0) 2 0 1 (-1)) 3 1 0 (-1)) 4 1 0 1) 5 1 1 1) 6 1 1 1) 15 0 0 (-1)) 16 1 0 (-1)) 17 0 1 (-1)) 18 1 0 1) 19 1 0 1) 20 0 1 128
def qK{w}{b n:Nat}{D}(h:w.ownsMap prog 3 R3 b n D)(f:n<100)(k a c d:Int)(e:(Lit.int .i64 k).wf=true):
 ∃w',(Instr.mapUpdate 271 (.map (some b)) (.int .i64 k) (.agg #[.int .i64 a,.int .i64 c,.int .i64 d])).run prog w=.ok () w'/\w'.ownsMap prog 3 R3 b (n+1) (t3P D k a c d)/\w.grownBy w' (some b):=
 h.update Ju underlying271 (by unfold maxLen;omega) (Jg e) rfl
def zi5(V:World): ∃e f g h i j l m n a b w12:World,
 (Instr.mapUpdate 271 (.map (some V.heap.size)) (.int .i64 1) (.agg #[.int .i64 0,.int .i64 1,.int .i64 0])).run prog (V.alloc (.map #[] 0))=.ok () e/\
 (Instr.mapUpdate 271 (.map (some V.heap.size)) (.int .i64 2) (.agg #[.int .i64 0,.int .i64 1,.int .i64 (-1)])).run prog e=.ok () f/\
 (Instr.mapUpdate 271 (.map (some V.heap.size)) (.int .i64 3) (.agg #[.int .i64 1,.int .i64 0,.int .i64 (-1)])).run prog f=.ok () g/\
 (Instr.mapUpdate 271 (.map (some V.heap.size)) (.int .i64 4) (.agg #[.int .i64 1,.int .i64 0,.int .i64 1])).run prog g=.ok () h/\
 (Instr.mapUpdate 271 (.map (some V.heap.size)) (.int .i64 5) (.agg #[.int .i64 1,.int .i64 1,.int .i64 1])).run prog h=.ok () i/\
 (Instr.mapUpdate 271 (.map (some V.heap.size)) (.int .i64 6) (.agg #[.int .i64 1,.int .i64 1,.int .i64 1])).run prog i=.ok () j/\
 (Instr.mapUpdate 271 (.map (some V.heap.size)) (.int .i64 15) (.agg #[.int .i64 0,.int .i64 0,.int .i64 (-1)])).run prog j=.ok () l/\
 (Instr.mapUpdate 271 (.map (some V.heap.size)) (.int .i64 16) (.agg #[.int .i64 1,.int .i64 0,.int .i64 (-1)])).run prog l=.ok () m/\
 (Instr.mapUpdate 271 (.map (some V.heap.size)) (.int .i64 17) (.agg #[.int .i64 0,.int .i64 1,.int .i64 (-1)])).run prog m=.ok () n/\
 (Instr.mapUpdate 271 (.map (some V.heap.size)) (.int .i64 18) (.agg #[.int .i64 1,.int .i64 0,.int .i64 1])).run prog n=.ok () a/\
 (Instr.mapUpdate 271 (.map (some V.heap.size)) (.int .i64 19) (.agg #[.int .i64 1,.int .i64 0,.int .i64 1])).run prog a=.ok () b/\
 (Instr.mapUpdate 271 (.map (some V.heap.size)) (.int .i64 20) (.agg #[.int .i64 0,.int .i64 1,.int .i64 128])).run prog b=.ok () w12/\
 w12.ownsMap prog 3 R3 V.heap.size 12 t3D/\Below V.heap.size V w12:=by
 have y:=World.ownsMap_made (H:=Unit) V prog 3 R3;obtain⟨e,z,A,B⟩:=qK y (by decide) 1 0 1 0 (by decide);obtain⟨f,C,D,E⟩:=qK A (by decide) 2 0 1 (-1) (by decide);obtain⟨g,F,G,I⟩:=qK D (by decide) 3 1 0 (-1) (by decide);obtain⟨h,J,K,L⟩:=qK G (by decide) 4 1 0 1 (by decide);obtain⟨i,M,N,O⟩:=qK K (by decide) 5 1 1 1 (by decide);obtain⟨j,P,Q,R⟩:=qK N (by decide) 6 1 1 1 (by decide);obtain⟨l,S,T,U⟩:=qK Q (by decide) 15 0 0 (-1) (by decide);obtain⟨m,W,X,Y⟩:=qK T (by decide) 16 1 0 (-1) (by decide);obtain⟨n,Z,h9,g9⟩:=qK X (by decide) 17 0 1 (-1) (by decide);obtain⟨a,o,p,q⟩:=qK h9 (by decide) 18 1 0 1 (by decide);obtain⟨b,r,s,t⟩:=qK p (by decide) 19 1 0 1 (by decide);obtain⟨w12,u,v,w⟩:=qK s (by decide) 20 0 1 128 (by decide);refine⟨e,f,g,h,i,j,l,m,n,a,b,w12,z,C,F,J,M,P,S,W,Z,o,r,u,v,?_⟩;have c:Below V.heap.size V (V.alloc (.map #[] 0)):=(x8 _ _).alloc (x7 _) _;have d:=(I4 (I4 (I4 (I4 (I4 (I4 (I4 (I4 (I4 (I4 (I4 B E) I) L) O) R) U) Y) g9) q) t) w);exact⟨d.os.trans c.os,d.tape.trans c.tape,d.output.trans c.output,C1 c.size d.size,λk x=>(d.block k (A7 x c.size) (by simp;omega)).trans (c.block k x)⟩
def zny{w}{b:Nat}(h:w.ownsMap prog 3 R3 b 12 t3D)(k a c d:Int)(ok:Bool)(g:(Lit.int .i64 k).wf=true)(i:t3D.atKey (.int .i64 k) (tri 0 0 0)=tri a c d)(j:Maps.has t3D (.int .i64 k)=ok):
 (Instr.lookup 271 (.map (some b)) (.int .i64 k) true).run prog w=.ok (.tuple #[.agg #[.int .i64 a,.int .i64 c,.int .i64 d],.bool ok]) w:=by
 obtain⟨v,l,e,f⟩:=h.look_ok Ju underlying271 (z:=znF 0 0 0) (by kernel_rfl) (zd:=tri 0 0 0) (zp:=[]) rfl (Jg g);rw[i]at f;have:=zma f;subst this;subst j;exact e
def opT(d:Int):Int×Int×Int×Bool:=
 if d=1 then(0,1,0,true)else if d=2 then(0,1,-1,true)else if d=3 then(1,0,-1,true)else if d=4 then(1,0,1,true)else if d=5 then(1,1,1,true)else if d=6 then(1,1,1,true)else if d=15 then(0,0,-1,true)else if d=16 then(1,0,-1,true)else if d=17 then(0,1,-1,true)else if d=18 then(1,0,1,true)else if d=19 then(1,0,1,true)else if d=20 then(0,1,128,true)else(0,0,0,false)
def zoA{d:Int}(a:1<=d)(b:d<=20):t3D.atKey (.int .i64 d) (tri 0 0 0)=tri (opT d).1 (opT d).2.1 (opT d).2.2.1/\Maps.has t3D (.int .i64 d)=(opT d).2.2.2:=by
 have:d=1\/d=2\/d=3\/d=4\/d=5\/d=6\/d=7\/d=8\/d=9\/d=10\/d=11\/d=12\/d=13\/d=14\/d=15\/d=16\/d=17\/d=18\/d=19\/d=20:=by omega
 rcases this with rfl|rfl|rfl|rfl|rfl|rfl|rfl|rfl|rfl|rfl|rfl|rfl|rfl|rfl|rfl|rfl|rfl|rfl|rfl|rfl
 all_goals exact⟨by kernel_rfl,by kernel_rfl⟩
end
end Go.Proofs.YtmngofgminlloaaGreatDoor
namespace Go.Proofs.YtmngofgminlloaaGreatDoor
open Go.RowKit Tw
theorem jP{us env}: ∀{xs ws},L4 us env xs ws=.ok ()-> ∀a∈xs,∃t,O2 us env a=.ok t:=by
 intro xs
 induction xs with
 |nil=>intro ws _ a c;cases c
 |cons b l f=>
  intro ws h a c;rw[L4]at h;cases d:O2 us env b with
  |J9 q e=>rw[d]at h;cases h
  |ok t=>
   rw[d]at h;simp only at h
   split at h
   ·rcases List.mem_cons.1 c with rfl|c
    ·exact⟨t,d⟩
    ·exact f h a c
   ·cases h
theorem zfL: ∀{l}{left:Nat},zx l left=0-> ∀a∈l,zK a left=0:=by
 intro l
 induction l with
 |nil=>intro left _ a c;cases c
 |cons b l e=>
  intro left h a c;rw[zx]at h
  split at h
  ·rename_i d
   rcases List.mem_cons.1 c with rfl|c
   ·exact d
   ·exact e h a c
  ·rename_i d;exact H9 h d
theorem Js{k n:Int}{t:ByteArray}{xs}{p:Int}{left:Nat}(h:zK (.mk k n t xs p) left=0):1<=left/\zJ k n t xs.length=true/\xs.length<=6/\(k=8->n<=15)/\ ∀a∈xs,zK a (left-1)=0:=by
 rw[zK]at h;unfold yo at h
 by_cases b:left=0
 ·rw[C8 b]at h;simp at h
 rw[B5 b]at h;cases c:zJ k n t xs.length with
 |false=>rw[c]at h;simp at h
 |true=>
  rw[c]at h
  by_cases d:6<xs.length\/(k=8/\15<n)
  ·simp[d]at h
  ·simp only[Bool.true_eq_false,if_false,B5 d]at h
   exact⟨by omega,rfl,by omega,by omega,zfL h⟩
theorem zcv{us env}{k n:Int}{t:ByteArray}{xs}{p w:Int}(h:O2 us env (.mk k n t xs p)=.ok w)(c:zJ k n t xs.length=true):
 (∀a∈xs,∃t',O2 us env a=.ok t')/\(k=3->L5 env t≠0)/\(k=7-> ∃f,S3 us t=some f/\f.K4.length=xs.length):=by
 have d:xs.length=0-> ∀a∈xs,∃t',O2 us env a=.ok t':=λe a g=>by rw[I0 e]at g;cases g
 rw[O2]at h
 by_cases i:k=1
 ·subst i;rw[ok1]at c;simp at c;exact⟨d (by simp[c.2]),by omega,by omega⟩
 rw[B5 i]at h
 by_cases j:k=2
 ·subst j;rw[ok2]at c;simp at c;exact⟨d (by simp[c.2]),by omega,by omega⟩
 rw[B5 j]at h
 by_cases l:k=3
 ·subst l;rw[ok3]at c;simp at c
  rw[C8 rfl]at h;refine⟨d (by simp[c.2]),λ_ e=>?_,by omega⟩;rw[C8 e]at h;cases h
 rw[B5 l]at h
 by_cases m:k=5
 ·rw[C8 m]at h
  cases b:L4 us env xs [2]with
  |J9 q e=>rw[b]at h;cases h
  |ok u=>exact⟨jP b,by omega,by omega⟩
 rw[B5 m]at h
 by_cases o:k=7
 ·rw[C8 o]at h
  cases r:S3 us t with
  |none=>rw[r]at h;cases h
  |some f=>
   rw[r]at h;simp only at h
   split at h
   ·cases h
   ·rename_i x
    cases b:L4 us env xs f.K4 with
    |J9 q e=>rw[b]at h;cases h
    |ok u=>exact⟨jP b,by omega,λ_=>⟨f,rfl,by omega⟩⟩
 rw[B5 o]at h;refine⟨?_,by omega,by omega⟩
 split at h
 ·cases b:L4 us env xs [2,2]with
  |J9 q e=>rw[b]at h;cases h
  |ok u=>exact jP b
 ·split at h
  ·cases s:Qw us env xs with
   |J9 q e=>rw[s]at h;cases h
   |ok v=>
    rw[s]at h;simp only at h;cases b:L4 us env xs [v,v]with
    |J9 q e=>rw[b]at h;cases h
    |ok u=>exact jP b
  ·cases b:L4 us env xs []with
   |J9 q e=>rw[b]at h;cases h
   |ok u=>exact jP b
theorem za3{t:Bs}(h:3<=lv t): ∃d,(7<=d/\d<=14)/\(zbN t=[(d,0)]\/zbN t=[(d,0),(6,0)]):=by
 unfold lv at h;unfold zbN
 by_cases a:t=[124,124]
 ·subst a;simp at h
 by_cases b:t=[38,38]
 ·subst b;simp at h
 rw[B5 a,B5 b]at h
 by_cases c:t=[43]
 ·exact⟨7,by decide,by simp[c]⟩
 by_cases e:t=[45]
 ·exact⟨8,by decide,by simp[e]⟩
 by_cases f:t=[42]
 ·exact⟨9,by decide,by simp[f]⟩
 by_cases g:t=[47]
 ·exact⟨10,by decide,by simp[g]⟩
 by_cases i:t=[37]
 ·exact⟨11,by decide,by simp[i]⟩
 by_cases j:t=[60]
 ·exact⟨12,by decide,by simp[j]⟩
 by_cases k:t=[62,61]
 ·exact⟨12,by decide,by simp[k]⟩
 by_cases l:t=[61,61]
 ·exact⟨14,by decide,by simp[l]⟩
 by_cases m:t=[33,61]
 ·exact⟨14,by decide,by simp[m]⟩
 by_cases n:t=[62]
 ·exact⟨13,by decide,by simp[n]⟩
 by_cases o:t=[60,61]
 ·exact⟨13,by decide,by simp[o]⟩
 ·simp[c,e,f,g,i,j,k,l,m,n,o]at h
theorem zaK{us:List Fn}{vs:P4}{k n:Int}{t:ByteArray}{a:Nat}(j:zJ k n t a=true)(q: ¬(k=6/\lv t.data.toList<=2)):
 (∃o,qa us vs k n t a=[o])\/(∃d,k=6/\(7<=d/\d<=14)/\qa us vs k n t a=[(d,0),(6,0)]):=by
 by_cases b:k=1\/k=2
 ·exact .inl ⟨_,by unfold qa;rw[C8 b]⟩
 by_cases c:k=3
 ·exact .inl ⟨_,by unfold qa;rw[B5 b,C8 c]⟩
 by_cases f:k=4
 ·exact .inl ⟨_,by unfold qa;rw[B5 b,B5 c,C8 f]⟩
 by_cases g:k=5
 ·exact .inl ⟨_,by unfold qa;rw[B5 b,B5 c,B5 f,C8 g]⟩
 by_cases i:k=7
 ·exact .inl ⟨_,by unfold qa;rw[B5 b,B5 c,B5 f,B5 g,C8 i]⟩
 by_cases l:k=8
 ·exact .inl ⟨_,by unfold qa;rw[B5 b,B5 c,B5 f,B5 g,B5 i,C8 l]⟩
 by_cases m:k=6
 ·have e:qa us vs k n t a=zbN t.data.toList:=by unfold qa;rw[B5 b,B5 c,B5 f,B5 g,B5 i,B5 l,C8 m]
  obtain⟨d,p,h⟩:=za3 (t:=t.data.toList) (by omega)
  rcases h with h|h
  ·exact .inl ⟨_,by rw[e,h]⟩
  ·exact .inr ⟨d,m,p,by rw[e,h]⟩
 ·rw[oko (by omega)]at j;cases j
section
variable {us:List Fn}{env:P1}{vs:P4}{nv:Nat}
mutual
theorem yu: ∀x(left n h:Nat),zK x left=0-> ∃o l,O7 us vs n h x=(o,h)::l
 |.mk k nn t xs p,left,n,h,i=>by
  obtain⟨-,b,-,-,f⟩:=Js i;rw[O7]
  by_cases a:k=6/\lv t.data.toList<=2
  ·rw[C8 a]
   obtain⟨rfl,-⟩:=a;rw[ok6]at b;simp at b;obtain⟨o,l,c⟩:=zf9 xs (left-1) n h f (by omega);rw[c,YE];exact⟨o,_,rfl⟩
  ·rw[B5 a]
   by_cases g:xs=[]
   ·subst g
    rw[zh]
    rcases zaK (us:=us) (vs:=vs) b a with⟨o,e⟩|⟨d,_,_,e⟩
    ·rw[e];exact⟨o,_,rfl⟩
    ·rw[e];exact⟨(d,0),_,rfl⟩
   ·obtain⟨o,l,c⟩:=XZ xs (left-1) n h f g
    rw[c];exact⟨o,_,rfl⟩
theorem zf9: ∀xs(left n h:Nat),(∀a∈xs,zK a left=0)->0<xs.length-> ∃o l,hdC us vs n h xs=(o,h)::l
 |[],_,_,_,_,b=>H9 b (Nat.lt_irrefl 0)
 |a::_,left,n,h,c,_=>by rw[hdC];exact yu a left n h (c a (B2 ..))
theorem XZ: ∀xs(left n h:Nat),(∀a∈xs,zK a left=0)->xs≠[]-> ∃o l,zh us vs n h xs=(o,h)::l
 |[],_,_,_,_,b=>H9 rfl b
 |a::_,left,n,h,c,_=>by
  obtain⟨o,l,d⟩:=yu a left n h (c a (B2 ..));rw[zh,d];exact⟨o,_,rfl⟩
end
variable {ps:List Nat}{C:qm}
theorem jY{k h a:Nat}{o}(c:C[k]?=some (o,h))(d:yy C (k+1) a)(e:Ys ps.length nv C.length o)(f:M8 ps o<=h)(g:h-M8 ps o+Q0 o=a)(i:a<=256)(hs:U1 k o=[k+1]):qq ps nv C k (k+1):=
 .zk c ⟨e,f,by omega,λj b=>by rw[hs]at b;obtain rfl:=List.mem_singleton.1 b;rw[g];exact d⟩
theorem yy.lt{k h:Nat}(b:yy C k h):k<C.length:=by
 obtain⟨o,h⟩:=b
 rcases E0 k C.length with a|a
 ·exact a
 ·rw[C5 a]at h;cases h
theorem zbL{k h tg:Nat}(c:C[k]?=some ((16,(tg:Int)),h+1))(d:yy C (k+1) h)(a:yy C tg h)(f:h<=256):qq ps nv C k (k+1):=by
 have:=a.lt;refine .zk c ⟨⟨by simp,by simp,λ_=>⟨by simp,by simp[xa];exact_mod_cast this⟩,by simp⟩,by simp[M8],by simp[M8,Q0];omega,λj b=>?_⟩;simp[U1]at b;have e:h+1-M8 ps (16,(tg:Int))+Q0 (16,(tg:Int))=h:=by simp[M8,Q0]
 rw[e]
 rcases b with rfl|rfl
 ·exact d
 ·exact a
theorem zdA{k h tg:Nat}(c:C[k]?=some ((15,(tg:Int)),h))(a:yy C tg h)(d:h<=256):qq ps nv C k (k+1):=by
 have:=a.lt;refine .zk c ⟨⟨by simp,by simp,λ_=>⟨by simp,by simp[xa];exact_mod_cast this⟩,by simp⟩,by simp[M8],by simp[M8,Q0];omega,λj b=>?_⟩;simp[U1]at b;have e:h-M8 ps (15,(tg:Int))+Q0 (15,(tg:Int))=h:=by simp[M8,Q0]
 rw[e,b];exact a
theorem zj4{n h left:Nat}{z:Bool}{a b}(hs:xt C n (YE n h z a b))(c:yy C (n+(YE n h z a b).length) (h+1))(d:h+1<=256)
 (s:xt C n a->yy C (n+a.length) (h+1)->qq ps nv C n (n+a.length))
 (t:xt C (n+a.length+(if z then 1 else 0)+1) b->yy C (n+a.length+(if z then 1 else 0)+1+b.length) (h+1)->qq ps nv C (n+a.length+(if z then 1 else 0)+1) (n+a.length+(if z then 1 else 0)+1+b.length))
 (f: ∃o l,b=(o,h)::l):qq ps nv C n (n+(YE n h z a b).length):=by
 have u:(YE n h z a b).length=a.length+(if z then 1 else 0)+b.length+3:=by
  unfold YE;cases z<;>simp<;>omega
 rw[u]at c|-;unfold YE at hs;obtain⟨v,w⟩:=hs.qv;obtain⟨i,j⟩:=w.qv;have g:(if z then[(((6,0):zv),h+1)]else[]).length=(if z then 1 else 0):=by cases z<;>rfl
 rw[g]at j;obtain⟨k,x⟩:=j.cons;obtain⟨m,y⟩:=x.qv;obtain⟨p,A⟩:=y.cons;obtain⟨q,-⟩:=A.cons;have r:yy C (n+a.length+(if z then 1 else 0)) (h+1):=⟨_,k⟩;have B:yy C (n+a.length+(if z then 1 else 0)+1+b.length) (h+1):=⟨_,p⟩;have D:yy C (n+a.length+(if z then 1 else 0)+1) h:=yy.Xp m f;have E:yy C (n+a.length+(if z then 1 else 0)+b.length+2) h:=⟨_,by rw[show n+a.length+(if z then 1 else 0)+b.length+2=n+a.length+(if z then 1 else 0)+1+b.length+1 by omega];exact q⟩;have F:qq ps nv C n (n+a.length):=s v (by
  cases z with
  |false=>simpa using r
  |true=>exact⟨_,i.cons.1⟩)
 have G:qq ps nv C (n+a.length) (n+a.length+(if z then 1 else 0)):=by
  cases z with
  |false=>exact .none
  |true=>exact jY i.cons.1 (by simpa using r) ⟨by decide,by decide,λ_=>⟨by decide,by simp[xa]⟩,by simp⟩ (by simp[M8]) (by simp[M8,Q0]) d (by simp[U1])
 have H:=zbL (ps:=ps) (nv:=nv) k D E (by omega);have I:=t m B;have J:=zdA (ps:=ps) (nv:=nv) (h:=h+1) (tg:=n+a.length+(if z then 1 else 0)+b.length+3) p (by rw[show n+a.length+(if z then 1 else 0)+b.length+3=n+(a.length+(if z then 1 else 0)+b.length+3) by omega];exact c) d
 have K:qq ps nv C (n+a.length+(if z then 1 else 0)+1+b.length+1) (n+a.length+(if z then 1 else 0)+1+b.length+1+1):=
  jY q (by rw[show n+a.length+(if z then 1 else 0)+1+b.length+1+1=n+(a.length+(if z then 1 else 0)+b.length+3) by omega];exact c) ⟨by simp,by simp,λe=>H9 rfl e,by simp⟩ (by simp[M8]) (by simp[M8,Q0]) d (by simp[U1])
 have:=(((((F.ye G).ye H).ye I).ye J).ye K)
 rwa [show n+a.length+(if z then 1 else 0)+1+b.length+1+1=n+(a.length+(if z then 1 else 0)+b.length+3) by omega]at this
def xE(env:P1)(vs:P4)(m:Nat):Prop:=vs.map Prod.fst=(env.map Prod.fst).reverse/\ ∀q∈vs,0<=q.2/\q.2<m
theorem xE.ZP{m:Nat}(a:xE env vs m){s:ByteArray}(hs:L5 env s≠0):0<=zL vs s/\zL vs s<m:=by
 have c:=Qd hs;have d:s∈vs.map Prod.fst:=by rw[a.1,List.mem_reverse];exact G7 (f:=Prod.fst) c
 obtain⟨q,g,e⟩:=List.mem_map.1 d;unfold zL;cases b:vs.find? (λq=>decide (q.1=s))with
 |none=>have:=List.find?_eq_none.1 b q g;simp[e]at this
 |some h=>exact a.2 _ (List.mem_of_find?_eq_some b)
theorem zi9{t:ByteArray}{f}(h:S3 us t=some f):us[zP us t]?=some f:=by
 unfold S3 at h;unfold zP;rw[List.find?_eq_some_iff_getElem]at h;obtain⟨c,i,a,b,d⟩:=h;have:us.findIdx (λf=>decide (f.J2=t))=i:=by
  rw[List.findIdx_eq a];exact⟨by rw[b];exact c,λj e=>by have:=d j e;simpa using this⟩
 rw[this,x9 a,b]
theorem zjs{k nn:Int}{t:ByteArray}{X5 n h left:Nat}(G: ∀s,L5 env s≠0->0<=zL vs s/\zL vs s<nv)(p:ps=us.map (λf=>f.J1.length))(H:us.length<=16)(I: ∀f∈us,f.J1.length=f.K4.length)(g:zJ k nn t X5=true)(Q:X5<=6)(J:k=8->nn<=15)(R: ¬(k=6/\lv t.data.toList<=2))
 (K:k=3->L5 env t≠0) (L:k=7-> ∃f,S3 us t=some f/\f.K4.length=X5) (hs:xt C n (Xe (h+X5) (qa us vs k nn t X5))) (b:yy C (n+(Xe (h+X5) (qa us vs k nn t X5)).length) (h+1)) (i:h+1<=256) (M:h+X5<=256+1):
 qq ps nv C n (n+(Xe (h+X5) (qa us vs k nn t X5)).length):=by
 by_cases j:k=1\/k=2
 ·have e:qa us vs k nn t X5=[(1,nn)]:=by unfold qa;rw[C8 j]
  have m:X5=0:=by rcases j with rfl|rfl<;>simp[ok1,ok2]at g<;>omega
  rw[e]at hs b|-;exact jY hs.cons.1 b ⟨by simp,by simp,λe=>H9 rfl e,by simp⟩ (by simp[M8]) (by simp[M8,Q0];omega) i (by simp[U1])
 by_cases l:k=3
 ·have e:qa us vs k nn t X5=[(2,zL vs t)]:=by unfold qa;rw[B5 j,C8 l]
  have m:X5=0:=by subst l;simp[ok3]at g;omega
  obtain⟨z,A⟩:=G t (K l);rw[e]at hs b|-;exact jY hs.cons.1 b ⟨by simp,by simp,λ_=>⟨z,by simpa[xa]using A⟩,by simp⟩ (by simp[M8]) (by simp[M8,Q0];omega) i (by simp[U1])
 by_cases o:k=4
 ·have e:qa us vs k nn t X5=[(5,0)]:=by unfold qa;rw[B5 j,B5 l,C8 o]
  have m:X5=1:=by subst o;simpa[ok4]using g
  rw[e]at hs b|-;exact jY hs.cons.1 b ⟨by simp,by simp,λ_=>⟨by simp,by simp[xa]⟩,by simp⟩ (by simp[M8];omega) (by simp[M8,Q0];omega) i (by simp[U1])
 by_cases q:k=5
 ·have e:qa us vs k nn t X5=[(6,0)]:=by unfold qa;rw[B5 j,B5 l,B5 o,C8 q]
  have m:X5=1:=by subst q;simpa[zJ]using g
  rw[e]at hs b|-;exact jY hs.cons.1 b ⟨by simp,by simp,λ_=>⟨by simp,by simp[xa]⟩,by simp⟩ (by simp[M8];omega) (by simp[M8,Q0];omega) i (by simp[U1])
 by_cases x:k=7
 ·have e:qa us vs k nn t X5=[(17,(zP us t:Int))]:=by unfold qa;rw[B5 j,B5 l,B5 o,B5 q,C8 x]
  obtain⟨f,N,B⟩:=L x;have c:=zi9 N;have D:zP us t<us.length:=by rcases E0 (zP us t) us.length with h|h;exact h;rw[C5 h]at c;cases c
  have a:M8 ps (17,(zP us t:Int))=X5:=by
   simp only[M8];simp[p,List.getD_eq_getElem?_getD,c];rw[I f (B7 c),B]
  rw[e]at hs b|-;exact jY hs.cons.1 b ⟨by simp,by simp,λ_=>⟨by simp,by simp[xa,p];exact D⟩,by simp⟩ (by rw[a];omega) (by rw[a];simp[Q0]) i (by simp[U1])
 by_cases y:k=8
 ·have e:qa us vs k nn t X5=[(20,nn*8+X5)]:=by unfold qa;rw[B5 j,B5 l,B5 o,B5 q,B5 x,C8 y]
  have m:0<=nn:=by subst y;simpa[ok8]using g
  have S:=J y;have a:M8 ps (20,nn*8+X5)=X5:=by
   simp only[M8];simp;omega
  rw[e]at hs b|-;exact jY hs.cons.1 b ⟨by simp,by simp,λ_=>⟨by simp;omega,by simp[xa];omega⟩,by simp;omega⟩ (by rw[a];omega) (by rw[a];simp[Q0]) i (by simp[U1])
 by_cases E:k=6
 ·have m:X5=2:=by subst E;simp[ok6]at g;omega
  have e:qa us vs k nn t X5=zbN t.data.toList:=by unfold qa;rw[B5 j,B5 l,B5 o,B5 q,B5 x,B5 y,C8 E]
  obtain⟨d,⟨T,U⟩,r⟩:=za3 (t:=t.data.toList) (by omega);have a:M8 ps (d,0)=2:=by simp only[M8];rw[B5 (by omega),B5 (by omega),B5 (by omega),B5 (by omega)]
  have u:Q0 (d,0)=1:=by simp only[Q0];rw[B5 (by omega)]
  have v: ∀k,U1 k (d,0)=[k+1]:=λk=>by simp only[U1];rw[B5 (by omega),B5 (by omega),B5 (by omega)]
  have w:Ys ps.length nv C.length (d,0):=⟨by simp;omega,by simp;omega,λ_=>⟨by simp,by simp only[xa];rw[B5 (by omega),B5 (by omega),B5 (by omega),B5 (by omega),B5 (by omega)];decide⟩,λe=>by simp at e;omega⟩;subst m
  rcases r with r|r
  ·rw[e,r]at hs b|-
   exact jY hs.cons.1 b w (by rw[a];omega) (by rw[a,u];omega) i (v _)
  ·rw[e,r]at hs b|-
   obtain⟨O,P⟩:=hs.cons;have F:=P.cons.1;have A:qq ps nv C (n+1) (n+1+1):=jY F (by simpa[Xe]using b) ⟨by simp,by simp,λ_=>⟨by simp,by simp[xa]⟩,by simp⟩ (by simp[M8]) (by simp[M8,Q0]) i (by simp[U1]);have z:qq ps nv C n (n+1):=jY O ⟨_,F⟩ w (by rw[a];omega) (by rw[a,u];omega) (by omega) (v _);exact z.ye A
 ·rw[oko (by omega)]at g;cases g
mutual
theorem zbH(z: ∀s,L5 env s≠0->0<=zL vs s/\zL vs s<nv)(i:ps=us.map (λf=>f.J1.length))(j:us.length<=16)(A: ∀f∈us,f.J1.length=f.K4.length): ∀x(left n h:Nat)(G:Int),zK x left=0->O2 us env x=.ok G->
 xt C n (O7 us vs n h x)->yy C (n+(O7 us vs n h x).length) (h+1)->h+5*left<=256->qq ps nv C n (n+(O7 us vs n h x).length)
 |.mk k nn t xs p,left,n,h,G,I,J,hs,g,S=>by
  obtain⟨K,r,L,M,m⟩:=Js I;obtain⟨c,N,O⟩:=zcv J r;rw[O7]at hs g|-
  by_cases u:k=6/\lv t.data.toList<=2
  ·rw[C8 u]at hs g|-
   have v:xs.length=2:=by rw[u.1,ok6]at r;simp at r;exact r.1
   match xs,v,m,c,hs,g with
   |[a,b],_,m,c,hs,g=>
    obtain⟨P,B⟩:=c a (by simp);obtain⟨Q,D⟩:=c b (by simp);simp only[hdC,sdC]at hs g|-;exact zj4 (left:=left) hs g (by omega) (λw l=>zbH z i j A a (left-1) n h P (m a (by simp)) B w l (by omega)) (λw l=>zbH z i j A b (left-1) _ h Q (m b (by simp)) D w l (by omega)) (yu b (left-1) _ h (m b (by simp)))
  ·rw[B5 u]at hs g|-
   obtain⟨w,l⟩:=hs.qv;rw[A9]at g|-;rw[<-Nat.add_assoc]at g|-;have y:xs≠[]->2<=left:=λq=>by
    obtain⟨a,E⟩:=List.exists_mem_of_ne_nil _ q;have:=m a E
    rcases E0 left 2 with H|H
    ·rw[show left-1=0 by omega]at this
     cases a with|mk k n t xs p=>simp[zK,yo]at this
    ·exact H
   have F:h+xs.length<=256+1:=by
    by_cases q:xs=[]
    ·subst q;simp;omega
    ·have:=y q;omega
   have R:=zjs (left:=left) (C:=C) (n:=n+(zh us vs n h xs).length) z i j A r L M u N O l g (by omega) F;refine qq.ye (mid:=n+(zh us vs n h xs).length) ?_ R;refine ze4 z i j A xs (left-1) n h m c w ?_ ?_
   ·rcases zaK (us:=us) (vs:=vs) r u with⟨o,e⟩|⟨d,_,_,e⟩
    ·rw[e]at l;exact yy.Xp l ⟨_,_,rfl⟩
    ·rw[e]at l;exact yy.Xp l ⟨_,_,rfl⟩
   ·by_cases q:xs=[]
    ·exact .inl q
    ·right;have:=y q;omega
theorem ze4(q: ∀s,L5 env s≠0->0<=zL vs s/\zL vs s<nv)(d:ps=us.map (λf=>f.J1.length))(e:us.length<=16)(r: ∀f∈us,f.J1.length=f.K4.length): ∀xs(left n h:Nat),(∀a∈xs,zK a left=0)->(∀a∈xs,∃t,O2 us env a=.ok t)->
 xt C n (zh us vs n h xs)->yy C (n+(zh us vs n h xs).length) (h+xs.length)->(xs=[]\/h+xs.length+5*left<=257)->qq ps nv C n (n+(zh us vs n h xs).length)
 |[],_,n,h,_,_,_,_,_=>by rw[zh];exact .none
 |a::l,left,n,h,k,g,hs,j,v=>by
  rw[zh]at hs j|-;obtain⟨w,u⟩:=hs.qv;rw[A9,<-Nat.add_assoc]at j|-;obtain⟨x,m⟩:=g a (B2 ..);have y:h+l.length+5*left<=256:=by rcases v with o|o;cases o;simp at o;omega
  have p:yy C (n+(O7 us vs n h a).length) (h+1):=by
   cases l with
   |nil=>simpa[zh]using j
   |cons b l=>exact yy.Xp u (XZ (b::l) left _ _ (λc i=>k c (x5 _ i)) (by simp))
  refine qq.ye (zbH q d e r a left n h x (k a (B2 ..)) m w p (by omega)) ?_;refine ze4 q d e r l left _ (h+1) (λc i=>k c (x5 _ i)) (λc i=>g c (x5 _ i)) u ?_ (.inr (by omega));rw[A8]at j
  rwa [show h+1+l.length=h+(l.length+1) by omega]
end
end
theorem Xa: ∀{l}{left:Nat},O0 l left=0-> ∀a∈l,xK a left=0:=by
 intro l
 induction l with
 |nil=>intro left _ a c;cases c
 |cons b l e=>
  intro left h a c;rw[O0]at h
  split at h
  ·rename_i d
   rcases List.mem_cons.1 c with rfl|c
   ·exact d
   ·exact e h a c
  ·rename_i d;exact H9 h d
theorem Yc{k:Int}{nm:ByteArray}{a J0 M9}{p:Int}{left:Nat}(h:xK (.mk k nm a J0 M9 p) left=0):1<=left/\(1<=k/\k<=7)/\zK a (left-1)=0/\(k=3\/k=4->O0 J0 (left-1)=0)/\(k=3->O0 M9 (left-1)=0):=by
 rw[xK]at h
 by_cases f:left=0
 ·rw[C8 f]at h;cases h
 rw[B5 f]at h
 by_cases g:k<1\/7<k\/(k<=2/\R2 nm=false)
 ·rw[C8 g]at h;cases h
 rw[B5 g]at h
 by_cases b:zK a (left-1)=0
 ·rw[B5 (λe=>e b)]at h
  by_cases c:(k=3\/k=4)/\O0 J0 (left-1)≠0
  ·rw[C8 c]at h;exact H9 h c.2
  ·rw[B5 c]at h
   refine⟨by omega,by omega,b,λd=>?_,λd=>?_⟩
   ·by_cases e:O0 J0 (left-1)=0
    ·exact e
    ·exact H9 ⟨d,e⟩ c
   ·rw[C8 d]at h;exact h
 ·rw[C8 b]at h;exact H9 h b
theorem Yy{us}{out:Int}{k:Int}{nm:ByteArray}{a J0 M9}{p:Int}{env c}{m l:Nat}{r:Bool}(h:zC us out (.mk k nm a J0 M9 p) env m=.ok (c,l,r)):
 (∃t,O2 us env a=.ok t/\(k=1->Y4 env m p nm t=.ok (c,l)))/\(k=2->L5 env nm≠0)/\(k=3-> ∃j r1 v,zS us out J0 env m=.ok (j,r1)/\zS us out M9 env j=.ok (l,v))/\(k=4-> ∃r1,zS us out J0 env m=.ok (l,r1))/\
 (k≠1->c=env)/\(k≠1->k≠3->k≠4->l=m):=by
 rw[zC]at h
 by_cases w:k=2/\L5 env nm=0
 ·rw[C8 w]at h;cases h
 rw[B5 w]at h;cases A:O2 us env a with
 |J9 q e=>rw[A]at h;cases h
 |ok t=>
  rw[A]at h;simp only at h
  by_cases g:k=1
  ·rw[C8 g]at h
   cases x:Y4 env m p nm t with
   |J9 q e=>rw[x]at h;cases h
   |ok z=>
    obtain⟨B,j⟩:=z;rw[x]at h;injection h with h;injection h with i f;injection f with f n
    subst i f;exact⟨⟨t,rfl,λ_=>x⟩,by omega,by omega,by omega,λe=>H9 g e,λe=>H9 g e⟩
  rw[B5 g]at h
  by_cases i:k=2
  ·rw[C8 i]at h
   split at h
   ·cases h
   ·injection h with h;injection h with d b;injection b with b o;subst d b
    exact⟨⟨t,rfl,λe=>H9 e g⟩,λ_ e=>w ⟨i,e⟩,by omega,by omega,λ_=>rfl,λ_ _ _=>rfl⟩
  rw[B5 i]at h
  by_cases f:k=3
  ·rw[C8 f]at h
   split at h
   ·cases h
   cases s:zS us out J0 env m with
   |J9 q e=>rw[s]at h;cases h
   |ok z=>
    obtain⟨j,r1⟩:=z;rw[s]at h;simp only at h;cases y:zS us out M9 env j with
    |J9 q e=>rw[y]at h;cases h
    |ok z=>
     obtain⟨D,v⟩:=z;rw[y]at h;injection h with h;injection h with d b;injection b with b o;subst d b
     exact⟨⟨t,rfl,λe=>H9 e g⟩,λe=>H9 e i,λ_=>⟨j,r1,v,rfl,y⟩,by omega,λ_=>rfl,λ_ e=>H9 f e⟩
  rw[B5 f]at h
  by_cases n:k=4
  ·rw[C8 n]at h
   split at h
   ·cases h
   cases s:zS us out J0 env m with
   |J9 q e=>rw[s]at h;cases h
   |ok z=>
    obtain⟨j,r1⟩:=z;rw[s]at h;injection h with h;injection h with d b;injection b with b o;subst d b
    exact⟨⟨t,rfl,λe=>H9 e g⟩,λe=>H9 e i,λe=>H9 e f,λ_=>⟨r1,rfl⟩,λ_=>rfl,λ_ _ e=>H9 n e⟩
  rw[B5 n]at h;have u:c=env/\l=m:=by
   split at h
   ·split at h
    ·cases h
    ·injection h with h;injection h with d b;injection b with b o;exact⟨d.symm,b.symm⟩
   ·split at h
    ·split at h
     ·cases h
     ·injection h with h;injection h with d b;injection b with b o;exact⟨d.symm,b.symm⟩
    ·injection h with h;injection h with d b;injection b with b o;exact⟨d.symm,b.symm⟩
  exact⟨⟨t,rfl,λe=>H9 e g⟩,λe=>H9 e i,λe=>H9 e f,λe=>H9 e n,λ_=>u.1,λ_ _ _=>u.2⟩
theorem zc8{us}{out:Int}{s l env}{m f:Nat}{r:Bool}(h:zS us out (s::l) env m=.ok (f,r)): ∃a b r1 c,zC us out s env m=.ok (a,b,r1)/\zS us out l a b=.ok (f,c):=by
 rw[zS]at h;cases g:zC us out s env m with
 |J9 q e=>rw[g]at h;cases h
 |ok z=>
  obtain⟨i,b,r1⟩:=z;rw[g]at h;simp only at h;cases d:zS us out l i b with
  |J9 q e=>rw[d]at h;cases h
  |ok z=>
   obtain⟨k,c⟩:=z;rw[d]at h;injection h with h;injection h with j n
   subst j;exact⟨i,b,r1,c,rfl,d⟩
section
variable {us:List Fn}{out:Int}
mutual
theorem Yi: ∀s(left n:Nat)vs env(m:Nat)b(m':Nat)(r:Bool),xK s left=0->zC us out s env m=.ok (b,m',r)->(Z9 us n vs m s).2.2=m'/\(xE env vs m->xE b (Z9 us n vs m s).2.1 m')
 |.mk k nm a J0 M9 p,left,n,vs,env,m,b,m',r,F,G=>by
  obtain⟨O,P,e,i,v⟩:=Yc F;obtain⟨⟨t,H,I⟩,Q,J,K,z,A⟩:=Yy G;rw[Z9]
  by_cases f:k=4
  ·rw[C8 f]
   obtain⟨j,l⟩:=K f;have q:=xD J0 (left-1) (n+(O7 us vs n 0 a).length+1) vs env m m' j (i (.inr f)) l;have:=z (by omega);subst this;exact⟨q,λc=>⟨c.1,λx e=>by have:=c.2 x e;have:=(qM us out J0 b m m' j l).1;omega⟩⟩
  rw[B5 f]
  by_cases g:k=1
  ·rw[C8 g]
   obtain⟨w,-,B,-⟩:=xh (I g);subst w B;refine⟨rfl,λc=>⟨?_,λx e=>?_⟩⟩
   ·simp[c.1]
   ·rcases List.mem_append.1 e with e|e
    ·have:=c.2 x e;omega
    ·obtain rfl:=List.mem_singleton.1 e
     simp;omega
  rw[B5 g];have L:=z g;subst L
  by_cases D:k=2
  ·rw[C8 D];have:=A g (by omega) f;subst this;exact⟨rfl,λc=>c⟩
  rw[B5 D]
  by_cases h:k=3
  ·rw[C8 h]
   obtain⟨u,j,E,l,d⟩:=J h;have q:=xD J0 (left-1) (n+(O7 us vs n 0 a).length+1) vs b m u j (i (.inl h)) l;have M:=xD M9 (left-1) (n+(O7 us vs n 0 a).length+(X9 us (n+(O7 us vs n 0 a).length+1) vs m J0).1.length+2) vs b u m' E (v h) d;have R:=(qM us out J0 b m u j l).1;have S:=(qM us out M9 b u m' E d).1;have o:xE b vs m->xE b vs m':=λc=>⟨c.1,λx e=>by have:=c.2 x e;omega⟩
   by_cases y:M9.isEmpty=true
   ·rw[C8 y]
    have:M9=[]:=by simpa using y
    subst this;rw[zS]at d;injection d with d;injection d with w B
    subst w;exact⟨q,o⟩
   ·rw[B5 y]
    rw[q];exact⟨M,o⟩
  rw[B5 h];have N:=A g h f;subst N
  split
  ·exact⟨rfl,λc=>c⟩
  ·split
   ·exact⟨rfl,λc=>c⟩
   ·exact⟨rfl,λc=>c⟩
theorem xD: ∀l(left n:Nat)vs env(m b:Nat)(r:Bool),O0 l left=0->zS us out l env m=.ok (b,r)->(X9 us n vs m l).2=b
 |[],_,n,vs,env,m,b,r,_,c=>by rw[zS]at c;simp at c;rw[X9];exact c.1
 |s::l,left,n,vs,env,m,b,r,e,c=>by
  obtain⟨a,g,r1,h,hs,i⟩:=zc8 c;have d:=Xa e s (B2 ..);have f:O0 l left=0:=by rw[O0,C8 d]at e;exact e
  have q:=Yi s left n vs env m a g r1 d hs;rw[X9];have:=xD l left (n+(Z9 us n vs m s).1.length) (Z9 us n vs m s).2.1 a g b h f i;rw[q.1];exact this
end
theorem zfD: ∀s(left n:Nat)vs(m:Nat),xK s left=0-> ∃o l,(Z9 us n vs m s).1=(o,0)::l
 |.mk k nm a J0 M9 p,left,n,vs,m,b=>by
  obtain⟨f,g,c,d,e⟩:=Yc b;obtain⟨o,l,h⟩:=yu (us:=us) (vs:=vs) a (left-1) n 0 c;rw[Z9]
  split
  ·exact⟨o,_,by rw[h];rfl⟩
  split
  ·exact⟨o,_,by rw[h];rfl⟩
  split
  ·exact⟨o,_,by rw[h];rfl⟩
  split
  ·split
   ·exact⟨o,_,by rw[h];rfl⟩
   ·exact⟨o,_,by rw[h];rfl⟩
  split
  ·exact⟨o,_,by rw[h];rfl⟩
  split
  ·exact⟨o,_,by rw[h];rfl⟩
  ·exact⟨o,_,by rw[h];rfl⟩
theorem Xk{C l}{left n:Nat}{vs}{m:Nat}(a:O0 l left=0)(hs:xt C n (X9 us n vs m l).1)(b:yy C (n+(X9 us n vs m l).1.length) 0):yy C n 0:=by
 cases l with
 |nil=>simpa[X9]using b
 |cons s l=>
  obtain⟨o,r,h⟩:=zfD (us:=us) s left n vs m (Xa a s (B2 ..));rw[X9]at hs;exact yy.Xp hs ⟨o,_,by simp only[h];rfl⟩
variable {ps:List Nat}{nv:Nat}{C:qm}
theorem zlE{k:Nat}{o}(a:C[k]?=some (o,1))(b:yy C (k+1) 0)(c:Ys ps.length nv C.length o)(d:M8 ps o=1)(e:Q0 o=0)(hs: ∀j∈U1 k o,j=k+1):qq ps nv C k (k+1):=
 .zk a ⟨c,by omega,by omega,λj f=>by rw[hs j f,d,e];exact b⟩
mutual
theorem zmf(e:ps=us.map (λf=>f.J1.length))(g:us.length<=16)(H: ∀f∈us,f.J1.length=f.K4.length): ∀s(left n:Nat)vs env(m:Nat)i(m':Nat)(r:Bool),xK s left=0->zC us out s env m=.ok (i,m',r)->xE env vs m->m'<=nv->5*left<=256->
 xt C n (Z9 us n vs m s).1->yy C (n+(Z9 us n vs m s).1.length) 0->qq ps nv C n (n+(Z9 us n vs m s).1.length)
 |.mk k nm a J0 M9 p,left,n,vs,env,m,i,m',r,hf,ht,B,I,h5,hs,b=>by
  obtain⟨hl,hk,S,d,J⟩:=Yc hf;obtain⟨⟨t,W,h1⟩,h2,h3,h4,he,hm⟩:=Yy ht;have a4:m<=m':=(zdW us out _ env m i m' r ht).1;have hV: ∀s,L5 env s≠0->0<=zL vs s/\zL vs s<nv:=λs h=>by have:=B.ZP h;omega
  have T:xt C n (O7 us vs n 0 a)->yy C (n+(O7 us vs n 0 a).length) 1->qq ps nv C n (n+(O7 us vs n 0 a).length):=λu w=>zbH hV e g H a (left-1) n 0 t S W u w (by omega)
  rw[Z9]at hs b|-
  by_cases K:k=4
  ·rw[C8 K]at hs b|-
   obtain⟨D,E⟩:=h4 K;simp only at hs b|-;obtain⟨u,w⟩:=hs.qv;obtain⟨l,F⟩:=w.cons;obtain⟨U,X⟩:=F.qv;have L:=X.cons.1;rw[show n+(O7 us vs n 0 a++((16,((n+(O7 us vs n 0 a).length+(X9 us (n+(O7 us vs n 0 a).length+1) vs m J0).1.length+2:Nat):Int)),1)::((X9 us (n+(O7 us vs n 0 a).length+1) vs m J0).1++[((15,(n:Int)),0)]):qm).length=n+(O7 us vs n 0 a).length+(X9 us (n+(O7 us vs n 0 a).length+1) vs m J0).1.length+2 by simp<;>omega]at b|-;have A:yy C (n+(O7 us vs n 0 a).length+1+(X9 us (n+(O7 us vs n 0 a).length+1) vs m J0).1.length) 0:=⟨_,L⟩;have M:=Xk (d (.inr K)) U A;have A0:yy C n 0:=yy.Xp u (yu a (left-1) n 0 S);have N:=T u ⟨_,l⟩;have O:=zbL (ps:=ps) (nv:=nv) l M b (by omega);have G:=JR e g H J0 (left-1) (n+(O7 us vs n 0 a).length+1) vs env m m' D (d (.inr K)) E B I (by omega) U A;have V:=zdA (ps:=ps) (nv:=nv) (tg:=n) L A0 (by omega);have:=((N.ye O).ye G).ye V
   rwa [show n+(O7 us vs n 0 a).length+1+(X9 us (n+(O7 us vs n 0 a).length+1) vs m J0).1.length+1=n+(O7 us vs n 0 a).length+(X9 us (n+(O7 us vs n 0 a).length+1) vs m J0).1.length+2 by omega]at this
  rw[B5 K]at hs b|-;have c: ∀(o:zv),Ys ps.length nv C.length o->M8 ps o=1->Q0 o=0->(∀k,∀j∈U1 k o,j=k+1)->xt C n (O7 us vs n 0 a++[(o,1)])->yy C (n+(O7 us vs n 0 a++[(o,1)]).length) 0->qq ps nv C n (n+(O7 us vs n 0 a++[(o,1)]).length):=by
   intro o ho hp hq Y hs b;obtain⟨u,w⟩:=hs.qv;have l:=w.cons.1;rw[A9,<-Nat.add_assoc]at b|-;exact(T u ⟨_,l⟩).ye (zlE l b ho hp hq (Y _))
  by_cases Z:k=1
  ·rw[C8 Z]at hs b|-
   obtain⟨a1,-,a2,-⟩:=xh (h1 Z);refine c (3,(m:Int)) ⟨by simp,by simp,λ_=>⟨by simp,by simp[xa]<;>omega⟩,by simp⟩ (by simp[M8]) (by simp[Q0]) (by simp[U1]) hs b
  rw[B5 Z]at hs b|-
  by_cases k2:k=2
  ·rw[C8 k2]at hs b|-
   have:=hV nm (h2 k2);refine c (3,zL vs nm) ⟨by simp,by simp,λ_=>⟨this.1,by simp[xa];omega⟩,by simp⟩ (by simp[M8]) (by simp[Q0]) (by simp[U1]) hs b
  rw[B5 k2]at hs b|-
  by_cases v:k=3
  ·rw[C8 v]at hs b|-
   obtain⟨m1,D,r2,E,P⟩:=h3 v;have l1:=(qM us out J0 env m m1 D E).1;have l2:=(qM us out M9 env m1 m' r2 P).1;have a0:xE env vs m1:=⟨B.1,λx S=>by have:=B.2 x S;omega⟩;have a3:=xD (us:=us) (out:=out) J0 (left-1) (n+(O7 us vs n 0 a).length+1) vs env m m1 D (d (.inl v)) E
   by_cases hz:M9.isEmpty=true
   ·rw[C8 hz]at hs b|-
    simp only at hs b|-;obtain⟨u,w⟩:=hs.qv;obtain⟨l,F⟩:=w.cons;rw[show n+(O7 us vs n 0 a++((16,((n+(O7 us vs n 0 a).length+(X9 us (n+(O7 us vs n 0 a).length+1) vs m J0).1.length+1:Nat):Int)),1)::(X9 us (n+(O7 us vs n 0 a).length+1) vs m J0).1:qm).length=n+(O7 us vs n 0 a).length+(X9 us (n+(O7 us vs n 0 a).length+1) vs m J0).1.length+1 by simp<;>omega]at b|-;have A:yy C (n+(O7 us vs n 0 a).length+1+(X9 us (n+(O7 us vs n 0 a).length+1) vs m J0).1.length) 0:=by
     rwa [show n+(O7 us vs n 0 a).length+1+(X9 us (n+(O7 us vs n 0 a).length+1) vs m J0).1.length=n+(O7 us vs n 0 a).length+(X9 us (n+(O7 us vs n 0 a).length+1) vs m J0).1.length+1 by omega]
    have M:=Xk (d (.inl v)) F A;have N:=T u ⟨_,l⟩;have O:=zbL (ps:=ps) (nv:=nv) l M b (by omega);have G:=JR e g H J0 (left-1) (n+(O7 us vs n 0 a).length+1) vs env m m1 D (d (.inl v)) E B (by omega) (by omega) F A;have:=(N.ye O).ye G
    rwa [show n+(O7 us vs n 0 a).length+1+(X9 us (n+(O7 us vs n 0 a).length+1) vs m J0).1.length=n+(O7 us vs n 0 a).length+(X9 us (n+(O7 us vs n 0 a).length+1) vs m J0).1.length+1 by omega]at this
   ·rw[B5 hz]at hs b|-
    simp only at hs b|-;rw[a3]at hs b|-;generalize y:(X9 us (n+(O7 us vs n 0 a).length+1) vs m J0).1=q at hs b|-;generalize z:(X9 us (n+(O7 us vs n 0 a).length+q.length+2) vs m1 M9).1=ce at hs b|-;obtain⟨u,w⟩:=hs.qv;obtain⟨l,F⟩:=w.cons;obtain⟨U,X⟩:=F.qv;obtain⟨L,s6⟩:=X.cons;have en:n+(O7 us vs n 0 a++((16,((n+(O7 us vs n 0 a).length+q.length+2:Nat):Int)),1)::(q++((15,((n+(O7 us vs n 0 a).length+q.length+2+ce.length:Nat):Int)),0)::ce):qm).length=n+(O7 us vs n 0 a).length+q.length+2+ce.length:=by simp<;>omega
    rw[en]at b|-;have A:yy C (n+(O7 us vs n 0 a).length+1+q.length) 0:=⟨_,L⟩;have Q:xt C (n+(O7 us vs n 0 a).length+1) (X9 us (n+(O7 us vs n 0 a).length+1) vs m J0).1:=by rw[y];exact U
    have M:=Xk (d (.inl v)) Q (by rw[y];exact A);have e6:n+(O7 us vs n 0 a).length+1+q.length+1=n+(O7 us vs n 0 a).length+q.length+2:=by omega
    rw[e6]at s6;have R:xt C (n+(O7 us vs n 0 a).length+q.length+2) (X9 us (n+(O7 us vs n 0 a).length+q.length+2) vs m1 M9).1:=by rw[z];exact s6
    have B3:=Xk (J v) R (by rw[z];exact b);have N:=T u ⟨_,l⟩;have O:=zbL (ps:=ps) (nv:=nv) l M B3 (by omega);have G:=JR e g H J0 (left-1) (n+(O7 us vs n 0 a).length+1) vs env m m1 D (d (.inl v)) E B (by omega) (by omega) Q (by rw[y];exact A);rw[y]at G;have V:=zdA (ps:=ps) (nv:=nv) L b (by omega);rw[e6]at V;have q5:=JR e g H M9 (left-1) (n+(O7 us vs n 0 a).length+q.length+2) vs env m1 m' r2 (J v) P a0 I (by omega) R (by rw[z];exact b);rw[z]at q5;exact(((N.ye O).ye G).ye V).ye q5
  rw[B5 v]at hs b|-
  by_cases k5:k=5
  ·rw[C8 k5]at hs b|-
   exact c (18,0) ⟨by simp,by simp,λ_=>⟨by simp,by simp[xa]⟩,by simp⟩ (by simp[M8]) (by simp[Q0]) (by simp[U1]) hs b
  rw[B5 k5]at hs b|-
  by_cases k6:k=6
  ·rw[C8 k6]at hs b|-
   exact c (19,0) ⟨by simp,by simp,λ_=>⟨by simp,by simp[xa]⟩,by simp⟩ (by simp[M8]) (by simp[Q0]) (by simp[U1]) hs b
  rw[B5 k6]at hs b|-;exact c (4,0) ⟨by simp,by simp,λ_=>⟨by simp,by simp[xa]⟩,by simp⟩ (by simp[M8]) (by simp[Q0]) (by simp[U1]) hs b
theorem JR(e:ps=us.map (λf=>f.J1.length))(g:us.length<=16)(t: ∀f∈us,f.J1.length=f.K4.length): ∀l(left n:Nat)vs env(m c:Nat)(r:Bool),O0 l left=0->zS us out l env m=.ok (c,r)->xE env vs m->c<=nv->5*left<=256->
 xt C n (X9 us n vs m l).1->yy C (n+(X9 us n vs m l).1.length) 0->qq ps nv C n (n+(X9 us n vs m l).1.length)
 |[],_,n,vs,env,m,c,r,_,_,_,_,_,_,_=>by rw[X9];exact .none
 |s::l,left,n,vs,env,m,c,r,o,y,u,p,v,hs,d=>by
  obtain⟨a,k,r1,w,h,i⟩:=zc8 y;have b:=Xa o s (B2 ..);have j:O0 l left=0:=by rw[O0,C8 b]at o;exact o
  obtain⟨z,A⟩:=Yi (us:=us) (out:=out) s left n vs env m a k r1 b h;have q:=A u;have E:=(qM us out l a k c w i).1;rw[X9]at hs d|-;simp only at hs d|-;rw[z]at hs d|-;obtain⟨D,x⟩:=hs.qv;rw[A9,<-Nat.add_assoc]at d|-;have B:=Xk j x d;exact(zmf e g t s left n vs env m a k r1 b h u (by omega) v D B).ye (JR e g t l left _ _ a k c w j i q p v x d)
end
end
structure znP(ps:List Nat)(c:Cf):Prop where
 params:c.params<=6
 vars:c.params<=c.vars/\c.vars<=64
 start:yy c.S0 0 0
 P6:qq ps c.vars c.S0 0 c.S0.length
theorem zeH: ∀(m:Nat)l vs,jb m l=vs->vs.map Prod.fst=l/\ ∀q∈vs,(m:Int)<=q.2/\q.2<(m+l.length:Nat):=by
 intro m l
 induction l generalizing m with
 |nil=>intro vs h;subst h;exact⟨rfl,λq a=>by cases a⟩
 |cons n l b=>
  intro vs h;subst h;obtain⟨c,d⟩:=b (m+1) _ rfl;refine⟨by rw[jb,List.map_cons,c],λq a=>?_⟩;rw[jb]at a
  rcases List.mem_cons.1 a with rfl|a
  ·simp
   omega
  ·have:=d q a
   simp at this|-;omega
theorem Yg{p:Int}: ∀{b ts env a}{m d:Nat},b.length=ts.length->zy p b ts env m=.ok (a,d)->a.map Prod.fst=b.reverse++env.map Prod.fst/\d=m+b.length/\(m<=64->d<=64):=by
 intro b
 induction b with
 |nil=>intro ts env a m d _ h;cases ts<;>(simp[zy]at h;obtain⟨rfl,rfl⟩:=h;simp)
 |cons n b g=>
  intro ts env a m d f h;cases ts with
  |nil=>simp at f
  |cons t ts=>
   rw[zy]at h;cases c:Y4 env m p n t with
   |J9 q e=>rw[c]at h;cases h
   |ok z=>
    obtain⟨r,s⟩:=z;rw[c]at h;obtain⟨i,u,j,-⟩:=xh c;obtain⟨k,l,o⟩:=g (by simpa using f) h;subst i j;refine⟨by rw[k];simp,by rw[l];simp;omega,λ_=>o (by omega)⟩
theorem zlJ{us f}(t:us.length<=16)(H: ∀f∈us,f.J1.length=f.K4.length)(g:QZ f=0)(k:JM us f=.ok ())(l:f.J1.length=f.K4.length):znP (us.map (λf=>f.J1.length)) (xJ us f):=by
 have p:f.J1.length<=6/\O0 f.J0 40=0:=by
  unfold QZ at g
  by_cases h:6<f.J1.length
  ·rw[C8 h]at g;cases g
  ·rw[B5 h]at g
   split at g
   ·cases g
   ·exact⟨by omega,g⟩
 unfold JM at k;cases u:zy f.pos f.J1 f.K4 [] 0 with
 |J9 q e=>rw[u]at k;cases k
 |ok z=>
  obtain⟨c,m⟩:=z;rw[u]at k;simp only at k;cases n:zS us f.out f.J0 c m with
  |J9 q e=>rw[n]at k;cases k
  |ok z=>
   obtain⟨m',r⟩:=z;obtain⟨I,s,J⟩:=Yg l u;have E:=J (by omega);have v:=qM us f.out f.J0 c m m' r n;simp only[Nat.zero_add]at s;obtain⟨K,L⟩:=zeH 0 f.J1 _ rfl;have F:xE c (jb 0 f.J1) m:=⟨by rw[K,I];simp,λq M=>by have:=L q M;rw[s];simpa using this⟩;have d:=xD (us:=us) (out:=f.out) f.J0 40 0 (jb 0 f.J1) c m m' r p.2 n;rw[s]at d n;have a:(xJ us f).vars=m':=d;have b:(xJ us f).S0=(X9 us 0 (jb 0 f.J1) f.J1.length f.J0).1++[((1,0),0),((18,0),1)]:=rfl;generalize w:(X9 us 0 (jb 0 f.J1) f.J1.length f.J0).1=B at b;have N:xt (xJ us f).S0 0 (B++[((1,0),0),((18,0),1)]):=λi x O=>by rw[b,Nat.zero_add];exact O
   obtain⟨P,Q⟩:=N.qv;obtain⟨y,R⟩:=Q.cons;have D:=R.cons.1;rw[Nat.zero_add]at y D;have S:(xJ us f).S0.length=B.length+1+1:=by rw[b];simp
   have o:xt (xJ us f).S0 0 (X9 us 0 (jb 0 f.J1) f.J1.length f.J0).1:=by rw[w];exact P
   have A:yy (xJ us f).S0 (0+(X9 us 0 (jb 0 f.J1) f.J1.length f.J0).1.length) 0:=by rw[w,Nat.zero_add];exact⟨_,y⟩
   rw[s]at F E v;refine⟨p.1,⟨by rw[a];exact v.1,by rw[a];exact v.2 E⟩,Xk p.2 o A,?_⟩;have G:=JR (ps:=us.map (λf=>f.J1.length)) (nv:=(xJ us f).vars) rfl t H f.J0 40 0 (jb 0 f.J1) c f.J1.length m' r p.2 n F (by rw[a];exact x7 _) (by omega) o A;rw[w,Nat.zero_add]at G
   have T:qq (us.map (λf=>f.J1.length)) (xJ us f).vars (xJ us f).S0 B.length (B.length+1):=
    jY y ⟨_,D⟩ ⟨by simp,by simp,λe=>H9 rfl e,by simp⟩ (by simp[M8]) (by simp[M8,Q0]) (by omega) (by simp[U1])
   have U:qq (us.map (λf=>f.J1.length)) (xJ us f).vars (xJ us f).S0 (B.length+1) (B.length+1+1):=
    .zk D ⟨⟨by simp,by simp,λ_=>⟨by simp,by simp[xa]⟩,by simp⟩,by simp[M8],by simp[M8,Q0],λj V=>by simp[U1]at V⟩
   rw[S];exact(G.ye T).ye U
end Go.Proofs.YtmngofgminlloaaGreatDoor
