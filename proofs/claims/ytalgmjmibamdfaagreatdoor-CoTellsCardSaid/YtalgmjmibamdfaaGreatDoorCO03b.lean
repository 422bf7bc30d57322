/- Merged. -/
import Derived.Test.YtalgmjmibamdfaaGreatDoorCO03
set_option linter.all false
set_option maxHeartbeats 8000000
set_option maxRecDepth 100000
namespace Go.Proofs.YtalgmjmibamdfaaGreatDoor
open Go.RowKit Tw
def R8:yz ByteArray where
 cells a:=[.string a]
 qE _:=[]
 Yb l v:=.n l v
 nil _ _:=.inl ⟨_,_,rfl,rfl⟩
 laid w F g cap l hF hg b _:=.inr ⟨g,0,cap,rfl,hF,hg,λk s c=>by simpa using b _ _ (Q6 (λa=>[Value.string a]) 1 (λ_=>rfl) l k s c 0 _ rfl)⟩
def zy:yz Int where
 cells a:=[.int .i64 a]
 qE _:=[]
 Yb l v:=.t l v
 nil _ _:=.inl ⟨_,_,rfl,rfl⟩
 laid w F g cap l hF hg b _:=.inr ⟨g,0,cap,rfl,hF,hg,λk s c=>by simpa using b _ _ (Q6 (λa=>[Value.int .i64 a]) 1 (λ_=>rfl) l k s c 0 _ rfl)⟩
theorem N8{w:World}{base T c n:Nat}{v:Value}{xs:List Value}(h:w.ownsRow base T c v n xs):(v=.slice none 0 0/\n=0)\/ ∃g cap,v=.slice (some ⟨g,0,none⟩) n cap/\base<=g/\g<w.heap.size/\ ∀j u,xs[j]?=some u->w.cell? ⟨g,j,none⟩=some u:=by
 rcases h.2 with d|⟨g,cap,e,f,i,b,_,_,_,k⟩
 ·exact .inl d
 ·refine .inr ⟨g,cap,f,i,(Array.getElem?_eq_some_iff.1 b).1,λj u a=>?_⟩
  subst k;rw[y5 b j];rw[List.getElem?_take]at a
  split at a
  ·simpa using a
  ·cases a
theorem yz.yD{α:Type}(E:yz α){w:World}{F:Nat->Prop}{base T c:Nat}{v:Value}{l:List α}(h:w.ownsRow base T c v l.length (l.flatMap E.cells))(d: ∀g,v.ownBlock=some g->F g)(e: ∀a∈l,∀t∈E.qE a,t.At w F):(E.Yb l v).At w F:=by
 rcases N8 h with⟨rfl,f⟩|⟨g,b,rfl,k,i,j⟩
 ·obtain rfl:=I3 f;exact E.nil w F
 ·exact E.laid w F g b l (d g rfl) i j e
def Xp:ByteArray:=⟨#[45]⟩
def zbC:ByteArray:=⟨#[33]⟩
def jG:ByteArray:=⟨#[40]⟩
def zF:ByteArray:=⟨#[41]⟩
def zc7:ByteArray:=⟨#[116,114,117,101]⟩
def zaR:ByteArray:=⟨#[102,97,108,115,101]⟩
def zd2:ByteArray:=⟨#[64]⟩
def zaI:ByteArray:=⟨#[44]⟩
def T3:ByteArray:=⟨#[]⟩
def zhi:ByteArray:=⟨#[108,101,116]⟩
def sIf:ByteArray:=⟨#[105,102]⟩
def zav:ByteArray:=⟨#[119,104,105,108,101]⟩
def JX:ByteArray:=⟨#[114,101,116,117,114,110]⟩
def zaM:ByteArray:=⟨#[121,105,101,108,100]⟩
def zdD:ByteArray:=⟨#[101,108,115,101]⟩
def zgV:ByteArray:=⟨#[102,117,110]⟩
def zj3:ByteArray:=⟨#[105,110,116]⟩
def sEq:ByteArray:=⟨#[61]⟩
def zcL:ByteArray:=⟨#[59]⟩
def zgA:ByteArray:=⟨#[58]⟩
def zjl:ByteArray:=⟨#[123]⟩
def YJ:ByteArray:=⟨#[125]⟩
def T1(ws:List Wd)(i:Nat):Nat:=
 if M0 ws i Xp then 1 else if M0 ws i zbC then 2 else if M0 ws i jG then 3 else if M0 ws i zc7 then 4 else if M0 ws i zaR then 5 else if M0 ws i zd2 then 6
 else if O8 ws i=1 then 7 else if O8 ws i=2 then 8 else 0
inductive Qe where
 |xg (n i:Nat)|rest (n:Nat) (a:Ex) (i:Nat)|Y0 (i:Nat)|args (k i:Nat)
inductive Re where
 |ex (x:Ex) (j:Nat)|JO (l:List Ex) (j:Nat)
def yX(ws:List Wd)(en j:Nat)(a b:Ex):Ex:=.mk 6 0 (L7 ws j) [a,b] (N2 ws j en)
inductive De(ws:List Wd)(en:Nat):Qe->Re->Prop
 |lvl6 {i:Nat} {r:Re}:De ws en (.Y0 i) r->De ws en (.xg 6 i) r
 |up {n i j:Nat} {a:Ex}:n≠6->De ws en (.xg (n+1) i) (.ex a j)->Y7 ws j≠n->De ws en (.xg n i) (.ex a j)
 |two {n i j j':Nat} {a b:Ex}:n≠6->De ws en (.xg (n+1) i) (.ex a j)->Y7 ws j=n->De ws en (.xg (n+1) (j+1)) (.ex b j')->Y7 ws j'≠n->De ws en (.xg n i) (.ex (yX ws en j a b) j')
 |neg {i j:Nat} {y:Ex}:T1 ws i=1->De ws en (.Y0 (i+1)) (.ex y j)->De ws en (.Y0 i) (.ex (.mk 4 0 T3 [y] (N2 ws i en)) j)
 |not {i j:Nat} {y:Ex}:T1 ws i=2->De ws en (.Y0 (i+1)) (.ex y j)->De ws en (.Y0 i) (.ex (.mk 5 0 T3 [y] (N2 ws i en)) j)
 |par {i j:Nat} {x:Ex}:T1 ws i=3->De ws en (.xg 1 (i+1)) (.ex x j)->M0 ws j zF=true->De ws en (.Y0 i) (.ex x (j+1))
 |tru {i:Nat}:T1 ws i=4->De ws en (.Y0 i) (.ex (.mk 2 1 T3 [] (N2 ws i en)) (i+1))
 |fls {i:Nat}:T1 ws i=5->De ws en (.Y0 i) (.ex (.mk 2 0 T3 [] (N2 ws i en)) (i+1))
 |host {i j:Nat} {l:List Ex}:T1 ws i=6->O8 ws (i+1)=1->M0 ws (i+2) jG=true->De ws en (.args 0 (i+3)) (.JO l j)->De ws en (.Y0 i) (.ex (.mk 8 (Zu (L7 ws (i+1))) T3 l (N2 ws i en)) j)
 |num {i:Nat}:T1 ws i=7->De ws en (.Y0 i) (.ex (.mk 1 (Zu (L7 ws i)) T3 [] (N2 ws i en)) (i+1))
 |Zw {i:Nat}:T1 ws i=8->M0 ws (i+1) jG=false->De ws en (.Y0 i) (.ex (.mk 3 0 (L7 ws i) [] (N2 ws i en)) (i+1))
 |call {i j:Nat} {l:List Ex}:T1 ws i=8->M0 ws (i+1) jG=true->De ws en (.args 0 (i+2)) (.JO l j)->De ws en (.Y0 i) (.ex (.mk 7 0 (L7 ws i) l (N2 ws i en)) j)
 |jP {k i:Nat}:M0 ws i zF=true->De ws en (.args k i) (.JO [] (i+1))
 |first{i j j':Nat} {x:Ex} {l:List Ex}:M0 ws i zF=false->De ws en (.xg 1 i) (.ex x j)->De ws en (.args 1 j) (.JO l j')->De ws en (.args 0 i) (.JO (x::l) j')
 |next {k i j j':Nat} {x:Ex} {l:List Ex}:M0 ws i zF=false->M0 ws i zaI=true->De ws en (.xg 1 (i+1)) (.ex x j)->De ws en (.args (k+2) j) (.JO l j')->De ws en (.args (k+1) i) (.JO (x::l) j')
def R7(ws:List Wd)(i:Nat):Nat:=
 if M0 ws i zhi then 1 else if M0 ws i sIf then 3 else if M0 ws i zav then 4 else if M0 ws i JX then 5 else if M0 ws i zaM then 6
 else if O8 ws i=2/\M0 ws (i+1) sEq=true then 2 else 7
def jF(ws:List Wd)(i:Nat):Nat:=
 if R7 ws i=1 then i+3 else if R7 ws i=2 then i+2 else if R7 ws i=7 then i else i+1
def xe(ws:List Wd)(i:Nat):ByteArray:=
 if R7 ws i=1 then L7 ws (i+1)else if R7 ws i=2 then L7 ws i else T3
inductive Qs where
 |XW (i:Nat)|block (i:Nat)|Zg (i:Nat)
inductive Rs where
 |st (s:Sm) (j:Nat)|Jf (l:List Sm) (j:Nat)
inductive Ds(ws:List Wd)(en:Nat):Qs->Rs->Prop
 |simp{i j:Nat} {x:Ex}:R7 ws i≠3->R7 ws i≠4->(R7 ws i=1->O8 ws (i+1)=2/\M0 ws (i+2) sEq=true)->De ws en (.xg 1 (jF ws i)) (.ex x j)->M0 ws j zcL=true->Ds ws en (.XW i) (.st (.mk (R7 ws i) (xe ws i) x [] [] (N2 ws i en)) (j+1))
 |zhY {i j j':Nat} {x:Ex} {l:List Sm}:R7 ws i=4->De ws en (.xg 1 (i+1)) (.ex x j)->Ds ws en (.block j) (.Jf l j')->Ds ws en (.XW i) (.st (.mk 4 T3 x l [] (N2 ws i en)) j')
 |ifE {i j j' k:Nat} {x:Ex} {l m:List Sm}:R7 ws i=3->De ws en (.xg 1 (i+1)) (.ex x j)->Ds ws en (.block j) (.Jf l j')->M0 ws j' zdD=true->M0 ws (j'+1) sIf=false->Ds ws en (.block (j'+1)) (.Jf m k)->Ds ws en (.XW i) (.st (.mk 3 T3 x l m (N2 ws i en)) k)
 |block {i:Nat} {r:Rs}:M0 ws i zjl=true->Ds ws en (.Zg (i+1)) r->Ds ws en (.block i) r
 |done {i:Nat}:M0 ws i YJ=true->Ds ws en (.Zg i) (.Jf [] (i+1))
 |Zf {i j j':Nat} {s:Sm} {l:List Sm}:M0 ws i YJ=false->Ds ws en (.XW i) (.st s j)->Ds ws en (.Zg j) (.Jf l j')->Ds ws en (.Zg i) (.Jf (s::l) j')
def zb7(ws:List Wd)(i:Nat):Prop:=M0 ws i zgA=true/\M0 ws (i+1) zj3=true
def qK(k i:Nat):Nat:=if k=0 then i else i+1
inductive Dp(ws:List Wd)(en:Nat):Nat->Nat->List ByteArray->Nat->Prop
 |jP {k i:Nat}:M0 ws i zF=true->Dp ws en k i [] (i+1)
 |next {k i j:Nat} {ns:List ByteArray}:M0 ws i zF=false->(k≠0->M0 ws i zaI=true)->O8 ws (qK k i)=2->zb7 ws (qK k i+1)->Dp ws en (k+1) (qK k i+3) ns j->Dp ws en k i (L7 ws (qK k i)::ns) j
inductive Df(ws:List Wd)(en:Nat):Nat->Fn->Nat->Prop
 |fn {i j k:Nat} {ns:List ByteArray} {l:List Sm}:M0 ws i zgV=true->O8 ws (i+1)=2->M0 ws (i+2) jG=true->Dp ws en 0 (i+3) ns j->zb7 ws j->Ds ws en (.block (j+2)) (.Jf l k)->
  Df ws en i {L6:=L7 ws (i+1),J3:=ns,O6:=ns.map λ_=>1,out:=1,J7:=l,pos:=N2 ws i en} k
inductive Du(ws:List Wd)(en:Nat):Nat->List Fn->Prop
 |done {i:Nat}:ws.length<=i->Du ws en i []
 |Zf {i j:Nat} {f:Fn} {l:List Fn}:i<ws.length->Df ws en i f j->Du ws en j l->Du ws en i (f::l)
inductive Dc(ws:List Wd)(en:Nat):Qe->Re->Prop
 |ex {m i j:Nat} {a:Ex} {r:Re}:Dc ws en (.Y0 i) (.ex a j)->Dc ws en (.rest m a j) r->Dc ws en (.xg m i) r
 |stop {m j:Nat} {a:Ex}:Y7 ws j<=m->Dc ws en (.rest m a j) (.ex a j)
 |go {m j j':Nat} {a b:Ex} {r:Re}:m<Y7 ws j->Dc ws en (.xg (Y7 ws j) (j+1)) (.ex b j')-> ¬(Y7 ws j=3/\Y7 ws j'=3)->Dc ws en (.rest m (yX ws en j a b) j') r->Dc ws en (.rest m a j) r
 |neg {i j:Nat} {y:Ex}:T1 ws i=1->Dc ws en (.Y0 (i+1)) (.ex y j)->Dc ws en (.Y0 i) (.ex (.mk 4 0 T3 [y] (N2 ws i en)) j)
 |not {i j:Nat} {y:Ex}:T1 ws i=2->Dc ws en (.Y0 (i+1)) (.ex y j)->Dc ws en (.Y0 i) (.ex (.mk 5 0 T3 [y] (N2 ws i en)) j)
 |par {i j:Nat} {x:Ex}:T1 ws i=3->Dc ws en (.xg 0 (i+1)) (.ex x j)->M0 ws j zF=true->Dc ws en (.Y0 i) (.ex x (j+1))
 |tru {i:Nat}:T1 ws i=4->Dc ws en (.Y0 i) (.ex (.mk 2 1 T3 [] (N2 ws i en)) (i+1))
 |fls {i:Nat}:T1 ws i=5->Dc ws en (.Y0 i) (.ex (.mk 2 0 T3 [] (N2 ws i en)) (i+1))
 |host {i j:Nat} {l:List Ex}:T1 ws i=6->O8 ws (i+1)=1->M0 ws (i+2) jG=true->Dc ws en (.args 0 (i+3)) (.JO l j)->Dc ws en (.Y0 i) (.ex (.mk 8 (Zu (L7 ws (i+1))) T3 l (N2 ws i en)) j)
 |num {i:Nat}:T1 ws i=7->Dc ws en (.Y0 i) (.ex (.mk 1 (Zu (L7 ws i)) T3 [] (N2 ws i en)) (i+1))
 |Zw {i:Nat}:T1 ws i=8->M0 ws (i+1) jG=false->Dc ws en (.Y0 i) (.ex (.mk 3 0 (L7 ws i) [] (N2 ws i en)) (i+1))
 |call {i j:Nat} {l:List Ex}:T1 ws i=8->M0 ws (i+1) jG=true->Dc ws en (.args 0 (i+2)) (.JO l j)->Dc ws en (.Y0 i) (.ex (.mk 7 0 (L7 ws i) l (N2 ws i en)) j)
 |jP {k i:Nat}:M0 ws i zF=true->Dc ws en (.args k i) (.JO [] (i+1))
 |first{i j j':Nat} {x:Ex} {l:List Ex}:M0 ws i zF=false->Dc ws en (.xg 0 i) (.ex x j)->Dc ws en (.args 1 j) (.JO l j')->Dc ws en (.args 0 i) (.JO (x::l) j')
 |next {k i j j':Nat} {x:Ex} {l:List Ex}:M0 ws i zF=false->M0 ws i zaI=true->Dc ws en (.xg 0 (i+1)) (.ex x j)->Dc ws en (.args (k+2) j) (.JO l j')->Dc ws en (.args (k+1) i) (.JO (x::l) j')
theorem zfm(ws:List Wd)(i:Nat):Y7 ws i<=5:=by
 have h: ∀s,lv s<=5:=λs=>by unfold lv;repeat' (first|omega|split)
 unfold Y7;split<;>first|exact h _|omega
theorem Dc.zjr{ws:List Wd}{en n i j m:Nat}{a:Ex}{r:Re}(h:Dc ws en (.xg n i) (.ex a j))(u:m<=n)(o:Dc ws en (.rest m a j) r):Dc ws en (.xg m i) r:=by
 have e: ∀{q f},Dc ws en q f-> ∀b c,q=.rest n b c->f=.ex a j->Dc ws en (.rest m b c) r:=by
  intro q f h
  induction h with
  |stop p=>rintro b c d g;cases d;cases g;exact o
  |go p k s _ _ l=>rintro b c d g;cases d;subst g;exact .go (by omega) k s (l _ _ rfl rfl)
  |_=>rintro b c d;cases d
 cases h with
 |ex k t=>exact .ex k (e t _ _ rfl rfl)
def zgy(ws:List Wd)(en:Nat):Qe->Re->Prop
 |.xg n i,.ex a j=>1<=n->n<=6->Y7 ws j<n/\Dc ws en (.xg (n-1) i) (.ex a j)
 |.xg _ _,_=>True
 |q,r=>Dc ws en q r
theorem De.zjH{ws:List Wd}{en:Nat}{q:Qe}{r:Re}(h:De ws en q r):zgy ws en q r:=by
 induction h with
 | @lvl6 i r _ c=>
   cases r with
   |ex a j=>intro _ _;have:=zfm ws j;exact⟨by omega,.ex c (.stop this)⟩
   |JO=>trivial
 |up m _ l c=>
  intro n o;have k:=c (by omega) (by omega);exact⟨by omega,k.2.zjr (by omega) (.stop (by omega))⟩
 |two m _ l _ p d e=>
  intro n o;have k:=d (by omega) (by omega);have s:=e (by omega) (by omega);exact⟨by omega,k.2.zjr (by omega) (.go (by omega) (by rw[l];exact s.2) (by omega) (.stop (by omega)))⟩
 |neg b _ c=>exact .neg b c
 |not b _ c=>exact .not b c
 |par b _ f c=>exact .par b (c (by omega) (by omega)).2 f
 |tru b=>exact .tru b
 |fls b=>exact .fls b
 |host b g t _ c=>exact .host b g t c
 |num b=>exact .num b
 |Zw b g=>exact .Zw b g
 |call b g _ c=>exact .call b g c
 |jP f=>exact .jP f
 |first f _ _ d e=>exact .first f (d (by omega) (by omega)).2 e
 |next f u _ _ d e=>exact .next f u (d (by omega) (by omega)).2 e
end Go.Proofs.YtalgmjmibamdfaaGreatDoor
