/- Merged. -/
import Derived.Test.YtmngofgminlloaaGreatDoorCT07
import Derived.Test.YtmngofgminlloaaGreatDoorCards
import Derived.Test.YtmngofgminlloaaGreatDoorTie
import Derived.ProofKit
import Derived.OpenShut
import Derived.ShutString
import Derived.LaidMore
import Derived.Lay
import Derived.HandedShaped
import Derived.Stop.LaidErr
import Derived.Lib.LaidU8
set_option linter.all false
namespace Go.Proofs.YtmngofgminlloaaGreatDoor
open Go.RowKit Tw
def Ds.js{ws}{en:Nat}{q r}(h:Ds ws en q r): ∀r',Ds ws en q r'->r=r':=by
 induction h with
 |zdr k f=>intro r' i;cases i<;>first|rfl|(exfalso;omega)|contradiction|(rename_i g _;exact H9 (g k).1 f)|(rename_i g _ _;exact H9 (g k).1 f)
 |zdt k f w=>
  intro r' i
  cases i<;>first
   |rfl
   |(exfalso;omega)
   |contradiction
   |(rename_i g _;have:=(g k).2;rw[w]at this;cases this;done)
   |(rename_i g _ _;have:=(g k).2;rw[w]at this;cases this;done)
 |XE x y t f=>
  intro r' i;cases i with
  |zdr o a=>exact H9 (t o).1 a
  |zdt o a d=>have:=(t o).2;rw[d]at this;cases this
  |XE _ _ _ a=>have e:=f.js _ a;injection e with e;subst e;rfl
  |XF _ _ _ a=>have e:=f.js _ a;cases e
  |simp _ _ _ a=>have e:=f.js _ a;cases e
  |_=>exfalso;omega
 |XF x y t f p=>
  intro r' i;cases i with
  |zdr o a=>exact H9 (t o).1 a
  |zdt o a d=>have:=(t o).2;rw[d]at this;cases this
  |XE _ _ _ a=>have e:=f.js _ a;cases e
  |XF _ _ _ a=>have e:=f.js _ a;injection e with b c;subst b;subst c;rfl
  |simp _ _ _ a j=>have e:=f.js _ a;injection e with b c;subst b;subst c;rw[p]at j;cases j
  |_=>exfalso;omega
 |simp x y t f p=>
  intro r' i;cases i with
  |zdr o a=>exact H9 (t o).1 a
  |zdt o a d=>have:=(t o).2;rw[d]at this;cases this
  |XE _ _ _ a=>have e:=f.js _ a;cases e
  |XF _ _ _ a j=>have e:=f.js _ a;injection e with b c;subst b;subst c;rw[p]at j;cases j
  |simp _ _ _ a j=>have e:=f.js _ a;injection e with b c;subst b;subst c;rfl
  |_=>exfalso;omega
 |Qy k f=>
  intro r' i
  cases i<;>first
   |(exfalso;omega)
   |(have e:=f.js _ (by assumption);first|(cases e;done)|(injection e with e;subst e;rfl))
 |QB k f _ l=>
  intro r' i;cases i with
  |Qy _ a=>have e:=f.js _ a;cases e
  |QB _ a d=>have e:=f.js _ a;injection e with b c;subst b;subst c;exact l _ d
  |whil _ a d|if0 _ a d|ifE _ a d|zes _ a d|ifI _ a d|zek _ a d=>have e:=f.js _ a;injection e with b c;subst b;subst c;have e:=l _ d;cases e
  |_=>exfalso;omega
 |whil k f _ l=>
  intro r' i;cases i with
  |Qy _ a=>have e:=f.js _ a;cases e
  |QB _ a d=>have e:=f.js _ a;injection e with b c;subst b;subst c;have e:=l _ d;cases e
  |whil _ a d=>have e:=f.js _ a;injection e with b c;subst b;subst c;have e:=l _ d;injection e with b c;subst b;subst c;rfl
  |_=>exfalso;omega
 |if0 k f _ p l=>
  intro r' i;cases i with
  |Qy _ a=>have e:=f.js _ a;cases e
  |QB _ a d=>have e:=f.js _ a;injection e with b c;subst b;subst c;have e:=l _ d;cases e
  |if0 _ a d=>have e:=f.js _ a;injection e with b c;subst b;subst c;have e:=l _ d;injection e with b c;subst b;subst c;rfl
  |ifE _ a d j|zes _ a d j|ifI _ a d j|zek _ a d j=>have e:=f.js _ a;injection e with b c;subst b;subst c;have e:=l _ d;injection e with b c;subst b;subst c;rw[p]at j;cases j
  |_=>exfalso;omega
 |ifE k f _ p u _ l m|zes k f _ p u _ l m=>
  intro r' i;cases i with
  |Qy _ a=>have e:=f.js _ a;cases e
  |QB _ a d=>have e:=f.js _ a;injection e with b c;subst b;subst c;have e:=l _ d;cases e
  |if0 _ a d j=>have e:=f.js _ a;injection e with b c;subst b;subst c;have e:=l _ d;injection e with b c;subst b;subst c;rw[p]at j;cases j
  |ifE _ a d j s v|zes _ a d j s v=>
   have e:=f.js _ a;injection e with b c;subst b;subst c;have e:=l _ d;injection e with b c;subst b;subst c
   have e:=m _ v;first|(cases e;done)|(injection e with b c;subst b;subst c;rfl)|(injection e with b;subst b;rfl)
  |ifI _ a d j s|zek _ a d j s=>have e:=f.js _ a;injection e with b c;subst b;subst c;have e:=l _ d;injection e with b c;subst b;subst c;rw[u]at s;cases s
  |_=>exfalso;omega
 |ifI k f _ p u _ l m|zek k f _ p u _ l m=>
  intro r' i;cases i with
  |Qy _ a=>have e:=f.js _ a;cases e
  |QB _ a d=>have e:=f.js _ a;injection e with b c;subst b;subst c;have e:=l _ d;cases e
  |if0 _ a d j=>have e:=f.js _ a;injection e with b c;subst b;subst c;have e:=l _ d;injection e with b c;subst b;subst c;rw[p]at j;cases j
  |ifI _ a d j s v|zek _ a d j s v=>
   have e:=f.js _ a;injection e with b c;subst b;subst c;have e:=l _ d;injection e with b c;subst b;subst c
   have e:=m _ v;first|(cases e;done)|(injection e with b c;subst b;subst c;rfl)|(injection e with b;subst b;rfl)
  |ifE _ a d j s|zes _ a d j s=>have e:=f.js _ a;injection e with b c;subst b;subst c;have e:=l _ d;injection e with b c;subst b;subst c;rw[u]at s;cases s
  |_=>exfalso;omega
 |zb0 k=>intro r' i;cases i<;>first|rfl|(rename_i g _;rw[k]at g;cases g)
 |block k _ l=>
  intro r' i;cases i with
  |zb0 g=>rw[k]at g;cases g
  |block _ g=>exact l _ g
 |done k=>
  intro r' i;cases i with
  |done=>rfl
  |qw g|xW g|xV g=>rw[k]at g;cases g
 |qw k _ _ n m|xW k _ _ n m=>
  intro r' i;cases i with
  |done g=>rw[k]at g;cases g
  |qw _ a d|xW _ a d=>
   have e:=n _ a;injection e with b c;subst b;subst c
   have e:=m _ d;first|(cases e;done)|(injection e with b c;subst b;subst c;rfl)|(injection e with b;subst b;rfl)
  |xV _ a=>have e:=n _ a;cases e
 |xV k _ n=>
  intro r' i;cases i with
  |done g=>rw[k]at g;cases g
  |qw _ a _|xW _ a _=>have e:=n _ a;cases e
  |xV _ a=>have e:=n _ a;injection e with b;subst b;rfl
def Dp.js{ws}{en k i:Nat}{r}(h:Dp ws en k i r): ∀r',Dp ws en k i r'->r=r':=by
 induction h with
 |U4 a=>
  intro r' b;cases b with
  |U4=>rfl
  |ZO g|J2 g|JN g|next g|qY g=>rw[a]at g;cases g
 |ZO a c j=>
  intro r' b;cases b with
  |U4 g=>rw[a]at g;cases g
  |ZO=>rfl
  |J2 _ g|JN _ g|next _ g|qY _ g=>have:=g c;rw[j]at this;cases this
 |J2 a c j=>
  intro r' b;cases b with
  |U4 g=>rw[a]at g;cases g
  |ZO _ l d=>have:=c l;rw[d]at this;cases this
  |J2=>rfl
  |JN _ _ g|next _ _ g|qY _ _ g=>contradiction
 |JN a c j f=>
  intro r' b;cases b with
  |U4 g=>rw[a]at g;cases g
  |ZO _ l d=>have:=c l;rw[d]at this;cases this
  |J2 _ _ g=>contradiction
  |JN _ _ _ g=>rw[f]at g;cases g;rfl
  |next _ _ _ g|qY _ _ _ g=>rw[f]at g;cases g
 |next a c j f _ n|qY a c j f _ n=>
  intro r' b;cases b with
  |U4 g=>rw[a]at g;cases g
  |ZO _ l d=>have:=c l;rw[d]at this;cases this
  |J2 _ _ g=>contradiction
  |JN _ _ _ g=>rw[f]at g;cases g
  |next _ _ _ g d|qY _ _ _ g d=>
   rw[f]at g;cases g;have e:=n _ d;first|(cases e;done)|(injection e with m o p;subst m;subst o;subst p;rfl)|(injection e with m;subst m;rfl)
def Df.js{ws}{en i:Nat}{r}(h:Df ws en i r): ∀r',Df ws en i r'->r=r':=by
 intro r' l;cases h with
 |zad d=>cases l<;>first|rfl|(rw[d]at*;contradiction)
 |QU d o=>cases l<;>first|rfl|contradiction|(rw[d]at*;contradiction)
 |QV d o k=>cases l<;>first|rfl|contradiction|(rw[d]at*;contradiction)|(rw[k]at*;contradiction)
 |par d o k b=>
  cases l with
  |zad g=>rw[d]at g;cases g
  |QU _ g=>contradiction
  |QV _ _ g=>rw[k]at g;cases g
  |par _ _ _ g=>have e:=b.js _ g;injection e with e;subst e;rfl
  |JN _ _ _ g|J0 _ _ _ g|fn _ _ _ g=>have e:=b.js _ g;cases e
 |JN d o k b m=>
  cases l with
  |zad g=>rw[d]at g;cases g
  |QU _ g=>contradiction
  |QV _ _ g=>rw[k]at g;cases g
  |par _ _ _ g=>have e:=b.js _ g;cases e
  |JN _ _ _ g a=>have e:=b.js _ g;injection e with f j c;subst c;rw[m]at a;cases a;rfl
  |J0 _ _ _ g a|fn _ _ _ g a=>have e:=b.js _ g;injection e with f j c;subst c;rw[m]at a;cases a
 |J0 d o k b m p=>
  cases l with
  |zad g=>rw[d]at g;cases g
  |QU _ g=>contradiction
  |QV _ _ g=>rw[k]at g;cases g
  |par _ _ _ g=>have e:=b.js _ g;cases e
  |JN _ _ _ g a=>have e:=b.js _ g;injection e with f j c;subst c;rw[m]at a;cases a
  |J0 _ _ _ g a n=>have e:=b.js _ g;injection e with f j c;subst c;have e:=p.js _ n;injection e with e;subst e;rfl
  |fn _ _ _ g a n=>have e:=b.js _ g;injection e with f j c;subst c;have e:=p.js _ n;cases e
 |fn d o k b m p=>
  cases l with
  |zad g=>rw[d]at g;cases g
  |QU _ g=>contradiction
  |QV _ _ g=>rw[k]at g;cases g
  |par _ _ _ g=>have e:=b.js _ g;cases e
  |JN _ _ _ g a=>have e:=b.js _ g;injection e with f j c;subst c;rw[m]at a;cases a
  |J0 _ _ _ g a n=>have e:=b.js _ g;injection e with f j c;subst c;have e:=p.js _ n;cases e
  |fn _ _ _ g a n=>have e:=b.js _ g;injection e with f j c;subst f;subst j;subst c;rw[m]at a;injection a with a;subst a;have e:=p.js _ n;injection e with f j;subst f;subst j;rfl
def Du.js{ws}{en i:Nat}{r}(h:Du ws en i r): ∀r',Du ws en i r'->r=r':=by
 induction h with
 |done d=>intro r' c;cases c<;>first|rfl|(exfalso;omega)
 |qw d b _ f|xW d b _ f=>
  intro r' c;cases c with
  |done g=>exfalso;omega
  |qw _ a j|xW _ a j=>
   have e:=b.js _ a;injection e with k l;subst k;subst l
   have e:=f _ j;first|(cases e;done)|(injection e with e;subst e;rfl)
  |xV _ a=>have e:=b.js _ a;cases e
 |xV d b=>
  intro r' c;cases c with
  |done g=>exfalso;omega
  |qw _ a _|xW _ a _=>have e:=b.js _ a;cases e
  |xV _ a=>have e:=b.js _ a;injection e with e;subst e;rfl
def WsZ(ws:List Wd):Prop:=ws.length<=4000/\ ∀x∈ws,x.K0.size<=4000
def WsZ.K0{ws}(h:WsZ ws)(i:Nat):(L8 ws i).size<=maxLen:=by
 unfold L8 maxLen;cases a:ws[i]? with
 |none=>decide
 |some x=>have:=h.2 x (B7 a);simp;omega
def Z0:L1.size<=maxLen:=by unfold maxLen;decide
def yr{ws}{i:Nat}{s:ByteArray}(h:J3 ws i s=true):i<ws.length:=by
 unfold J3 at h
 rcases E0 i ws.length with a|a
 ·exact a
 ·rw[C5 a]at h;cases h
def zdM{ws}{i k:Nat}(h:L3 ws i=k)(b:k≠0):i<ws.length:=by
 unfold L3 at h
 rcases E0 i ws.length with a|a
 ·exact a
 ·rw[C5 a]at h;exact H9 h.symm b
def ZV{ws}{i:Nat}(h:K8 ws i≠0):i<ws.length:=by
 unfold K8 at h
 repeat' split at h
 all_goals first
  |(exact yr ‹_›)
  |(exact zdM ‹_› (by decide))
  |(exact H9 rfl h)
def zmb(ws:List Wd):Qe->Re->Prop
 |.lvl n i,.ex x j=>1<=n->i<j/\j<=ws.length/\xN x
 |.zk i,.ex x j=>i<j/\j<=ws.length/\xN x
 |.rest n a i,.ex x j=>1<=n->i<=ws.length->xN a->i<=j/\j<=ws.length/\xN x
 |.args _ i,.xH l j=>i+l.length<j/\j<=ws.length/\ ∀a∈l,xN a
 |_,_=>True
def De.zB{ws}{en:Nat}{q r}(G:WsZ ws)(h:De ws en q r):zmb ws q r:=by
 have C:=G.K0;have L:=G.1;have A: ∀{k n:Int}{t:ByteArray}{p:Int},(Lit.int .i64 k).wf=true->t.size<=maxLen->xN (.mk k n t [] p):=λs h=>.mk s h (by simp) (by simp)
 have u: ∀{k n:Int}{t:ByteArray}{a:Ex}{p:Int},(Lit.int .i64 k).wf=true->t.size<=maxLen->xN a->xN (.mk k n t [a] p):=λs h f=>.mk s h (by simp) (by simp[f])
 have v: ∀{j:Nat}{a b:Ex},xN a->xN b->xN (Y9 ws en j a b):=λf I=>.mk (by decide) (C _) (by simp) (by simp[f,I])
 have w: ∀{k n:Int}{t:ByteArray}{l:List Ex}{p:Int},(Lit.int .i64 k).wf=true->t.size<=maxLen->l.length<=4000->(∀a∈l,xN a)->xN (.mk k n t l p):=λs h J f=>.mk s h (by omega) f
 induction h with
 | @lvl6 i r _ c=>
   cases r with
   |ex x j=>intro _;exact c
   |xH=>trivial
   |J9=>trivial
 | @lvl n i j a r M _ _ e d=>
   cases r with
   |ex x k=>
    intro B;obtain⟨y,o,m⟩:=e (by omega);obtain⟨K,D,E⟩:=d B o m;exact⟨by omega,D,E⟩
   |xH=>trivial
   |J9=>trivial
 |stop _=>intro _ F H;exact⟨x7 _,F,H⟩
 | @go n j N a b r H g _ _ e d=>
   cases r with
   |ex x k=>
    intro B F f;obtain⟨y,o,m⟩:=e (by omega);obtain⟨K,D,E⟩:=d B o (v f m);exact⟨by omega,D,E⟩
   |xH=>trivial
   |J9=>trivial
 |jx g _ O e=>
  intro B F f;obtain⟨y,o,m⟩:=e (by omega);exact⟨by omega,o,v f m⟩
 |neg g _ c=>exact⟨by have:=c.1;omega,c.2.1,u (by decide) Z0 c.2.2⟩
 |not g _ c=>exact⟨by have:=c.1;omega,c.2.1,u (by decide) Z0 c.2.2⟩
 |par g _ z c=>
  obtain⟨y,o,m⟩:=c (by decide);exact⟨by omega,by have:=yr z;omega,m⟩
 |tru g=>exact⟨by omega,by have:=ZV (ws:=ws) (by rw[g];decide);omega,A (by decide) Z0⟩
 |fls g=>exact⟨by omega,by have:=ZV (ws:=ws) (by rw[g];decide);omega,A (by decide) Z0⟩
 |X0 g _ _ _ c=>exact⟨by have:=c.1;omega,c.2.1,w (by decide) Z0 (by have:=c.1;have:=c.2.1;omega) c.2.2⟩
 |num g=>exact⟨by omega,by have:=ZV (ws:=ws) (by rw[g];decide);omega,A (by decide) Z0⟩
 |qE g _=>exact⟨by omega,by have:=ZV (ws:=ws) (by rw[g];decide);omega,A (by decide) (C _)⟩
 |call g _ _ c=>exact⟨by have:=c.1;omega,c.2.1,w (by decide) (C _) (by have:=c.1;have:=c.2.1;omega) c.2.2⟩
 |U4 z=>exact⟨by simp,by have:=yr z;omega,by simp⟩
 |first z _ _ e d=>
  obtain⟨y,o,m⟩:=e (by decide);exact⟨by have:=d.1;simp;omega,d.2.1,by intro a f;rcases List.mem_cons.1 f with rfl|f;exact m;exact d.2.2 a f⟩
 |next z P _ _ e d=>
  obtain⟨y,o,m⟩:=e (by decide);exact⟨by have:=d.1;simp;omega,d.2.1,by intro a f;rcases List.mem_cons.1 f with rfl|f;exact m;exact d.2.2 a f⟩
 |_=>trivial
def zde{ws}(a:WsZ ws)(i:Nat):(Z4 ws i).size<=maxLen:=by
 unfold Z4
 repeat' split
 ·exact a.K0 _
 ·exact a.K0 _
 ·exact Z0
def zlD(ws:List Wd):Qs->Rs->Prop
 |.zO i,.st s j=>i<j/\j<=ws.length/\SmZ s
 |.block i,.Zn l j=>i+l.length<j/\j<=ws.length/\ ∀s∈l,SmZ s
 |.qj i,.Zn l j=>i+l.length<j/\j<=ws.length/\ ∀s∈l,SmZ s
 |_,_=>True
def zcE(ws)(i:Nat):i<=X3 ws i:=by unfold X3;repeat' (first|omega|split)
def Ds.zB{ws}{en:Nat}{q r}(m:WsZ ws)(h:Ds ws en q r):zlD ws q r:=by
 have D:=m.1;have n: ∀{k:Int}{y:ByteArray}{a:Ex}{b e:List Sm}{p:Int},y.size<=maxLen->xN a->b.length<=4000->e.length<=4000->(∀s∈b,SmZ s)->(∀s∈e,SmZ s)->SmZ (.mk k y a b e p):=λz A E F B C=>.mk z A (by omega) (by omega) B C
 induction h with
 | @simp i j x _ _ _ f v=>
   obtain⟨t,u,g⟩:=f.zB m (by decide);have:=zcE ws i;exact⟨by omega,by have:=yr v;omega,n (zde m _) g (by simp) (by simp) (by simp) (by simp)⟩
 |whil _ f _ d=>
  obtain⟨t,u,g⟩:=f.zB m (by decide);exact⟨by have:=d.1;omega,d.2.1,n Z0 g (by have:=d.1;have:=d.2.1;omega) (by simp) d.2.2 (by simp)⟩
 |if0 _ f _ _ d=>
  obtain⟨t,u,g⟩:=f.zB m (by decide);exact⟨by have:=d.1;omega,d.2.1,n Z0 g (by have:=d.1;have:=d.2.1;omega) (by simp) d.2.2 (by simp)⟩
 |ifE _ f _ _ _ _ d c=>
  obtain⟨t,u,g⟩:=f.zB m (by decide);exact⟨by have:=d.1;have:=c.1;omega,c.2.1,n Z0 g (by have:=d.1;have:=d.2.1;omega) (by have:=c.1;have:=c.2.1;omega) d.2.2 c.2.2⟩
 |ifI _ f _ _ _ _ d c=>
  obtain⟨t,u,g⟩:=f.zB m (by decide);exact⟨by have:=d.1;have:=c.1;omega,c.2.1,n Z0 g (by have:=d.1;have:=d.2.1;omega) (by simp) d.2.2 (by simp;exact c.2.2)⟩
 | @block i r _ _ d=>
   cases r with
   |Zn l j=>exact⟨by have:=d.1;omega,d.2⟩
   |st=>trivial
   |J9=>trivial
 |done v=>exact⟨by simp,by have:=yr v;omega,by simp⟩
 |qw _ _ _ o c=>
  exact⟨by have:=o.1;have:=c.1;simp;omega,c.2.1,by intro a w;rcases List.mem_cons.1 w with rfl|w;exact o.2.2;exact c.2.2 a w⟩
 |_=>trivial
def Dp.zB{ws}{en k i:Nat}{r}(c:WsZ ws)(h:Dp ws en k i r): ∀a ts j,r=.ok a ts j->i+a.length<j/\j<=ws.length/\ts.length=a.length/\ ∀n∈a,n.size<=maxLen:=by
 induction h with
 |U4 d=>rintro a ts j e;cases e;exact⟨by simp,by have:=yr d;omega,rfl,by simp⟩
 | @next k i j t a ts _ _ _ q _ f=>
   rintro g l s e;cases e;obtain⟨u,m,o,p⟩:=f _ _ _ rfl;have v:i<=V9 k i:=by unfold V9;split<;>omega
   exact⟨by simp;omega,m,by simp[o],by intro n b;rcases List.mem_cons.1 b with rfl|b;exact c.K0 _;exact p n b⟩
 |_=>rintro a ts j e;cases e
def Df.zB{ws}{en i:Nat}{f}{j:Nat}(a:WsZ ws)(h:Df ws en i (.fn f j)):i<j/\j<=ws.length/\FnZ f:=by
 have k:=a.1;cases h with
 |fn l m n b o c=>
  obtain⟨p,q,r,d⟩:=b.zB a _ _ _ rfl;obtain⟨s,e,g⟩:=c.zB a;exact⟨by omega,e,⟨a.K0 _,d,by dsimp only;omega,by dsimp only;omega,by dsimp only;omega,g⟩⟩
def Du.zB{ws}{en i:Nat}{r}(b:WsZ ws)(h:Du ws en i r): ∀l,r=.xL l->i+l.length<=ws.length+i/\(i<=ws.length->i+l.length<=ws.length)/\ ∀f∈l,FnZ f:=by
 induction h with
 |done _=>rintro l e;cases e;exact⟨by simp,by simp,by simp⟩
 |qw n c _ d=>
  rintro l e;cases e;obtain⟨o,g,j⟩:=c.zB b;obtain⟨p,k,m⟩:=d _ rfl;have:=k g;exact⟨by simp;omega,λ_=>by simp;omega,by intro q a;rcases List.mem_cons.1 a with rfl|a;exact j;exact m _ a⟩
 |_=>rintro l e;cases e
section
open Go.Maps
structure FrU(w W:World)(rb bu b2 base:Nat)(v:Value)(ws:List Wd)(i en:Nat)(b:Bool)(A:Option Addr)(c:Nat)(l:List (Fn×Value×Value×Value)):Prop where
 rd:Rd W rb v ws i en b
 un:W.heap[bu]?=some (.cells #[.slice A l.length c] 24 (0,0))
 zD:W.heap[b2]?=some (.cells #[.slice none 0 0] 24 (0,0))
 row:O8 Y7 W base 32 6 (.slice A l.length c) l
 be:Below w.heap.size w W
 gl:O4 W
 r0:10<rb
 z0:w.heap.size<=b2
 z1:b2<rb
 z2:rb<bu
 z3:bu<base
 z4:base<=W.heap.size
theorem ZF{B:Nat}{w c w2}{r:Nat}(h:Below B w c)(a:c.grownBy w2 (some r))(e:B<=r)(f:B<=c.heap.size):Below B w w2:=
 ⟨a.os.trans h.os,a.tape.trans h.tape,a.output.trans h.output,C1 h.size a.size,λk d=>(a.block k (by omega) (by simp;omega)).trans (h.block k d)⟩
theorem FrU.L9{w W W':World}{rb d f base:Nat}{v:Value}{ws:List Wd}{i en:Nat}{b:Bool}{A:Option Addr}{c:Nat}{l:List (Fn×Value×Value×Value)}{g:Nat}{j:Bool}
 (h:FrU w W rb d f base v ws i en b A c l) (m:Rd W' rb v ws g en j) (a:W.grownBy W' (some rb)):FrU w W' rb d f base v ws g en j A c l:=by
 have n:=h.z0;have o:=h.z1;have p:=h.z2;have q:=h.z3;have r:=h.z4;exact⟨m,(a.block d (by omega) (by simp;omega)).trans h.un,(a.block f (by omega) (by simp;omega)).trans h.zD,h.row.kept a (λk e=>.inl (by cases e;omega)),ZF h.be a (by omega) (by omega),h.gl.of a h.r0,h.r0,n,o,p,q,C1 r a.size⟩
structure Qj(wr W:World)(rb bf base:Nat)(v:Value)(ws:List Wd)(i en:Nat)(b:Bool)(nm:ByteArray)(An:Option Addr)(cn:Nat)(ns:List ByteArray)(At:Option Addr)(ct:Nat)(ts:List Int)(out:Int)(vb:Value)(pos:Int):Prop where
 rd:Rd W rb v ws i en b
 fb:W.heap[bf]?=some (.cells #[.string nm,.slice An ns.length cn,.slice At ts.length ct,.int .i64 out,vb,.int .i64 pos] 32 (0,0))
 gr:wr.grownBy W (some rb)
 gl:O4 W
 rn:O8 S1 W base 9 1 (.slice An ns.length cn) ns
 rt:O8 zm W base 3 1 (.slice At ts.length ct) ts
 ne: ∀g,(Value.slice An ns.length cn).ownBlock=some g->(Value.slice At ts.length ct).ownBlock≠some g
 r0:10<rb
 z0:rb<wr.heap.size
 z1:wr.heap.size<=bf
 z2:bf<base
 z3:base<=W.heap.size
section
variable {wr W W':World}{rb bf base:Nat}{v:Value}{ws:List Wd}{i en:Nat}{b:Bool}{nm:ByteArray}{An:Option Addr}{cn:Nat}{ns:List ByteArray}{At:Option Addr}{ct:Nat}{ts:List Int}{out:Int}{vb:Value}{pos:Int}
theorem Qj.L9{c:Nat}{d:Bool}(h:Qj wr W rb bf base v ws i en b nm An cn ns At ct ts out vb pos)(f:Rd W' rb v ws c en d)(a:W.grownBy W' (some rb)):Qj wr W' rb bf base v ws c en d nm An cn ns At ct ts out vb pos:=by
 have g:=h.z0;have j:=h.z1;have l:=h.z2;have m:=h.z3;exact⟨f,(a.block bf (by omega) (by simp;omega)).trans h.fb,I4 h.gr a,h.gl.of a h.r0,h.rn.kept a (λk e=>.inl (by cases e;omega)),h.rt.kept a (λk e=>.inl (by cases e;omega)),h.ne,h.r0,g,j,l,C1 m a.size⟩
theorem Qj.below(h:Qj wr W rb bf base v ws i en b nm An cn ns At ct ts out vb pos)(a:Below W.heap.size W W'):Qj wr W' rb bf base v ws i en b nm An cn ns At ct ts out vb pos:=h.L9 (h.rd.K7 a) (I7 a _)
theorem Qj.cell{x}(h:Qj wr W rb bf base v ws i en b nm An cn ns At ct ts out vb pos)(j:Nat):W.grownBy (W.setCell ⟨bf,j,none⟩ x) (some bf)/\Rd (W.setCell ⟨bf,j,none⟩ x) rb v ws i en b/\wr.grownBy (W.setCell ⟨bf,j,none⟩ x) (some rb)/\O4 (W.setCell ⟨bf,j,none⟩ x)/\O8 S1 (W.setCell ⟨bf,j,none⟩ x) base 9 1 (.slice An ns.length cn) ns/\O8 zm (W.setCell ⟨bf,j,none⟩ x) base 3 1 (.slice At ts.length ct) ts:=by
 have d:=h.z0;have f:=h.z1;have l:=h.z2;have m:=h.z3;have a:=I8 W bf j x;exact⟨a,h.rd.grown a (by omega),P5 h.gr a (by omega),h.gl.Z3 a.size (λg c=>a.block g (by have:=h.r0;omega) (by simp;have:=h.r0;omega)),h.rn.kept a (λk e=>.inl (by cases e;omega)),h.rt.kept a (λk e=>.inl (by cases e;omega))⟩
theorem Qj.s0(h:Qj wr W rb bf base v ws i en b nm An cn ns At ct ts out vb pos)(x:ByteArray):Qj wr (W.setCell ⟨bf,0,none⟩ (.string x)) rb bf base v ws i en b x An cn ns At ct ts out vb pos:=by
 obtain⟨a,c,d,e,f,g⟩:=h.cell (x:=(.string x)) 0;exact⟨c,by simpa using A6 W bf 0 _ _ (.string x) h.fb,d,e,f,g,h.ne,h.r0,h.z0,h.z1,h.z2,C1 h.z3 a.size⟩
theorem Qj.s3(h:Qj wr W rb bf base v ws i en b nm An cn ns At ct ts out vb pos)(x:Int):Qj wr (W.setCell ⟨bf,3,none⟩ (.int .i64 x)) rb bf base v ws i en b nm An cn ns At ct ts x vb pos:=by
 obtain⟨a,c,d,e,f,g⟩:=h.cell (x:=(.int .i64 x)) 3;exact⟨c,by simpa using A6 W bf 3 _ _ (.int .i64 x) h.fb,d,e,f,g,h.ne,h.r0,h.z0,h.z1,h.z2,C1 h.z3 a.size⟩
theorem Qj.s4(h:Qj wr W rb bf base v ws i en b nm An cn ns At ct ts out vb pos)(x):Qj wr (W.setCell ⟨bf,4,none⟩ x) rb bf base v ws i en b nm An cn ns At ct ts out x pos:=by
 obtain⟨a,c,d,e,f,g⟩:=h.cell (x:=x) 4;exact⟨c,by simpa using A6 W bf 4 _ _ x h.fb,d,e,f,g,h.ne,h.r0,h.z0,h.z1,h.z2,C1 h.z3 a.size⟩
theorem Qj.J2{s:ByteArray}{g cap k:Nat}(h:Qj wr W rb bf base v ws i en b nm An cn ns At ct ts out vb pos)(w:W'.ownsRow base 9 1 (.slice (some ⟨g,0,none⟩) (ns.length+1) cap) (ns.length+1) (ns.flatMap S1.cells++S1.cells s))(d:W.grownBy W' (Value.slice An ns.length cn).ownBlock)(f:(Value.slice An ns.length cn).ownBlock=some g\/g=W.heap.size)(x:k=ns.length+1):
 Qj wr (W'.setCell ⟨bf,1,none⟩ (.slice (some ⟨g,0,none⟩) k cap)) rb bf base v ws i en b nm (some ⟨g,0,none⟩) cap (ns++[s]) At ct ts out vb pos:=by
 subst x;have y:=h.z0;have z:=h.z1;have A:=h.z2;have B:=h.z3;have l:=h.rn.1.lt;have c: ∀k,(Value.slice An ns.length cn).ownBlock=some k->base<=k:=λk e=>(l k e).1
 have m:O8 S1 W' base 9 1 (.slice (some ⟨g,0,none⟩) (ns.length+1) cap) (ns++[s]):=O8.qv (F:=λ_=>False) h.rn trivial (λ_ h=>h.elim) w d f;have n:O8 zm W' base 3 1 (.slice At ts.length ct) ts:=h.rt.zb6 (λ_ _ _=>trivial) d (by
  cases C:(Value.slice At ts.length ct).ownBlock with
  |none=>exact .inl rfl
  |some k=>right;intro e;exact h.ne k e.symm C)
 have o:O4 W':=h.gl.Z3 d.size (λq j=>d.block q (by have:=h.r0;omega) (λe=>by have:=c q e.symm;have:=h.r0;omega));have a:=I8 W' bf 1 (.slice (some ⟨g,0,none⟩) (ns.length+1) cap);have p:W'.heap[bf]?=some (.cells #[.string nm,.slice An ns.length cn,.slice At ts.length ct,.int .i64 out,vb,.int .i64 pos] 32 (0,0)):=(d.block bf (by omega) (λe=>by have:=c bf e.symm;omega)).trans h.fb;have r:wr.grownBy W' (some rb):=⟨d.os.trans h.gr.os,d.tape.trans h.gr.tape,d.output.trans h.gr.output,C1 h.gr.size d.size,λq j D=>(d.block q (A7 j h.gr.size) (λe=>by have:=c q e.symm;omega)).trans (h.gr.block q j D)⟩;have t:Rd W' rb v ws i en b:=⟨(d.block rb h.rd.lt (λe=>by have:=c rb e.symm;omega)).trans h.rd.P6,h.rd.row.Z3 λq j=>d.block q (Nat.lt_trans j h.rd.lt) (λe=>by have:=c q e.symm;omega),h.rd.X5,h.rd.pos⟩;have u:(ns++[s]).length=ns.length+1:=by simp
 refine⟨t.grown a (by omega),by rw[u];simpa using A6 W' bf 1 _ _ (.slice (some ⟨g,0,none⟩) (ns.length+1) cap) p,P5 r a (by omega),o.Z3 a.size (λq j=>a.block q (by have:=h.r0;have:=d.size;omega) (by simp;have:=h.r0;omega)),
  by rw[u];exact m.kept a (λk e=>.inl (by cases e;omega)),n.kept a (λk e=>.inl (by cases e;omega)),?_,h.r0,y,z,A,C1 B (C1 d.size a.size)⟩
 intro q j e;simp[Value.ownBlock]at j;subst j
 rcases f with f|f
 ·exact h.ne g f e
 ·have:=(h.rt.1.lt g e).2;omega
theorem Qj.JN{s:Int}{g cap k:Nat}(h:Qj wr W rb bf base v ws i en b nm An cn ns At ct ts out vb pos)(w:W'.ownsRow base 3 1 (.slice (some ⟨g,0,none⟩) (ts.length+1) cap) (ts.length+1) (ts.flatMap zm.cells++zm.cells s))(d:W.grownBy W' (Value.slice At ts.length ct).ownBlock)(f:(Value.slice At ts.length ct).ownBlock=some g\/g=W.heap.size)(x:k=ts.length+1):
 Qj wr (W'.setCell ⟨bf,2,none⟩ (.slice (some ⟨g,0,none⟩) k cap)) rb bf base v ws i en b nm An cn ns (some ⟨g,0,none⟩) cap (ts++[s]) out vb pos:=by
 subst x;have y:=h.z0;have z:=h.z1;have A:=h.z2;have B:=h.z3;have l:=h.rt.1.lt;have c: ∀k,(Value.slice At ts.length ct).ownBlock=some k->base<=k:=λk e=>(l k e).1
 have m:O8 zm W' base 3 1 (.slice (some ⟨g,0,none⟩) (ts.length+1) cap) (ts++[s]):=O8.qv (F:=λ_=>False) h.rt trivial (λ_ h=>h.elim) w d f;have n:O8 S1 W' base 9 1 (.slice An ns.length cn) ns:=h.rn.zb6 (λ_ _ _=>trivial) d (by
  cases C:(Value.slice An ns.length cn).ownBlock with
  |none=>exact .inl rfl
  |some k=>right;intro e;exact h.ne k C e.symm)
 have o:O4 W':=h.gl.Z3 d.size (λq j=>d.block q (by have:=h.r0;omega) (λe=>by have:=c q e.symm;have:=h.r0;omega));have a:=I8 W' bf 2 (.slice (some ⟨g,0,none⟩) (ts.length+1) cap);have p:W'.heap[bf]?=some (.cells #[.string nm,.slice An ns.length cn,.slice At ts.length ct,.int .i64 out,vb,.int .i64 pos] 32 (0,0)):=(d.block bf (by omega) (λe=>by have:=c bf e.symm;omega)).trans h.fb;have r:wr.grownBy W' (some rb):=⟨d.os.trans h.gr.os,d.tape.trans h.gr.tape,d.output.trans h.gr.output,C1 h.gr.size d.size,λq j D=>(d.block q (A7 j h.gr.size) (λe=>by have:=c q e.symm;omega)).trans (h.gr.block q j D)⟩;have t:Rd W' rb v ws i en b:=⟨(d.block rb h.rd.lt (λe=>by have:=c rb e.symm;omega)).trans h.rd.P6,h.rd.row.Z3 λq j=>d.block q (Nat.lt_trans j h.rd.lt) (λe=>by have:=c q e.symm;omega),h.rd.X5,h.rd.pos⟩;have u:(ts++[s]).length=ts.length+1:=by simp
 refine⟨t.grown a (by omega),by rw[u];simpa using A6 W' bf 2 _ _ (.slice (some ⟨g,0,none⟩) (ts.length+1) cap) p,P5 r a (by omega),o.Z3 a.size (λq j=>a.block q (by have:=h.r0;have:=d.size;omega) (by simp;have:=h.r0;omega)),
  n.kept a (λk e=>.inl (by cases e;omega)),by rw[u];exact m.kept a (λk e=>.inl (by cases e;omega)),?_,h.r0,y,z,A,C1 B (C1 d.size a.size)⟩
 intro q j e;simp[Value.ownBlock]at e;subst e
 rcases f with f|f
 ·exact h.ne g j f
 ·have:=(h.rn.1.lt g j).2;omega
end
end
end Go.Proofs.YtmngofgminlloaaGreatDoor
namespace Go.Proofs.YtmngofgminlloaaGreatDoor.K
open Go.Proofs.Tryz
open Go.RowKit
section
open Go.Proofs.Tryz
open Go Go.ChangeShapes Go.WideShapes Go.ChangeAt Go.RowKit
open Go.ChangeMaps (open_string shut_string)
def own:ownKnob Tryz.prog.godebug=none:=by kernel_rfl
def QW{H}{enc:TypeId×Value->H}{a:Assume}{C:Checked}{os:Os}{f:FuncId}{fn:Func}{s:ChangeSpec}{h:List PathCond}{b l g m:Bool}{X:World->Array Value->Prop}
 (I: ∀(w w':World)(args:Array Value),w.heap=w'.heap->X w args->X w' args)
 (own:ownKnob C.prog.godebug=none) (n:os.Started) (p:C.prog.inits.idxOf? f=none) (z:C.prog.funcs[f]?=some fn)
 (o: ∃(w:World)(c:Tape)(i:Input),w.os=os/\(w.forCall c i).Shaped C.prog/\i.vars=[]/\Input.okWide C.prog (w.forCall c i) .any w.heap.size f i/\
  ((s.pre enc C.prog fn h b (w.forCall c i).memory i.args/\X (w.forCall c i).memory i.args)/\sizedMet enc C.prog fn (OpenSpec.ofChange s) b (w.forCall c i).memory i.args)/\a.holds C.prog (lone (Frame.enter C.prog f i.args .normal) [] (w.forCall c i)))
 (k: ∀(W:World)(base:Nat)(args:Array Value)(q r:List (DataW H))(d:List MemPlace),
  (∀(j:Nat) t v,fn.params[j]?=some t->args[j]?=some v->Value.okWide C.prog W .any base t v)->
  DataW.Whole enc C.prog fn.params.toList s.vars b W args.toList q r d->
  h.all (PathCond.test C.prog ⟨fn.params.toList,q,s.plain.varTypes C.prog,r⟩)=true->
  (DataW.weightsEach C.prog (fn.params.toList++s.plain.varTypes C.prog) (q++r)).all (· <=reachBytes)=true->X W args->W.ShapedOpen C.prog->
  Calls C.prog f args W λe F=> ∃v,e=.returned v/\s.post enc C.prog fn b l g m W args v F):
 ReturnsInHanded a C os f .any (λw args=>(s.pre enc C.prog fn h b w args/\X w args)/\sizedMet enc C.prog fn (OpenSpec.ofChange s) b w args) (s.post enc C.prog fn b l g m):=by
 refine returnsInHanded_of_calls own n p o ?_;intro w c i _ A _ B u _;obtain⟨_,_,_,D,x,_,_,_,_,y⟩:=B;have e:D=fn:=F6 (x.symm.trans z);subst e;obtain⟨⟨⟨q,r,d,G,J⟩,K⟩,L⟩:=u;have E:=DataW.Whole.of_heap (w':=w.forCall c i) (by rfl) G;refine(k (w.forCall c i) w.heap.size i.args q r d y E J (L.weights G) (I _ _ _ (by rfl) K) A).mono λe F ⟨v,M,N⟩=>?_
 subst M;exact ChangeSpec.post_blind N
def zfy:(Rows.laid_internal_strconv_uint64pow10:DataW Unit)=Lib.tabData .u64 Lib.pow10Tab:=by kernel_rfl
def zfV:(Rows.laid_strings_asciiSpace:DataW Unit)=Lib.tabData .u8 Lib.asciiSpaceTab:=by kernel_rfl
def zgC:Tryz.prog.globalNamed "strconv.ErrRange" =some 4:=by kernel_rfl
def zeC:Tryz.prog.globalNamed "strconv.ErrSyntax" =some 3:=by kernel_rfl
def zot: "*" ++ "errors.errorString" = "*errors.errorString" :=by decide
def znX(u)(h:Tryz.prog.typeName? 3 u=some "*errors.errorString"):u=315:=
 typeName_ptr_named (nm:= "errors.errorString") (by rw[zot];kernel_rfl) (by kernel_rfl) (by decide) u (by rw[zot];exact h)
def zmt{W:World}(hs:W.ShapedOpen prog):10<W.heap.size:=by
 have a:(((begin prog (λ_ _=>0) default).world.heap[10]?).bind Obj.row?).isSome=true:=by kernel_rfl
 obtain⟨⟨zero,t⟩,b⟩:=Option.isSome_iff_exists.1 a;obtain⟨d,c,_⟩:=hs.1 10 zero t (of_decide_eq_true (by kernel_rfl)) b;exact(Array.getElem?_eq_some_iff.1 c).1
def zkr{W}(a:laidMet prog Rows.parseTellsRow.laid W)(hs:W.ShapedOpen prog):O4 W where
 maxLen:=cell_of_shapedOpen_int (zero:= #[.int .i64 0]) (t:=3) hs (of_decide_eq_true (by kernel_rfl)) (by kernel_rfl) (by kernel_rfl) (by kernel_rfl) (by kernel_rfl) (by kernel_rfl)
 zet:=by
  obtain⟨h,i,b,_,_,_⟩:=laid_sentinel (te:=317) (ts:=9) a.tail.tail.tail.tail zgC (show _=some 104 by kernel_rfl) underlying104 znX (by kernel_rfl) underlying317 rfl rfl (by kernel_rfl) (by kernel_rfl) (by kernel_rfl);obtain⟨j,k,c,_,_,_⟩:=laid_sentinel (te:=317) (ts:=9) a.tail.tail.tail.tail.tail zeC (show _=some 104 by kernel_rfl) underlying104 znX (by kernel_rfl) underlying317 rfl rfl (by kernel_rfl) (by kernel_rfl) (by kernel_rfl);exact⟨⟨_,by simpa using World.var?_cell zeC c 0,.inr ⟨_,_,rfl⟩⟩,_,by simpa using World.var?_cell zgC b 0,.inr ⟨_,_,rfl⟩⟩
 pow:=Lib.tabIs_of_head (g:=5) (t:=290) (e:=150) (n:=20) (by kernel_rfl) (by kernel_rfl) (by kernel_rfl) (by kernel_rfl) (by kernel_rfl) (by kernel_rfl) (zfy▸a.tail.tail)
 spc:=Lib.tabIs_of_head (g:=0) (t:=219) (e:=5) (n:=256) (by kernel_rfl) (by kernel_rfl) (by kernel_rfl) (by kernel_rfl) (by kernel_rfl) (by kernel_rfl) (zfV▸a.tail.tail.tail.tail.tail.tail.tail)
 xM:=zmt hs
def zkv:laidOutB prog=true:=by kernel_rfl
def XN{H:Type}{enc:TypeId×Value->H}{W:World}{k:Nat}{x:DataW H×List MemPlace}{l:Option Addr}{f cap:Nat}(h:DataW.trod enc prog W 0 (λ_=>true) true k 29 (Value.slice l f cap).cells.toList=some x):
 f<=cap/\ ∀j,j<f-> ∃g b z,l=some ⟨g,b,none⟩/\g<W.heap.size/\W.cell? ⟨g,b+j,none⟩=some (.int .i64 z):=by
 rcases open_ints underlying29 underlying3 (by kernel_rfl) h with⟨c,_⟩|⟨a,m,n,u,c,_,q,v,r,_,d,_⟩
 ·simp[Value.cells]at c
  obtain⟨rfl,rfl,rfl⟩:=c;exact⟨x7 _,λj s=>by omega⟩
 ·simp[Value.cells]at c
  obtain⟨rfl,rfl,rfl⟩:=c;simp only[if_true]at r;refine⟨q,λj s=>?_⟩;have t:=d 0 (by omega);have o:a.spot=none:=by have:=World.cell?_spot t;simpa[Addr.add]using this
  obtain⟨g,b,p⟩:=a;simp only at o;subst o;have i:=d j (by omega);have e:(⟨g,b,none⟩:Addr).add j=⟨g,b+j,none⟩:=by unfold Addr.add;split<;>simp_all
  rw[e]at i;exact⟨g,b,_,rfl,World.block_lt_of_cell? W _ i,i⟩
end
end Go.Proofs.YtmngofgminlloaaGreatDoor.K
namespace Go.Proofs.YtmngofgminlloaaGreatDoor
open Go.RowKit Tw
def zX{ws}{i:Nat}{s:ByteArray}(b:Bool)(h:(match ws[i]? with|some x=>decide (x.K0.data.toList=s.data.toList)|none=>false)=b):J3 ws i s=b:=by
 unfold J3
 revert h
 cases ws[i]? with
 |none=>exact λh=>h
 |some x=>
  simp only[C7];intro h;rw[<-h,F7];simp
abbrev P1:Type:=List (ByteArray×Int)
def L5:P1->ByteArray->Int
 |[],_=>0
 |(n,t)::r,s=>if n=s then t else L5 r s
inductive X1(α:Type)where
 |ok (a:α)|J9 (p e:Int)
def X1.bind{α β:Type}:X1 α->(α->X1 β)->X1 β
 |.ok a,f=>f a
 |.J9 p e,_=>.J9 p e
def S3(us:List Fn)(s:ByteArray):Option Fn:=us.find? (λf=>f.J2=s)
mutual
def O2(us:List Fn)(env:P1):Ex->X1 Int
 |.mk k _ t xs p=>
  if k=1 then .ok 1
  else if k=2 then .ok 2
  else if k=3 then(if L5 env t=0 then .J9 p 16 else .ok (L5 env t))
  else if k=5 then(match L4 us env xs [2]with|.ok _=>.ok 2|.J9 q e=>.J9 q e)
  else if k=7 then
   match S3 us t with
   |none=>.J9 p 16
   |some f=>if f.K4.length≠xs.length then .J9 p 8 else(match L4 us env xs f.K4 with|.ok _=>.ok f.out|.J9 q e=>.J9 q e)
  else if k=6/\lv t.data.toList<=2 then(match L4 us env xs [2,2]with|.ok _=>.ok 2|.J9 q e=>.J9 q e)
  else if k=6/\(t=⟨#[61,61]⟩\/t=⟨#[33,61]⟩)then
   (match Qw us env xs with|.ok a=>(match L4 us env xs [a,a]with|.ok _=>.ok 2|.J9 q e=>.J9 q e)|.J9 q e=>.J9 q e)
  else(match L4 us env xs []with|.ok _=>.ok (if k=6/\lv t.data.toList=3 then 2 else 1)|.J9 q e=>.J9 q e)
def Qw(us:List Fn)(env:P1):List Ex->X1 Int
 |[]=>.ok 0
 |a::_=>O2 us env a
def L4(us:List Fn)(env:P1):List Ex->List Int->X1 Unit
 |[],_=>.ok ()
 |a::l,ws=>match O2 us env a with
  |.ok t=>if t=ws.headD 1 then L4 us env l ws.tail else .J9 a.pos 8
  |.J9 q e=>.J9 q e
end
def Y4(env:P1)(m:Nat)(p:Int)(nm:ByteArray)(t:Int):X1 (P1×Nat):=
 if L5 env nm≠0 then .J9 p 5 else if 64<=m then .J9 p 2 else .ok ((nm,t)::env,m+1)
mutual
def zC(us:List Fn)(out:Int):Sm->P1->Nat->X1 (P1×Nat×Bool)
 |.mk k nm a J0 M9 p,env,m=>
  if k=2/\L5 env nm=0 then .J9 p 16
  else match O2 us env a with
  |.J9 q e=>.J9 q e
  |.ok t=>
   if k=1 then(match Y4 env m p nm t with|.ok (b,d)=>.ok (b,d,false)|.J9 q e=>.J9 q e)
   else if k=2 then(if t≠L5 env nm then .J9 a.pos 8 else .ok (env,m,false))
   else if k=3 then
    (if t≠2 then .J9 a.pos 8 else match zS us out J0 env m with
     |.J9 q e=>.J9 q e
     |.ok (c,r1)=>match zS us out M9 env c with
      |.J9 q e=>.J9 q e
      |.ok (f,g)=>.ok (env,f,r1&&g))
   else if k=4 then
    (if t≠2 then .J9 a.pos 8 else match zS us out J0 env m with
     |.J9 q e=>.J9 q e
     |.ok (c,_)=>.ok (env,c,false))
   else if k=5 then(if t≠out then .J9 a.pos 8 else .ok (env,m,true))
   else if k=6 then(if t≠1 then .J9 a.pos 8 else .ok (env,m,false))
   else .ok (env,m,false)
def zS(us:List Fn)(out:Int):List Sm->P1->Nat->X1 (Nat×Bool)
 |[],_,m=>.ok (m,false)
 |s::l,env,m=>match zC us out s env m with
  |.J9 q e=>.J9 q e
  |.ok (a,b,r)=>match zS us out l a b with
   |.J9 q e=>.J9 q e
   |.ok (c,d)=>.ok (c,r||d)
end
def zy(p:Int):List ByteArray->List Int->P1->Nat->X1 (P1×Nat)
 |n::b,t::ts,env,m=>match Y4 env m p n t with
  |.ok (a,c)=>zy p b ts a c
  |.J9 q e=>.J9 q e
 |_,_,env,m=>.ok (env,m)
def JM(us:List Fn)(f:Fn):X1 Unit:=
 match zy f.pos f.J1 f.K4 [] 0 with
 |.J9 q e=>.J9 q e
 |.ok (a,m)=>match zS us f.out f.J0 a m with
  |.J9 q e=>.J9 q e
  |.ok (_,r)=>if r then .ok ()else .J9 f.pos 3
def xi(us:List Fn):List Fn->X1 Unit
 |[]=>.ok ()
 |f::l=>match JM us f with|.ok _=>xi us l|.J9 q e=>.J9 q e
def yO:List ByteArray->List Fn->Option Int
 |_,[]=>none
 |yd,f::l=>if yd.any (λn=>decide (n=f.J2))then some f.pos else yO (f.J2::yd) l
def Yn:ByteArray:=⟨#[109,97,105,110]⟩
def zg(f:Fn):Bool:=decide (f.J2=Yn)&&decide (f.J1.length=0)&&decide (f.out=1)
def S4(l:List Fn):Int×Int:=
 if U6 l≠0 then(0,U6 l)
 else match yO [] l with
  |some p=>(p,5)
  |none=>if l.any zg=false then(0,16)else match xi l l with
   |.ok _=>(0,0)
   |.J9 p e=>(p,e)
def X6(us:List Fn)(out:Int):List Sm->P1->Nat->Bool->X1 (P1×Nat×Bool)
 |[],env,m,r=>.ok (env,m,r)
 |s::l,env,m,r=>match zC us out s env m with
  |.J9 q e=>.J9 q e
  |.ok (a,b,c)=>X6 us out l a b (r||c)
def zi1(us)(out:Int): ∀l env(m:Nat)(r:Bool),X6 us out l env m r=match X6 us out l env m false with
 |.J9 q e=>.J9 q e
 |.ok (a,b,c)=>.ok (a,b,r||c):=by
 intro l
 induction l with
 |nil=>intro env m r;simp[X6]
 |cons s l d=>
  intro env m r;simp only[X6];cases zC us out s env m with
  |J9 q e=>rfl
  |ok z=>
   obtain⟨a,b,c⟩:=z;simp only[Bool.false_or];rw[d a b (r||c),d a b c];cases X6 us out l a b false with
   |J9 q e=>rfl
   |ok z=>simp[Bool.or_assoc]
def yM(us)(out:Int): ∀l env(m:Nat),zS us out l env m=match X6 us out l env m false with
 |.J9 q e=>.J9 q e
 |.ok (_,b,c)=>.ok (b,c):=by
 intro l
 induction l with
 |nil=>intro env m;simp[X6,zS]
 |cons s l d=>
  intro env m;rw[zS,X6];cases zC us out s env m with
  |J9 q e=>rfl
  |ok z=>
   obtain⟨a,b,c⟩:=z;simp only[Bool.false_or];rw[d a b,zi1 us out l a b c];cases X6 us out l a b false<;>rfl
def yn(us)(out:Int)(s): ∀l env(m:Nat)(r:Bool),X6 us out (l++[s]) env m r=match X6 us out l env m r with
 |.J9 q e=>.J9 q e
 |.ok (b,d,f)=>(match zC us out s b d with|.J9 q e=>.J9 q e|.ok (c,g,h)=>.ok (c,g,f||h)):=by
 intro l
 induction l with
 |nil=>
  intro env m r;simp only[C0,X6]
 |cons a l i=>
  intro env m r;simp only[B6,X6];cases zC us out a env m with
  |J9 q e=>rfl
  |ok z=>exact i _ _ _
def YM(us)(out:Int): ∀l b env(m:Nat)(r:Bool){q e:Int},X6 us out l env m r=.J9 q e->X6 us out (l++b) env m r=.J9 q e:=by
 intro l
 induction l with
 |nil=>intro b env m r q e h;simp[X6]at h
 |cons a l d=>
  intro b env m r q e h;simp only[B6,X6]at h|-;cases c:zC us out a env m with
  |J9 f g=>rw[c]at h;exact h
  |ok z=>rw[c]at h;exact d _ _ _ _ h
def P0{α:Type}{l:List α}{i:Nat}{x:α}(a:l[i]?=some x):l.take (i+1)=l.take i++[x]:=by
 have b:i<l.length:=by rcases E0 i l.length with h|h;exact h;rw[C5 h]at a;cases a
 rw[List.take_succ_eq_append_getElem b];have:l[i]=x:=by rw[x9 b]at a;exact F6 a
 rw[this]
def xd{us:List Fn}{out:Int}{l:List Sm}{env:P1}{m i:Nat}{s:Sm}{a:P1}{b:Nat}{d:Bool}{q e:Int}(hs:l[i]?=some s)(h:X6 us out (l.take i) env m false=.ok (a,b,d))(f:zC us out s a b=.J9 q e):zS us out l env m=.J9 q e:=by
 have g:X6 us out (l.take (i+1)) env m false=.J9 q e:=by rw[P0 hs,yn,h];simp only[f]
 have c:=YM us out (l.take (i+1)) (l.drop (i+1)) env m false g;rw[List.take_append_drop]at c;rw[yM,c]
def xh{env a}{m b:Nat}{p:Int}{nm:ByteArray}{t:Int}(h:Y4 env m p nm t=.ok (a,b)):b=m+1/\m<64/\a=(nm,t)::env/\L5 env nm=0:=by
 unfold Y4 at h
 split at h
 ·cases h
 ·split at h
  ·cases h
  ·injection h with h;injection h with c d
   exact⟨d.symm,by omega,c.symm,by omega⟩
mutual
def zdW(us)(out:Int): ∀s env(m:Nat)d(j:Nat)(r:Bool),zC us out s env m=.ok (d,j,r)->m<=j/\(m<=64->j<=64)/\(env.length<=m->d.length<=j)
 |.mk k nm a J0 M9 p,env,m,d,j,r,h=>by
  rw[zC]at h
  split at h
  ·cases h
  cases v:O2 us env a with
  |J9 q e=>rw[v]at h;cases h
  |ok t=>
   rw[v]at h;simp only at h
   by_cases w:k=1
   ·rw[C8 w]at h
    cases l:Y4 env m p nm t with
    |J9 q e=>rw[l]at h;cases h
    |ok z=>
     obtain⟨C,i⟩:=z;rw[l]at h;injection h with h;injection h with c b;injection b with b f
     obtain⟨D,E,x,F⟩:=xh l;subst c b;exact⟨by omega,by omega,by rw[x];simp;omega⟩
   rw[B5 w]at h
   by_cases c:k=2
   ·rw[C8 c]at h
    split at h
    ·cases h
    ·injection h with h;injection h with c b;injection b with b f;subst c b;exact⟨by omega,by omega,by omega⟩
   rw[B5 c]at h
   by_cases b:k=3
   ·rw[C8 b]at h
    split at h
    ·cases h
    cases g:zS us out J0 env m with
    |J9 q e=>rw[g]at h;cases h
    |ok z=>
     obtain⟨i,n⟩:=z;rw[g]at h;simp only at h;have o:=qM us out J0 env m i n g;cases u:zS us out M9 env i with
     |J9 q e=>rw[u]at h;cases h
     |ok z=>
      obtain⟨y,A⟩:=z;rw[u]at h;injection h with h;injection h with c b;injection b with b f;subst c b
      have B:=qM us out M9 env i y A u;exact⟨by omega,by omega,by omega⟩
   rw[B5 b]at h
   by_cases f:k=4
   ·rw[C8 f]at h
    split at h
    ·cases h
    cases g:zS us out J0 env m with
    |J9 q e=>rw[g]at h;cases h
    |ok z=>
     obtain⟨i,n⟩:=z;rw[g]at h;injection h with h;injection h with c b;injection b with b f;subst c b
     have o:=qM us out J0 env m i n g;exact⟨by omega,by omega,by omega⟩
   rw[B5 f]at h
   split at h
   ·split at h
    ·cases h
    ·injection h with h;injection h with c b;injection b with b f;subst c b;exact⟨by omega,by omega,by omega⟩
   ·split at h
    ·split at h
     ·cases h
     ·injection h with h;injection h with c b;injection b with b f;subst c b;exact⟨by omega,by omega,by omega⟩
    ·injection h with h;injection h with c b;injection b with b f;subst c b;exact⟨by omega,by omega,by omega⟩
def qM(us)(out:Int): ∀l env(m a:Nat)(r:Bool),zS us out l env m=.ok (a,r)->m<=a/\(m<=64->a<=64)
 |[],env,m,a,r,h=>by rw[zS]at h;injection h with h;injection h with g f;omega
 |s::l,env,m,a,r,h=>by
  rw[zS]at h;cases hs:zC us out s env m with
  |J9 q e=>rw[hs]at h;cases h
  |ok z=>
   obtain⟨b,c,r1⟩:=z;rw[hs]at h;simp only at h;have g:=zdW us out s env m b c r1 hs;cases d:zS us out l b c with
   |J9 q e=>rw[d]at h;cases h
   |ok z=>
    obtain⟨i,j⟩:=z;rw[d]at h;injection h with h;injection h with f k
    have n:=qM us out l b c i j d;subst f;exact⟨by omega,by omega⟩
end
def U7(env:P1):Prop:=(env.map Prod.fst).Nodup/\ ∀q∈env,q.2=1\/q.2=2
def U7.nil:U7 []:=⟨List.nodup_nil,λ_ h=>by cases h⟩
def QP: ∀{env}{s:ByteArray}{t:Int},(env.map Prod.fst).Nodup->(s,t)∈env->L5 env s=t:=by
 intro env s t a h
 induction env with
 |nil=>cases h
 |cons q env b=>
  obtain⟨n,u⟩:=q;simp only[List.map_cons,List.nodup_cons]at a;rw[L5]
  rcases List.mem_cons.1 h with h|h
  ·injection h with c d
   rw[C8 c.symm,d]
  ·rw[B5 (λe=>a.1 (by rw[e];exact G7 (f:=Prod.fst) h))]
   exact b a.2 h
def QC: ∀{env}{s:ByteArray},(∀q∈env,q.1≠s)->L5 env s=0:=by
 intro env s h
 induction env with
 |nil=>rfl
 |cons q env a=>
  obtain⟨n,u⟩:=q;rw[L5,B5 (h (n,u) (B2 ..))];exact a λq b=>h q (x5 _ b)
def Qd: ∀{env}{s:ByteArray},L5 env s≠0->(s,L5 env s)∈env:=by
 intro env s h
 induction env with
 |nil=>exact H9 rfl h
 |cons q env a=>
  obtain⟨n,u⟩:=q;rw[L5]at h|-
  by_cases e:n=s
  ·rw[C8 e]at h|-;rw[e];exact B2 ..
  ·rw[B5 e]at h|-;exact x5 _ (a h)
def U7.ZP{env:P1}(h:U7 env){s:ByteArray}(a:L5 env s≠0):L5 env s=1\/L5 env s=2:=h.2 _ (Qd a)
def U7.zm9{env}(h:U7 env){s:ByteArray}(b:L5 env s=0): ∀q∈env,q.1≠s:=by
 intro q a e;obtain⟨n,t⟩:=q;simp only at e;subst e;have:=QP h.1 a;have:=h.2 _ a;simp only at this;omega
def U7.Y4{env env'}{m b:Nat}{p:Int}{nm:ByteArray}{t:Int}(h:U7 env)(c:t=1\/t=2)(d:Y4 env m p nm t=.ok (env',b)):U7 env':=by
 obtain⟨-,-,rfl,f⟩:=xh d;refine⟨?_,?_⟩
 ·simp only[List.map_cons,List.nodup_cons]
  refine⟨λg=>?_,h.1⟩;obtain⟨q,a,e⟩:=List.mem_map.1 g;exact h.zm9 f q a e
 ·intro q a
  rcases List.mem_cons.1 a with rfl|a
  ·exact c
  ·exact h.2 q a
def U7.pos{env}(h:U7 env)(s:ByteArray):0<=L5 env s:=by
 by_cases a:L5 env s=0
 ·omega
 ·rcases h.ZP a with h|h<;>omega
def qB(us:List Fn):Prop:= ∀f∈us,jc f.out=true
def Jy{t:Int}:jc t=true↔t=1\/t=2:=by simp[jc]
def zaF{us env}(a:qB us)(b:U7 env)(x){t:Int}(h:O2 us env x=.ok t):t=1\/t=2:=by
 cases x with|mk k n s e p=>
 rw[O2]at h
 split at h
 ·injection h with h;omega
 split at h
 ·injection h with h;omega
 split at h
 ·split at h
  ·cases h
  ·rename_i c;injection h with h;subst h;exact b.ZP c
 split at h
 ·split at h<;>cases h;omega
 split at h
 ·split at h
  ·cases h
  ·rename_i f d
   split at h
   ·cases h
   ·split at h<;>cases h
    exact Jy.1 (a f (List.mem_of_find?_eq_some d))
 split at h
 ·split at h<;>cases h;omega
 split at h
 ·split at h
  ·split at h<;>cases h;omega
  ·cases h
 ·split at h
  ·injection h with h;subst h;split<;>omega
  ·cases h
def zkn{us}{out:Int}(i:qB us)(s){env env'}{m j:Nat}{r:Bool}(c:U7 env)(h:zC us out s env m=.ok (env',j,r)):U7 env':=by
 cases s with|mk k l a J0 M9 p=>
 rw[zC]at h
 split at h
 ·cases h
 cases f:O2 us env a with
 |J9 q e=>rw[f]at h;cases h
 |ok t=>
  rw[f]at h;simp only at h;have n:=zaF i c a f
  split at h
  ·cases g:Y4 env m p l t with
   |J9 q e=>rw[g]at h;cases h
   |ok z=>
    obtain⟨o,u⟩:=z;rw[g]at h;injection h with h;injection h with b d
    subst b;exact c.Y4 n g
  split at h
  ·split at h
   ·cases h
   ·injection h with h;injection h with b d;subst b;exact c
  split at h
  ·split at h
   ·cases h
   split at h
   ·cases h
   split at h
   ·cases h
   ·injection h with h;injection h with b d;subst b;exact c
  split at h
  ·split at h
   ·cases h
   split at h
   ·cases h
   ·injection h with h;injection h with b d;subst b;exact c
  split at h
  ·split at h
   ·cases h
   ·injection h with h;injection h with b d;subst b;exact c
  split at h
  ·split at h
   ·cases h
   ·injection h with h;injection h with b d;subst b;exact c
  ·injection h with h;injection h with b d;subst b;exact c
def zcz{us}{out:Int}(f:qB us): ∀l{env env'}{m a:Nat}{r b:Bool},U7 env->X6 us out l env m r=.ok (env',a,b)->U7 env':=by
 intro l
 induction l with
 |nil=>intro env env' m a r b c h;rw[X6]at h;injection h with h;injection h with g j;subst g;exact c
 |cons s l i=>
  intro env env' m a r b c h;rw[X6]at h;cases d:zC us out s env m with
  |J9 q e=>rw[d]at h;cases h
  |ok z=>
   obtain⟨k,n,o⟩:=z;rw[d]at h;exact i (zkn f s c d) h
def zjR{us}{out:Int}(s){env c}{m j:Nat}{r:Bool}(h:zC us out s env m=.ok (c,j,r)): ∃f,c=f++env:=by
 cases s with|mk k l a J0 M9 p=>
 rw[zC]at h
 split at h
 ·cases h
 cases i:O2 us env a with
 |J9 q e=>rw[i]at h;cases h
 |ok t=>
  rw[i]at h;simp only at h
  split at h
  ·cases g:Y4 env m p l t with
   |J9 q e=>rw[g]at h;cases h
   |ok z=>
    obtain⟨n,o⟩:=z;rw[g]at h;injection h with h;injection h with b d
    subst b;obtain⟨-,-,rfl,-⟩:=xh g;exact⟨[_],rfl⟩
  split at h
  ·split at h
   ·cases h
   ·injection h with h;injection h with b d;subst b;exact⟨[],rfl⟩
  split at h
  ·split at h
   ·cases h
   split at h
   ·cases h
   split at h
   ·cases h
   ·injection h with h;injection h with b d;subst b;exact⟨[],rfl⟩
  split at h
  ·split at h
   ·cases h
   split at h
   ·cases h
   ·injection h with h;injection h with b d;subst b;exact⟨[],rfl⟩
  split at h
  ·split at h
   ·cases h
   ·injection h with h;injection h with b d;subst b;exact⟨[],rfl⟩
  split at h
  ·split at h
   ·cases h
   ·injection h with h;injection h with b d;subst b;exact⟨[],rfl⟩
  ·injection h with h;injection h with b d;subst b;exact⟨[],rfl⟩
def zhP{us}{out:Int}: ∀l{env a}{m b:Nat}{r c:Bool},X6 us out l env m r=.ok (a,b,c)-> ∃d,a=d++env:=by
 intro l
 induction l with
 |nil=>intro env a m b r c h;rw[X6]at h;injection h with h;injection h with g n;subst g;exact⟨[],rfl⟩
 |cons s l i=>
  intro env a m b r c h;rw[X6]at h;cases f:zC us out s env m with
  |J9 q e=>rw[f]at h;cases h
  |ok z=>
   obtain⟨o,p,t⟩:=z;rw[f]at h;obtain⟨j,rfl⟩:=zjR s f;obtain⟨k,rfl⟩:=i h;exact⟨k++j,by simp⟩
def zbC{us}{out:Int}: ∀l{env a}{m b:Nat}{r c:Bool},X6 us out l env m r=.ok (a,b,c)->m<=b/\(m<=64->b<=64)/\(env.length<=m->a.length<=b):=by
 intro l
 induction l with
 |nil=>intro env a m b r c h;rw[X6]at h;injection h with h;injection h with g d;injection d with d o;subst g d;exact⟨by omega,by omega,by omega⟩
 |cons s l i=>
  intro env a m b r c h;rw[X6]at h;cases f:zC us out s env m with
  |J9 q e=>rw[f]at h;cases h
  |ok z=>
   obtain⟨j,k,n⟩:=z;rw[f]at h;obtain⟨p,t,u⟩:=zdW us out s env m j k n f;obtain⟨v,w,x⟩:=i h;exact⟨by omega,by omega,by omega⟩
def lv3{t:ByteArray}(h:lv t.data.toList=3)(b: ¬(t=⟨#[61,61]⟩\/t=⟨#[33,61]⟩)):t.data.toList=[60]\/t.data.toList=[60,61]\/t.data.toList=[62]\/t.data.toList=[62,61]:=by
 unfold lv at h
 repeat' (first|split at h)
 all_goals first|omega|skip
 rename_i a
 rcases a with a|a|a|a|a|a
 ·exact .inl a
 ·exact .inr (.inl a)
 ·exact .inr (.inr (.inl a))
 ·exact .inr (.inr (.inr a))
 ·exact H9 (.inl (by rw[show t=⟨t.data.toList.toArray⟩ by simp,a])) b
 ·exact H9 (.inr (by rw[show t=⟨t.data.toList.toArray⟩ by simp,a])) b
def zpf{t:ByteArray}(h:3<lv t.data.toList): ∃c,t.data.toList=[c]/\(c=43\/c=45\/c=42\/c=47\/c=37):=by
 unfold lv at h
 repeat' (first|split at h)
 all_goals first|omega|skip
 ·rename_i a
  rcases a with a|a
  ·exact⟨43,a,by simp⟩
  ·exact⟨45,a,by simp⟩
 ·rename_i a
  rcases a with a|a|a
  ·exact⟨42,a,by simp⟩
  ·exact⟨47,a,by simp⟩
  ·exact⟨37,a,by simp⟩
def zpq{t:ByteArray}(h:1<=lv t.data.toList)(a:lv t.data.toList<=2):t.data.toList=[124,124]\/t.data.toList=[38,38]:=by
 by_cases b:t.data.toList=[124,124]
 ·exact .inl b
 by_cases c:t.data.toList=[38,38]
 ·exact .inr c
 exfalso;unfold lv at h a;rw[B5 b,B5 c]at h a
 repeat' (first|split at a)
 all_goals first|omega|skip
 simp_all
abbrev zv:Type:=Int×Int
abbrev qm:Type:=List (zv×Nat)
abbrev P4:Type:=List (ByteArray×Int)
def zL(vs:P4)(s:ByteArray):Int:=match vs.find? (λq=>decide (q.1=s))with|some q=>q.2|none=>0
def zP(us:List Fn)(s:ByteArray):Nat:=us.findIdx (λf=>decide (f.J2=s))
def zbN(t:Bs):List zv:=
 if t=[43]then[(7,0)]else if t=[45]then[(8,0)]else if t=[42]then[(9,0)]else if t=[47]then[(10,0)]else if t=[37]then[(11,0)]
 else if t=[60]then[(12,0)]else if t=[62,61]then[(12,0),(6,0)]else if t=[61,61]then[(14,0)]else if t=[33,61]then[(14,0),(6,0)]
 else if t=[62]then[(13,0)]else if t=[60,61]then[(13,0),(6,0)]else[]
def qa(us:List Fn)(vs:P4)(k n:Int)(t:ByteArray)(a:Nat):List zv:=
 if k=1\/k=2 then[(1,n)]else if k=3 then[(2,zL vs t)]else if k=4 then[(5,0)]else if k=5 then[(6,0)]
 else if k=7 then[(17,(zP us t:Int))]else if k=8 then[(20,n*8+a)]else if k=6 then zbN t.data.toList else[]
def Xe:Nat->List zv->qm
 |_,[]=>[]
 |h,o::l=>(o,h)::Xe (h-1) l
def YE(n h:Nat)(z:Bool)(a b:qm):qm:=
 a++((if z then[((6,0),h+1)]else[])++(((16,((n+a.length+(if z then 1 else 0)+b.length+2:Nat):Int)),h+1)::
  (b++[((15,((n+a.length+(if z then 1 else 0)+b.length+3:Nat):Int)),h+1),((1,if z then 1 else 0),h)])))
mutual
def O7(us:List Fn)(vs:P4)(n h:Nat):Ex->qm
 |.mk k nn t xs _=>
  if k=6/\lv t.data.toList<=2 then
   YE n h (decide (lv t.data.toList=1)) (hdC us vs n h xs) (sdC us vs (n+(hdC us vs n h xs).length+(if decide (lv t.data.toList=1)then 1 else 0)+1) h xs)
  else zh us vs n h xs++Xe (h+xs.length) (qa us vs k nn t xs.length)
def hdC(us:List Fn)(vs:P4)(n h:Nat):List Ex->qm
 |[]=>[]
 |a::_=>O7 us vs n h a
def sdC(us:List Fn)(vs:P4)(n h:Nat):List Ex->qm
 |[]=>[]
 |_::l=>hdC us vs n h l
def zh(us:List Fn)(vs:P4)(n h:Nat):List Ex->qm
 |[]=>[]
 |a::l=>O7 us vs n h a++zh us vs (n+(O7 us vs n h a).length) (h+1) l
end
mutual
def Z9(us:List Fn)(n:Nat)(vs:P4)(m:Nat):Sm->qm×P4×Nat
 |.mk k nm a J0 M9 _=>
  if k=4 then
   (O7 us vs n 0 a++(((16,((n+(O7 us vs n 0 a).length+(X9 us (n+(O7 us vs n 0 a).length+1) vs m J0).1.length+2:Nat):Int)),1)::
    ((X9 us (n+(O7 us vs n 0 a).length+1) vs m J0).1++[((15,(n:Int)),0)])),vs,(X9 us (n+(O7 us vs n 0 a).length+1) vs m J0).2)
  else if k=1 then(O7 us vs n 0 a++[((3,(m:Int)),1)],vs++[(nm,(m:Int))],m+1)
  else if k=2 then(O7 us vs n 0 a++[((3,zL vs nm),1)],vs,m)
  else if k=3 then
   (if M9.isEmpty then
    (O7 us vs n 0 a++(((16,((n+(O7 us vs n 0 a).length+(X9 us (n+(O7 us vs n 0 a).length+1) vs m J0).1.length+1:Nat):Int)),1)::
     (X9 us (n+(O7 us vs n 0 a).length+1) vs m J0).1),vs,(X9 us (n+(O7 us vs n 0 a).length+1) vs m J0).2)
   else
    (O7 us vs n 0 a++(((16,((n+(O7 us vs n 0 a).length+(X9 us (n+(O7 us vs n 0 a).length+1) vs m J0).1.length+2:Nat):Int)),1)::
     ((X9 us (n+(O7 us vs n 0 a).length+1) vs m J0).1++
       (((15,((n+(O7 us vs n 0 a).length+(X9 us (n+(O7 us vs n 0 a).length+1) vs m J0).1.length+2+(X9 us (n+(O7 us vs n 0 a).length+(X9 us (n+(O7 us vs n 0 a).length+1) vs m J0).1.length+2) vs (X9 us (n+(O7 us vs n 0 a).length+1) vs m J0).2 M9).1.length:Nat):Int)),0)::
         (X9 us (n+(O7 us vs n 0 a).length+(X9 us (n+(O7 us vs n 0 a).length+1) vs m J0).1.length+2) vs (X9 us (n+(O7 us vs n 0 a).length+1) vs m J0).2 M9).1))),vs,
     (X9 us (n+(O7 us vs n 0 a).length+(X9 us (n+(O7 us vs n 0 a).length+1) vs m J0).1.length+2) vs (X9 us (n+(O7 us vs n 0 a).length+1) vs m J0).2 M9).2))
  else if k=5 then(O7 us vs n 0 a++[((18,0),1)],vs,m)
  else if k=6 then(O7 us vs n 0 a++[((19,0),1)],vs,m)
  else(O7 us vs n 0 a++[((4,0),1)],vs,m)
def X9(us:List Fn)(n:Nat)(vs:P4)(m:Nat):List Sm->qm×Nat
 |[]=>([],m)
 |s::l=>((Z9 us n vs m s).1++(X9 us (n+(Z9 us n vs m s).1.length) (Z9 us n vs m s).2.1 (Z9 us n vs m s).2.2 l).1,(X9 us (n+(Z9 us n vs m s).1.length) (Z9 us n vs m s).2.1 (Z9 us n vs m s).2.2 l).2)
end
def jb:Nat->List ByteArray->P4
 |_,[]=>[]
 |m,n::l=>(n,(m:Int))::jb (m+1) l
structure Cf where
 params:Nat
 vars:Nat
 S0:qm
def xJ(us:List Fn)(f:Fn):Cf:=
 ⟨f.J1.length,(X9 us 0 (jb 0 f.J1) f.J1.length f.J0).2,(X9 us 0 (jb 0 f.J1) f.J1.length f.J0).1++[((1,0),0),((18,0),1)]⟩
def Jk(us:List Fn):Option (List Cf):=if us.all (λf=>decide ((xJ us f).S0.length<=4000))then some (us.map (xJ us))else none
def M8(ps:List Nat)(o:zv):Nat:=
 if o.1=1\/o.1=2\/o.1=15 then 0 else if o.1=17 then ps.getD o.2.toNat 0 else if o.1=20 then(o.2%8).toNat
 else if o.1=3\/o.1=4\/o.1=5\/o.1=6\/o.1=16\/o.1=18\/o.1=19 then 1 else 2
def Q0(o:zv):Nat:=if o.1=3\/o.1=4\/o.1=15\/o.1=16\/o.1=18\/o.1=19 then 0 else 1
def U1(k:Nat)(o:zv):List Nat:=if o.1=18 then[]else if o.1=15 then[o.2.toNat]else if o.1=16 then[k+1,o.2.toNat]else[k+1]
def xa(b nv a:Nat)(d:Int):Nat:=if d=1 then 0 else if d=2\/d=3 then nv else if d=15\/d=16 then a else if d=17 then b else if d=20 then 128 else 1
def Ys(b nv a:Nat)(o:zv):Prop:=1<=o.1/\o.1<=20/\(o.1≠1->0<=o.2/\o.2<xa b nv a o.1)/\(o.1=20->o.2%8<=6)
def yy(C:qm)(k h:Nat):Prop:= ∃o,C[k]?=some (o,h)
def zeL(ps:List Nat)(nv:Nat)(C:qm)(k:Nat)(o:zv)(h:Nat):Prop:=
 Ys ps.length nv C.length o/\M8 ps o<=h/\h-M8 ps o+Q0 o<=256/\ ∀j∈U1 k o,yy C j (h-M8 ps o+Q0 o)
def qq(ps:List Nat)(nv:Nat)(C:qm)(lo hi:Nat):Prop:= ∀k,lo<=k->k<hi-> ∃o h,C[k]?=some (o,h)/\zeL ps nv C k o h
def xt(C:qm)(n:Nat)(L:qm):Prop:= ∀i x,L[i]?=some x->C[n+i]?=some x
section
variable {ps:List Nat}{nv:Nat}{C L L':qm}{n lo hi mid k h:Nat}{o:zv}{x:zv×Nat}
theorem xt.qv(hs:xt C n (L++L')):xt C n L/\xt C (n+L.length) L':=by
 refine⟨λi x hi=>hs i x ?_,λi x hi=>?_⟩
 ·have:i<L.length:=by rcases E0 i L.length with h|h;exact h;rw[C5 h]at hi;cases hi
  rw[List.getElem?_append_left this];exact hi
 ·have:=hs (L.length+i) x (by rw[List.getElem?_append_right (by omega)];simpa using hi)
  rwa [<-Nat.add_assoc]at this
theorem xt.cons(hs:xt C n (x::L)):C[n]?=some x/\xt C (n+1) L:=by
 refine⟨by simpa using hs 0 x rfl,λi y hi=>?_⟩;have:=hs (i+1) y (by simpa using hi)
 rwa [show n+(i+1)=n+1+i by omega]at this
theorem qq.ye(a:qq ps nv C lo mid)(b:qq ps nv C mid hi):qq ps nv C lo hi:=λk c d=>by
 rcases E0 k mid with h|h
 ·exact a k c h
 ·exact b k h d
theorem qq.none:qq ps nv C lo lo:=λk a b=>by omega
theorem qq.zk(a:C[k]?=some (o,h))(hs:zeL ps nv C k o h):qq ps nv C k (k+1):=λj b c=>by
 obtain rfl:j=k:=by omega
 exact⟨o,h,a,hs⟩
theorem yy.Xp(hs:xt C n L)(a: ∃o l,L=(o,h)::l):yy C n h:=by
 obtain⟨o,l,rfl⟩:=a;exact⟨o,hs.cons.1⟩
end
end Go.Proofs.YtmngofgminlloaaGreatDoor
