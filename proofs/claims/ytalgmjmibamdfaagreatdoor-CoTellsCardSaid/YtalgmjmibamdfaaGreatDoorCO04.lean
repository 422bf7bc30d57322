/- Merged. -/
import Derived.Test.YtalgmjmibamdfaaGreatDoorCO03b
import Derived.Test.YtalgmjmibamdfaaGreatDoorCards
import Derived.Test.YtalgmjmibamdfaaGreatDoorTie
import Derived.ProofKit
import Derived.OpenShut
import Derived.ShutString
import Derived.LaidMore
import Derived.Lay
import Derived.HandedShaped
import Derived.Stop.LaidErr
import Derived.Lib.LaidU8
import Derived.Deep.RegionHeld2
set_option linter.all false
set_option maxHeartbeats 16000000
set_option maxRecDepth 100000
namespace Go.Proofs.YtalgmjmibamdfaaGreatDoor
open Go.Proofs.Tryz
open Go.RowKit Tw
theorem I7{w:World}{b:Nat}{o:Obj}(h:w.heap[b]?=some o):b<w.heap.size:=(Array.getElem?_eq_some_iff.1 h).1
theorem zkm{w:World}{b T:Nat}{u:List Value}(h:w.heap[b]?=some (.cells ⟨u⟩ T (0,0))):(∀j,w.cell? ⟨b,j,none⟩=u[j]?)/\ ∀j,w.frozen? ⟨b,j,none⟩=false:=⟨λj=>by rw[y5 h];simp,B4 h⟩
theorem Z1{w:World}{b T n:Nat}{u:List Value}{x:Value}(h:w.heap[b]?=some (.cells ⟨u⟩ T (0,0))):(w.setCell ⟨b,n,none⟩ x).heap[b]?=some (.cells ⟨u.set n x⟩ T (0,0)):=by
 have:=z5 w b n _ _ x h;simpa using this
theorem N6{w:World}{b T:Nat}{a:Array Value}(h:w.heap[b]?=some (.cells a T (0,0))):(∀j,w.cell? ⟨b,j,none⟩=a[j]?)/\ ∀j,w.frozen? ⟨b,j,none⟩=false:=⟨y5 h,B4 h⟩
theorem jw.zM{w:World}{B:Nat}{v:Value}{ws:List Wd}(h:jw w B v ws): ∃A cap,v=.slice A ws.length cap/\ ∀(k:Nat)(x:Wd),ws[k]?=some x-> ∃g,A=some ⟨g,0,none⟩/\g<B/\w.cell? ⟨g,k*3,none⟩=some (.int .i64 x.N4)/\w.cell? ⟨g,k*3+1,none⟩=some (.string x.O9)/\w.cell? ⟨g,k*3+2,none⟩=some (.int .i64 x.pos):=by
 rcases h with⟨rfl,rfl⟩|⟨g,cap,rfl,d,a⟩
 ·exact⟨none,0,rfl,λk x b=>by simp at b⟩
 ·refine⟨_,cap,rfl,λk x b=>⟨g,rfl,d,?_⟩⟩
  have:=zbV ws k x b;exact⟨a _ _ this.1,a _ _ this.2.1,a _ _ this.2.2⟩
theorem jw.qn{w w':World}{B:Nat}{v:Value}{ws:List Wd}(h:jw w B v ws)(d: ∀k,k<B->w'.heap[k]?=w.heap[k]?):jw w' B v ws:=by
 rcases h with h|⟨g,a,e,b,f⟩
 ·exact .inl h
 ·exact .inr ⟨g,a,e,b,λj u l=>(E9 (d g b)).trans (f j u l)⟩
theorem K7{w w':World}(h:Below w.heap.size w w')(r:Option Nat):w.grownBy w' r:=⟨h.os,h.tape,h.output,h.size,λk a _=>h.block k a⟩
theorem J2(w:World)(a j:Nat)(u:Value):w.grownBy (w.setCell ⟨a,j,none⟩ u) (some a):=
 ⟨rfl,rfl,rfl,by simp,λk _ b=>G0 w ⟨a,j,none⟩ u k (λe=>b (by simp[e]))⟩
theorem K8{w w' a:World}{r:Option Nat}(h:w.grownBy w' r)(k:w'.grownBy a r):w.grownBy a r:=
 ⟨k.os.trans h.os,k.tape.trans h.tape,k.output.trans h.output,C4 h.size k.size,λj b d=>(k.block j (z6 b h.size) d).trans (h.block j b d)⟩
theorem zb5{w w' a:World}{r:Option Nat}{row:Option Nat}(h:w.grownBy w' r)(k:w'.grownBy a row)(d: ∀k,row=some k->w.heap.size<=k):w.grownBy a r:=
 ⟨k.os.trans h.os,k.tape.trans h.tape,k.output.trans h.output,C4 h.size k.size,λj b f=>(k.block j (z6 b h.size) (λe=>by have:=d j e.symm;omega)).trans (h.block j b f)⟩
theorem YF{n:String}{g:Nat}{k:IntKind}{zs:List Int}{w w':World}(a:Tryz.prog.globalNamed n=some g)(h:Lib.TabIs prog w n k zs)(b:w'.heap[g]?=w.heap[g]?):Lib.TabIs prog w' n k zs:=by
 unfold Lib.TabIs World.var? at h|-
 rw[a]at h|-
 simp only[Option.bind_some]at h|-
 rw[b];exact h
theorem U2.qn{w w':World}(h:U2 w)(b:w.heap.size<=w'.heap.size)(a: ∀g,g<=10->w'.heap[g]?=w.heap[g]?):U2 w' where
 maxLen:=by
  obtain⟨m,d⟩:=h.maxLen;exact⟨m,(E9 (a _ (by decide))).trans d⟩
 zaW:=by
  obtain⟨⟨e,f,k⟩,l,n,o⟩:=h.zaW;exact⟨⟨e,(E9 (a _ (by decide))).trans f,k⟩,l,(E9 (a _ (by decide))).trans n,o⟩
 pow:=YF (g:=1) (by kernel_rfl) h.pow (a _ (by decide))
 spc:=YF (g:=0) (by kernel_rfl) h.spc (a _ (by decide))
 Jv:=z6 h.Jv b
theorem U2.of{w w':World}{a:Nat}(h:U2 w)(b:w.grownBy w' (some a))(e:10<a):U2 w':=
 h.qn b.size λg d=>b.block g (Nat.lt_of_le_of_lt d h.Jv) (by simp;omega)
structure Cx where
 rb:Nat
 v:Value
 ws:List Wd
 en:Nat
structure Rd(p:Bool)(c:Cx)(w:World)(i:Nat):Prop where
 K3:w.heap[c.rb]?=some (.cells (bif p then#[c.v,.int .i64 i,.int .i64 c.en]else#[c.v,.int .i64 i,.int .i64 c.en,.bool false]) (bif p then 116 else 138) (0,0))
 row:jw w c.rb c.v c.ws
 len:c.ws.length<=4000
 pos:i<=c.ws.length
inductive Ob where
 |b (n:Nat) (u:List Value) (T:Nat)|r (T sz:Nat) (v:Value) (n:Nat) (cs:List Value)
def Ob.id:Ob->Option Nat
 |.b n _ _=>some n
 |.r _ _ v _ _=>v.ownBlock
def Ob.At(w:World)(B:Nat):Ob->Prop
 |.b n u T=>w.heap[n]?=some (.cells ⟨u⟩ T (0,0))/\B<=n
 |.r T a v n d=>w.ownsRow B T a v n d
theorem Ob.At.lt{w:World}{B g:Nat}{o:Ob}(h:o.At w B)(e:o.id=some g):B<=g/\g<w.heap.size:=by
 cases o with
 |b=>cases e;exact⟨h.2,I7 h.1⟩
 |r=>exact World.ownsRow.lt h g e
theorem Ob.At.J0{w w':World}{B:Nat}{o:Ob}{r:Option Nat}(h:o.At w B)(a:w.grownBy w' r)(d: ∀g,o.id=some g->r≠some g):o.At w' B:=by
 cases o with
 |b n=>exact⟨(a.block n (I7 h.1) (λe=>d n rfl e.symm)).trans h.1,h.2⟩
 |r T l v=>
  refine World.ownsRow.kept h a ?_;cases f:v.ownBlock with
  |none=>exact .inl rfl
  |some k=>exact .inr λe=>d k f e.symm
section
variable {p:Bool}{c:Cx}{w w' w0:World}{i j:Nat}
theorem Rd.lt(h:Rd p c w i):c.rb<w.heap.size:=I7 h.K3
theorem Rd.grown{r:Option Nat}(h:Rd p c w i)(a:w.grownBy w' r)(b: ∀k,r=some k->c.rb<k):Rd p c w' i:=
 ⟨(a.block c.rb h.lt (λe=>by have:=b _ e.symm;omega)).trans h.K3,h.row.qn λk d=>a.block k (Nat.lt_trans d h.lt) (λe=>by have:=b _ e.symm;omega),h.len,h.pos⟩
theorem Rd.J0(h:Rd p c w i)(a:Below w.heap.size w w'):Rd p c w' i:=h.grown (K7 a none) (by simp)
theorem Rd.zek(h:Rd p c w i)(j:Nat)(a:j<=c.ws.length):Rd p c (w.setCell ⟨c.rb,1,none⟩ (.int .i64 j)) j:=
 ⟨by have:=z5 w c.rb 1 _ _ (.int .i64 j) h.K3;cases p<;>simpa using this,h.row.qn λk b=>G0 w ⟨c.rb,1,none⟩ _ k (by simp;omega),h.len,a⟩
structure Fr(p:Bool)(c:Cx)(w0 w:World)(i:Nat)(os:List Ob)(ps:List zU):Prop where
 rd:Rd p c w i
 gl:U2 w
 gr:w0.grownBy w (some c.rb)
 r0:10<c.rb
 z0:c.rb<w0.heap.size
 ob: ∀(m:Nat) o,os[m]?=some o->o.At w w0.heap.size
 nd: ∀(m m':Nat) o o' g,os[m]?=some o->os[m']?=some o'->o.id=some g->o'.id=some g->m=m'
 pt: ∀t∈ps,t.At w λg=>w0.heap.size<=g/\ ∀(m:Nat) o,os[m]?=some o->o.id≠some g
variable {os:List Ob}{ps:List zU}
theorem Fr.start(h:Rd p c w i)(a:U2 w)(b:10<c.rb):Fr p c w w i [] []:=
 ⟨h,a,K7 (y7 _ _) _,b,h.lt,by simp,by simp,by simp⟩
theorem Fr.jN(h:Fr p c w0 w i os ps)(f:Rd p c w' j)(a:w.grownBy w' (some c.rb)):Fr p c w0 w' j os ps:=
 have k:=h.z0
 ⟨f,h.gl.of a h.r0,K8 h.gr a,h.r0,k,λm o e=>(h.ob m o e).J0 a λg l n=>by cases n;have:=((h.ob m o e).lt l).1;omega,h.nd,
  λt q=>(h.pt t q).J0 λg b d=>⟨b,z6 d a.size,a.block g d (by have:=b.1;simp;omega)⟩⟩
theorem Fr.below(h:Fr p c w0 w i os ps)(a:Below w.heap.size w w'):Fr p c w0 w' i os ps:=h.jN (h.rd.J0 a) (K7 a _)
theorem Fr.bd(h:Fr p c w0 w i os ps)(a:Below w.drew.heap.size w.drew w'):Fr p c w0 w' i os ps:=h.below ⟨a.os,a.tape,a.output,a.size,a.block⟩
theorem Fr.drewN{n:Nat}(h:Fr p c w0 w i os ps):Fr p c w0 (w.drewN n) i os ps:=h.below (J9 (y7 _ _) n)
theorem Fr.inc(h:Fr p c w0 w i os ps)(hi:i<c.ws.length):Fr p c w0 (w.setCell ⟨c.rb,1,none⟩ (.int .i64 ((i:Int)+1))) (i+1) os ps:=h.jN (h.rd.zek (i+1) hi) (J2 _ _ _ _)
theorem Fr.add{t:zU}(h:Fr p c w0 w i os ps)(b:Rd p c w' j)(d:w.grownBy w' (some c.rb))(f:t.At w' λg=>w.heap.size<=g):Fr p c w0 w' j os (t::ps):=by
 have H:=h.jN b d;refine{H with pt:=λs a=>?_}
 rcases List.mem_cons.1 a with rfl|a
 ·exact f.J0 λg k l=>⟨⟨C4 h.gr.size k,λm o e n=>by have:=((h.ob m o e).lt n).2;omega⟩,l,rfl⟩
 ·exact H.pt s a
theorem Fr.obj{o:Ob}(h:Fr p c w0 w i os ps)(d:Below w.heap.size w w')(n:o.At w' w0.heap.size)(hi: ∀g,o.id=some g->w.heap.size<=g):Fr p c w0 w' i (o::os) ps:=by
 have H:=h.below d;refine{H with ob:=?_,nd:=?_,pt:=λt q=>(h.pt t q).J0 λg a b=>⟨⟨a.1,λm f e=>?_⟩,z6 b d.size,d.block g b⟩}
 ·intro m f e
  cases m with
  |zero=>cases e;exact n
  |succ m=>exact H.ob m f e
 ·intro m r s u g k l a b
  cases m<;>cases r
  ·rfl
  ·cases k;have:=hi g a;have:=((h.ob _ _ l).lt b).2;omega
  ·cases l;have:=hi g b;have:=((h.ob _ _ k).lt a).2;omega
  ·rw[h.nd _ _ _ _ _ k l a b]
 ·cases m with
  |zero=>cases e;intro e;have:=hi g e;omega
  |succ m=>exact a.2 m f e
theorem Fr.jt{u:List Value}{n T:Nat}(h:Fr p c w0 w i os ps)(a:w.heap.size=n:=by first|rfl|simp):Fr p c w0 (w.alloc (.cells ⟨u⟩ T)) i (.b n u T::os) ps:=
 a▸h.obj ((y7 w.heap.size w).alloc (y6 _) _) ⟨y9 w _,h.gr.size⟩ λg e=>by cases e;exact y6 _
theorem Fr.nil(T a:Nat)(h:Fr p c w0 w i os ps):Fr p c w0 w i (.r T a (.slice none 0 0) 0 []::os) ps:=
 h.obj (y7 _ _) (G5 w _ T a) λg e=>by cases e
theorem Fr.upd(k:Nat){o o':Ob}(h:Fr p c w0 w i os ps)(n:os[k]?=some o)(f:w.grownBy w' o.id)(E:o'.At w' w0.heap.size)(hi:o'.id=o.id\/ ∀g,o'.id=some g->w.heap.size<=g):Fr p c w0 w' i (os.set k o') ps:=by
 have F:=h.z0;have G:=h.r0;have K:=h.rd.lt;have l:=λg e=>((h.ob k o n).lt (g:=g) e).1;have u:k<os.length:=(List.getElem?_eq_some_iff.1 n).1;have q: ∀(m:Nat) x,(os.set k o')[m]?=some x->(m=k/\x=o')\/(m≠k/\os[m]?=some x):=by
  intro m x e
  by_cases b:k=m
  ·subst b;rw[List.getElem?_set_self u]at e;cases e;exact .inl ⟨rfl,rfl⟩
  ·rw[List.getElem?_set_ne b]at e;exact .inr ⟨λe=>b e.symm,e⟩
 have A: ∀(m:Nat) x g,m≠k->os[m]?=some x->x.id=some g->o'.id=some g->False:=by
  intro m x g b r a d
  rcases hi with hi|hi
  ·exact b (h.nd _ _ _ _ _ r n a (hi.symm.trans d))
  ·have:=hi g d;have:=((h.ob m x r).lt a).2;omega
 refine⟨h.rd.grown f (λg e=>by have:=l g e;omega),h.gl.qn f.size λg H=>f.block g (by omega) (λe=>by have:=l g e.symm;omega),zb5 h.gr f l,G,F,?_,?_,λt I=>(h.pt t I).J0 λg s B=>⟨⟨s.1,λm x e a=>?_⟩,z6 B f.size,f.block g B λe=>s.2 k o n e.symm⟩⟩
 ·intro m x e
  rcases q m x e with⟨rfl,rfl⟩|⟨b,e⟩
  ·exact E
  ·exact(h.ob m x e).J0 f λg a d=>b (h.nd _ _ _ _ _ e n a d)
 ·intro m J x y g r a d v
  rcases q m x r with⟨rfl,rfl⟩|⟨b,C⟩<;>rcases q J y a with⟨rfl,rfl⟩|⟨z,D⟩
  ·rfl
  ·exact(A _ _ _ z D v d).elim
  ·exact(A _ _ _ b C d v).elim
  ·exact h.nd _ _ _ _ _ C D d v
 ·rcases q m x e with⟨rfl,rfl⟩|⟨-,e⟩
  ·rcases hi with hi|hi
   ·exact s.2 m o n (hi.symm.trans a)
   ·have:=hi g a;omega
  ·exact s.2 m x e a
theorem Fr.st{b n T:Nat}{u:List Value}{x:Value}(h:Fr p c w0 w i (.b b u T::os) ps):Fr p c w0 (w.setCell ⟨b,n,none⟩ x) i (.b b (u.set n x) T::os) ps:=
 h.upd (o':=.b b (u.set n x) T) 0 rfl (J2 w b n x) ⟨Z1 (h.ob 0 _ rfl).1,(h.ob 0 _ rfl).2⟩ (.inl rfl)
theorem Fr.jL{o:Ob}{b n T:Nat}{u:List Value}{x:Value}(h:Fr p c w0 w i (o::.b b u T::os) ps):Fr p c w0 (w.setCell ⟨b,n,none⟩ x) i (o::.b b (u.set n x) T::os) ps:=
 h.upd (o':=.b b (u.set n x) T) 1 rfl (J2 w b n x) ⟨Z1 (h.ob 1 _ rfl).1,(h.ob 1 _ rfl).2⟩ (.inl rfl)
theorem Fr.st2{o o':Ob}{b n T:Nat}{u:List Value}{x:Value}(h:Fr p c w0 w i (o::o'::.b b u T::os) ps):Fr p c w0 (w.setCell ⟨b,n,none⟩ x) i (o::o'::.b b (u.set n x) T::os) ps:=
 h.upd (o':=.b b (u.set n x) T) 2 rfl (J2 w b n x) ⟨Z1 (h.ob 2 _ rfl).1,(h.ob 2 _ rfl).2⟩ (.inl rfl)
theorem Fr.W8(k:Nat){T a n g cap:Nat}{v:Value}{b xs:List Value}(h:Fr p c w0 w i os ps)(d:w'.ownsRow w0.heap.size T a (.slice (some ⟨g,0,none⟩) (n+1) cap) (n+1) (b++xs))(f:w.grownBy w' v.ownBlock)(l:v.ownBlock=some g\/g=w.heap.size)(m:os[k]?=some (.r T a v n b):=by rfl):
 Fr p c w0 w' i (os.set k (.r T a (.slice (some ⟨g,0,none⟩) (n+1) cap) (n+1) (b++xs))) ps:=
 h.upd k m f d (l.imp (λe=>Eq.symm e) λe g' o=>by have:g=g':=F7 o;omega)
theorem Fr.sub{ps':List zU}(h:Fr p c w0 w i os ps)(hs: ∀t∈ps',t∈ps):Fr p c w0 w i os ps':={h with pt:=λt a=>h.pt t (hs t a)}
theorem Fr.drop{o:Ob}(h:Fr p c w0 w i (o::os) ps):Fr p c w0 w i os ps:=
 {h with ob:=λm o e=>h.ob (m+1) o e,nd:=λm b o d g f k l n=>Nat.succ.inj (h.nd (m+1) (b+1) o d g f k l n),pt:=λt q=>(h.pt t q).J0 λg a r=>⟨⟨a.1,λm o e=>a.2 (m+1) o e⟩,r,rfl⟩}
theorem Fr.XY{α:Type}(E:yz α){T d:Nat}{v:Value}{l:List α}(h:Fr p c w0 w i (.r T d v l.length (l.flatMap E.cells)::os) ps)(f: ∀a∈l,∀t∈E.qE a,t∈ps):Fr p c w0 w i os (E.Yb l v::ps):=by
 refine{h.drop with pt:=λt b=>?_}
 rcases List.mem_cons.1 b with rfl|b
 ·exact E.yD (h.ob 0 _ rfl) (λg e=>⟨((h.ob 0 _ rfl).lt (o:=.r T d v l.length (l.flatMap E.cells)) e).1,λm o k n=>I2 (h.nd 0 (m+1) _ o g rfl k e n) (by simp)⟩) λa q t b=>h.drop.pt t (f a q t b)
 ·exact h.drop.pt t b
theorem Fr.pp(h:Fr p c w0 w i os ps){t:zU}(a:t∈ps):t.At w λg=>w0.heap.size<=g:=(h.pt t a).J0 λ_ b d=>⟨b.1,d,rfl⟩
theorem Fr.f(h:Fr p c w0 w i os ps)(k:Nat){b T:Nat}{u:List Value}(a:os[k]?=some (.b b u T):=by rfl):(∀j,w.cell? ⟨b,j,none⟩=u[j]?)/\ ∀j,w.frozen? ⟨b,j,none⟩=false:=zkm (h.ob k _ a).1
theorem Fr.f2{b T b' T':Nat}{u a:List Value}(h:Fr p c w0 w i (.b b u T::.b b' a T'::os) ps):((∀j,w.cell? ⟨b,j,none⟩=u[j]?)/\ ∀j,w.frozen? ⟨b,j,none⟩=false)/\((∀j,w.cell? ⟨b',j,none⟩=a[j]?)/\ ∀j,w.frozen? ⟨b',j,none⟩=false)/\b<w.heap.size/\b'<w.heap.size/\b≠b'/\b'≠b:=
 have n:b≠b':=λe=>I2 (h.nd 0 1 _ _ b rfl rfl rfl (I1 some e.symm)) (by decide)
 ⟨h.f 0,h.f 1,I7 (h.ob 0 _ rfl).1,I7 (h.ob 1 _ rfl).1,n,n.symm⟩
theorem Fr.lt(h:Fr p c w0 w i os ps)(k:Nat){b T:Nat}{u:List Value}(a:os[k]?=some (.b b u T):=by rfl):b<w.heap.size:=I7 (h.ob k _ a).1
theorem Fr.zck(h:Fr p c w0 w i os ps)(hi:i<c.ws.length): ∃g cap,g<w.heap.size/\c.v=.slice (some ⟨g,0,none⟩) c.ws.length cap/\((∀j,w.cell? ⟨c.rb,j,none⟩=(bif p then#[c.v,.int .i64 i,.int .i64 c.en]else#[c.v,.int .i64 i,.int .i64 c.en,.bool false])[j]?)/\ ∀j,w.frozen? ⟨c.rb,j,none⟩=false)/\(0:Int)<=i/\(i:Int)<c.ws.length/\c.ws.length<=4000/\
 w.cell? ⟨g,i*3,none⟩=some (.int .i64 (O8 c.ws i))/\w.cell? ⟨g,i*3+1,none⟩=some (.string (L7 c.ws i)):=by
 obtain⟨A,cap,b,d⟩:=h.rd.row.zM;have a:=y8 hi;obtain⟨g,rfl,e,f,k,-⟩:=d i _ a;exact⟨g,cap,Nat.lt_trans e h.rd.lt,b,N6 h.rd.K3,by omega,by omega,h.rd.len,by unfold O8;rw[a];exact f,by unfold L7;rw[a];exact k⟩
theorem Fr.zem(h:Fr p c w0 w i os ps)(hi:i+1<c.ws.length): ∃g cap,g<w.heap.size/\c.v=.slice (some ⟨g,0,none⟩) c.ws.length cap/\((∀j,w.cell? ⟨c.rb,j,none⟩=(bif p then#[c.v,.int .i64 i,.int .i64 c.en]else#[c.v,.int .i64 i,.int .i64 c.en,.bool false])[j]?)/\ ∀j,w.frozen? ⟨c.rb,j,none⟩=false)/\(0:Int)<=i/\(i:Int)<c.ws.length/\c.ws.length<=4000/\
 w.cell? ⟨g,i*3,none⟩=some (.int .i64 (O8 c.ws i))/\w.cell? ⟨g,(i+1)*3+1,none⟩=some (.string (L7 c.ws (i+1)))/\(i:Int)+1<c.ws.length/\((i:Int)+1).toNat=i+1/\IntKind.i64.wrap ((i:Int)+1)=(i:Int)+1:=by
 obtain⟨g,cap,k,b,l,m,n,o,q,-⟩:=h.zck (by omega:i<c.ws.length);have d:=y8 hi;obtain⟨A,e,a,r⟩:=h.rd.row.zM;obtain⟨f,rfl,t,-,s,-⟩:=r (i+1) _ d;obtain rfl:f=g:=by rw[b]at a;cases a;rfl
 exact⟨f,cap,k,b,l,m,n,o,q,by unfold L7;rw[d];exact s,by omega,by omega,IntWalk.i64_in _ (by omega)⟩
def cpW(w:World)(b:Nat):Nat->List Value->World
 |_,[]=>w
 |k,x::l=>cpW (w.setCell ⟨b,k,none⟩ x) b (k+1) l
theorem za2{b T:Nat}: ∀(l:List Value)(k:Nat)(z:Array Value)(w:World),w.heap[b]?=some (.cells z T (0,0))->k+l.length=z.size->(cpW w b k l).heap[b]?=some (.cells ⟨z.toList.take k++l⟩ T (0,0))/\w.grownBy (cpW w b k l) (some b)
 |[],k,z,w,h,a=>⟨by rw[List.take_of_length_le (by simp at a|-;omega)];simpa[cpW]using h,K7 (y7 _ _) _⟩
 |x::l,k,z,w,h,a=>by
  have d:=z5 w b k _ _ x h;obtain⟨e,f⟩:=za2 l (k+1) _ _ d (by simp at a|-;omega);refine⟨?_,K8 (J2 w b k x) f⟩;rw[show cpW w b k (x::l)=cpW (w.setCell ⟨b,k,none⟩ x) b (k+1) l from rfl,e];have g:k<z.toList.length:=by simp at a|-;omega
  congr 2
  simp only[Array.toList_setIfInBounds];rw[List.take_add_one,List.take_set_of_le (y6 _)];simp[List.getElem?_set_self g]
theorem Fr.zef(k:Nat){b T q f:Nat}{u:List Value}{d:Array Field}{fn:Func}{a:Act}{R:Ending->World->Prop}(h:Fr p c w0 w i os ps)(e:os[k]?=some (.b b u T))
 (l:fn.results= #[.cell q f]) (m:a.tmps.getD q undef=.pointer (some ⟨b,0,none⟩)) (n:Tryz.prog.underlying f=some (.struct d)) (hi:(Tryz.prog.info? f).map (·.size)=some u.length) (hf:a.defers=[])
 (o:Rd p c w i->w0.grownBy w (some c.rb)->(∀t∈ps,t.At w λg=>w0.heap.size<=g)->R (.returned (.agg ⟨u⟩)) w):bodyPost prog fn R .ret a w:=
 F1 (F3 l _ _ b _ _ _ _ m (h.ob k _ e).1 n rfl hi) hf (o h.rd h.gr λ_ r=>h.pp r)
theorem Fr.XU(e n:Nat){f o T q l:Nat}{z u:List Value}{d:Array Field}{fn:Func}{a:Act}{R:Ending->World->Prop}(h:Fr p c w0 w i os ps)(k:os[e]?=some (.b f z T))(C:os[n]?=some (.b o u T))(r:u.length=z.length)
 (s:fn.results= #[.cell q l]) (v:a.tmps.getD q undef=.pointer (some ⟨f,0,none⟩)) (x:Tryz.prog.underlying l=some (.struct d)) (hi:(Tryz.prog.info? l).map (·.size)=some u.length) (hf:a.defers=[])
 (y:cpW w f 0 u=w')
 (A:Rd p c w' i->w0.grownBy w' (some c.rb)->(∀t∈ps,t.At w' λg=>w0.heap.size<=g)->R (.returned (.agg ⟨u⟩)) w'):bodyPost prog fn R .ret a w':=by
 subst y;obtain⟨m,B⟩:=za2 u 0 ⟨z⟩ w (h.ob e _ k).1 (by simpa using r);simp only[List.take_zero,C0]at m;exact(h.upd (o':=.b f u T) e k B ⟨m,(h.ob e _ k).2⟩ (.inl rfl)).zef e (List.getElem?_set_self (List.getElem?_eq_some_iff.1 k).1) s v x hi hf A
def Giv(p:Bool)(c:Cx)(f:Nat)(a:Array Value)(u:Value)(i j:Nat):Prop:=
 ∀w,Rd p c w i->Calls prog f a w λe w'=>e=.returned u/\Rd p c w' j/\w.grownBy w' (some c.rb)
theorem Fr.ca{f:Nat}{a:Array Value}{u:Value}{Q:Ending->World->Prop}(h:Fr p c w0 w i os ps)(g:Giv p c f a u i j)(k: ∀w',Hid (Fr p c w0 w' j os ps)->Q (.returned u) w'):Calls prog f a w Q:=
 (g w h.rd).mono λ_ w' ⟨e,b,d⟩=>e▸k w' (h.jN b d)
def zdh(p:Bool)(c:Cx)(f:Nat)(a:Array Value)(V:Value->Value)(P:Value->zU)(n i j:Nat):Prop:=
 ∀w,Rd p c w i->U2 w->Calls prog f a w λe w'=> ∃A m,e=.returned (V (.slice A n m))/\(P (.slice A n m)).At w' (λg=>w.heap.size<=g)/\Rd p c w' j/\w.grownBy w' (some c.rb)
theorem Fr.cx{f n:Nat}{a:Array Value}{V:Value->Value}{P:Value->zU}{Q:Ending->World->Prop}(h:Fr p c w0 w i os ps)(g:zdh p c f a V P n i j)(k: ∀A m w',Hid (Fr p c w0 w' j os (P (.slice A n m)::ps))->Q (.returned (V (.slice A n m))) w'):Calls prog f a w Q:=
 (g w h.rd h.gl).mono λ_ w' ⟨A,m,e,b,d,l⟩=>e▸k A m w' (h.add d l b)
end
section
variable {p:Bool}{c:Cx}{w:World}{i:Nat}
theorem JY{ws:List Wd}{i:Nat}{s:ByteArray}(h:M0 ws i s=true):i<ws.length:=by
 unfold M0 at h
 rcases E5 i ws.length with a|a
 ·exact a
 ·rw[D6 a]at h;cases h
theorem ziv(h:Rd p c w i):Calls prog (bif p then 89 else 65) #[.pointer (some ⟨c.rb,0,none⟩)] w λe w'=>e=.returned (.int .i64 (N2 c.ws i c.en))/\Below w.heap.size w w':=by
 obtain⟨n,v,b,en⟩:=c;obtain⟨A,l,m,a⟩:=h.row.zM;have F:=N6 h.K3;have o:=h.len;have q:=h.pos;clear h;simp only at*;subst m
 by_cases j:i<b.length
 ·obtain⟨x,k⟩: ∃x,b[i]?=some x:=⟨_,y8 j⟩
  obtain⟨g,rfl,r,d⟩:=a i x k;have f:N2 b i en=x.pos:=by unfold N2;rw[k]
  rw[f];have s:(0:Int)<=(i:Int):=by omega
  have t:(i:Int)<(b.length:Int):=by omega
  clear k f a;cases p
  all_goals
   simp only[cond]at*
   go_in
   go_wp2_with fail
   go_quiet (fail)
   go_wp2_with fail
   go_quiet (fail)
   go_wp2_with fail
   go_ret;exact⟨rfl,J9 (J9 (y7 _ _) _) _⟩
 ·have f:N2 b i en=en:=by unfold N2;rw[D6 (by omega)]
  rw[f];have u:i=b.length:=by omega
  clear f a;cases p
  all_goals
   simp only[cond]at*
   go_in
   go_wp2_with fail
   go_quiet (fail)
   go_wp2_with fail
   go_ret;exact⟨rfl,J9 (y7 _ _) _⟩
theorem XO:Giv p c (bif p then 89 else 65) #[.pointer (some ⟨c.rb,0,none⟩)] (.int .i64 (N2 c.ws i c.en)) i i:=
 λ_ h=>(ziv h).mono λ_ _ ⟨e,a⟩=>⟨e,h.J0 a,K7 a _⟩
theorem Jz{ws:List Wd}{i:Nat}{s:ByteArray}(hs:s.data.toList≠[]):M0 ws i s=((L7 ws i).toList==s.toList):=by
 rw[<-E0]at hs;unfold M0 L7;cases ws[i]? with
 |some x=>rfl
 |none=>
  symm
  rw[B0];intro h;apply hs;rw[<-h];simp[E0]<;>rfl
theorem zaJ:Giv true c 124 #[.pointer (some ⟨c.rb,0,none⟩)] (.string (L7 c.ws i)) i i:=by
 obtain⟨n,v,b,o⟩:=c;intro w h;obtain⟨A,l,m,a⟩:=h.row.zM;have F:=N6 h.K3;have q:=h.len;have r:=h.pos;have k:=zh h;clear h;simp only[cond]at*;subst m
 by_cases f:i<b.length
 ·obtain⟨x,j⟩: ∃x,b[i]?=some x:=⟨_,y8 f⟩
  obtain⟨g,rfl,s,d⟩:=a i x j;have e:L7 b i=x.O9:=by unfold L7;rw[j]
  rw[e];have t:(0:Int)<=(i:Int):=by omega
  have u:(i:Int)<(b.length:Int):=by omega
  clear j e a
  go_in
  go_wp2_with fail
  go_quiet (fail)
  go_wp2_with fail
  go_quiet (fail)
  go_wp2_with fail
  go_ret;exact⟨rfl,k.out.J0 (J9 (J9 (y7 _ _) _) _),K7 (J9 (J9 (y7 _ _) _) _) _⟩
 ·have e:L7 b i=⟨#[]⟩:=by unfold L7;rw[D6 (by omega)]
  rw[e];have y:i=b.length:=by omega
  clear e a
  go_in
  go_wp2_with fail
  go_quiet (fail)
  go_wp2_with fail
  go_ret;exact⟨rfl,k.out.J0 (J9 (y7 _ _) _),K7 (J9 (y7 _ _) _) _⟩
theorem zf9(s:ByteArray)(t:Bool)(f:M0 c.ws i s=t):Giv false c 116 #[.pointer (some ⟨c.rb,0,none⟩),.string s] (.bool t) i i:=by
 obtain⟨o,v,b,q⟩:=c;intro w h;obtain⟨A,m,n,a⟩:=h.row.zM;have F:=N6 h.K3;have r:=h.len;have u:=h.pos;have l:=zh h;clear h;simp only[cond]at*;subst n
 by_cases j:i<b.length
 ·obtain⟨x,k⟩: ∃x,b[i]?=some x:=⟨_,y8 j⟩
  obtain⟨g,rfl,y,d⟩:=a i x k;have e:M0 b i s=(x.O9.toList==s.toList):=by unfold M0;rw[k]
  rw[e]at f;have z:(0:Int)<=(i:Int):=by omega
  have B:(i:Int)<(b.length:Int):=by omega
  clear k e a
  go_in
  go_wp2_with fail
  go_quiet (fail)
  go_wp2_with fail
  go_ret;exact⟨by first|rfl|rw[f],l.out.J0 (J9 (y7 _ _) _),K7 (J9 (y7 _ _) _) _⟩
 ·have e:M0 b i s=false:=by unfold M0;rw[D6 (by omega)]
  rw[e]at f;subst f;have C:i=b.length:=by omega
  clear e a
  go_in
  go_wp2_with fail
  go_quiet (fail)
  go_wp2_with fail
  go_ret;exact⟨rfl,l.out.J0 (J9 (y7 _ _) _),K7 (J9 (y7 _ _) _) _⟩
theorem zcZ(s:ByteArray)(t:Bool)(f:M0 c.ws i s=t)(hs:s.data.toList≠[]):Giv p c (bif p then 92 else 68) #[.pointer (some ⟨c.rb,0,none⟩),.string s] (.bool t) i (bif t then i+1 else i):=by
 intro w h;have b:t=true->i<c.ws.length:=λe=>by subst e;exact JY f
 have a:=zh h;have l:=zh b;have g:=zh f;have m:=zh (Jz (ws:=c.ws) (i:=i) hs);clear h b f hs;cases p
 all_goals
  simp only[cond]
  go_in
  go_wp2_with fail
  have n:=m.out.symm.trans g.out
  first|refine(zf9 s t g.out _ a.out).mono ?_|refine(zaJ _ a.out).mono ?_
  generalize L7 c.ws i=q at n|-
  rintro e r ⟨rfl,d,j⟩;have F:=N6 d.K3;have u:=d.len;replace a:=zh d;have k:=zh j;clear d j;cases t
  ·go_wp2_with fail
   go_ret;exact⟨rfl,a.out,k.out⟩
  ·have b:=l.out rfl
   go_wp2_with fail
   go_ret;exact⟨rfl,a.out.zek (i+1) b,K8 k.out (J2 _ _ _ _)⟩
theorem zm{s:ByteArray}(a:M0 c.ws i s=true)(hs:s.data.toList≠[]:=by decide):Giv p c (bif p then 92 else 68) #[.pointer (some ⟨c.rb,0,none⟩),.string s] (.bool true) i (i+1):=zcZ s true a hs
theorem zL{s:ByteArray}(a:M0 c.ws i s=false)(hs:s.data.toList≠[]:=by decide):Giv p c (bif p then 92 else 68) #[.pointer (some ⟨c.rb,0,none⟩),.string s] (.bool false) i i:=zcZ s false a hs
theorem V9{s:ByteArray}(a:M0 c.ws i s=true)(hs:s.data.toList≠[]:=by decide):Giv p c (bif p then 90 else 66) #[.pointer (some ⟨c.rb,0,none⟩),.string s] (.tuple #[]) i (i+1):=by
 intro w h;have f:=zh (zm (p:=p) a hs w h);clear h a hs;cases p
 all_goals
  simp only[cond]at*
  go_in
  go_wp2_with fail
  refine f.out.mono ?_;rintro e k ⟨rfl,b,d⟩;have g:=zh b;have j:=zh d;clear b d
  go_wp2_with fail
  go_end0;exact⟨rfl,g.out,j.out⟩
theorem yK{ws:List Wd}{i k:Nat}(a:O8 ws i=k)(d:k≠0):i<ws.length:=by
 rcases E5 i ws.length with b|b
 ·exact b
 ·unfold O8 at a;rw[D6 b]at a;exact I2 a.symm d
theorem zW(k:Nat)(b:O8 c.ws i=k)(e:k≠0:=by decide):Giv p c (bif p then 91 else 67) #[.pointer (some ⟨c.rb,0,none⟩),.int .i64 k] (.string (L7 c.ws i)) i (i+1):=by
 obtain⟨rb,v,f,t⟩:=c;intro w h;obtain⟨A,o,q,a⟩:=h.row.zM;have F:=N6 h.K3;have u:=h.len;have y:=h.pos;have r:=zh h;clear h;simp only at*;subst q;have j:=yK b e;obtain⟨x,l⟩: ∃x,f[i]?=some x:=⟨_,y8 j⟩;obtain⟨g,rfl,z,d⟩:=a i x l;have m:L7 f i=x.O9:=by unfold L7;rw[l]
 rw[m];obtain rfl:x.N4=k:=by unfold O8 at b;rw[l]at b;exact b
 have B:(((x.N4:Nat):Int) !=((x.N4:Nat):Int))=false:=by simp
 have C:((i:Int)==(f.length:Int))=false:=beq_eq_false_iff_ne.2 (by omega);have D:(0:Int)<=(i:Int):=by omega
 have E:(i:Int)<(f.length:Int):=by omega
 clear b a l m e;cases p
 all_goals
  simp only[cond]at*
  go_in
  go_wp2_with fail
  go_quiet (fail)
  go_wp2_with fail
  have s:g≠rb:=by omega
  have n:rb≠g:=by omega
  have G:(0:Int)<=(i:Int)+1-1:=by omega
  have H:(i:Int)+1-1<(f.length:Int):=by omega
  have I:((i:Int)+1-1)=(i:Int):=by omega
  go_quiet (fail)
  go_wp2_with fail
  go_ret;exact⟨rfl,((r.out.J0 (J9 (y7 _ _) _)).zek (i+1) j).J0 (J9 (y7 _ _) _),K8 (K8 (K7 (J9 (y7 _ _) _) _) (J2 _ rb 1 _)) (K7 (J9 (y7 _ _) _) _)⟩
theorem zbl(d:zb7 c.ws i):Giv p c (bif p then 93 else 69) #[.pointer (some ⟨c.rb,0,none⟩)] (.int .i64 1) i (i+2):=by
 intro w h;have j:=zh (V9 (p:=p) d.1 (by decide) w h);have k:=zh d;clear h d;cases p
 all_goals
  simp only[cond]at*
  go_in
  go_wp2_with fail
  refine j.out.mono ?_;rintro e l ⟨rfl,a,b⟩;have f:=zh a;have g:=zh b;clear a b
  go_wp2_with fail
  refine(zm k.out.2 (by decide) _ f.out).mono ?_;rintro e m ⟨rfl,a,b⟩;replace f:=zh a;replace g:=zh (K8 g.out b);clear a b
  go_wp2_with fail
  go_ret;exact⟨rfl,f.out,g.out⟩
end
def zdf(p:Bool)(c:Cx)(f:Nat)(a:Array Value)(x:Ex)(i j:Nat):Prop:=
 zdh p c f a (λv=>.agg #[.int .i64 x.N4,.int .i64 x.n,.string x.O9,v,.int .i64 x.pos]) (.a x.args) x.args.length i j
def QJ(c:Cx)(n i:Nat):Prop:= ∀x j,De c.ws c.en (.xg n i) (.ex x j)->zdf false c 151 #[.pointer (some ⟨c.rb,0,none⟩),.int .i64 n] x i j
def zcW(c:Cx)(i:Nat):Prop:= ∀x j,De c.ws c.en (.Y0 i) (.ex x j)->zdf false c 185 #[.pointer (some ⟨c.rb,0,none⟩)] x i j
def zgr(c:Cx)(i:Nat):Prop:= ∀l j,De c.ws c.en (.args 0 i) (.JO l j)->zdh false c 207 #[.pointer (some ⟨c.rb,0,none⟩)] (λv=>v) (.a l) l.length i j
def XA(c:Cx)(m i:Nat):Prop:= ∀x j,Dc c.ws c.en (.xg m i) (.ex x j)->zdf true c 155 #[.pointer (some ⟨c.rb,0,none⟩),.int .i64 m] x i j
def UnC(c:Cx)(i:Nat):Prop:= ∀x j,Dc c.ws c.en (.Y0 i) (.ex x j)->zdf true c 190 #[.pointer (some ⟨c.rb,0,none⟩)] x i j
def AtC(c:Cx)(i:Nat):Prop:= ∀x j,Dc c.ws c.en (.Y0 i) (.ex x j)->T1 c.ws i≠1->T1 c.ws i≠2->zdf true c 208 #[.pointer (some ⟨c.rb,0,none⟩)] x i j
def zhg(c:Cx)(i:Nat):Prop:= ∀l j,Dc c.ws c.en (.args 0 i) (.JO l j)->zdh true c 214 #[.pointer (some ⟨c.rb,0,none⟩)] (λv=>v) (.a l) l.length i j
theorem zE:(Tryz.prog.info? 172).map (·.size)=some 5:=by kernel_rfl
def sgs:List ByteArray:=[Xp,zbC,jG,zc7,zaR,zd2]
theorem hqs{ws:List Wd}{i k:Nat}(h:T1 ws i=k):(∀s:ByteArray,s.data∈(sgs.take (k-1)).map (·.data)->M0 ws i s=false)/\(∀s,sgs[k-1]?=some s->k≠0->M0 ws i s=true)/\(k=7->O8 ws i=1)/\(k=8->O8 ws i=2):=by
 have b: ∀{s:ByteArray}{l:List ByteArray},s.data∈l.map (·.data)->s∈l:=λh=>by obtain⟨t,d,e⟩:=List.mem_map.1 h;cases t;cases e;exact d
 have a:(∀s∈sgs.take (k-1),M0 ws i s=false)/\(∀s,sgs[k-1]?=some s->k≠0->M0 ws i s=true)/\(k=7->O8 ws i=1)/\(k=8->O8 ws i=2):=by
  clear b;unfold T1 at h
  repeat' split at h
  all_goals(subst h;simp_all[sgs])
 exact⟨λs f=>a.1 s (b f),a.2⟩
def qd(ws:List Wd):Prop:= ∀x∈ws,x.N4=1->x.O9.size<=18
theorem yT{ws:List Wd}{i:Nat}(b:qd ws)(h:O8 ws i=1):(L7 ws i).size<=18:=by
 unfold O8 at h;unfold L7;cases a:ws[i]? with
 |none=>decide
 |some x=>rw[a]at h;exact b x (B7 a) h
theorem zix(s:ByteArray)(hs:s.size<=18)(w:World)(b:U2 w):Calls prog 206 #[.string s] w λe w'=>(∃d,e=.returned (.tuple #[.int .i64 (Zu s),d]))/\Below w.heap.size w w':=by
 cases h:Lib.atoi s.data.toList with
 |some n=>
  rw[show Zu s=n by unfold Zu;rw[h];rfl];refine(Tryz.strconv_Atoi s n hs h w).mono ?_;rintro e w' ⟨rfl,t,rfl⟩;exact⟨⟨_,rfl⟩,Lib.bytesWorld_below _ _ _⟩
 |none=>
  rw[show Zu s=0 by unfold Zu;rw[h];rfl];obtain⟨⟨f,g,a⟩,_⟩:=b.zaW;refine(Tryz.strconv_Atoi_err s hs h f w g a).mono ?_;rintro e w' ⟨N,rfl,_,_,k⟩;exact⟨⟨_,rfl⟩,k⟩
section
variable {p:Bool}{c:Cx}{w w' w0:World}{i j:Nat}{os:List Ob}{ps:List zU}
theorem Fr.num{s:ByteArray}{Q:Ending->World->Prop}(h:Fr p c w0 w i os ps)(hs:s.size<=18)(k: ∀a w',Hid (Fr p c w0 w' i os ps)->Q (.returned (.tuple #[.int .i64 (Zu s),a])) w'):Calls prog 206 #[.string s] w Q:=
 (zix s hs w h.gl).mono λ_ w' ⟨⟨a,e⟩,b⟩=>e▸k a w' (h.below b)
theorem Fr.Zz(h:Fr p c w0 w i os ps):Fr p c w0 w i os (.a [] (.slice none 0 0)::ps):={h with pt:=λt b=>by rcases List.mem_cons.1 b with rfl|b;exact .nil _ _;exact h.pt t b}
theorem Fr.zjm{l:List (Ex×Value)}{n:Nat}{d:Array Value}(h:Fr p c w0 w i os ps)(f:d.toList=l.flatMap zK.cells)(g: ∀a∈l,.a a.1.args a.2∈ps)(k:w.heap.size=n):Fr p c w0 (w.alloc (.cells d 172)) i os (.a (l.map (·.1)) (.slice (some ⟨n,0,none⟩) l.length l.length)::ps):=by
 subst k;have q:=(y7 w.heap.size w).alloc (y6 _) (.cells d 172);have H:=h.below q;refine{H with pt:=λt b=>?_}
 rcases List.mem_cons.1 b with rfl|b
 ·exact zK.laid _ _ w.heap.size l.length l ⟨h.gr.size,λm o e r=>by have:=((h.ob m o e).lt r).2;omega⟩ (by simp) (λj u s=>by rw[y5 (y9 w _) j,<-s,<-f];simp) λa v t b=>by
   obtain rfl:t=.a a.1.args a.2:=by simpa[zK]using b
   exact H.pt _ (g a v)
 ·exact H.pt _ b
theorem Fr.zgd{x:Ex}{v:Value}{n:Nat}(h:Fr p c w0 w i os (.a x.args v::ps))(b:w.heap.size=n:=by first|rfl|simp):Fr p c w0 (w.alloc (.cells #[.int .i64 x.N4,.int .i64 x.n,.string x.O9,v,.int .i64 x.pos] 172)) i os (.a [x] (.slice (some ⟨n,0,none⟩) 1 1)::ps):=
 (h.zjm (l:=[(x,v)]) rfl (by simp) b).sub (by simp+contextual)
theorem Fr.zgj{x y:Ex}{v u:Value}{n:Nat}(h:Fr p c w0 w i os (.a y.args u::.a x.args v::ps))(b:w.heap.size=n:=by first|rfl|simp):Fr p c w0 (w.alloc (.cells #[.int .i64 x.N4,.int .i64 x.n,.string x.O9,v,.int .i64 x.pos,.int .i64 y.N4,.int .i64 y.n,.string y.O9,u,.int .i64 y.pos] 172)) i os [.a [x,y] (.slice (some ⟨n,0,none⟩) 2 2)]:=
 (h.zjm (l:=[(x,v),(y,u)]) rfl (by simp) b).sub (by simp)
end
theorem J5(w:World):Below w.heap.size w w.drew:=(y7 _ _).drew
end Go.Proofs.YtalgmjmibamdfaaGreatDoor
namespace Go.Proofs.YtalgmjmibamdfaaGreatDoor.K
open Go.Proofs.Tryz
open Go.RowKit
section
open Go.Proofs.Tryz
open Go Go.ChangeShapes Go.WideShapes Go.ChangeAt Go.RowKit
open Go.ChangeMaps (open_string shut_string)
theorem yD:ownKnob Tryz.prog.godebug=none:=by kernel_rfl
theorem yB{H:Type}{enc:TypeId×Value->H}{a:Assume}{C:Checked}{os:Os}{f:FuncId}{fn:Func}{s:ChangeSpec}{h:List PathCond}{b l g m:Bool}{X:World->Array Value->Prop}
 (I: ∀(w w':World)(args:Array Value),w.heap=w'.heap->X w args->X w' args)
 (yD:ownKnob C.prog.godebug=none) (n:os.Started) (p:C.prog.inits.idxOf? f=none) (z:C.prog.funcs[f]?=some fn)
 (o: ∃(w:World)(c:Tape)(i:Input),w.os=os/\(w.forCall c i).Shaped C.prog/\i.vars=[]/\Input.okWide C.prog (w.forCall c i) .any w.heap.size f i/\
  ((s.pre enc C.prog fn h b (w.forCall c i).memory i.args/\X (w.forCall c i).memory i.args)/\sizedMet enc C.prog fn (OpenSpec.ofChange s) b (w.forCall c i).memory i.args)/\a.holds C.prog (lone (Frame.enter C.prog f i.args .normal) [] (w.forCall c i)))
 (k: ∀(W:World)(base:Nat)(args:Array Value)(q r:List (DataW H))(d:List MemPlace),
  (∀(j:Nat) t v,fn.params[j]?=some t->args[j]?=some v->Value.okWide C.prog W .any base t v)->
  DataW.Whole enc C.prog fn.params.toList s.vars b W args.toList q r d->
  h.all (PathCond.test C.prog ⟨fn.params.toList,q,s.plain.varTypes C.prog,r⟩)=true->
  (DataW.weightsEach C.prog (fn.params.toList++s.plain.varTypes C.prog) (q++r)).all (· <=reachBytes)=true->X W args->W.ShapedOpen C.prog->
  Calls C.prog f args W λe F=> ∃v,e=.returned v/\s.post enc C.prog fn b l g m W args v F):
 ReturnsInHanded a C os f .any (λw args=>(s.pre enc C.prog fn h b w args/\X w args)/\sizedMet enc C.prog fn (OpenSpec.ofChange s) b w args) (s.post enc C.prog fn b l g m):=by
 refine returnsInHanded_of_calls yD n p o ?_;intro w c i _ A _ B u _;obtain⟨_,_,_,D,x,_,_,_,_,y⟩:=B;have e:D=fn:=F7 (x.symm.trans z);subst e;obtain⟨⟨⟨q,r,d,G,J⟩,K⟩,L⟩:=u;have E:=DataW.Whole.of_heap (w':=w.forCall c i) (by rfl) G;refine(k (w.forCall c i) w.heap.size i.args q r d y E J (L.weights G) (I _ _ _ (by rfl) K) A).mono λe F ⟨v,M,N⟩=>?_;subst M;exact ChangeSpec.post_blind N
theorem zbK:(Rows.laid_internal_strconv_uint64pow10:DataW Unit)=Lib.tabData .u64 Lib.pow10Tab:=by kernel_rfl
theorem zbO:(Rows.laid_strings_asciiSpace:DataW Unit)=Lib.tabData .u8 Lib.asciiSpaceTab:=by kernel_rfl
theorem zdx:Tryz.prog.globalNamed "strconv.ErrRange" =some 5:=by kernel_rfl
theorem zba:Tryz.prog.globalNamed "strconv.ErrSyntax" =some 4:=by kernel_rfl
theorem ziJ: "*" ++ "errors.errorString" = "*errors.errorString" :=by decide
theorem ziC(u:TypeId)(h:Tryz.prog.typeName? 3 u=some "*errors.errorString"):u=286:=
 typeName_ptr_named (nm:= "errors.errorString") (by rw[ziJ];kernel_rfl) (by kernel_rfl) (by decide) u (by rw[ziJ];exact h)
theorem zgm{W:World}(hs:W.ShapedOpen prog):10<W.heap.size:=by
 have a:(((begin prog (λ_ _=>0) default).world.heap[10]?).bind Obj.row?).isSome=true:=by kernel_rfl
 obtain⟨⟨zero,t⟩,b⟩:=Option.isSome_iff_exists.1 a;obtain⟨d,c,_⟩:=hs.1 10 zero t (of_decide_eq_true (by kernel_rfl)) b;exact(Array.getElem?_eq_some_iff.1 c).1
theorem zfF{W:World}(a:laidMet prog Rows.coTellsRow.laid W)(hs:W.ShapedOpen prog):U2 W where
 maxLen:=cell_of_shapedOpen_int (zero:= #[.int .i64 0]) (t:=3) hs (of_decide_eq_true (by kernel_rfl)) (by kernel_rfl) (by kernel_rfl) (by kernel_rfl) (by kernel_rfl) (by kernel_rfl)
 zaW:=by
  obtain⟨h,i,b,_,_,_⟩:=laid_sentinel (te:=288) (ts:=9) a.tail.tail.tail.tail zdx (show _=some 189 by kernel_rfl) underlying189 ziC (by kernel_rfl) underlying288 rfl rfl (by kernel_rfl) (by kernel_rfl) (by kernel_rfl);obtain⟨j,k,c,_,_,_⟩:=laid_sentinel (te:=288) (ts:=9) a.tail.tail.tail.tail.tail zba (show _=some 189 by kernel_rfl) underlying189 ziC (by kernel_rfl) underlying288 rfl rfl (by kernel_rfl) (by kernel_rfl) (by kernel_rfl);exact⟨⟨_,by simpa using World.var?_cell zba c 0,.inr ⟨_,_,rfl⟩⟩,_,by simpa using World.var?_cell zdx b 0,.inr ⟨_,_,rfl⟩⟩
 pow:=Lib.tabIs_of_head (g:=1) (t:=234) (e:=187) (n:=20) (by kernel_rfl) (by kernel_rfl) (by kernel_rfl) (by kernel_rfl) (by kernel_rfl) (by kernel_rfl) (zbK▸a.tail.tail)
 spc:=Lib.tabIs_of_head (g:=0) (t:=224) (e:=5) (n:=256) (by kernel_rfl) (by kernel_rfl) (by kernel_rfl) (by kernel_rfl) (by kernel_rfl) (by kernel_rfl) (zbO▸a.tail.tail.tail.tail.tail.tail.tail)
 Jv:=zgm hs
theorem zbD:laidOutB prog=true:=by kernel_rfl
theorem ZI{H:Type}{enc:TypeId×Value->H}{W:World}{fuel:Nat}{x:DataW H×List MemPlace}{a0:Option Addr}{len cap:Nat}(h:DataW.trod enc prog W 0 (λ_=>true) true fuel 22 (Value.slice a0 len cap).cells.toList=some x):
 len<=cap/\ ∀j,j<len-> ∃g b z,a0=some ⟨g,b,none⟩/\g<W.heap.size/\W.cell? ⟨g,b+j,none⟩=some (.int .i64 z):=by
 rcases open_ints underlying22 underlying3 (by kernel_rfl) h with⟨c,_⟩|⟨a,i,k,r,c,_,n,s,o,_,d,_⟩
 ·simp[Value.cells]at c
  obtain⟨rfl,rfl,rfl⟩:=c;exact⟨y6 _,λj p=>by omega⟩
 ·simp[Value.cells]at c
  obtain⟨rfl,rfl,rfl⟩:=c;simp only[if_true]at o;refine⟨n,λj p=>?_⟩;have q:=d 0 (by omega);have l:a.spot=none:=by have:=World.cell?_spot q;simpa[Addr.add]using this
  obtain⟨g,b,m⟩:=a;simp only at l;subst l;have f:=d j (by omega);have e:(⟨g,b,none⟩:Addr).add j=⟨g,b+j,none⟩:=by unfold Addr.add;split<;>simp_all
  rw[e]at f;exact⟨g,b,_,rfl,World.block_lt_of_cell? W _ f,f⟩
end
end Go.Proofs.YtalgmjmibamdfaaGreatDoor.K
namespace Go.Proofs.YtalgmjmibamdfaaGreatDoor
open Go.Proofs.Tryz
open Go.RowKit Tw
def JW:Qe->Re->Prop
 |.xg _ i,.ex _ j=>i<j
 |.Y0 i,.ex _ j=>i<j
 |.rest _ _ i,.ex _ j=>i<=j
 |.args _ i,.JO _ j=>i<j
 |_,_=>True
theorem De.on{ws:List Wd}{en:Nat}{q:Qe}{r:Re}(h:De ws en q r):JW q r:=by
 induction h
 case lvl6 i r _ _=>cases r<;>simp only[JW]at* <;>omega
 all_goals(simp only[JW]at*;try omega)
theorem Dc.on{ws:List Wd}{en:Nat}{q:Qe}{r:Re}(h:Dc ws en q r):JW q r:=by
 induction h
 case ex m i j a r _ _ _ _=>cases r<;>simp only[JW]at* <;>omega
 case go m j d a b r _ _ _ _ _ _=>cases r<;>simp only[JW]at* <;>omega
 all_goals(simp only[JW]at*;try omega)
def X1(w:World)(a:Nat):Nat:=match w.cell? ⟨a,1,none⟩with|some v=>(intOf v).toNat|none=>0
section
variable {p:Bool}{c:Cx}{w w0:World}{i:Nat}{os:List Ob}{ps:List zU}
theorem Fr.qk(h:Fr p c w0 w i os ps):X1 w c.rb=i:=by
 unfold X1;rw[(N6 h.rd.K3).1 1];cases p<;>simp[intOf]
theorem Fr.apl{α:Type}(E:yz α)(a:α){t T e n m:Nat}{A:Option Addr}{l:List α}(v:R1 prog t T e)(h:Fr p c w0 w i (.r T e (.slice A l.length n) l.length (l.flatMap E.cells)::os) (E.qE a++l.flatMap E.qE))
 {ops:Array Oper} {d:List Oper} {o:Oper} {b:Act} {Q:Exit->Act->World->Prop} (f:o.guard=none) (s x:Operand) (y:o.op=.call {callee:=.builtin .append,args:= #[s,x],argTypes:= #[t,t]})
 (hs:b.eval s=.slice A l.length n) (hx:b.eval x=.slice (some ⟨w.heap.size,0,none⟩) 1 m) (z:(E.cells a).length=e) (j: ∀u∈E.cells a,u.oneCell'=true) (B:l.length+1<=500000000000)
 (k: ∀g cap w',Hid (Fr p c w0 w' i (.r T e (.slice (some ⟨g,0,none⟩) (l++[a]).length cap) (l++[a]).length ((l++[a]).flatMap E.cells)::os) ((l++[a]).flatMap E.qE))->wpList prog ops Q d (b.put o.dst (.slice (some ⟨g,0,none⟩) (l.length+1) cap)) w'):
 wpList prog ops Q (o::d) b (w.alloc (.cells ⟨E.cells a⟩ T)):=by
 have H:=h.below ((y7 w.heap.size w).alloc (y6 _) (.cells ⟨E.cells a⟩ T));refine M7 v f s x y w0.heap.size _ l.length (l.flatMap E.cells) hs (H.ob 0 _ rfl) w.heap.size m ⟨E.cells a⟩ hx (y9 w _) z j B (by have:=h.gr.size;simp;omega) λg cap w' j C D _=>k g cap w' ?_;have F:=(H.W8 0 j C D).sub (ps':=(l++[a]).flatMap E.qE) (λt q=>by rw[List.flatMap_append,List.flatMap_singleton]at q;rcases List.mem_append.1 q with h|h;exact List.mem_append.2 (.inr h);exact List.mem_append.2 (.inl h));exact zh (by simpa using F)
end
theorem zc6:R1 prog 170 172 5:=⟨underlying170,by kernel_rfl,by decide⟩
theorem zhp(c:Cx)(i:Nat)(C:10<c.rb)(d: ∀j,i<=j->QJ c 1 j):zgr c i:=by
 intro L j v w h D;have b:=zh ((Fr.start h D C).nil 172 5);have E:=zh d;have J:=zh v;clear d h D C v
 go_in
 go_wp2_with fail
 go_loopw[3,4] (λo k wr=> ∃(l:List (Ex×Value))(A:Option Addr)(n f:Nat),o=.slice A l.length n/\k=.int .i64 l.length/\Hid (Fr false c w wr f [.r 172 5 (.slice A l.length n) l.length (l.flatMap zK.cells)] (l.flatMap zK.qE))/\Hid (∃q m,De c.ws c.en (.args q f) (.JO m j)/\q=l.length/\L=l.map (·.1)++m/\q<=f/\i<=f))
  (λ_ _ wr=>c.ws.length-X1 wr c.rb)
 case atStart=>exact⟨[],none,0,i,rfl,rfl,b,zh ⟨0,L,J.out,rfl,rfl,by omega,by omega⟩⟩
 case round=>
  obtain⟨l,A,n,f,rfl,rfl,b,K⟩:=hrel;have x:=b.out.qk;have P:=b.out.rd.pos;have Q:=b.out.rd.len;obtain⟨q,m,v,s,G,R,y⟩:=K.out;have H:=zh G;have I:=zh s;clear G s
  go_wp2_with fail
  cases v with
  |jP e=>
   refine b.out.ca (zm e) ?_;intro w b
   go_wp2_with fail
   go_ret;obtain rfl:L=l.map (·.1):=by simpa using H.out
   have S:=b.out.XY zK λa e t M=>List.mem_flatMap.2 ⟨a,e,M⟩;exact⟨A,n,by simp,by simpa[zK]using S.pp (B2 ..),S.rd,S.gr⟩
  |first e d z|next e N d z=>
   refine b.out.ca (zL e) ?_;intro w b;have F:=N6 b.out.rd.K3;have s:=I.out;have B:=d.on;have u:=z.on;simp only[JW]at B u
   first
    |obtain rfl:=I3 s.symm
     clear s
     go_wp2_with fail
     refine b.out.cx (E.out _ y _ _ d) ?_
    |have T:0<l.length:=by omega
     go_wp2_with fail
     refine b.out.ca (V9 N) ?_;intro w b
     go_wp2_with fail
     refine b.out.cx (E.out _ (by omega) _ _ d) ?_
   intro U V W b
   go_wp2_with((at_builtin;go_must(refine b.out.apl zK (_,_) zc6 rfl _ _ rfl rfl rfl rfl (by simp[zK,ZO,Value.oneCell']) (by first|omega|simp) ?_);intro g O w b))
   go_roundw
   case rel=>exact⟨_,_,_,_,by simp,by simp,b,zh ⟨_,_,z,by simp;try(have:=I.out;omega),by simp[H.out],by omega,by omega⟩⟩
   case measure=>have:=b.out.rd.pos;rw[b.out.qk,x];omega
theorem zhw(c:Cx)(i:Nat)(B:10<c.rb)(d: ∀j,i<=j->XA c 0 j):zhg c i:=by
 intro L j u w h C;have b:=zh ((Fr.start h C B).nil 172 5);have D:=zh d;have H:=zh u;clear d h C B u
 go_in
 go_wp2_with fail
 go_loopw[3] (λo wr=> ∃(l:List (Ex×Value))(A:Option Addr)(n f:Nat),o=.slice A l.length n/\Hid (Fr true c w wr f [.r 172 5 (.slice A l.length n) l.length (l.flatMap zK.cells)] (l.flatMap zK.qE))/\Hid (∃q m,Dc c.ws c.en (.args q f) (.JO m j)/\q=l.length/\L=l.map (·.1)++m/\q<=f/\i<=f))
  (λ_ wr=>c.ws.length-X1 wr c.rb)
 case atStart=>exact⟨[],none,0,i,rfl,b,zh ⟨0,L,H.out,rfl,rfl,by omega,by omega⟩⟩
 case round=>
  obtain⟨l,A,n,f,rfl,b,I⟩:=hrel;have v:=b.out.qk;have N:=b.out.rd.pos;have O:=b.out.rd.len;obtain⟨q,m,u,k,E,P,x⟩:=I.out;have F:=zh E;have G:=zh k;clear E k
  go_wp2_with fail
  cases u with
  |jP e=>
   refine b.out.ca (zm e) ?_;intro w b
   go_wp2_with fail
   go_ret;obtain rfl:L=l.map (·.1):=by simpa using F.out
   have S:=b.out.XY zK λa e t J=>List.mem_flatMap.2 ⟨a,e,J⟩;exact⟨A,n,by simp,by simpa[zK]using S.pp (B2 ..),S.rd,S.gr⟩
  |first e d y|next e K d y=>
   refine b.out.ca (zL e) ?_;intro w b;have k:=G.out;have z:=d.on;have s:=y.on;simp only[JW]at z s
   first
    |obtain rfl:=I3 k.symm
     clear k
     go_wp2_with fail
     refine b.out.cx (D.out _ x _ _ d) ?_
    |have Q:0<l.length:=by omega
     go_wp2_with fail
     refine b.out.ca (V9 K) ?_;intro w b
     go_wp2_with fail
     refine b.out.cx (D.out _ (by omega) _ _ d) ?_
   intro R T U b
   go_wp2_with((at_builtin;go_must(refine b.out.apl zK (_,_) zc6 rfl _ _ rfl rfl rfl rfl (by simp[zK,ZO,Value.oneCell']) (by first|omega|simp) ?_);intro g M w b))
   go_roundw
   case rel=>exact⟨_,_,_,_,by simp,b,zh ⟨_,_,y,by simp;try(have:=G.out;omega),by simp[F.out],by omega,by omega⟩⟩
   case measure=>have:=b.out.rd.pos;rw[b.out.qk,v];omega
def T6:Nat->List ByteArray
 |1=>[⟨#[124,124]⟩]
 |2=>[⟨#[38,38]⟩]
 |3=>[⟨#[60]⟩,⟨#[60,61]⟩,⟨#[62]⟩,⟨#[62,61]⟩,⟨#[61,61]⟩,⟨#[33,61]⟩]
 |4=>[⟨#[43]⟩,⟨#[45]⟩]
 |5=>[⟨#[42]⟩,⟨#[47]⟩,⟨#[37]⟩]
 |_=>[]
def yw:Nat->ByteArray
 |1=>⟨#[124,124]⟩
 |2=>⟨#[38,38]⟩
 |3=>⟨#[60,32,60,61,32,62,32,62,61,32,61,61,32,33,61]⟩
 |4=>⟨#[43,32,45]⟩
 |5=>⟨#[42,32,47,32,37]⟩
 |_=>⟨#[]⟩
theorem zdR(n:Nat)(f:1<=n)(g:n<=5)(x:ByteArray):Lib.containsS (T6 n) x=(lv x.data.toList==n):=by
 have b: ∀a:Array UInt8,∀y:ByteArray,y=⟨a⟩↔y.data.toList=a.toList:=λa y=>by
  constructor
  ·rintro rfl;rfl
  ·intro h;cases y with|mk d=>congr 1;exact Array.toList_inj.1 h
 rw[F8,Lib.containsS_iff,beq_iff_eq];generalize c:x.data.toList=l;have e: ∀a:Array UInt8,x=⟨a⟩↔l=a.toList:=λa=>by rw[b,c]
 obtain rfl|rfl|rfl|rfl|rfl:n=1\/n=2\/n=3\/n=4\/n=5:=by omega
 all_goals
  simp only[T6,E7,List.mem_nil_iff,or_false,e];unfold lv;constructor
  ·intro h
   repeat' (first|(subst h;decide)|rcases h with h|h)
  ·intro h
   repeat' (split at h)
   all_goals first|(exfalso;omega)|(simp_all;done)|(simp_all)
theorem XP(n:Nat)(a:1<=n)(b:n<=5):(Lib.fields (yw n).data.toList).map (λl=>Value.string ⟨l.toArray⟩)=(T6 n).map Value.string:=by
 obtain rfl|rfl|rfl|rfl|rfl:n=1\/n=2\/n=3\/n=4\/n=5:=by omega
 all_goals rfl
theorem YZ(n:Nat)(e:1<=n)(f:n<=5):(yw n).size<4294967281/\ ∀(j:Nat) b,(yw n).data.toList[j]?=some b->b.toNat<128:=by
 obtain rfl|rfl|rfl|rfl|rfl:n=1\/n=2\/n=3\/n=4\/n=5:=by omega
 all_goals
  refine⟨by decide,λj b a=>?_⟩;have:=B7 a
  revert this
  generalize d:b=c;clear a d
  revert c
  decide
theorem zbJ(n:Nat)(b:1<=n)(c:n<=5)(w:World):(∀j,j<(T6 n).length->(w.alloc (.cells ((Lib.fields (yw n).data.toList).map λl=>Value.string ⟨l.toArray⟩).toArray 9)).cell? ⟨w.heap.size,0+j,none⟩=some (.string ((T6 n).getD j ByteArray.empty)))/\(Lib.fields (yw n).data.toList).length=(T6 n).length:=by
 have a:=XP n b c;refine⟨λj d=>?_,by simpa using I1 List.length a⟩;rw[a,Nat.zero_add,y5 (y9 w _) j];simp[List.getD,d]
theorem Xg(n:Nat)(a:1<=n)(b:n<=5)(w:World)(d:U2 w):
 Calls prog 187 #[.int .i64 n] w λe w'=>(∃g,e=.returned (.slice (some ⟨g,0,none⟩) (T6 n).length (T6 n).length)/\ ∀j,j<(T6 n).length->w'.cell? ⟨g,0+j,none⟩=some (.string ((T6 n).getD j ByteArray.empty)))/\Below w.heap.size w w':=by
 have c: ∀W,U2 W->Calls prog 114 #[.string (yw n)] W λe w'=>(∃g,e=.returned (.slice (some ⟨g,0,none⟩) (T6 n).length (T6 n).length)/\ ∀j,j<(T6 n).length->w'.cell? ⟨g,0+j,none⟩=some (.string ((T6 n).getD j ByteArray.empty)))/\Below W.heap.size W w':=by
  intro W i;obtain⟨k,l⟩:=YZ n a b;refine(Tryz.strings_Fields (yw n) W k l i.spc).mono ?_;rintro e w' ⟨rfl,rfl⟩;obtain⟨m,o⟩:=zbJ n a b W;exact⟨⟨_,by rw[o],m⟩,(y7 _ _).alloc (y6 _) _⟩
 have c:=zh c;have p:=zh d;clear d;obtain rfl|rfl|rfl|rfl|rfl:n=1\/n=2\/n=3\/n=4\/n=5:=by omega
 all_goals
  clear a b
  go_enter func187,ntmps187
  go_wp2_with fail
  refine(c.out _ (p.out.to ((y7 _ _).alloc (y6 _) _))).mono ?_;rintro e s ⟨⟨g,rfl,f⟩,h⟩;have q:=zh f;have r:=zh (((y7 w.heap.size w).alloc (y6 _) _).trans (h.mono (by simp)));clear f h
  go_wp2_with fail
  go_ret;exact⟨⟨g,rfl,q.out⟩,r.out⟩
theorem yr(n:Nat)(a:1<=n)(b:n<=5)(g:Nat)(x:ByteArray)(w:World)(c: ∀j,j<(T6 n).length->w.cell? ⟨g,0+j,none⟩=some (.string ((T6 n).getD j ByteArray.empty)))(t:Bool)(d:(lv x.data.toList==n)=t):
 Calls prog 186 #[.slice (some ⟨g,0,none⟩) (T6 n).length (T6 n).length,.string x] w λe w'=>e=.returned (.bool t)/\w=w':=by
 have f:(T6 n).length<=9223372036854775807:=by
  obtain rfl|rfl|rfl|rfl|rfl:n=1\/n=2\/n=3\/n=4\/n=5:=by omega
  all_goals decide
 refine(Tryz.slices_Contains_string g 0 (T6 n).length (T6 n).length (T6 n) x w (y6 _) f c).mono ?_;rintro e w' ⟨rfl,rfl⟩;rw[F6,zdR n a b,d];exact⟨rfl,rfl⟩
abbrev Pk(c:Cx)(wr W:World)(i g:Nat):Prop:=
 (∀j,W.cell? ⟨c.rb,j,none⟩= #[c.v,.int .i64 i,.int .i64 c.en,.bool false][j]?)/\W.cell? ⟨g,i*3+1,none⟩=some (.string (L7 c.ws i))/\Below wr.heap.size wr W
section
variable {c:Cx}{wr W W':World}{i g:Nat}
theorem Pk.mono(h:Pk c wr W i g)(b:c.rb<wr.heap.size)(d:g<wr.heap.size)(a:Below wr.heap.size W W'):Pk c wr W' i g:=
 ⟨λj=>(a.cell (p:=⟨c.rb,j,none⟩) b).trans (h.1 j),(a.cell (p:=⟨g,i*3+1,none⟩) d).trans h.2.1,h.2.2.trans a⟩
theorem Pk.J0(h:Pk c wr W i g)(a:c.rb<wr.heap.size)(b:g<wr.heap.size)(d:Below W.heap.size W W'):Pk c wr W' i g:=h.mono a b (d.mono h.2.2.size)
theorem Pk.le{a:World}(h:Pk c wr W i g)(b:Below W.heap.size W a):wr.heap.size<=a.heap.size:=C4 h.2.2.size b.size
theorem zbU(a:World){W b:World}(d:Below W.heap.size W b):a.heap.size<W.heap.size->(∀j,b.cell? ⟨a.heap.size,j,none⟩=W.cell? ⟨a.heap.size,j,none⟩)/\ ∀j,b.frozen? ⟨a.heap.size,j,none⟩=W.frozen? ⟨a.heap.size,j,none⟩:=
 λh=>⟨λj=>d.cell (p:=⟨a.heap.size,j,none⟩) h,λ_=>World.frozen?_of_block (d.block _ h)⟩
theorem Pk.set{b j:Nat}{x:Value}(h:Pk c wr W i g)(a:c.rb<wr.heap.size)(d:g<wr.heap.size)(e:wr.heap.size<=b):Pk c wr (W.setCell ⟨b,j,none⟩ x) i g:=
 h.mono a d ⟨rfl,rfl,rfl,by simp,λk f=>G0 W ⟨b,j,none⟩ x k (by simp;omega)⟩
theorem Pk.re{a b:Obj}(h:Pk c wr (W.alloc a) i g)(d:c.rb<wr.heap.size)(e:g<wr.heap.size)(f:wr.heap.size<=W.heap.size):Pk c wr (W.alloc b) i g:=
 h.mono d e ⟨rfl,rfl,rfl,by simp,λk j=>(D4 W b (by omega)).trans (D4 W a (by omega)).symm⟩
end
theorem Fr.pk{c:Cx}{w0 w:World}{i:Nat}{os:List Ob}{ps:List zU}(h:Fr false c w0 w i os ps)(hi:i<c.ws.length): ∃g cap,g<w.heap.size/\c.rb<w.heap.size/\c.v=.slice (some ⟨g,0,none⟩) c.ws.length cap/\(0:Int)<=i/\(i:Int)<c.ws.length/\c.ws.length<=4000/\Pk c w w.drew i g:=by
 obtain⟨g,cap,a,b,d,e,f,j,-,k⟩:=h.zck hi;exact⟨g,cap,a,h.rd.lt,b,e,f,j,d.1,k,rfl,rfl,rfl,y6 _,λ_ _=>rfl⟩
theorem xM(ws:List Wd)(i:Nat):Y7 ws i=lv (L7 ws i).data.toList:=by
 unfold Y7 L7;cases ws[i]?<;>rfl
def LvN(c:Cx)(n:Nat)(x:Ex)(j:Nat)(a:Ex)(k:Nat):Prop:=
 (x=a/\j=k/\Y7 c.ws k≠n)\/ ∃b,Y7 c.ws k=n/\De c.ws c.en (.xg (n+1) (k+1)) (.ex b j)/\Y7 c.ws j≠n/\x=yX c.ws c.en k a b
theorem ze2(c:Cx)(i n:Nat)(B:1<=n)(G:n<=5)(hr:10<c.rb)(R:QJ c (n+1) i)(S: ∀j,i<j->QJ c (n+1) j):QJ c n i:=by
 intro x j q w h hG;have Z:i<j:=q.on;obtain⟨a,k,q,hL⟩: ∃a k,De c.ws c.en (.xg (n+1) i) (.ex a k)/\LvN c n x j a k:=by
  cases q with
  |lvl6=>omega
  |up _ h h'=>exact⟨_,_,h,.inl ⟨rfl,rfl,h'⟩⟩
  |two _ h R S h3=>exact⟨_,_,h,.inr ⟨_,R,S,h3,rfl⟩⟩
 have v:i<k:=q.on;have d:=zh (Fr.start h hG hr);have H1:=zh (R _ _ q);have H2:=zh S;have U:=zh hL;have e6:((n:Int)==6)=false:=by simp;omega
 clear R S h hG hr q hL
 go_in
 go_wp2_with fail
 refine d.out.jt.cx H1.out ?_;intro A m w1 d;generalize w.heap.size=b4 at d|-
 go_wp2_with fail
 replace d:=zh (d.out.jt (u:=[.int .i64 a.N4,.int .i64 a.n,.string a.O9,.slice A a.args.length m,.int .i64 a.pos]) (T:=172));generalize w1.alloc _=W1 at d|-
 generalize w1.heap.size=b5 at d|-
 go_loopw[] (λwr=> ∃(a:Ex)(A:Option Addr)(m k:Nat),i<k/\Hid (Fr false c w wr k [.b b5 [.int .i64 a.N4,.int .i64 a.n,.string a.O9,.slice A a.args.length m,.int .i64 a.pos] 172,.b b4 [.int .i64 0,.int .i64 0,.string ⟨#[]⟩,.slice none 0 0,.int .i64 0] 172] [.a a.args (.slice A a.args.length m)])/\Hid (LvN c n x j a k)) (λwr=>c.ws.length-X1 wr c.rb)
 case atStart=>exact⟨a,A,m,k,v,d,U⟩
 case round=>
  clear U H1;obtain⟨a,A,m,k,v,d,U⟩:=hrel;have a0:=d.out.qk;have z:=d.out.rd.pos;have hn:=d.out.rd.len;obtain⟨t,r⟩: ∃t,(Y7 c.ws k==n)=t:=⟨_,rfl⟩
  go_upto_region 4 with(fail)
  go_cut[48] (λu W=>u=.bool t/\Hid (Below wr.heap.size wr W))
  case first=>
   by_cases l:k<c.ws.length
   ·obtain⟨g,H,o,p,V,k0,k1,k2,P⟩:=d.out.pk l
    rw[xM]at r;have HG:=zh d.out.gl;have HT:=zh r;clear r
    go_region_held3 (λW=>Pk c wr W k g)
     (first|(with_reducible assumption)|(with_reducible exact Pk.J0 (by assumption) p o (by assumption)))
     (first|(go_at_call 187;refine(Xg n B G _ (HG.out.to (And.right (And.right (by assumption))))).mono ?_;rintro e w5 ⟨⟨g5,rfl,y⟩,a1⟩)|(go_at_call 186;refine(yr n B G g5 _ _ y t HT.out).mono ?_;rintro e w6 ⟨rfl,rfl⟩))
    rename_i I;have Y:=zh I.2.2;clear I
    go_wp2_with fail
    go_meet
    case rel=>exact⟨rfl,Y⟩
   ·obtain rfl:t=false:=by
     rw[<-r];unfold Y7;rw[D6 (by omega)];simp;omega
    obtain rfl:k=c.ws.length:=by omega
    have F:=N6 d.out.rd.K3;obtain⟨A0,J,V,-⟩:=d.out.rd.row.zM;clear r
    go_quiet (fail)
    go_wp2_with fail
    go_meet
    case rel=>exact⟨rfl,zh (J9 (y7 _ _) _)⟩
  case rest=>
   obtain⟨rfl,Y⟩:=hcut;replace d:=zh (d.out.below Y.out)
   rcases U.out with⟨rfl,rfl,K⟩|⟨b,K,q,L,rfl⟩
   ·obtain rfl:t=false:=by rw[<-r];simpa using K
    clear r;have C:=d.out.f2
    go_wp2_with fail
    (try simp only[Exit.inBlock,Exit.then])
    exact d.out.XU 1 0 rfl rfl rfl rfl rfl underlying172 zE rfl rfl λM N z=>⟨A,m,rfl,z _ (B2 ..),M,N⟩
   ·obtain rfl:t=true:=by rw[<-r];simpa using K
    have HD:=zh q;have a2:=zh K;have O:=zh L;clear r q K L Y
    go_wp2_with fail
    have l:k<c.ws.length:=by
     rcases E5 k c.ws.length with h|h
     ·exact h
     ·have:=a2.out;unfold Y7 at this;rw[D6 h]at this;simp at this;omega
    obtain⟨wa,rfl⟩: ∃wo:World,wo=wc:=⟨_,rfl⟩
    go_cut[6] (λu W=> ∃b6:Nat,u=.pointer (some ⟨b6,0,none⟩)/\Hid (Fr false c w W k [.b b6 [.int .i64 6,.int .i64 0,.string (L7 c.ws k),.slice none 0 0,.int .i64 (N2 c.ws k c.en)] 172,.b b5 [.int .i64 a.N4,.int .i64 a.n,.string a.O9,.slice A a.args.length m,.int .i64 a.pos] 172,.b b4 [.int .i64 0,.int .i64 0,.string ⟨#[]⟩,.slice none 0 0,.int .i64 0] 172] [.a a.args (.slice A a.args.length m)]))
    case first=>
     obtain⟨g,H,o,p,V,k0,k1,k2,P⟩:=d.out.pk l;have Q:=y6 wa.heap.size
     go_region_held3 (λW=>Pk c wa W k g)
      (first|(with_reducible assumption)|(with_reducible exact Pk.J0 (by assumption) p o (by assumption))|(with_reducible exact Pk.set (Pk.set (Pk.set (Pk.set (Pk.set (by assumption) p o Q) p o Q) p o Q) p o Q) p o Q)|(with_reducible exact Pk.re (by assumption) p o (by assumption))|(with_reducible exact Pk.J0 (by assumption) p o ((y7 _ _).alloc (y6 _) _)))
      (first|(go_at_call 65;refine(ziv (d.out.rd.J0 (And.right (And.right (by assumption))))).mono ?_;rintro e w6 ⟨rfl,s⟩;have k8:=Pk.le (by assumption) s;have n0:=zbU wa s))
     ·go_wp2_with fail
      go_meet
      case rel=>exact⟨_,rfl,zh (d.out.bd s).jt⟩
     ·go_wp2_with fail
      go_meet
      case rel=>exact⟨_,rfl,zh (d.out.jt.bd s).st.st.st.st.st⟩
    case rest=>
     obtain⟨b6,rfl,d⟩:=hcut;have F:=N6 d.out.rd.K3
     go_wp2_with fail
     refine(d.out.inc l).cx (H2.out _ (Nat.lt_succ_of_lt v) _ _ q) ?_;intro A7 n7 w7 d
     go_upto_region 8 with(fail)
     replace d:=zh (d.out.jt (u:=[.int .i64 b.N4,.int .i64 b.n,.string b.O9,.slice A7 b.args.length n7,.int .i64 b.pos]) (T:=172));generalize w7.alloc _=w8 at d|-
     generalize w7.heap.size=b7 at d|-
     have C:=d.out.f2;have D:=d.out.f 2;have E:=d.out.lt 2
     go_upto_region 9 with(fail)
     replace d:=zh ((d.out.jL (n:=3) (x:=.slice (some ⟨w8.heap.size,0,none⟩) 2 2)).zgj (n:=w8.heap.size) (by simp)).drop;clear C D E;generalize(World.alloc _ _)=w9 at d|-
     generalize w8.heap.size=b8 at d|-
     have C:=d.out.f2;have a3:=d.out.rd.pos
     by_cases h3:n=3
     ·subst h3
      go_wp2_with fail
      generalize hW:World.setCell _ _ _=W;replace d:Hid (Fr false c w W j [.b b5 [.int .i64 6,.int .i64 0,.string (L7 c.ws k),.slice (some ⟨b8,0,none⟩) 2 2,.int .i64 (N2 c.ws k c.en)] 172,.b b4 [.int .i64 0,.int .i64 0,.string ⟨#[]⟩,.slice none 0 0,.int .i64 0] 172] [.a [a,b] (.slice (some ⟨b8,0,none⟩) 2 2)]):=zh (hW▸d.out.jL.jL.jL.jL.jL.drop);clear C hW
      by_cases l:j<c.ws.length
      ·obtain⟨g,H,o,p,V,k0,k1,k2,P⟩:=d.out.pk l
       have HG:=zh d.out.gl;have r:Hid ((lv (L7 c.ws j).data.toList==3)=false):=zh (by rw[<-xM];simpa using O.out)
       go_region_held3 (λX=>Pk c W X j g)
        (first|(with_reducible assumption)|(with_reducible exact Pk.J0 (by assumption) p o (by assumption)))
        (first|(go_at_call 187;refine(Xg 3 (by decide) (by decide) _ (HG.out.to (And.right (And.right (by assumption))))).mono ?_;rintro e w5 ⟨⟨g5,rfl,y⟩,a1⟩)|(go_at_call 186;refine(yr 3 (by decide) (by decide) g5 _ _ y false r.out).mono ?_;rintro e w6 ⟨rfl,rfl⟩))
       rename_i I;replace d:=zh (d.out.below I.2.2);clear I;have C:=d.out.f2
       go_wp2_with fail
       (try simp only[Exit.inBlock,Exit.then])
       exact d.out.XU 1 0 rfl rfl rfl rfl rfl underlying172 zE rfl rfl λM N z=>⟨_,_,rfl,z _ (B2 ..),M,N⟩
      ·obtain rfl:j=c.ws.length:=by omega
       have F:=N6 d.out.rd.K3;obtain⟨A0,J,V,-⟩:=d.out.rd.row.zM
       go_quiet (fail)
       replace d:=zh (d.out.drewN (n:=nq));have C:=d.out.f2
       go_wp2_with fail
       (try simp only[Exit.inBlock,Exit.then])
       exact d.out.XU 1 0 rfl rfl rfl rfl rfl underlying172 zE rfl rfl λM N z=>⟨_,_,rfl,z _ (B2 ..),M,N⟩
     ·have e3:((n:Int)==3)=false:=by simp;omega
      go_wp2_with fail
      go_roundw
      case rel=>exact⟨yX c.ws c.en k a b,_,_,j,Z,zh d.out.jL.jL.jL.jL.jL.drop,zh (.inl ⟨rfl,rfl,O.out⟩)⟩
      case measure=>rw[d.out.jL.jL.jL.jL.jL.drop.qk,a0];have:=q.on;simp only[JW]at this;omega
end Go.Proofs.YtalgmjmibamdfaaGreatDoor
