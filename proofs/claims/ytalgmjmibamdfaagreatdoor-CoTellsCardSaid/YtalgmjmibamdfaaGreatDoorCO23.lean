/- Merged. -/
import Derived.Test.YtalgmjmibamdfaaGreatDoorCO22
set_option linter.all false
set_option maxHeartbeats 16000000
set_option maxRecDepth 100000
namespace Go.Proofs.YtalgmjmibamdfaaGreatDoor
open Go.Proofs.Tryz
open Go.RowKit Tw
structure Ze(Z Za Z0 b lv cn:Nat)(w0:World)(An:Option Addr)(nn:Nat)(ex:List (Nat×Array Value×Nat))(w:World)(lo:List Kv)(ran:Value)(rl:List Int)(rs:List (List Int))(wr:World):Prop where
 kv: ∀x∈lo,xh wr (λg=>ran.ownBlock≠some g) x
 rw:wr.ownsRow w.heap.size 3 1 ran rl.length (iC rl)
 lg:xn Za lv (λg=>ran.ownBlock≠some g) wr rs
 ho:Yc Z w0 Z0 b An nn cn wr
 hk:Hk Z w wr
 ex: ∀x∈ex,wr.heap[x.1]?=some (.cells x.2.1 x.2.2 (0,0))
section
variable {Z Za Z0 b lv cn nn:Nat}{w0 w wr w':World}{An:Option Addr}{ex:List (Nat×Array Value×Nat)}{lo:List Kv}{ran:Value}{rl:List Int}{rs:List (List Int)}{ans:List Int}
theorem Ze.grow(h:Ze Z Za Z0 b lv cn w0 An nn ex w lo ran rl rs wr)(f:RdS Z Za Z0 b lv w0 An cn ans)(n:Za<=w.heap.size)(o: ∀x∈ex,x.1<Za/\x.1≠lv)(a:Below w.heap.size wr w')(i: ∀(k:Nat)(d:Array Value)(t:Nat)(j:Nat×Nat),wr.heap[k]?=some (.cells d t j)->t≠61->w'.heap[k]?=wr.heap[k]?):Ze Z Za Z0 b lv cn w0 An nn ex w lo ran rl rs w':=by
 have p:=f.za;have q:=f.zz;have r:=f.bz;refine⟨λx e=>(h.kv x e).J0 i,M4 h.rw λg d _ l=>i g _ _ _ l (by decide),h.lg.J0 (λg d t l m=>i g _ _ _ l (by rcases m with rfl|rfl|⟨rfl,-⟩<;>decide)) λ_ _ h=>h,⟨C4 h.ho.sz a.size,h.ho.O7.trans (a.mono (by omega)),C4 h.ho.z0 a.size,(a.block b (by omega)).trans h.ho.K3⟩,⟨a.os.trans h.hk.os,a.tape.trans h.hk.tape,a.output.trans h.hk.output,λk c=>(a.block k (by omega)).trans (h.hk.low k c),C4 h.hk.size a.size,λk d t j c m=>(a.block k (I7 c)).trans (h.hk.K3 k d t j c m)⟩,λx e=>(a.block x.1 (z6 (o x e).1 n)).trans (h.ex x e)⟩
theorem Ze.below(h:Ze Z Za Z0 b lv cn w0 An nn ex w lo ran rl rs wr)(c:RdS Z Za Z0 b lv w0 An cn ans)(d:Za<=w.heap.size)(e: ∀x∈ex,x.1<Za/\x.1≠lv)(a:Below wr.heap.size wr w'):Ze Z Za Z0 b lv cn w0 An nn ex w lo ran rl rs w':=
 h.grow c d e (a.mono h.hk.size) λk _ _ _ f _=>a.block k (I7 f)
theorem Ze.ZB(h:Ze Z Za Z0 b lv cn w0 An nn ex w lo ran rl rs wr)(f:RdS Z Za Z0 b lv w0 An cn ans)(i:Za<=w.heap.size)(j: ∀x∈ex,x.1<Za/\x.1≠lv){g:Nat}(c: ∃d,wr.heap[g]?=some (.cells d 61 (0,0)))(l:w.heap.size<=g)(q:Nat)(u:Value):Ze Z Za Z0 b lv cn w0 An nn ex w lo ran rl rs (wr.setCell ⟨g,q,none⟩ u):=by
 obtain⟨d,c⟩:=c;refine h.grow f i j ((y7 w.heap.size wr).grown (J2 wr g q u) h.hk.size λk e=>by injection e with e;omega) λk m t o a n=>(J2 wr g q u).block k (I7 a) λe=>?_;injection e with e
 subst e;rw[c]at a;injection a with a
 injection a with _ a
 exact n a.symm
theorem zaC{α:Type}{P:α->Prop}{l:List α}{j:Nat}{y:α}(h: ∀x∈l,P x)(a:P y): ∀x∈l.set j y,P x:=λx c=>(List.mem_or_eq_of_mem_set c).elim (h x) λe=>e▸a
theorem Ze.put(h:Ze Z Za Z0 b lv cn w0 An nn ex w lo ran rl rs wr){lo':List Kv}(a: ∀x∈lo',xh wr (λg=>ran.ownBlock≠some g) x):Ze Z Za Z0 b lv cn w0 An nn ex w lo' ran rl rs wr:=⟨a,h.rw,h.lg,h.ho,h.hk,h.ex⟩
theorem Ze.ZF(h:Ze Z Za Z0 b lv cn w0 An nn ex w lo ran rl rs wr){g:Nat}(a:wr.heap.size<=g):ran.ownBlock≠some g:=λe=>by have:=(h.rw.lt g e).2;omega
theorem Ze.run(h:Ze Z Za Z0 b lv cn w0 An ans.length ex w lo ran rl rs wr){L:List Cf}{M:Mc}{fuel:Nat}{who:Int}{e:Ending}(d:zex Z Za Z0 b lv cn w0 An (λg=>ran.ownBlock≠some g) ex ans L M fuel who rs wr e w'):
 Ze Z Za Z0 b lv cn w0 An ans.length ex w lo ran rl (rs++(qt L (M1 ans) fuel M).map λx=>who::x.1::x.2) w'/\Hk Z wr w'/\ ∃A' c',e=.returned (.tuple #[.slice A' (K4 (S1 L (M1 ans) fuel M).1).length c',.int .i64 (S1 L (M1 ans) fuel M).2,.int .i64 0])/\JT w' (λg=>ran.ownBlock≠some g) A' c' (K4 (S1 L (M1 ans) fuel M).1):=by
 obtain⟨A',c',f,i,hk,j,k,a⟩:=d;exact⟨⟨λx l=>(h.kv x l).hk hk,M4 h.rw λg n _ c=>hk.K3 g _ _ _ c (by unfold xo;decide),k.J0 (λ_ _ _ _ _=>rfl) λg _ m=>m.elim id h.ZF,j,h.hk.trans hk,a⟩,hk,A',c',f,i.imp λg _ c=>h.ZF c⟩
theorem Ze.Zf(h:Ze Z Za Z0 b lv cn w0 An nn ex w lo ran rl rs wr)(C:RdS Z Za Z0 b lv w0 An cn ans)(I:Za<=w.heap.size)(J: ∀x∈ex,x.1<Za/\x.1≠lv)(G:TypeId)(i:Int)(R:rl.length<=1000):
 ∃g cap w',(Builtin.append_ #[22,22] G #[ran,.slice (some ⟨wr.heap.size,0,none⟩) 1 1]).run prog (wr.alloc (.cells #[.int .i64 i] 3))=.ok (.slice (some ⟨g,0,none⟩) (rl.length+1) cap) w'/\Ze Z Za Z0 b lv cn w0 An nn ex w lo (.slice (some ⟨g,0,none⟩) (rl++[i]).length cap) (rl++[i]) rs w'/\Below w.heap.size wr w'/\ ∀(k:Nat)(a:Array Value)(t:Nat)(f:Nat×Nat),wr.heap[k]?=some (.cells a t f)->ran.ownBlock≠some k->w'.heap[k]?=wr.heap[k]?:=by
 have n:=(y7 wr.heap.size wr).alloc (y6 _) (.cells #[.int .i64 i] 3);have D:=h.hk.size;have v:=M4 h.rw λg a _ d=>n.block g (I7 d);obtain⟨g,cap,w',r,K,d,y⟩:=yN (c:=1) (⟨underlying22,by kernel_rfl,by decide⟩:R1 prog 22 3 1) G v (y9 wr (.cells #[.int .i64 i] 3)) rfl (by simp[Value.oneCell']) (by omega) (C4 D n.size);have j:Below w.heap.size wr w':=L8 (n.mono D) v (y6 _) (C4 D n.size) d;have p: ∀(k:Nat)(a:Array Value)(t:Nat)(f:Nat×Nat),wr.heap[k]?=some (.cells a t f)->ran.ownBlock≠some k->w'.heap[k]?=wr.heap[k]?:=λk a t f q s=>(d.block k (z6 (I7 q) n.size) λe=>s e.symm).trans (n.block k (I7 q));have o: ∀(k:Nat)(a:Array Value)(t:Nat)(f:Nat×Nat),wr.heap[k]?=some (.cells a t f)->t≠3->ran.ownBlock≠some k:=λk a t f q s e=>by
  obtain⟨L,m⟩:=zC h.rw e;rw[q]at m;injection m with m
  injection m with _ m
  exact s m
 have H: ∀k,k<wr.heap.size->ran.ownBlock≠some k->(Value.slice (some ⟨g,0,none⟩) (rl++[i]).length cap).ownBlock≠some k:=λk q s e=>by
  have e:g=k:=by simpa[Value.ownBlock]using e
  subst e
  rcases y with E|E
  ·exact s E
  ·have:=n.size;have:(wr.alloc (.cells #[.int .i64 i] 3)).heap.size=wr.heap.size+1:=by simp
   omega
 have q:=C.za;have s:=C.zz;have E:=C.bz;refine⟨g,cap,w',r,⟨λx B=>?_,?_,h.lg.J0 (λg a t d z=>?_) λk M u=>H k (I7 M.choose_spec) u,⟨C4 h.ho.sz j.size,h.ho.O7.trans (j.mono (by omega)),C4 h.ho.z0 j.size,(j.block b (by omega)).trans h.ho.K3⟩,⟨j.os.trans h.hk.os,j.tape.trans h.hk.tape,j.output.trans h.hk.output,λk l=>(j.block k (by omega)).trans (h.hk.low k l),C4 h.hk.size j.size,λk a t f l z=>(j.block k (I7 l)).trans (h.hk.K3 k a t f l z)⟩,λx B=>(j.block x.1 (z6 (J x B).1 I)).trans (h.ex x B)⟩,j,p⟩
 ·obtain⟨m,N,A,c,O,P,Q⟩:=h.kv x B
  exact⟨m,N.J0 ⟨λg a t f d z=>p g a t f d (o g a t f d (by rcases z with rfl|rfl<;>decide))⟩,A,c,O,P.J0 λg ⟨⟨a,F⟩,u⟩ d=>by
   have e:=p g a _ _ F u;exact⟨⟨⟨a,e.trans F⟩,H g d u⟩,I7 (e.trans F),e⟩,Q⟩
 ·rw[z9]
  simpa[iC]using K
 ·rcases z with rfl|rfl|⟨rfl,u⟩
  ·exact p g a _ _ d (o g a _ _ d (by decide))
  ·exact p g a _ _ d (o g a _ _ d (by decide))
  ·exact p g a _ _ d u
end
theorem yR{w:World}{base g cap i j:Nat}{l:List Kv}{x y:Kv}{u:Value}(h:w.ownsRow base 61 4 (.slice (some ⟨g,0,none⟩) l.length cap) l.length (l.flatMap Kv.cells))(hx:l[i]?=some x)(c:j<4)(e:x.cells.set j u=y.cells):(w.setCell ⟨g,i*4+j,none⟩ u).ownsRow base 61 4 (.slice (some ⟨g,0,none⟩) (l.set i y).length cap) (l.set i y).length ((l.set i y).flatMap Kv.cells):=by
 have a:=(h.stored (i*4+j) u).1;rw[Ys Kv.cells 4 (λ_=>rfl) c e l i hx]at a;rw[List.length_set];exact a
def coU(hf:R4)(fuel:Nat)(a:List Ko)(j:Nat):List Ko:=(a.take j).map (Ja hf fuel)++a.drop j
theorem zaQ{hf:R4}{fuel:Nat}{a:List Ko}{j:Nat}{k:Ko}(h:a[j]?=some k):(coU hf fuel a j)[j]?=some k/\(coU hf fuel a j).set j (Ja hf fuel k)=coU hf fuel a (j+1):=by
 obtain⟨c,d⟩:=List.getElem?_eq_some_iff.1 h;have b:((a.take j).map (Ja hf fuel)).length=j:=by simp;omega
 unfold coU;refine⟨?_,?_⟩
 ·rw[List.getElem?_append_right (by omega),b,Nat.sub_self,List.getElem?_drop];exact h
 ·rw[List.set_append_right _ _ (by omega),b,Nat.sub_self,F9 c,List.set_cons_zero,List.take_add_one,h]
  simp
theorem zcQ{Z Za Z0 b lv cn H fuel:Nat}{w0 w:World}{An:Option Addr}{r:List Int}{A:Option Addr}{c:Nat}{l:List Kv}{ex:List (Nat×Array Value×Nat)}(hS:RdS Z Za Z0 b lv w0 An cn r)(hK:X7 w A c l)(hl:l.length<=16)(hz:Za<=w.heap.size)(ho:Yc Z w0 Z0 b An r.length cn w)(g6:xn Za lv (λ_=>True) w [])(g7:fuel<=1000)(g9:w.heap[H]?=some (.cells #[.func (.func 40) #[] #[.pointer (some ⟨b,0,none⟩)]] 52 (0,0)))(h3: ∀x∈ex,w.heap[x.1]?=some (.cells x.2.1 x.2.2 (0,0)))(he: ∀x∈ex,x.1<Za/\x.1≠lv):
 Calls prog 19 #[.slice A l.length c,.int .i64 fuel,.func (.func 20) #[] #[.pointer (some ⟨lv,0,none⟩),.pointer (some ⟨H,0,none⟩)]] w λe w'=> ∃A' c' l' Ar cr,e=.returned (.tuple #[.slice A' l.length c',.slice Ar (U6 (l.map Prod.fst) l.length).length cr,.int .i64 0])/\X7 w' A' c' l'/\l'.map Prod.fst=(l.map Prod.fst).map (Ja (M1 r) fuel)/\K9 w' (Ti w') (.slice Ar (U6 (l.map Prod.fst) l.length).length cr) (U6 (l.map Prod.fst) l.length)/\Hk Z w w'/\Yc Z w0 Z0 b An r.length cn w'/\xn Za lv (λ_=>True) w' (qR (M1 r) fuel (l.map Prod.fst) l.length)/\ ∀x∈ex,w'.heap[x.1]?=some (.cells x.2.1 x.2.2 (0,0)):=by
 obtain⟨ks,c0⟩: ∃ks,l.map Prod.fst=ks:=⟨_,rfl⟩;rw[c0];have d2:=zh c0;have l4:Hid (ks.length=l.length):=zh (by rw[<-c0,D9]);have HS:=zh hS;have HK:=zh hK;have HZ:=zh hz;have HO:=zh ho;have h6:=zh g6;have h7:=zh g9;have d3:=zh h3;have HE:=zh he;have O:=zh (y9 w (.cells #[.func (.func 20) #[] #[.pointer (some ⟨lv,0,none⟩),.pointer (some ⟨H,0,none⟩)]] 66));have HB:=zh ((y7 w.heap.size w).alloc (y6 _) (.cells #[.func (.func 20) #[] #[.pointer (some ⟨lv,0,none⟩),.pointer (some ⟨H,0,none⟩)]] 66));have f0: ¬((fuel:Int)<0):=by omega
 have f1: ¬((1000000:Int)<(fuel:Int)):=by omega
 have l5:=zh g7;clear c0 hS hK hz ho g6 g9 h3 he
 go_enter func19,ntmps19
 go_upto_region 1 with(fail)
 generalize World.alloc _ _=w1 at O HB|-
 generalize h8:w.heap.size=Q at O|-
 have n7:=zh h8;have h9:Hid (Q<w1.heap.size):=zh (I7 O.out);clear h8;have d4:=zh (X7.hk (.of HB.out (E2 _)) HK.out);have CC:=zh (YR d4.out hl)
 go_wp2_with fail
 refine CC.out.mono ?_;rintro e w2 ⟨rfl,c1⟩;replace O:=zh ((c1.block Q h9.out).trans O.out);replace HB:=zh (HB.out.trans (c1.mono HB.out.size));have i0:=zh (X7.hk (.of c1 (E2 _)) d4.out);clear CC d4 c1
 go_wp2_with fail
 have CL:=zh (zcV i0.out hl);refine CL.out.mono ?_;rintro e w3 ⟨Ao,co,rfl,c8,d5⟩;have v:Hid (w3.ownsRow w.heap.size 61 4 (.slice Ao l.length co) l.length (l.flatMap Kv.cells)):=zh (c8.mono HB.out.size);replace O:Hid (w3.heap[Q]?=_):=zh ((d5.block Q (I7 O.out)).trans O.out);have G:Hid (Ze Z Za Z0 b lv cn w0 An r.length ex w l (.slice none 0 0) [] [] w3):=zh (by
  have b3:=HB.out.trans (d5.mono HB.out.size);exact⟨λx hx=>((((HK.out.jd x hx).J0 λk _ _ _ T _=>b3.block k (I7 T))).imp λ_ _ _ e=>(by cases e)),G5 _ _ _ _,(h6.out.below b3).J0 (λ_ _ _ _ _=>rfl) (λ_ _ _ e=>(by cases e)),HO.out.below b3,.of b3 HO.out.sz,λx hx=>(b3.block x.1 (I7 (d3.out x hx))).trans (d3.out x hx)⟩)
 clear CL c8 d5 i0 HO h6 d3 HB h9
 go_wp2_with fail
 clear f0 f1
 go_loopw[11,33] (λrv iv wr=> ∃(j N:Nat)(J:List Kv)(Ar:Option Addr)(cr:Nat),j<=l.length/\rv=.slice Ar N cr/\iv=.int .i64 j/\Hid ((U6 ks j).length=N)/\Hid (J.length=l.length)/\Hid (J.map Prod.fst=coU (M1 r) fuel ks j)/\Hid (wr.ownsRow w.heap.size 61 4 (.slice Ao l.length co) l.length (J.flatMap Kv.cells))/\Hid (Ze Z Za Z0 b lv cn w0 An r.length ex w J (.slice Ar N cr) (U6 ks j) (qR (M1 r) fuel ks j) wr)/\Hid (wr.heap[Q]?=some (.cells #[.func (.func 20) #[] #[.pointer (some ⟨lv,0,none⟩),.pointer (some ⟨H,0,none⟩)]] 66 (0,0)))) (λ_ iv _=>l.length-(intOf iv).toNat)
 case atStart=>exact⟨0,0,l,none,0,E2 _,rfl,rfl,zh rfl,zh rfl,zh (by unfold coU;simpa using d2.out),v,G,O⟩
 case round=>
  clear v G O;obtain⟨j,N,J,Ar,cr,hj,rfl,rfl,HN,E,HM,v,G,O⟩:=hrel
  by_cases a6:j<l.length
  ·obtain⟨x,hx⟩: ∃x,l[j]?=some x:=⟨_,y8 a6⟩
   obtain⟨y,hy⟩: ∃y,J[j]?=some y:=⟨_,y8 (by rw[E.out];exact a6)⟩;have d6:ks[j]?=some x.1:=by rw[<-d2.out,G3,hx];rfl
   have d7:=zh d6;have i1:y.1=x.1:=by
    have h1:=(zaQ (hf:=M1 r) (fuel:=fuel) d6).1;rw[<-HM.out,G3,hy]at h1;injection h1
   obtain⟨g,L,a,M,F,Af,cf,As,cs,rfl,rfl,U,⟨q0,q1,q2,q3⟩,hF,i2,i3⟩:=(HK.out.hk G.out.hk).get hx;obtain⟨yk,R,ys⟩:=y;simp only at i1;subst i1;obtain⟨go,rfl⟩:=qA v.out (by omega);have HY:=zh hy;have HF:=zh hF;have V:=zh i2;have b4:=zh i3;clear hx hy d6 hF i2 i3;obtain⟨i4,Y⟩:=v.out.lt go rfl;have c2:=zh i4;clear i4
   go_upto_region 11 with(fail)
   have b1:=((y7 wr.heap.size wr).alloc (y6 _) (.cells #[.int .i64 j] 3)).alloc (by simp) (.cells #[.slice Af L.length cf,.int .i64 a,.slice As (K4 M).length cs,.int .i64 F] 61);have x1:=y9 wr (.cells #[.int .i64 j] 3);have x2:=y9 (wr.alloc (.cells #[.int .i64 j] 3)) (.cells #[.slice Af L.length cf,.int .i64 a,.slice As (K4 M).length cs,.int .i64 F] 61);have x3:=(D4 (wr.alloc (.cells #[.int .i64 j] 3)) (.cells #[.slice Af L.length cf,.int .i64 a,.slice As (K4 M).length cs,.int .i64 F] 61) (I7 x1)).trans x1;rw[show(wr.alloc (.cells #[.int .i64 j] 3)).heap.size=wr.heap.size+1 by simp]at x2;replace G:=zh (G.out.below HS.out HZ.out HE.out b1);replace O:=zh ((b1.block Q (I7 O.out)).trans O.out);replace v:=zh (M4 v.out λg cs _ U=>b1.block g (I7 U));replace HF:=zh (HF.out.J0 (.of b1));replace V:=zh (JT.hk (.of b1 (E2 _)) V.out);have K:=zh x3;have a0:=zh x2;have b5:Hid (go≠wr.heap.size+1/\go≠wr.heap.size):=zh ⟨by omega,by omega⟩;have c3:Hid (Q≠go):=zh λe=>by
    obtain⟨l6,h4⟩:=zC v.out (g:=go) rfl;have h5:=O.out;rw[e,h4]at h5;injection h5 with h5
    injection h5 with _ h5
    exact I2 h5 (by decide)
   clear b1 x1 x2 x3 q0 q1 q2 q3 U Y;generalize World.alloc _ _=P at G O v HF V K a0|-
   generalize wr.heap.size+1=cb at a0 b5|-
   generalize wr.heap.size=ib at K b5|-
   obtain⟨C,-⟩:=N6 a0.out;obtain⟨I,-⟩:=N6 K.out
   by_cases h0:0<F
   ·have xE:=V.out.1.at 0 M.mode rfl
    obtain⟨gs,os,rfl,-,-⟩:=xE;have l7:(K4 M).length<=30000:=YT b4.out.pg b4.out.m;have CL:=zh (λW (hW:Below P.heap.size P W)=>jo (c:=cs) (V.out.sl.low hW).1 (.inr ⟨gs,os,rfl⟩) (by omega));have l8:Hid (∀W,Below P.heap.size P W-> ∀q,W.frozen? ⟨go,q,none⟩=false):=zh λW hW q=>(K6 v.out hW).frozenAt q;have i5:IntKind.i64.wrap ((F:Int)-1)=((F-1:Nat):Int):=by have:=b4.out.hi;simp only at this;rw[show((F-1:Nat):Int)=(F:Int)-1 by omega];exact IntWalk.i64_in _ (by omega)
    clear l7
    go_upto_region 12 with(fail)
    go_cut[] (λW=> ∃A' c',∃W0:World,Hid (Below P.heap.size P W0)/\Hid (W0.ownsRow P.heap.size 3 1 (.slice A' (K4 M).length c') (K4 M).length (iC (K4 M)))/\W=(W0.setCell ⟨go,j*4+2,none⟩ (.slice A' (K4 M).length c')).setCell ⟨go,j*4+3,none⟩ (.int .i64 ((F-1:Nat):Int)))
    case first=>
     have Y:go<P.heap.size:=(v.out.lt go rfl).2;obtain⟨l9,m0⟩:=b5.out;have K1: ∀W,Below P.heap.size P W->(∀q,W.cell? ⟨cb,q,none⟩= #[Value.slice Af L.length cf,.int .i64 a,.slice (some ⟨gs,os,none⟩) (K4 M).length cs,.int .i64 F][q]?)/\(∀q,W.cell? ⟨ib,q,none⟩= #[Value.int .i64 j][q]?)/\go<W.heap.size:=λW hW=>⟨(N6 ((hW.block cb (I7 a0.out)).trans a0.out)).1,(N6 ((hW.block ib (I7 K.out)).trans K.out)).1,z6 Y hW.size⟩;have K2: ∀W,Below P.heap.size P W-> ∀(p:Nat)(u:Value),(∀q,(W.setCell ⟨go,p,none⟩ u).cell? ⟨cb,q,none⟩= #[Value.slice Af L.length cf,.int .i64 a,.slice (some ⟨gs,os,none⟩) (K4 M).length cs,.int .i64 F][q]?)/\(∀q,(W.setCell ⟨go,p,none⟩ u).cell? ⟨ib,q,none⟩= #[Value.int .i64 j][q]?):=λW hW p u=>by
      have k1:=(hW.block cb (I7 a0.out)).trans a0.out;have k2:=(hW.block ib (I7 K.out)).trans K.out;exact⟨(N6 (((J2 W go p u).block cb (I7 k1) λe=>by injection e with e;exact l9 e.symm).trans k1)).1,(N6 (((J2 W go p u).block ib (I7 k2) λe=>by injection e with e;exact m0 e.symm).trans k2)).1⟩
     have m1:j*4+3<l.length*4:=by omega
     have Q1: ∀W,Below P.heap.size P W->W.cell? ⟨go,j*4+2,none⟩=some ys/\(∀q,W.frozen? ⟨go,q,none⟩=false):=λW hW=>⟨((K6 v.out hW).cellAt (j*4+2) (by omega)).trans (Q6 Kv.cells 4 (λ_=>rfl) J j _ HY.out 2 _ rfl),(K6 v.out hW).frozenAt⟩;have Q2: ∀W,Below P.heap.size P W-> ∀A' c',(W.setCell ⟨go,j*4+2,none⟩ (.slice A' (K4 M).length c')).cell? ⟨go,j*4+3,none⟩=some (.int .i64 F)/\(∀q,(W.setCell ⟨go,j*4+2,none⟩ (.slice A' (K4 M).length c')).frozen? ⟨go,q,none⟩=false):=λW hW A' c'=>by
      have h1:=yR (y:=(⟨L,a,M,F⟩,R,.slice A' (K4 M).length c')) (E.out.symm▸K6 v.out hW) HY.out (by decide:2<4) rfl;exact⟨(h1.cellAt (j*4+3) (by rw[List.length_set,E.out];exact m1)).trans (Q6 Kv.cells 4 (λ_=>rfl) _ j _ (by rw[List.getElem?_set_self (by rw[E.out];exact a6)]) 3 _ rfl),h1.frozenAt⟩
     clear C I;refine W4 (D:=Option Addr×Nat×World) (by kernel_rfl) [(0,41),(1,42),(2,43),(3,44),(4,45),(5,46),(6,47),(7,48),(8,49),(9,50),(10,51),(11,52),(13,53),(14,54)] [6,12,15] [[],[6],[6,12],[6,12,15]] (λ_ d=>[(0,41,.slice (some ⟨go,0,none⟩) l.length co),(1,42,.int .i64 j),(2,43,.slice (some ⟨go,0,none⟩) l.length co),(3,44,.int .i64 j),(4,45,.pointer (some ⟨cb,2,none⟩)),(5,46,.slice (some ⟨gs,os,none⟩) (K4 M).length cs),(6,47,.slice d.1 (K4 M).length d.2.1),(7,48,.pointer (some ⟨cb,3,none⟩)),(8,49,.int .i64 F),(9,50,.int .i64 ((F-1:Nat):Int)),(10,51,.pointer (some ⟨go,j*4,none⟩)),(11,52,.pointer (some ⟨go,j*4+2,none⟩)),(13,53,.pointer (some ⟨go,j*4,none⟩)),(14,54,.pointer (some ⟨go,j*4+3,none⟩))]) (λjj d=>match jj with|0=>d.2.2|1=>d.2.2|2=>d.2.2.setCell ⟨go,j*4+2,none⟩ (.slice d.1 (K4 M).length d.2.1)|_=>(d.2.2.setCell ⟨go,j*4+2,none⟩ (.slice d.1 (K4 M).length d.2.1)).setCell ⟨go,j*4+3,none⟩ (.int .i64 ((F-1:Nat):Int))) (λjj d=>Below P.heap.size P d.2.2/\match jj with|0=>True|_=>d.2.2.ownsRow P.heap.size 3 1 (.slice d.1 (K4 M).length d.2.1) (K4 M).length (iC (K4 M))) [(0,0),(0,1),(1,0),(1,1),(2,0),(2,1),(2,2),(3,0),(3,1),(3,2),(4,0),(5,0),(6,0),(7,0),(7,1),(7,2),(8,0),(8,1),(8,2),(9,0),(9,1),(9,2),(10,1),(11,1),(12,1),(13,2),(14,2),(15,2)] (by kernel_rfl) (by kernel_rfl) (λ_ _=>rfl) (by rfl) (none,0,P.drew) rfl ⟨J5 P,trivial⟩ rfl ?_ ?_
     ·repeat' (first|refine List.forall_mem_cons.2 ⟨?_,?_⟩|exact List.forall_mem_nil _)
      all_goals
       intro o' ho;injection ho with ho
       subst ho;rintro⟨A',c',W⟩ ⟨H,U⟩;simp only at H U;obtain⟨k1,k2,k3⟩:=K1 W H;obtain⟨k4,k5⟩:=K2 W H (j*4+2) (.slice A' (K4 M).length c');obtain⟨q1,q2⟩:=Q1 W H;obtain⟨q3,q4⟩:=Q2 W H A' c'
      rotate_left 12
      ·refine .call 44 #[.slice (some ⟨gs,os,none⟩) (K4 M).length cs] (by simp[J8,execOp,go_sem]) ((CL.out W H).mono ?_)
       rintro e w9 ⟨m2,A9,c9,rfl,m3⟩;exact⟨_,1,(A9,c9,w9),rfl,.of (by decide) ⟨H.trans (m2.mono H.size),m3.mono H.size⟩ rfl rfl,rfl,rfl⟩
      rotate_left 11
      ·exact .qU 2 (A',c',W) (.of (by decide) ⟨H,U⟩ rfl rfl) (by simp[J8,X9,execOp,go_sem,q1,q2])
      rotate_left 2
      ·exact .qU 3 (A',c',W) (.of (by decide) ⟨H,U⟩ rfl rfl) (by simp[J8,X9,execOp,go_sem,q3,q4])
      all_goals exact .xk rfl (by simp[J8,X9,execOp,go_sem,k1,k2,k3,k4,k5,i5,a6])
     ·rintro jj ⟨A',c',W⟩ ⟨H,U⟩ hd
      have m4:=hd 15 (by decide) (by decide)
      match jj,U,m4 with
      |0,_,h|1,_,h|2,_,h=>cases h
      |3,U,_=>
       have a7:=zh H;have d8:=zh U;clear hd H U K1 K2 Q1 Q2;simp only[J8,B6,C0,List.append_nil,List.foldl];go_simp
       go_wp2_with fail
       go_meet
       case rel=>exact⟨A',c',W,a7,d8,rfl⟩
      |n+4,_,h=>cases h
    case rest=>
     rename World=>w9
     obtain⟨A',c',W,a7,d8,rfl⟩:=hcut;clear CL l8 C I i5;have Y:go<W.heap.size:=z6 (v.out.lt go rfl).2 a7.out.size;have X:=G.out.kv _ (B7 HY.out);have d9:=G.out.below HS.out HZ.out HE.out a7.out;have e0:=K6 v.out a7.out;have e4:=(a7.out.block Q (I7 O.out)).trans O.out;have a1:xh W (λg=>(Value.slice Ar N cr).ownBlock≠some g) (⟨L,a,M,F-1⟩,R,.slice A' (K4 M).length c'):=⟨X.f,X.fi.J0 (.of a7.out),A',c',rfl,(XD d8.out).imp λg _ U=>G.out.ZF U⟩;have i6:=(d9.put (zaC (j:=j) d9.kv a1)).ZB HS.out HZ.out HE.out (zC e0 rfl) c2.out (j*4+2) (.slice A' (K4 M).length c');have e5:=yR (y:=(⟨L,a,M,F⟩,R,.slice A' (K4 M).length c')) (E.out.symm▸e0) HY.out (by decide:2<4) rfl;have e6:=i6.ZB HS.out HZ.out HE.out (zC e5 rfl) c2.out (j*4+3) (.int .i64 ((F-1:Nat):Int));have c4:=yR (i:=j) (j:=3) (u:=.int .i64 ((F-1:Nat):Int)) (y:=(⟨L,a,M,F-1⟩,R,.slice A' (K4 M).length c')) e5 (List.getElem?_set_self (by rw[E.out];exact a6)) (by decide) rfl;rw[List.set_set]at c4;have e7:=((J2 W go (j*4+2) (.slice A' (K4 M).length c')).block Q (I7 e4) (λe=>by injection e with e;exact c3.out e)).trans e4;have i7:=((J2 _ go (j*4+3) (.int .i64 ((F-1:Nat):Int))).block Q (I7 e7) (λe=>by injection e with e;exact c3.out e)).trans e7;have T:=d7.out;simp only at T;have e1:U6 ks (j+1)=U6 ks j:=by rw[qW T];simp[coR,h0]
     have e2:qR (M1 r) fuel ks (j+1)=qR (M1 r) fuel ks j:=by rw[xL T];simp[coL,h0]
     have hm:(J.set j (⟨L,a,M,F-1⟩,R,.slice A' (K4 M).length c')).map Prod.fst=coU (M1 r) fuel ks (j+1):=by
      rw[List.map_set,HM.out,<-(zaQ (hf:=M1 r) (fuel:=fuel) T).2];simp[Ja,h0]
     have i8:Hid ((J.set j (⟨L,a,M,F-1⟩,R,.slice A' (K4 M).length c')).length=l.length):=zh (by rw[List.length_set];exact E.out);rw[i8.out]at c4;rw[<-e1,<-e2]at e6;have a9:Hid ((U6 ks (j+1)).length=N):=zh (by rw[e1];exact HN.out);have i9:=zh e6;have j0:=zh c4;have j1:=zh i7;have m5:=zh hm;clear d9 i6 e6 e0 e5 c4 e4 e7 i7 T e1 e2 hm a1 X Y;generalize World.setCell _ _ _=w8 at i9 j0 j1|-
     go_wp2_with fail
     go_roundw
     case rel=>exact⟨j+1,N,_,Ar,cr,by omega,rfl,by go_num,a9,i8,m5,j0,i9,j1⟩
     case measure=>simp[intOf];omega
   ·obtain rfl:F=0:=by omega
    clear h0;obtain⟨gs,os,rfl,m6,s0⟩:=V.out.sl.1.at 0 M.mode rfl;have m7:=V.out.2;have m8:0<(K4 M).length:=by unfold K4;simp
    rw[Nat.add_zero]at s0;have j2:(qR (M1 r) fuel ks j).length<=900000:=by
     have h1:=QS (M1 r) fuel ks j;have Q:=Nat.mul_le_mul (show j<=16 by omega) g7;omega
    have j3: ∀x∈bsR ib Q H lv b (j:Int)++ex,P.heap[x.1]?=some (.cells x.2.1 x.2.2 (0,0)):=by
     simp only[bsR,B6,C0,List.forall_mem_cons];exact⟨K.out,O.out,(G.out.hk.K3 H _ _ _ h7.out (by unfold xo;decide)).trans h7.out,G.out.ex⟩
    have RC:=zh (zgG (who:=(j:Int)) HS.out b4.out HF.out V.out (C4 HZ.out G.out.hk.size) G.out.ho G.out.lg j2 l5.out j3 HE.out);clear j2 j3
    go_upto_region 14 with(fail)
    obtain⟨gb,e8⟩: ∃q,(M.mode==0)=q:=⟨_,rfl⟩;have j4:=zh e8
    try rw[e8]
    clear e8 s0 m7 m8 m6
    go_wp2_with fail
    refine RC.out.mono ?_;rintro e w5 hr;obtain⟨f2,b6,A',c',rfl,f3⟩:=G.out.run hr;have T:=d7.out;have b7:yx (Ja (M1 r) fuel ⟨L,a,M,0⟩):=b4.out.round _ (yW r) fuel;have e2:=xL (hf:=M1 r) (fuel:=fuel) T;simp only[coL,Nat.lt_irrefl,if_false]at e2;rw[<-e2]at f2;have hm: ∀(y:Kv),y.1=Ja (M1 r) fuel ⟨L,a,M,0⟩->(J.set j y).map Prod.fst=coU (M1 r) fuel ks (j+1):=λy hy=>by
     rw[List.map_set,HM.out,<-(zaQ (hf:=M1 r) (fuel:=fuel) T).2,hy]
    simp only[Ja,Nat.lt_irrefl,if_false]at hm b7;generalize(S1 L (M1 r) fuel M).2=y at hm b7|-
    generalize(S1 L (M1 r) fuel M).1=B at hm b7 f3|-
    have j5:=zh hm;have m9:=zh b7;have j6:=zh f3;have f4:=zh f2;have f5:=zh ((b6.K3 Q _ _ _ O.out (by unfold xo;decide)).trans O.out);have a8:=zh ((b6.K3 ib _ _ _ K.out (by unfold xo;decide)).trans K.out);have b0:=zh (M4 v.out λg cs _ U=>b6.K3 g _ _ _ U (by unfold xo;decide));have f6:=zh (G.out.kv _ (B7 HY.out));have j7:=zh (M3.J0 f6.out.fi b6.xi);clear hr f2 b6 f3 T e2 hm b7 RC C I O K v HF V a0 HM G;obtain⟨I,-⟩:=N6 a8.out;have Y:go<w5.heap.size:=(b0.out.lt go rfl).2;have q1:=(b0.out.cellAt (j*4+2) (by omega)).trans (Q6 Kv.cells 4 (λ_=>rfl) J j _ HY.out 2 _ rfl);have f1:=b0.out.frozenAt (j*4+2);simp only at q1
    go_upto_region 16 with(fail)
    have j8:=yR (y:=(⟨L,a,B,0⟩,R,.slice A' (K4 B).length c')) (E.out.symm▸b0.out) HY.out (by decide:2<4) rfl;have a1:xh w5 (λg=>(Value.slice Ar N cr).ownBlock≠some g) (⟨L,a,B,0⟩,R,.slice A' (K4 B).length c'):=⟨f6.out.f,j7.out,A',c',rfl,j6.out⟩;have j9:=(f4.out.put (zaC (j:=j) f4.out.kv a1)).ZB HS.out HZ.out HE.out (zC b0.out rfl) c2.out (j*4+2) (.slice A' (K4 B).length c');have k0:=((J2 w5 go (j*4+2) (.slice A' (K4 B).length c')).block Q (I7 f5.out) (λe=>by injection e with e;exact c3.out e)).trans f5.out;have k6:=((J2 w5 go (j*4+2) (.slice A' (K4 B).length c')).block ib (I7 a8.out) (λe=>by injection e with e;exact b5.out.2 e.symm)).trans a8.out;have a2:=zh j8;have b2:=zh j9;have b8:=zh k0;have S:=zh k6;clear j8 j9 k0 k6 a1 f4 f5 a8 b0 f6 j7 j6 I q1 f1 Y;generalize World.setCell _ _ _=w6 at a2 b2 b8 S|-
    go_upto_if 77 with(fail)
    go_cut[] (λW=> ∃s':Nat,Hid (s'=if y=1 then B.value.toNat else 0)/\Hid (W.ownsRow w.heap.size 61 4 (.slice (some ⟨go,0,none⟩) (J.set j (⟨L,a,B,s'⟩,R,.slice A' (K4 B).length c')).length co) (J.set j (⟨L,a,B,s'⟩,R,.slice A' (K4 B).length c')).length ((J.set j (⟨L,a,B,s'⟩,R,.slice A' (K4 B).length c')).flatMap Kv.cells))/\Hid (Ze Z Za Z0 b lv cn w0 An r.length ex w (J.set j (⟨L,a,B,s'⟩,R,.slice A' (K4 B).length c')) (.slice Ar N cr) (U6 ks j) (qR (M1 r) fuel ks (j+1)) W)/\Hid (W.heap[Q]?=some (.cells #[.func (.func 20) #[] #[.pointer (some ⟨lv,0,none⟩),.pointer (some ⟨H,0,none⟩)]] 66 (0,0)))/\Hid (W.heap[ib]?=some (.cells #[.int .i64 j] 3 (0,0))))
    case first=>
     by_cases hy:y=1
     ·subst hy
      have k7:(J.set j (⟨L,a,B,0⟩,R,.slice A' (K4 B).length c')).length=l.length:=by rw[List.length_set];exact E.out
      have c5:(J.set j (⟨L,a,B,0⟩,R,.slice A' (K4 B).length c'))[j]?=some (⟨L,a,B,0⟩,R,.slice A' (K4 B).length c'):=List.getElem?_set_self (by rw[E.out];exact a6);have X:=b2.out.kv _ (B7 c5);obtain⟨A9,c9,e9,f7⟩:=X.s;simp only at e9 f7;injection e9 with e1 _ e3
      subst e1 e3;have n0:=zh f7;obtain⟨g8,o8,rfl,n1,s1⟩:=n0.out.1.at 1 B.value rfl;have k8: ¬((K4 B).length:Int)<=1:=by unfold K4;simp;omega
      have q1:=(a2.out.cellAt (j*4+3) (by rw[k7];omega)).trans (Q6 Kv.cells 4 (λ_=>rfl) _ j _ c5 3 _ rfl);have f1:=a2.out.frozenAt (j*4+3);simp only at q1;obtain⟨I,-⟩:=N6 S.out;have Y:go<w6.heap.size:=(a2.out.lt go rfl).2;obtain⟨s8,f8⟩: ∃s,B.value.toNat=s:=⟨_,rfl⟩;have d0:max B.value 0=(s8:Int):=by rw[<-f8];exact(Int.toNat_eq_max _).symm
      have n2:=zh f8;clear f8
      go_upto_region 17 with(fail)
      refine L4 (by kernel_rfl) [(0,78,.slice (some ⟨go,0,none⟩) l.length co),(1,79,.int .i64 j),(2,80,.slice (some ⟨g8,o8,none⟩) (K4 B).length c'),(3,81,.pointer (some ⟨g8,o8+1,none⟩)),(4,82,.int .i64 B.value),(5,83,.int .i64 (s8:Int)),(6,84,.pointer (some ⟨go,j*4,none⟩)),(7,85,.pointer (some ⟨go,j*4+3,none⟩))] [] [(0,78),(1,79),(2,80),(3,81),(4,82),(5,83),(6,84),(7,85)] [] (by rfl) (by rfl) [8] (λjj=>match jj with|0=>w6.drew|_=>(w6.setCell ⟨go,j*4+3,none⟩ (.int .i64 (s8:Int))).drew) [(0,0),(1,0),(2,0),(3,0),(4,0),(5,0),(6,0),(7,0),(8,0)] (by kernel_rfl) (by kernel_rfl) (by rfl) rfl ?_ ?_
      ·generalize hF:J8 _ _=FF
       simp[J8]at hF;subst hF
       repeat' (first|refine List.forall_mem_cons.2 ⟨?_,?_⟩|exact List.forall_mem_nil _)
       all_goals
        intro o ho;injection ho with ho
        subst ho
       all_goals simp[X9,execOp,go_sem,I,s1,q1,f1,a6,k8,d0]
      ·simp only[J8,B6,C0,List.append_nil,List.foldl]
       go_simp;have a1:xh w6 (λg=>(Value.slice Ar N cr).ownBlock≠some g) (⟨L,a,B,s8⟩,R,.slice (some ⟨g8,o8,none⟩) (K4 B).length c'):=⟨X.f,X.fi,X.s⟩;have f9:=((b2.out.put (zaC (j:=j) b2.out.kv a1)).ZB HS.out HZ.out HE.out (zC a2.out rfl) c2.out (j*4+3) (.int .i64 (s8:Int))).below HS.out HZ.out HE.out (J5 _);have g0:=(yR (i:=j) (j:=3) (u:=.int .i64 (s8:Int)) (y:=(⟨L,a,B,s8⟩,R,.slice (some ⟨g8,o8,none⟩) (K4 B).length c')) a2.out c5 (by decide) rfl).drew;rw[List.set_set]at f9 g0;have k9:(w6.setCell ⟨go,j*4+3,none⟩ (.int .i64 (s8:Int))).drew.heap[Q]?=_:=((J2 w6 go (j*4+3) (.int .i64 (s8:Int))).block Q (I7 b8.out) (λe=>by injection e with e;exact c3.out e)).trans b8.out;have l0:(w6.setCell ⟨go,j*4+3,none⟩ (.int .i64 (s8:Int))).drew.heap[ib]?=_:=((J2 w6 go (j*4+3) (.int .i64 (s8:Int))).block ib (I7 S.out) (λe=>by injection e with e;exact b5.out.2 e.symm)).trans S.out;have a3:=zh f9;have a4:=zh g0;have a5:=zh k9;have c6:=zh l0;clear f9 g0 k9 l0 a1 X q1 f1 I s1 n1 k8 d0 c5 k7 f7;generalize World.drew _=w7 at a3 a4 a5 c6|-
       go_wp2_with fail
       go_meet
       case rel=>exact⟨s8,zh (by simp[n2.out]),a4,a3,a5,c6⟩
     ·go_wp2_with fail
      go_meet
      case rel=>exact⟨0,zh (by rw[B5 hy]),a2,b2,b8,S⟩
    case rest=>
     rename World=>w7
     obtain⟨s',l1,a4,a3,a5,c6⟩:=hcut;clear a2 b2 b8 S;have T:=d7.out;have g1:Hid ((J.set j (⟨L,a,B,s'⟩,R,.slice A' (K4 B).length c')).map Prod.fst=coU (M1 r) fuel ks (j+1)):=zh (j5.out _ (by rw[l1.out]));have c7:Hid ((J.set j (⟨L,a,B,s'⟩,R,.slice A' (K4 B).length c')).length=l.length):=zh (by rw[List.length_set];exact E.out);rw[c7.out]at a4;generalize J.set j (⟨L,a,B,s'⟩,R,.slice A' (K4 B).length c')=g2 at a4 a3 g1 c7;clear j5 m9 l1 HY;obtain⟨I,-⟩:=N6 c6.out;cases gb with
     |true=>
      have e1:U6 ks (j+1)=U6 ks j++[(j:Int)]:=by rw[qW T];simp[coR];have:=j4.out;simpa using this
      obtain⟨g8,l2,w8,r8,g3,n3,g4⟩:=a3.out.Zf HS.out HZ.out HE.out 22 (j:Int) (by have:=QV ks j;omega);have g5: ∀(k:Nat)(cs:Array Value)(t:Nat)(fr:Nat×Nat),w7.heap[k]?=some (.cells cs t fr)->t≠3->(Value.slice Ar N cr).ownBlock≠some k:=λk cs t fr h1 Q e=>by
       obtain⟨l6,h4⟩:=zC a3.out.rw e;rw[h1]at h4;injection h4 with h4
       injection h4 with _ h4
       exact Q h4
      have n4:=zh (M4 a4.out λg cs _ U=>g4 g _ _ _ U (g5 g _ _ _ U (by decide)));have n5:=zh ((g4 Q _ _ _ a5.out (g5 Q _ _ _ a5.out (by decide))).trans a5.out);rw[<-e1]at g3;have l3:=zh g3;have a9:Hid ((U6 ks (j+1)).length=N+1):=zh (by rw[e1,z9,HN.out];rfl);rw[HN.out]at r8;rw[a9.out]at l3;clear e1 T g3 n3 g4 g5 a3 a4 a5
      go_wp2_with(at_builtin;refine Lib.wpList_append_run _ rfl _ _ _ _ rfl _ _ rfl rfl _ _ r8 ?_)
      go_roundw
      case rel=>exact⟨j+1,N+1,g2,some ⟨g8,0,none⟩,l2,by omega,rfl,by go_num,a9,c7,g1,n4,l3,n5⟩
      case measure=>simp[intOf];omega
     |false=>
      have e1:U6 ks (j+1)=U6 ks j:=by rw[qW T];simp[coR];exact λh=>by have:=j4.out;simp[h]at this
      have a9:Hid ((U6 ks (j+1)).length=N):=zh (by rw[e1];exact HN.out);have n6:Hid (Ze Z Za Z0 b lv cn w0 An r.length ex w g2 (.slice Ar N cr) (U6 ks (j+1)) (qR (M1 r) fuel ks (j+1)) w7):=zh (by rw[e1];exact a3.out);clear e1 T I
      go_wp2_with fail
      go_roundw
      case rel=>exact⟨j+1,N,g2,Ar,cr,by omega,rfl,by go_num,a9,c7,g1,a4,n6,a5⟩
      case measure=>simp[intOf];omega
  ·obtain rfl:j=l.length:=by omega
   have b9:coU (M1 r) fuel ks l.length=ks.map (Ja (M1 r) fuel):=by unfold coU;rw[<-l4.out,F6,List.drop_length,List.append_nil]
   have d1:Hid (X7 wr Ao co J/\J.map Prod.fst=ks.map (Ja (M1 r) fuel)):=zh ⟨X7.ql (by rw[E.out];exact v.out) G.out.kv λy hy=>by
    have h1:y.1∈ks.map (Ja (M1 r) fuel):=by rw[<-b9,<-HM.out];exact G8 hy
    obtain⟨k,T,e⟩:=List.mem_map.1 h1;rw[<-d2.out]at T;obtain⟨z,hz,e2⟩:=List.mem_map.1 T;rw[<-e,<-e2];exact(HK.out.ok z hz).round _ (yW r) fuel,by rw[HM.out,b9]⟩
   clear b9
   go_wp2_with fail
   go_ret3
   refine⟨Ao,co,J,Ar,cr,by rw[HN.out];rfl,d1.out.1,d1.out.2,?_,G.out.hk,G.out.ho,G.out.lg.ZF,G.out.ex⟩;rw[HN.out];exact ZT G.out.rw
theorem map_take{hf:R4}{fuel:Nat}{a:List Ko}{j:Nat}{k:Ko}{lo:List Kv}{y:Kv}(h:a[j]?=some k)(b:lo.map Prod.fst=(a.take j).map (Ja hf fuel))(c:y.1=Ja hf fuel k):(lo++[y]).map Prod.fst=(a.take (j+1)).map (Ja hf fuel):=by
 rw[List.map_append,b,List.take_add_one,h];simp[c]
theorem XJ{w:World}{g:Nat}{V:Array Value}(d:w.heap[g]?=some (.cells V 61 (0,0)))(q:Nat)(u:Value): ∀(k:Nat)(b:Array Value)(t:Nat)(c:Nat×Nat),w.heap[k]?=some (.cells b t c)->t≠61->(w.setCell ⟨g,q,none⟩ u).heap[k]?=w.heap[k]?:=λk b t c a f=>(J2 w g q u).block k (I7 a) λe=>by
 injection e with e
 subst e;rw[d]at a;injection a with a
 injection a with _ a
 exact f a.symm
theorem xP{w:World}{base e size n g:Nat}{v:Value}{xs:List Value}(h:w.ownsRow base e size v n xs)(a: ∀k,v.ownBlock=some k->k≠g)(q:Nat)(u:Value):(w.setCell ⟨g,q,none⟩ u).ownsRow base e size v n xs:=M4 h λk d e b=>(J2 w g q u).block k (I7 b) λc=>a k e (by injection c)
end Go.Proofs.YtalgmjmibamdfaaGreatDoor
