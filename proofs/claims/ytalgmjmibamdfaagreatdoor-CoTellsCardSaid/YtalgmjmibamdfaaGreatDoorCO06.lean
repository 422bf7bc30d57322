/- Merged. -/
import Derived.Test.YtalgmjmibamdfaaGreatDoorCO05
set_option linter.all false
set_option maxHeartbeats 16000000
set_option maxRecDepth 100000
namespace Go.Proofs.YtalgmjmibamdfaaGreatDoor
open Go.Proofs.Tryz
open Go.RowKit Tw
theorem Fr.old{p:Bool}{c:Cx}{w0 w:World}{i b n T:Nat}{u:List Value}{x:Value}{os:List Ob}{ps:List zU}(h:Fr p c w0 w i os ps)(l:w0.heap[b]?=some (.cells ⟨u⟩ T (0,0)))(G:b≠c.rb)(H:10<b)(B:jw (w.setCell ⟨b,n,none⟩ x) c.rb c.v c.ws):Fr p c (w0.setCell ⟨b,n,none⟩ x) (w.setCell ⟨b,n,none⟩ x) i os ps:=by
 have q:=I7 l;have d:=J2 w b n x;have r:=J2 w0 b n x;have j:(w0.setCell ⟨b,n,none⟩ x).heap.size=w0.heap.size:=by simp
 have f:(w.setCell ⟨b,n,none⟩ x).heap.size=w.heap.size:=by simp
 have s:=(h.gr.block b q (by simp;omega)).trans l;refine⟨⟨(d.block c.rb h.rd.lt (by simp;omega)).trans h.rd.K3,B,h.rd.len,h.rd.pos⟩,h.gl.qn d.size λg C=>d.block g (by have:=h.r0;have:=h.rd.lt;omega) (by simp;omega),⟨h.gr.os,h.gr.tape,h.gr.output,by rw[j,f];exact h.gr.size,λk I y=>?_⟩,h.r0,by rw[j];exact h.z0,λm o e=>?_,h.nd,λt D=>(h.pt t D).J0 λg z A=>⟨⟨by rw[j];exact z.1,z.2⟩,by rw[f];exact A,d.block g A (by simp;omega)⟩⟩
 ·by_cases a:k=b
  ·subst a;rw[Z1 s,Z1 l]
  ·exact(d.block k (by have:=h.gr.size;omega) (by simpa using a)).trans ((h.gr.block k (by omega) y).trans (r.block k (by omega) (by simpa using a)).symm)
 ·rw[j];exact(h.ob m o e).J0 d λg E F=>by cases F;have:=((h.ob m o e).lt E).1;omega
theorem xC{W W2:World}{B b T:Nat}{v u:Value}{ws:List Wd}(h:jw W B v ws)(n:W.heap[b]?=some (.cells #[u] T (0,0)))(o:W.grownBy W2 (some b)):jw W2 B v ws:=by
 rcases h with⟨rfl,rfl⟩|⟨g,d,rfl,e,k⟩
 ·exact .inl ⟨rfl,rfl⟩
 ·refine .inr ⟨g,d,rfl,e,λj u l=>?_⟩
  have c:=k j u l;have f:g<W.heap.size:=by
   rcases E5 g W.heap.size with h|h
   ·exact h
   ·unfold World.cell? at c;rw[G7 h]at c;cases c
  have i:g≠b:=by
   rintro rfl;cases ws with
   |nil=>simp[P9]at l
   |cons x ws=>
    have p:=k 1 (.string x.O9) (by simp[P9,Wd.cells]);have m:=y5 n 1;rw[p]at m;simp at m
  exact(E9 (a:=⟨g,j,none⟩) (o.block g f (by simp;exact i))).trans c
theorem Jn(b:Nat)(A:Option Addr)(n c:Nat)(a:Array Value)(w:World)(g:a.getD 2 undef=.pointer (some ⟨b,0,none⟩))(h:a.getD 3 undef=.pointer (some ⟨b+1,0,none⟩))(i:a.getD 4 undef=.pointer (some ⟨b+2,0,none⟩))
 (j:w.heap[b]?=some (.cells #[.slice A n c] 34 (0,0))) (k:w.heap[b+1]?=some (.cells #[.int .i64 0] 3 (0,0))) (l:w.heap[b+2]?=some (.cells #[.int .i64 0] 27 (0,0))):
 (results Tryz.f26 a).run prog w=.ok (.tuple #[.agg #[.slice A n c],.int .i64 0,.int .i64 0]) w:=by
 have d:a[2]?.getD undef=.pointer (some ⟨b,0,none⟩):=by simpa using g
 have e:a[3]?.getD undef=.pointer (some ⟨b+1,0,none⟩):=by simpa using h
 have f:a[4]?.getD undef=.pointer (some ⟨b+2,0,none⟩):=by simpa using i
 have m:=N6 j;have o:=N6 k;have p:=N6 l;simp[results,Tryz.results26,d,e,f,asAddr,go_sem,m,o,p]
theorem zau(p q r:Addr)(w:World):
 CallsD prog 51 #[.pointer (some p),.pointer (some q),.pointer (some r)] .returning w λe a w'=>e=.returned (.tuple #[])/\a=.returning/\w'=w:=by
 refine callsD_of_wpS func51 rfl λb d c=>?_;apply wpS_seq;apply wpS_region;simp[wpOpsS,go_sem,recoverD,c,ntmps51,Exit.thenS];apply wpS_seq;apply wpS_region;simp[wpOpsS,go_sem,Exit.thenS];refine wpS_cond (t:=false) (by simp[Act.eval,Array.replicate]) ?_;simp only[C6,if_false];refine wpS_of_wp (wp_skip ?_);cases b
 simp_all[bodyPostS,results,Tryz.results51]
structure Un(w W:World)(s:Value):Prop where
 be:Below w.heap.size w W
 u:W.heap[w.heap.size]?=some (.cells #[s] 34 (0,0))
 p:W.heap[w.heap.size+1]?=some (.cells #[.int .i64 0] 3 (0,0))
 e:W.heap[w.heap.size+2]?=some (.cells #[.int .i64 0] 27 (0,0))
theorem Un.grown{w W c:World}{s:Value}{r:Option Nat}(h:Un w W s)(a:W.grownBy c r)(b: ∀k,r=some k->w.heap.size+2<k):Un w c s:=
 ⟨⟨a.os.trans h.be.os,a.tape.trans h.be.tape,a.output.trans h.be.output,C4 h.be.size a.size,λk d=>(a.block k (z6 d h.be.size) (λe=>by have:=b _ e.symm;omega)).trans (h.be.block k d)⟩,
  (a.block _ (I7 h.u) (λe=>by have:=b _ e.symm;omega)).trans h.u,(a.block _ (I7 h.p) (λe=>by have:=b _ e.symm;omega)).trans h.p,(a.block _ (I7 h.e) (λe=>by have:=b _ e.symm;omega)).trans h.e⟩
theorem Un.set{w W:World}{s s':Value}(h:Un w W s):Un w (W.setCell ⟨w.heap.size,0,none⟩ s') s':=by
 have o: ∀k,k≠w.heap.size->(W.setCell ⟨w.heap.size,0,none⟩ s').heap[k]?=W.heap[k]?:=λk a=>G0 W ⟨w.heap.size,0,none⟩ s' k (by simpa using a);exact⟨⟨h.be.os,h.be.tape,h.be.output,by simpa using h.be.size,λk a=>(o k (by omega)).trans (h.be.block k a)⟩,Z1 (u:=[s]) h.u,(o _ (by omega)).trans h.p,(o _ (by omega)).trans h.e⟩
theorem Un.qn{w W:World}{s:Value}{j:Nat}{x:Value}(h:Un w W s)(b:j=1\/j=2)(hx:x=.int .i64 0):Un w (W.setCell ⟨w.heap.size+j,0,none⟩ x) s:=by
 subst hx;have o: ∀k,k≠w.heap.size+j->(W.setCell ⟨w.heap.size+j,0,none⟩ (.int .i64 0)).heap[k]?=W.heap[k]?:=λk a=>G0 W ⟨w.heap.size+j,0,none⟩ _ k (by simpa using a);refine⟨⟨h.be.os,h.be.tape,h.be.output,by simpa using h.be.size,λk a=>(o k (by omega)).trans (h.be.block k a)⟩,(o _ (by omega)).trans h.u,?_,?_⟩
 ·rcases b with rfl|rfl
  ·exact Z1 (u:=[.int .i64 0]) h.p
  ·exact(o _ (by omega)).trans h.p
 ·rcases b with rfl|rfl
  ·exact(o _ (by omega)).trans h.e
  ·exact Z1 (u:=[.int .i64 0]) h.e
theorem zcY(h:ByteArray)(w:World)(ws:List Wd)(us:List Fn)(hs:h.size<=maxLen)(Y:U2 w)(hw:Qp h 0 0 ws)(hl:ws.length<=4000)(hN:qd ws)(K:Du ws h.size 0 us)
 (hu: ∀A n W,(∃F,R0 W F (.slice A us.length n) us)->U2 W->Calls prog 53 #[.agg #[.slice A us.length n]] W λe Z=>e=.returned (.int .i64 0)/\Below W.heap.size W Z):
 Calls prog 26 #[.string h] w λe w'=> ∃A n,e=.returned (.tuple #[.agg #[.slice A us.length n],.int .i64 0,.int .i64 0])/\R0 w' (λg=>w.heap.size<=g) (.slice A us.length n) us/\Below w.heap.size w w'/\us.length<=n:=by
 have a8:=Y.Jv;have HG:=zh Y;have HU:=zh hu;have HN:=zh hN;have HD:=zh K;have O:=zh hl;have L:Below w.heap.size w (((w.alloc (.cells #[.slice none 0 0] 34)).alloc (.cells #[.int .i64 0] 3)).alloc (.cells #[.int .i64 0] 27)):=(((y7 _ _).alloc (y6 _) _).alloc (by simp) _).alloc (by simp;omega) _
 have N:Un w (((w.alloc (.cells #[.slice none 0 0] 34)).alloc (.cells #[.int .i64 0] 3)).alloc (.cells #[.int .i64 0] 27)) (.slice none 0 0):=
  ⟨L,(D4 _ _ (by simp;omega)).trans ((D4 _ _ (by simp)).trans (y9 w _)),(D4 _ _ (by simp)).trans (by simpa using y9 (w.alloc (.cells #[.slice none 0 0] 34)) (.cells #[.int .i64 0] 3)),by simpa using y9 ((w.alloc (.cells #[.slice none 0 0] 34)).alloc (.cells #[.int .i64 0] 3)) (.cells #[.int .i64 0] 27)⟩
 have WC:=zh (zfg h _ 0 0 ws hs (Y.to L) hw);have b0: ∀(fn:Go.Fn)(first P:Array Value)(w:World),(Instr.makeFunc fn first P).run prog w=.ok (.func fn first P) w:=λ_ _ _ _=>rfl;have i:=zh N;clear hw Y hu hN K hl L N;unfold maxLen at hs
 go_enter_defers func26,ntmps26
 go_wp2_with fail
 refine WC.out.mono ?_;rintro e w1 ⟨⟨v,rfl,hv⟩,Q⟩;obtain⟨R,o,rfl,-⟩:=hv.zM;replace i:=zh (i.out.grown (K7 Q none) (by simp));have C:=N6 i.out.p;have D:=N6 i.out.e;have HV:=zh hv;clear hv Q WC
 go_upto_region 2 with(fail)
 have hz:=I7 i.out.e;have H:=zh (xC (W2:=(w1.setCell ⟨w.heap.size+1,0,none⟩ (.int .i64 0)).setCell ⟨w.heap.size+2,0,none⟩ (.int .i64 0)) (xC HV.out i.out.p (J2 _ _ _ _)) (i.out.qn (x:=.int .i64 0) (.inl rfl) rfl).e (J2 _ _ _ _));replace i:=zh ((i.out.qn (j:=1) (x:=.int .i64 0) (.inl rfl) rfl).qn (j:=2) (x:=.int .i64 0) (.inr rfl) rfl);clear C D;generalize hW:(w1.setCell _ _).setCell _ _=B at i H|-
 have T:B.heap.size=w1.heap.size:=by rw[<-hW];simp
 rw[<-T]at hz H;clear hW T;have D:=N6 i.out.e
 go_upto_block 0 with(fail)
 have I:Below B.heap.size B (B.alloc (.cells #[.slice R ws.length o,.int .i64 0,.int .i64 h.size] 116)):=(y7 _ _).alloc (y6 _) _;have d:=zh ((Fr.start (p:=true) (c:=⟨B.heap.size,.slice R ws.length o,ws,h.size⟩) ⟨y9 B _,H.out.qn λk hk=>I.block k hk,O.out,E2 _⟩ (HG.out.to (i.out.be.trans (I.mono (by omega)))) (by simp only;omega)).nil 91 6);replace i:=zh (i.out.grown (K7 I none) (by simp));have U:B.heap.size<(B.alloc (.cells #[.slice R ws.length o,.int .i64 0,.int .i64 h.size] 116)).heap.size:=by simp
 simp only[cond]at d;clear I D HV H;generalize B.alloc _=W0 at d i U|-
 generalize B.heap.size=rb at d hz U|-
 have a0:10<rb:=by omega
 go_wp2_with fail
 go_loopw[] (λwr=> ∃(l:List (Fn×Value×Value×Value))(A:Option Addr)(n G:Nat)(W:World),Hid (Fr true ⟨rb,.slice R ws.length o,ws,h.size⟩ W wr G [.r 91 6 (.slice A l.length n) l.length (l.flatMap V0.cells)] (l.flatMap V0.qE))/\Hid (Un w W (.slice A l.length n))/\Hid (∃m,Du ws h.size G m/\us=l.map (·.1)++m/\l.length<=G))
  (λwr=>ws.length-X1 wr rb)
 case atStart=>exact⟨[],none,0,0,W0,d,i,zh ⟨us,HD.out,rfl,by simp⟩⟩
 case round=>
  clear d i;obtain⟨l,A,n,G,W,d,i,HI⟩:=hrel;obtain⟨m,K,hL,hi⟩:=HI.out;have HL:=zh hL;have b1:=O.out;clear hL;have F:=N6 d.out.rd.K3;have a1:G<=ws.length:=d.out.rd.pos;have V:=d.out.qk;have q:Hid (∀Z,W.grownBy Z (some rb)->Un w Z (.slice A l.length n)):=zh λ_ hg=>i.out.grown hg λk e=>by cases e;exact hz
  cases K with
  |done a2=>
   have a9:(ws.length:Int)<=(G:Int):=by omega
   obtain rfl:us=l.map (·.1):=by simpa using HL.out
   go_upto_region 6 with(fail)
   go_quiet (fail)
   go_upto_region 8 with(fail)
   replace d:=zh (d.out.drewN (n:=nq));generalize World.drewN wr nq=wn at d|-
   have C:=N6 (q.out _ d.out.gr).u;have a3:=zh (zbm (d.out.ob 0 _ rfl));have S:=d.out.XY V0 λa ha t ht=>List.mem_flatMap.2 ⟨a,ha,ht⟩;have X:R0 wn _ (.slice A l.length n) (l.map (·.1)):=S.pp (B2 ..);have N:=HU.out A n wn ⟨_,by rw[D9];exact X⟩ d.out.gl;rw[D9]at N;replace d:=zh S;have a4:=zh N;clear S X N hi a1 a2 V F
   go_wp2_with fail
   refine a4.out.mono ?_;rintro e wz ⟨rfl,Q⟩;replace d:=zh (d.out.below Q);have HZ:=zh (q.out _ d.out.gr);have C1:=N6 HZ.out.u;have C2:=N6 HZ.out.p;have C3:=N6 HZ.out.e;clear Q C
   go_wp2_with fail
   refine leaves_cons (f:=51) (args:= #[.pointer (some ⟨w.heap.size,0,none⟩),.pointer (some ⟨w.heap.size+1,0,none⟩),.pointer (some ⟨w.heap.size+2,0,none⟩)]) (by simp) (by simp[go_sem]) ?_;refine(zau _ _ _ _).mono ?_;rintro e u' w' ⟨rfl,rfl,rfl⟩;simp only[settle];have y:Un w (((wz.setCell ⟨w.heap.size,0,none⟩ (.slice A l.length n)).setCell ⟨w.heap.size+1,0,none⟩ (.int .i64 0)).setCell ⟨w.heap.size+2,0,none⟩ (.int .i64 0)) (.slice A l.length n):=(HZ.out.set.qn (j:=1) (.inl rfl) rfl).qn (j:=2) (.inr rfl) rfl;have b2:=I7 i.out.e;have hk:R0 _ (λg=>w.heap.size<=g) (.slice A l.length n) (l.map (·.1)):=(d.out.pp (B2 ..)).J0 λg h1 h2=>⟨by omega,by have:=y.be.size;simpa using h2,(G0 _ ⟨w.heap.size+2,0,none⟩ (.int .i64 0) g (by simp;omega)).trans ((G0 _ ⟨w.heap.size+1,0,none⟩ (.int .i64 0) g (by simp;omega)).trans (G0 _ ⟨w.heap.size,0,none⟩ (.slice A l.length n) g (by simp;omega)))⟩;exact⟨_,Jn w.heap.size A l.length n _ _ (by simp) (by simp) (by simp) y.u y.p y.e,A,n,by simp,by rw[D9];exact hk,y.be,by simpa using a3.out⟩
  | @Zf _ j f m b3 hf K=>
    have k1:(G:Int)<(ws.length:Int):=by omega
    have b4:G<j:=by
     cases hf with
     |fn h1 h2 h3 h4 h5 h6=>have:=h4.on;have:=h6.on;simp only[onS]at this;omega
    have a5:=zh hf;have a6:=zh K;clear hf K
    go_upto_region 6 with(fail)
    go_quiet (fail)
    go_upto_region 7 with(fail)
    replace d:=zh (d.out.drewN (n:=nq));generalize World.drewN wr nq=wn at d|-
    have z:=zh (d.out.below ⟨rfl,rfl,rfl,y6 _,λ_ _=>rfl⟩:Fr true _ W wn.drew G _ _);have C:=N6 (q.out _ z.out.gr).u;have E:=I7 (q.out _ z.out.gr).u
    first|(go_region_law(first|(go_simp;go_at_call 52;refine(ziF ⟨rb,.slice R ws.length o,ws,h.size⟩ G j f a0 HN.out a5.out _ z.out.rd z.out.gl).mono ?_;rintro e w8 ⟨An,mn,At,mt,Ab,mb,rfl,X,hR,hg⟩;have M:=zh (z.out.zjA hR hg X);have C8:=N6 (q.out _ M.out.gr).u;have E8:=I7 (q.out _ M.out.gr).u;clear hR hg X)|(refine M.out.aps V0 (f,.slice An f.J3.length mn,.slice At f.O6.length mt,.slice Ab f.J7.length mb) zdb (by rfl) _ _ (by rfl) (by rfl) (by rfl) (by rfl) (by simp[V0,ZM,Value.oneCell']) (by omega) ?_;intro g9 s w9 J;have C9:=N6 (q.out _ J.out.gr).u)))|fail
    all_goals
     have H9:=J.out.old (b:=w.heap.size) (n:=0) (x:=.slice (some ⟨g9,0,none⟩) (l.length+1) s) i.out.u (by simp only;omega) (by omega) (xC J.out.rd.row (q.out _ J.out.gr).u (J2 _ _ _ _));have a7:=i.out.set (s':=.slice (some ⟨g9,0,none⟩) (l.length+1) s)
     go_wp2_with fail
     go_roundw
     case rel=>exact⟨l++[(f,.slice An f.J3.length mn,.slice At f.O6.length mt,.slice Ab f.J7.length mb)],some ⟨g9,0,none⟩,s,j,W.setCell ⟨w.heap.size,0,none⟩ (.slice (some ⟨g9,0,none⟩) (l.length+1) s),zh (H9.sub λt ht=>by simpa[or_comm]using ht),zh (by simpa using a7),zh ⟨m,a6.out,by simp[HL.out],by simp;omega⟩⟩
     case measure=>have hj:j<=ws.length:=H9.rd.pos;rw[show X1 _ rb=j from H9.qk,V];omega
end Go.Proofs.YtalgmjmibamdfaaGreatDoor
namespace Go.Proofs.YtalgmjmibamdfaaGreatDoor
open Go.RowKit Tw
def T8(s:ByteArray):Bool:=N3 s.data.toList
inductive Hd:Int->Int->ByteArray->Nat->Prop
 |num {n:Int} {t:ByteArray}:0<=n->n<=999999999999->Hd 1 n t 0
 |no {t:ByteArray}:Hd 2 0 t 0
 |yes {t:ByteArray}:Hd 2 1 t 0
 |Zw {n:Int} {t:ByteArray}:T8 t=true->Hd 3 n t 0
 |neg {n:Int} {t:ByteArray}:Hd 4 n t 1
 |not {n:Int} {t:ByteArray}:Hd 5 n t 1
 |two {n:Int} {t:ByteArray}:1<=lv t.data.toList->Hd 6 n t 2
 |call {n:Int} {t:ByteArray}:T8 t=true->Hd 7 n t 2
 |host {n:Int} {t:ByteArray}:0<=n->n<=15->Hd 8 n t 1
inductive Ew:Nat->Ex->Prop
 |mk {d:Nat} {k n:Int} {t:ByteArray} {xs:List Ex} {p:Int}:Hd k n t xs.length->t.size<=maxLen->(∀x∈xs,Ew d x)->Ew (d+1) (.mk k n t xs p)
inductive Sw:Nat->Sm->Prop
 |mk {d:Nat} {k:Int} {nm:ByteArray} {a:Ex} {J7 Q7:List Sm} {p:Int}:1<=k->k<=7->(k<=2->T8 nm=true)->nm.size<=maxLen->Ew d a->(∀s∈J7,Sw d s)->(∀s∈Q7,Sw d s)->J7.length<=281474976710656->Q7.length<=281474976710656->Sw (d+1) (.mk k nm a J7 Q7 p)
structure Fw(f:Fn):Prop where
 L6:T8 f.L6=true/\f.L6.size<=maxLen
 J3: ∀n∈f.J3,T8 n=true/\n.size<=maxLen
 zcj:f.J3.length<=6
 O6:f.O6=f.J3.map λ_=>1
 out:f.out=1
 J7: ∀s∈f.J7,Sw 40 s
 zfK:f.J7.length<=281474976710656
abbrev W9:Type:=List ByteArray
inductive Sg(us:List Fn)(env:W9):Int->Int->ByteArray->Nat->Int->Int->Prop
 |num {n:Int} {t:ByteArray}:0<=n->n<=999999999999->Sg us env 1 n t 0 1 1
 |no {t:ByteArray}:Sg us env 2 0 t 0 1 2
 |yes {t:ByteArray}:Sg us env 2 1 t 0 1 2
 |Zw {n:Int} {t:ByteArray}:T8 t=true->t∈env->Sg us env 3 n t 0 1 1
 |neg {n:Int} {t:ByteArray}:Sg us env 4 n t 1 1 1
 |not {n:Int} {t:ByteArray}:Sg us env 5 n t 1 2 2
 |log {n:Int} {t:ByteArray}:t=⟨#[124,124]⟩\/t=⟨#[38,38]⟩->Sg us env 6 n t 2 2 2
 |cmp {n:Int} {t:ByteArray}:lv t.data.toList=3->Sg us env 6 n t 2 1 2
 |Je {n:Int} {t:ByteArray}:3<lv t.data.toList->Sg us env 6 n t 2 1 1
 |call {n:Int} {t:ByteArray} {f:Fn}:T8 t=true->f∈us->f.L6=t->f.J3.length=2->Sg us env 7 n t 2 1 1
 |host {n:Int} {t:ByteArray}:0<=n->n<=15->Sg us env 8 n t 1 1 1
theorem Sg.hd{us:List Fn}{env:W9}{k n:Int}{t:ByteArray}{c:Nat}{σ τ:Int}(h:Sg us env k n t c σ τ):Hd k n t c:=by
 cases h with
 |num h a=>exact .num h a
 |no=>exact .no
 |yes=>exact .yes
 |Zw h _=>exact .Zw h
 |neg=>exact .neg
 |not=>exact .not
 |log h=>exact .two (by rcases h with rfl|rfl<;>decide)
 |cmp h=>exact .two (by omega)
 |Je h=>exact .two (by omega)
 |call h _ _ _=>exact .call h
 |host h a=>exact .host h a
inductive Xw(us:List Fn)(env:W9):Nat->Int->Ex->Prop
 |mk {d:Nat} {k n:Int} {t:ByteArray} {xs:List Ex} {p σ τ:Int}:Sg us env k n t xs.length σ τ->t.size<=maxLen->(∀a∈xs,Xw us env d σ a)->Xw us env (d+1) τ (.mk k n t xs p)
section
variable {us:List Fn}{env:W9}{d e:Nat}{τ:Int}{x:Ex}
theorem Xw.ew(h:Xw us env d τ x):Ew d x:=by
 induction h with
 |mk a b _ c=>exact .mk a.hd b c
theorem Xw.mono(h:Xw us env d τ x): ∀{e:Nat},d<=e->Xw us env e τ x:=by
 induction h with
 |mk b c _ f=>
  intro e j;obtain⟨e,rfl⟩: ∃g,e=g+1:=⟨e-1,by omega⟩;exact .mk b c λa i=>f a i (by omega)
end
inductive Sx(us:List Fn)(B:List Sm->W9->Nat->W9->Nat->Bool->Prop)(d:Nat):Sm->W9->Nat->W9->Nat->Bool->Prop
 |bind {nm:ByteArray} {a:Ex} {p:Int} {env:W9} {m:Nat}:T8 nm=true->nm∉env->m<64->Xw us env d 1 a->Sx us B d (.mk 1 nm a [] [] p) env m (nm::env) (m+1) false
 |set {nm:ByteArray} {a:Ex} {p:Int} {env:W9} {m:Nat}:T8 nm=true->nm∈env->Xw us env d 1 a->Sx us B d (.mk 2 nm a [] [] p) env m env m false
 |QZ {nm:ByteArray} {a:Ex} {J7 Q7:List Sm} {p:Int} {env e1 e2:W9} {m m1 m2:Nat} {r1 r2:Bool}:nm.size<=16->Xw us env d 2 a->J7.length<=1000->Q7.length<=1000->B J7 env m e1 m1 r1->B Q7 env m1 e2 m2 r2->Sx us B d (.mk 3 nm a J7 Q7 p) env m env m2 (r1&&r2)
 |jf {nm:ByteArray} {a:Ex} {J7:List Sm} {p:Int} {env e1:W9} {m m1:Nat} {r1:Bool}:nm.size<=16->Xw us env d 2 a->J7.length<=1000->B J7 env m e1 m1 r1->Sx us B d (.mk 4 nm a J7 [] p) env m env m1 false
 |Y0 {k:Int} {nm:ByteArray} {a:Ex} {p:Int} {env:W9} {m:Nat}:k=5\/k=6\/k=7->nm.size<=16->Xw us env d 1 a->Sx us B d (.mk k nm a [] [] p) env m env m (decide (k=5))
inductive qT(S:Sm->W9->Nat->W9->Nat->Bool->Prop):List Sm->W9->Nat->W9->Nat->Bool->Prop
 |nil {env:W9} {m:Nat}:qT S [] env m env m false
 |cons {s:Sm} {l:List Sm} {env e1 e2:W9} {m m1 m2:Nat} {r1 r2:Bool}:S s env m e1 m1 r1->qT S l e1 m1 e2 m2 r2->qT S (s::l) env m e2 m2 (r1||r2)
def Bx(us:List Fn):Nat->List Sm->W9->Nat->W9->Nat->Bool->Prop
 |0=>λ_ _ _ _ _ _=>False
 |d+1=>qT (Sx us (Bx us d) d)
section
variable {us:List Fn}{d:Nat}{s:Sm}{l l':List Sm}{env e1 e2:W9}{m m1 m2:Nat}{r r1 r2:Bool}
theorem xH{s:ByteArray}(h:T8 s=true):s.size<=16:=by
 have a:N3 s.data.toList=true:=h;simp only[N3,F4,F2,Array.length_toList]at a;exact a.1.1.1.2
theorem qT.W8{S:Sm->W9->Nat->W9->Nat->Bool->Prop}(h:qT S l env m e1 m1 r1)(a:qT S l' e1 m1 e2 m2 r2):qT S (l++l') env m e2 m2 (r1||r2):=by
 induction h with
 |nil=>simpa using a
 |cons b _ c=>rw[Bool.or_assoc];exact .cons b (c a)
theorem qT.all{S:Sm->W9->Nat->W9->Nat->Bool->Prop}{P:Sm->Prop}(a: ∀s env m e1 m1 r,S s env m e1 m1 r->P s)(h:qT S l env m e1 m1 r): ∀s∈l,P s:=by
 induction h with
 |nil=>exact λ_ h=>nomatch h
 |cons b _ c=>exact List.forall_mem_cons.2 ⟨a _ _ _ _ _ _ b,c⟩
theorem Bx.sw: ∀{d:Nat}{l:List Sm}{env:W9}{m:Nat}{e1:W9}{m1:Nat}{r:Bool},Bx us d l env m e1 m1 r-> ∀s∈l,Sw d s
 |0,_,_,_,_,_,_,h=>h.elim
 |d+1,_,_,_,_,_,_,h=>by
  have a: ∀{n:Nat},n<=16->n<=maxLen:=λh=>C4 h (by decide);refine qT.all (λs env m e1 m1 r i=>?_) h;cases i with
  |bind b c g f=>exact .mk (by decide) (by decide) (λ_=>b) (a (xH b)) f.ew (λ_ h=>nomatch h) (λ_ h=>nomatch h) (by decide) (by decide)
  |set b c f=>exact .mk (by decide) (by decide) (λ_=>b) (a (xH b)) f.ew (λ_ h=>nomatch h) (λ_ h=>nomatch h) (by decide) (by decide)
  |QZ b c g f j k=>exact .mk (by decide) (by decide) (λh=>I2 h (by decide)) (a b) c.ew j.sw k.sw (by omega) (by omega)
  |jf b c g f=>exact .mk (by decide) (by decide) (λh=>I2 h (by decide)) (a b) c.ew f.sw (λ_ h=>nomatch h) (by omega) (by decide)
  |Y0 b c g=>exact .mk (by omega) (by omega) (λh=>by omega) (a c) g.ew (λ_ h=>nomatch h) (λ_ h=>nomatch h) (by decide) (by decide)
end
theorem qT.le{S:Sm->W9->Nat->W9->Nat->Bool->Prop}(f: ∀s env m e1 m1 r,S s env m e1 m1 r->m<=64->env.length<=m->m<=m1/\m1<=64/\e1.length<=m1/\ ∃pre,e1=pre++env){l:List Sm}{env:W9}{m:Nat}{e1:W9}{m1:Nat}{r:Bool}(h:qT S l env m e1 m1 r):m<=64->env.length<=m->m<=m1/\m1<=64/\e1.length<=m1/\ ∃pre,e1=pre++env:=by
 induction h with
 |nil=>exact λc g=>⟨y6 _,c,g,[],rfl⟩
 |cons c _ i=>
  intro a b;obtain⟨t,j,k,n,rfl⟩:=f _ _ _ _ _ _ c a b;obtain⟨u,o,p,q,rfl⟩:=i j k;exact⟨by omega,o,p,q++n,by simp⟩
theorem Bx.le{us:List Fn}: ∀{d:Nat}{l:List Sm}{env:W9}{m:Nat}{e1:W9}{m1:Nat}{r:Bool},Bx us d l env m e1 m1 r->m<=64->env.length<=m->m<=m1/\m1<=64/\e1.length<=m1/\ ∃pre,e1=pre++env
 |0,_,_,_,_,_,_,h=>h.elim
 |d+1,_,_,_,_,_,_,h=>by
  refine qT.le (λs env m e1 m1 r hs g c=>?_) h;cases hs with
  |bind=>exact⟨by omega,by omega,by simp;omega,[_],rfl⟩
  |set=>exact⟨by omega,by omega,c,[],rfl⟩
  |Y0=>exact⟨by omega,by omega,c,[],rfl⟩
  |QZ _ _ _ _ f i=>
   have a:=Bx.le f g c;have b:=Bx.le i a.2.1 (by omega);exact⟨by omega,b.2.1,by omega,[],rfl⟩
  |jf _ _ _ f=>
   have a:=Bx.le f g c;exact⟨by omega,a.2.1,by omega,[],rfl⟩
theorem ziS{us:List Fn}(c:(us.map Fn.L6).Nodup){f g:Fn}(hf:f∈us)(h:g∈us)(e:f.L6=g.L6):f=g:=by
 induction us with
 |nil=>cases hf
 |cons u us i=>
  simp only[List.map_cons,List.nodup_cons]at c
  rcases List.mem_cons.1 hf with a|a<;>rcases List.mem_cons.1 h with b|b
  ·rw[a,b]
  ·exact I2 (List.mem_map.2 ⟨g,b,by rw[<-e,a]⟩) c.1
  ·exact I2 (List.mem_map.2 ⟨f,a,by rw[e,b]⟩) c.1
  ·exact i c.2 a b
def yY:ByteArray:=⟨#[109,97,105,110]⟩
structure Uw(us:List Fn):Prop where
 len:us.length<=16
 Zd:(us.map Fn.L6).Nodup
 main: ∃f∈us,f.L6=yY/\f.J3.length=0
 fw: ∀f∈us,Fw f
 ty: ∀f∈us,f.J3.Nodup/\ ∃env m,Bx us 40 f.J7 f.J3.reverse f.J3.length env m true
end Go.Proofs.YtalgmjmibamdfaaGreatDoor
namespace Go.Proofs.YtalgmjmibamdfaaGreatDoor
open Go.Proofs.Tryz
open Go.RowKit Tw
section
open Go.Maps
theorem O2.zM{w:World}{F:Nat->Prop}{v:Value}{l:List Ex}(h:O2 w F v l): ∃A c,v=.slice A l.length c:=by
 cases h with
 |nil a c=>exact⟨a,c,rfl⟩
 |row g d b=>exact⟨_,b,rfl⟩
theorem O2.at{w:World}{F:Nat->Prop}{A:Option Addr}{c:Nat}{l:List Ex}(h:O2 w F (.slice A l.length c) l)(k:Nat)(x:Ex)(hx:l[k]?=some x):
 ∃g b A' c',A=some ⟨g,b,none⟩/\F g/\g<w.heap.size/\O2 w F (.slice A' x.args.length c') x.args/\w.cell? ⟨g,b+k*5,none⟩=some (.int .i64 x.N4)/\w.cell? ⟨g,b+k*5+1,none⟩=some (.int .i64 x.n)/\w.cell? ⟨g,b+k*5+2,none⟩=some (.string x.O9)/\w.cell? ⟨g,b+k*5+3,none⟩=some (.slice A' x.args.length c')/\w.cell? ⟨g,b+k*5+4,none⟩=some (.int .i64 x.pos):=by
 generalize i:Value.slice A l.length c=v at h;cases h with
 |nil a c'=>simp at hx
 |row g b j _ s m o p f=>
  injection i with q t u
  obtain⟨A',c',r⟩:=(f k x hx).zM;have d:=p k x hx;have e:=f k x hx;rw[r]at d e;exact⟨g,b,A',c',q,m,o,e,d 0 _ rfl,d 1 _ rfl,d 2 _ rfl,d 3 _ rfl,d 4 _ rfl⟩
theorem N0.zM{w:World}{F:Nat->Prop}{v:Value}{l:List Sm}(h:N0 w F v l): ∃A c,v=.slice A l.length c:=by
 cases h with
 |nil a c=>exact⟨a,c,rfl⟩
 |row g d b=>exact⟨_,b,rfl⟩
theorem N0.at{w:World}{F:Nat->Prop}{A:Option Addr}{c:Nat}{l:List Sm}(h:N0 w F (.slice A l.length c) l)(k:Nat)(s:Sm)(hx:l[k]?=some s):
 ∃g b Aa ca e f i m,A=some ⟨g,b,none⟩/\F g/\g<w.heap.size/\O2 w F (.slice Aa s.a.args.length ca) s.a.args/\N0 w F (.slice e s.J7.length f) s.J7/\N0 w F (.slice i s.Q7.length m) s.Q7/\
  ∀j u,(#[.int .i64 s.N4,.string s.L6,.int .i64 s.a.N4,.int .i64 s.a.n,.string s.a.O9,.slice Aa s.a.args.length ca,.int .i64 s.a.pos,.slice e s.J7.length f,.slice i s.Q7.length m,.int .i64 s.pos]:Array Value).toList[j]?=some u->w.cell? ⟨g,b+k*10+j,none⟩=some u:=by
 generalize C:Value.slice A l.length c=v at h;cases h with
 |nil a J=>simp at hx
 |row g b D _ K L M E G H o p q=>
  injection C with I N O
  obtain⟨Aa,ca,r⟩:=(o k s hx).zM;obtain⟨e,f,t⟩:=(p k s hx).zM;obtain⟨i,m,x⟩:=(q k s hx).zM;have d:=H k s hx;have y:=o k s hx;have z:=p k s hx;have B:=q k s hx;rw[r,t,x]at d;rw[r]at y;rw[t]at z;rw[x]at B;exact⟨g,b,Aa,ca,e,f,i,m,I,E,G,y,z,B,d⟩
theorem qJ.zM{w:World}{F:Nat->Prop}{v:Value}{l:List ByteArray}(h:qJ w F v l): ∃A c,v=.slice A l.length c:=by
 rcases h with⟨a,c,rfl,rfl⟩|⟨g,d,b,rfl,_⟩
 ·exact⟨a,c,rfl⟩
 ·exact⟨_,b,rfl⟩
theorem K9.zM{w:World}{F:Nat->Prop}{v:Value}{l:List Int}(h:K9 w F v l): ∃A c,v=.slice A l.length c:=by
 rcases h with⟨a,c,rfl,rfl⟩|⟨g,d,b,rfl,_⟩
 ·exact⟨a,c,rfl⟩
 ·exact⟨_,b,rfl⟩
theorem qJ.at{w:World}{F:Nat->Prop}{A:Option Addr}{c:Nat}{l:List ByteArray}(h:qJ w F (.slice A l.length c) l)(k:Nat)(s:ByteArray)(hs:l[k]?=some s): ∃g b,A=some ⟨g,b,none⟩/\g<w.heap.size/\w.cell? ⟨g,b+k,none⟩=some (.string s):=by
 rcases h with⟨a,c,e,rfl⟩|⟨g,b,d,e,_,f,i⟩
 ·simp at hs
 ·injection e with j m n
  exact⟨g,b,j,f,i k s hs⟩
theorem K9.at{w:World}{F:Nat->Prop}{A:Option Addr}{c:Nat}{l:List Int}(h:K9 w F (.slice A l.length c) l)(k:Nat)(s:Int)(hs:l[k]?=some s): ∃g b,A=some ⟨g,b,none⟩/\g<w.heap.size/\w.cell? ⟨g,b+k,none⟩=some (.int .i64 s):=by
 rcases h with⟨a,c,e,rfl⟩|⟨g,b,d,e,_,f,i⟩
 ·simp at hs
 ·injection e with j m n
  exact⟨g,b,j,f,i k s hs⟩
theorem R0.at{w:World}{F:Nat->Prop}{A:Option Addr}{c:Nat}{l:List Fn}(h:R0 w F (.slice A l.length c) l)(k:Nat)(f:Fn)(hf:l[k]?=some f):
 ∃g b n cn o p q r,A=some ⟨g,b,none⟩/\g<w.heap.size/\qJ w F (.slice n f.J3.length cn) f.J3/\K9 w F (.slice o f.O6.length p) f.O6/\N0 w F (.slice q f.J7.length r) f.J7/\
  ∀j u,(#[.string f.L6,.slice n f.J3.length cn,.slice o f.O6.length p,.int .i64 f.out,.slice q f.J7.length r,.int .i64 f.pos]:Array Value).toList[j]?=some u->w.cell? ⟨g,b+k*6+j,none⟩=some u:=by
 rcases h with⟨a,c,e,rfl⟩|⟨g,b,y,D,E,G,e,_,z,B⟩
 ·simp at hf
 ·injection e with C H I
  obtain⟨x,s,t,v⟩:=B k f hf;obtain⟨n,cn,d⟩:=s.zM;obtain⟨o,p,i⟩:=t.zM;obtain⟨q,r,m⟩:=v.zM;rw[d,i,m]at x;rw[d]at s;rw[i]at t;rw[m]at v;exact⟨g,b,n,cn,o,p,q,r,C,z,s,t,v,x⟩
theorem J1{w w':World}{F:Nat->Prop}(h:Below w.heap.size w w'):Zx F F w w':=λg b a=>⟨b,z6 a h.size,h.block g a⟩
theorem ZN:Keyed prog 3:=int_keyed underlying3
theorem zc2(w:World):(zeroValue 3).run prog w=.ok (.int .i64 0) w:=by kernel_rfl
theorem ZV{k:Int}(h:(Lit.int .i64 k).wf=true):keyOf prog 3 (.int .i64 k)=some (.int .i64 k):=keyOf_int_mk underlying3 h
abbrev Qj:Type:=DataW Unit
def yp(D:Qj)(k v:Int):Qj:=D.put (.int .i64 k) (.lit (.int .i64 v))
def zhy:Qj:=yp (yp (yp (yp (yp (yp (.map []) 1 0) 2 0) 3 0) 4 1) 5 1) 6 2
theorem jD{w:World}{b n:Nat}{D:Qj}(h:w.ownsMap prog 3 (plainElem prog 3) b n D)(d:n<100)(k v:Int)(a:(Lit.int .i64 k).wf=true)(c:(Lit.int .i64 v).wf=true):
 ∃w',(Instr.mapUpdate 258 (.map (some b)) (.int .i64 k) (.int .i64 v)).run prog w=.ok () w'/\w'.ownsMap prog 3 (plainElem prog 3) b (n+1) (yp D k v)/\w.grownBy w' (some b):=
 h.update ZN underlying258 (by unfold maxLen;omega) (ZV a) (plainElem_int underlying3 c)
theorem zgT{w:World}{b:Nat}(h:w.ownsMap prog 3 (plainElem prog 3) b 6 zhy)(k c:Int)(e:Bool)(g:(Lit.int .i64 k).wf=true)(i:zhy.atKey (.int .i64 k) (.lit (.int .i64 0))=.lit (.int .i64 c))(j:Maps.has zhy (.int .i64 k)=e):
 (Instr.lookup 258 (.map (some b)) (.int .i64 k) true).run prog w=.ok (.tuple #[.int .i64 c,.bool e]) w:=by
 obtain⟨v,m,d,l⟩:=h.look_ok ZN underlying258 (zc2 w) (plainElem_int underlying3 (a:=0) (by decide)) (ZV g);obtain⟨n,rfl,f,_⟩:=plainElem_int_inv underlying3 l;obtain rfl:=(Lit.int.inj (DataW.lit.inj (i.symm.trans (I1 Prod.fst f)))).2;exact j▸d
theorem zcz(V:World): ∃c d e f g w6:World,
 (Instr.mapUpdate 258 (.map (some V.heap.size)) (.int .i64 1) (.int .i64 0)).run prog (V.alloc (.map #[] 0))=.ok () c/\
 (Instr.mapUpdate 258 (.map (some V.heap.size)) (.int .i64 2) (.int .i64 0)).run prog c=.ok () d/\
 (Instr.mapUpdate 258 (.map (some V.heap.size)) (.int .i64 3) (.int .i64 0)).run prog d=.ok () e/\
 (Instr.mapUpdate 258 (.map (some V.heap.size)) (.int .i64 4) (.int .i64 1)).run prog e=.ok () f/\
 (Instr.mapUpdate 258 (.map (some V.heap.size)) (.int .i64 5) (.int .i64 1)).run prog f=.ok () g/\
 (Instr.mapUpdate 258 (.map (some V.heap.size)) (.int .i64 6) (.int .i64 2)).run prog g=.ok () w6/\
 (∀t∈[((1:Int),(0:Int),true),(2,0,true),(3,0,true),(4,1,true),(5,1,true),(6,2,true),(7,0,false),(8,0,false)],(Instr.lookup 258 (.map (some V.heap.size)) (.int .i64 t.1) true).run prog w6=.ok (.tuple #[.int .i64 t.2.1,.bool t.2.2]) w6)/\Below V.heap.size V w6:=by
 have j:=World.ownsMap_made (H:=Unit) V prog 3 (plainElem prog 3);obtain⟨c,l,m,n⟩:=jD j (by decide) 1 0 (by decide) (by decide);obtain⟨d,o,p,q⟩:=jD m (by decide) 2 0 (by decide) (by decide);obtain⟨e,r,s,u⟩:=jD p (by decide) 3 0 (by decide) (by decide);obtain⟨f,v,w,x⟩:=jD s (by decide) 4 1 (by decide) (by decide);obtain⟨g,y,z,A⟩:=jD w (by decide) 5 1 (by decide) (by decide);obtain⟨w6,B,C,D⟩:=jD z (by decide) 6 2 (by decide) (by decide);refine⟨c,d,e,f,g,w6,l,o,r,v,y,B,λt h=>?_,?_⟩
 ·simp only[E7,List.not_mem_nil,or_false]at h
  rcases h with rfl|rfl|rfl|rfl|rfl|rfl|rfl|rfl<;>exact zgT C _ _ _ (by decide) (by kernel_rfl) (by kernel_rfl)
 ·have a:Below V.heap.size V (V.alloc (.map #[] 0)):=(y7 _ _).alloc (y6 _) _
  have b:=K8 (K8 (K8 (K8 (K8 n q) u) x) A) D;exact⟨b.os.trans a.os,b.tape.trans a.tape,b.output.trans a.output,C4 a.size b.size,λk i=>(b.block k (z6 i a.size) (by simp;omega)).trans (a.block k i)⟩
end
end Go.Proofs.YtalgmjmibamdfaaGreatDoor
namespace Go.Proofs.YtalgmjmibamdfaaGreatDoor
open Go.RowKit Tw
abbrev S3:Type:=Int×Int
abbrev T5:Type:=List (S3×Nat)
abbrev O5:Type:=List (ByteArray×Int)
def qB(vs:O5)(s:ByteArray):Int:=match vs.find? (λq=>decide (q.1=s))with|some q=>q.2|none=>0
def qS(us:List Fn)(s:ByteArray):Nat:=us.findIdx (λf=>decide (f.L6=s))
def ZC(t:Bs):List S3:=
 if t=[43]then[(7,0)]else if t=[45]then[(8,0)]else if t=[42]then[(9,0)]else if t=[47]then[(10,0)]else if t=[37]then[(11,0)]
 else if t=[60]then[(12,0)]else if t=[62,61]then[(12,0),(6,0)]else if t=[61,61]then[(14,0)]else if t=[33,61]then[(14,0),(6,0)]
 else if t=[62]then[(13,0)]else if t=[60,61]then[(13,0),(6,0)]else[]
def Jj(us:List Fn)(vs:O5)(k n:Int)(t:ByteArray)(len:Nat):List S3:=
 if k=1\/k=2 then[(1,n)]else if k=3 then[(2,qB vs t)]else if k=4 then[(5,0)]else if k=5 then[(6,0)]
 else if k=7 then[(17,(qS us t:Int))]else if k=8 then[(20,n*8+len)]else if k=6 then ZC t.data.toList else[]
def jZ:Nat->List S3->T5
 |_,[]=>[]
 |h,o::l=>(o,h)::jZ (h-1) l
def QE(n h:Nat)(z:Bool)(a b:T5):T5:=
 a++((if z then[((6,0),h+1)]else[])++(((16,((n+a.length+(if z then 1 else 0)+b.length+2:Nat):Int)),h+1)::
  (b++[((15,((n+a.length+(if z then 1 else 0)+b.length+3:Nat):Int)),h+1),((1,if z then 1 else 0),h)])))
mutual
def O3(us:List Fn)(vs:O5)(n h:Nat):Ex->T5
 |.mk k nn t xs _=>
  if k=6/\lv t.data.toList<=2 then
   QE n h (decide (lv t.data.toList=1)) (hdC us vs n h xs) (sdC us vs (n+(hdC us vs n h xs).length+(if decide (lv t.data.toList=1)then 1 else 0)+1) h xs)
  else R2 us vs n h xs++jZ (h+xs.length) (Jj us vs k nn t xs.length)
def hdC(us:List Fn)(vs:O5)(n h:Nat):List Ex->T5
 |[]=>[]
 |a::_=>O3 us vs n h a
def sdC(us:List Fn)(vs:O5)(n h:Nat):List Ex->T5
 |[]=>[]
 |_::l=>hdC us vs n h l
def R2(us:List Fn)(vs:O5)(n h:Nat):List Ex->T5
 |[]=>[]
 |a::l=>O3 us vs n h a++R2 us vs (n+(O3 us vs n h a).length) (h+1) l
end
mutual
def S4(us:List Fn)(n:Nat)(vs:O5)(m:Nat):Sm->T5×O5×Nat
 |.mk k nm a J7 Q7 _=>
  if k=4 then
   (O3 us vs n 0 a++(((16,((n+(O3 us vs n 0 a).length+(U3 us (n+(O3 us vs n 0 a).length+1) vs m J7).1.length+2:Nat):Int)),1)::
    ((U3 us (n+(O3 us vs n 0 a).length+1) vs m J7).1++[((15,(n:Int)),0)])),vs,(U3 us (n+(O3 us vs n 0 a).length+1) vs m J7).2)
  else if k=1 then(O3 us vs n 0 a++[((3,(m:Int)),1)],vs++[(nm,(m:Int))],m+1)
  else if k=2 then(O3 us vs n 0 a++[((3,qB vs nm),1)],vs,m)
  else if k=3 then
   (if Q7.isEmpty then
    (O3 us vs n 0 a++(((16,((n+(O3 us vs n 0 a).length+(U3 us (n+(O3 us vs n 0 a).length+1) vs m J7).1.length+1:Nat):Int)),1)::
     (U3 us (n+(O3 us vs n 0 a).length+1) vs m J7).1),vs,(U3 us (n+(O3 us vs n 0 a).length+1) vs m J7).2)
   else
    (O3 us vs n 0 a++(((16,((n+(O3 us vs n 0 a).length+(U3 us (n+(O3 us vs n 0 a).length+1) vs m J7).1.length+2:Nat):Int)),1)::
     ((U3 us (n+(O3 us vs n 0 a).length+1) vs m J7).1++
       (((15,((n+(O3 us vs n 0 a).length+(U3 us (n+(O3 us vs n 0 a).length+1) vs m J7).1.length+2+(U3 us (n+(O3 us vs n 0 a).length+(U3 us (n+(O3 us vs n 0 a).length+1) vs m J7).1.length+2) vs (U3 us (n+(O3 us vs n 0 a).length+1) vs m J7).2 Q7).1.length:Nat):Int)),0)::
         (U3 us (n+(O3 us vs n 0 a).length+(U3 us (n+(O3 us vs n 0 a).length+1) vs m J7).1.length+2) vs (U3 us (n+(O3 us vs n 0 a).length+1) vs m J7).2 Q7).1))),vs,
     (U3 us (n+(O3 us vs n 0 a).length+(U3 us (n+(O3 us vs n 0 a).length+1) vs m J7).1.length+2) vs (U3 us (n+(O3 us vs n 0 a).length+1) vs m J7).2 Q7).2))
  else if k=5 then(O3 us vs n 0 a++[((18,0),1)],vs,m)
  else if k=6 then(O3 us vs n 0 a++[((19,0),1)],vs,m)
  else(O3 us vs n 0 a++[((4,0),1)],vs,m)
def U3(us:List Fn)(n:Nat)(vs:O5)(m:Nat):List Sm->T5×Nat
 |[]=>([],m)
 |s::l=>((S4 us n vs m s).1++(U3 us (n+(S4 us n vs m s).1.length) (S4 us n vs m s).2.1 (S4 us n vs m s).2.2 l).1,(U3 us (n+(S4 us n vs m s).1.length) (S4 us n vs m s).2.1 (S4 us n vs m s).2.2 l).2)
end
def qG:Nat->List ByteArray->O5
 |_,[]=>[]
 |m,n::l=>(n,(m:Int))::qG (m+1) l
structure Cf where
 params:Nat
 vars:Nat
 J6:T5
def jM(us:List Fn)(f:Fn):Cf:=
 ⟨f.J3.length,(U3 us 0 (qG 0 f.J3) f.J3.length f.J7).2,(U3 us 0 (qG 0 f.J3) f.J3.length f.J7).1++[((1,0),0),((18,0),1)]⟩
def J4(ps:List Nat)(o:S3):Nat:=
 if o.1=1\/o.1=2\/o.1=15 then 0 else if o.1=17 then ps.getD o.2.toNat 0 else if o.1=20 then(o.2%8).toNat
 else if o.1=3\/o.1=4\/o.1=5\/o.1=6\/o.1=16\/o.1=18\/o.1=19 then 1 else 2
def L3(o:S3):Nat:=if o.1=3\/o.1=4\/o.1=15\/o.1=16\/o.1=18\/o.1=19 then 0 else 1
def L5(k:Nat)(o:S3):List Nat:=if o.1=18 then[]else if o.1=15 then[o.2.toNat]else if o.1=16 then[k+1,o.2.toNat]else[k+1]
def Y1(a nv len:Nat)(d:Int):Nat:=if d=1 then 0 else if d=2\/d=3 then nv else if d=15\/d=16 then len else if d=17 then a else if d=20 then 128 else 1
def jb(a nv len:Nat)(o:S3):Prop:=1<=o.1/\o.1<=20/\(o.1≠1->0<=o.2/\o.2<Y1 a nv len o.1)/\(o.1=20->o.2%8<=6)
def Y6(C:T5)(k h:Nat):Prop:= ∃o,C[k]?=some (o,h)
def YD(ps:List Nat)(nv:Nat)(C:T5)(k:Nat)(o:S3)(h:Nat):Prop:=
 jb ps.length nv C.length o/\J4 ps o<=h/\h-J4 ps o+L3 o<=256/\ ∀j∈L5 k o,Y6 C j (h-J4 ps o+L3 o)
def zn(ps:List Nat)(nv:Nat)(C:T5)(lo hi:Nat):Prop:= ∀k,lo<=k->k<hi-> ∃o h,C[k]?=some (o,h)/\YD ps nv C k o h
def qP(C:T5)(n:Nat)(L:T5):Prop:= ∀i x,L[i]?=some x->C[n+i]?=some x
section
variable {ps:List Nat}{nv:Nat}{C L L':T5}{n lo hi mid k h:Nat}{o:S3}{x:S3×Nat}
theorem qP.W8(hs:qP C n (L++L')):qP C n L/\qP C (n+L.length) L':=by
 refine⟨λi x hi=>hs i x ?_,λi x hi=>?_⟩
 ·have:i<L.length:=by rcases E5 i L.length with h|h;exact h;rw[D6 h]at hi;cases hi
  rw[List.getElem?_append_left this];exact hi
 ·have:=hs (L.length+i) x (by rw[List.getElem?_append_right (by omega)];simpa using hi)
  rwa [<-Nat.add_assoc]at this
theorem qP.cons(hs:qP C n (x::L)):C[n]?=some x/\qP C (n+1) L:=by
 refine⟨by simpa using hs 0 x rfl,λi y hi=>?_⟩;have:=hs (i+1) y (by simpa using hi)
 rwa [show n+(i+1)=n+1+i by omega]at this
theorem zn.jc(a:zn ps nv C lo mid)(b:zn ps nv C mid hi):zn ps nv C lo hi:=λk c d=>by
 rcases E5 k mid with h|h
 ·exact a k c h
 ·exact b k h d
theorem zn.none:zn ps nv C lo lo:=λk a b=>by omega
theorem zn.Y0(a:C[k]?=some (o,h))(hs:YD ps nv C k o h):zn ps nv C k (k+1):=λj b c=>by
 obtain rfl:j=k:=by omega
 exact⟨o,h,a,hs⟩
theorem Y6.XX(hs:qP C n L)(hf: ∃o l,L=(o,h)::l):Y6 C n h:=by
 obtain⟨o,l,rfl⟩:=hf;exact⟨o,hs.cons.1⟩
end
end Go.Proofs.YtalgmjmibamdfaaGreatDoor
namespace Go.Proofs.YtalgmjmibamdfaaGreatDoor
open Go.Proofs.Tryz
open Go.RowKit Tw
section
open Go.Maps
def R3l:List Value->Option (Qj×List MemPlace)
 |[.int .i64 a,.int .i64 b,.int .i64 c]=>some (.agg [.lit (.int .i64 a),.lit (.int .i64 b),.lit (.int .i64 c)],[])
 |_=>none
def R3:Value->Option (Qj×List MemPlace)
 |.agg ⟨l⟩=>R3l l
 |_=>none
def tri(a b c:Int):Qj:=.agg [.lit (.int .i64 a),.lit (.int .i64 b),.lit (.int .i64 c)]
def zjf(a b c:Int):Value:=.agg #[.int .i64 a,.int .i64 b,.int .i64 c]
theorem zgB{v:Value}{ps:List MemPlace}{a b c:Int}(h:R3 v=some (tri a b c,ps)):v=zjf a b c:=by
 unfold R3 at h
 split at h
 ·unfold R3l at h
  split at h
  ·injection h with h;injection h with h _;unfold tri at h;injection h with h
   injection h with d h;injection h with e h;injection h with f _
   injection d with d;injection d with _ d;injection e with e;injection e with _ e;injection f with f;injection f with _ f
   subst d e f;rfl
  ·cases h
 ·cases h
def t3P(D:Qj)(k a b c:Int):Qj:=D.put (.int .i64 k) (tri a b c)
def t3D:Qj:=t3P (t3P (t3P (t3P (t3P (t3P (t3P (t3P (t3P (t3P (t3P (t3P (.map []) 1 0 1 0) 2 0 1 (-1)) 3 1 0 (-1)) 4 1 0 1) 5 1 1 1) 6 1 1 1) 15 0 0 (-1)) 16 1 0 (-1)) 17 0 1 (-1)) 18 1 0 1) 19 1 0 1) 20 0 1 128
theorem zw{w:World}{b n:Nat}{D:Qj}(h:w.ownsMap prog 3 R3 b n D)(f:n<100)(k a c d:Int)(e:(Lit.int .i64 k).wf=true):
 ∃w',(Instr.mapUpdate 179 (.map (some b)) (.int .i64 k) (.agg #[.int .i64 a,.int .i64 c,.int .i64 d])).run prog w=.ok () w'/\w'.ownsMap prog 3 R3 b (n+1) (t3P D k a c d)/\w.grownBy w' (some b):=
 h.update ZN underlying179 (by unfold maxLen;omega) (ZV e) rfl
theorem zew(V:World): ∃e f g h i j l m n a b w12:World,
 (Instr.mapUpdate 179 (.map (some V.heap.size)) (.int .i64 1) (.agg #[.int .i64 0,.int .i64 1,.int .i64 0])).run prog (V.alloc (.map #[] 0))=.ok () e/\
 (Instr.mapUpdate 179 (.map (some V.heap.size)) (.int .i64 2) (.agg #[.int .i64 0,.int .i64 1,.int .i64 (-1)])).run prog e=.ok () f/\
 (Instr.mapUpdate 179 (.map (some V.heap.size)) (.int .i64 3) (.agg #[.int .i64 1,.int .i64 0,.int .i64 (-1)])).run prog f=.ok () g/\
 (Instr.mapUpdate 179 (.map (some V.heap.size)) (.int .i64 4) (.agg #[.int .i64 1,.int .i64 0,.int .i64 1])).run prog g=.ok () h/\
 (Instr.mapUpdate 179 (.map (some V.heap.size)) (.int .i64 5) (.agg #[.int .i64 1,.int .i64 1,.int .i64 1])).run prog h=.ok () i/\
 (Instr.mapUpdate 179 (.map (some V.heap.size)) (.int .i64 6) (.agg #[.int .i64 1,.int .i64 1,.int .i64 1])).run prog i=.ok () j/\
 (Instr.mapUpdate 179 (.map (some V.heap.size)) (.int .i64 15) (.agg #[.int .i64 0,.int .i64 0,.int .i64 (-1)])).run prog j=.ok () l/\
 (Instr.mapUpdate 179 (.map (some V.heap.size)) (.int .i64 16) (.agg #[.int .i64 1,.int .i64 0,.int .i64 (-1)])).run prog l=.ok () m/\
 (Instr.mapUpdate 179 (.map (some V.heap.size)) (.int .i64 17) (.agg #[.int .i64 0,.int .i64 1,.int .i64 (-1)])).run prog m=.ok () n/\
 (Instr.mapUpdate 179 (.map (some V.heap.size)) (.int .i64 18) (.agg #[.int .i64 1,.int .i64 0,.int .i64 1])).run prog n=.ok () a/\
 (Instr.mapUpdate 179 (.map (some V.heap.size)) (.int .i64 19) (.agg #[.int .i64 1,.int .i64 0,.int .i64 1])).run prog a=.ok () b/\
 (Instr.mapUpdate 179 (.map (some V.heap.size)) (.int .i64 20) (.agg #[.int .i64 0,.int .i64 1,.int .i64 128])).run prog b=.ok () w12/\
 w12.ownsMap prog 3 R3 V.heap.size 12 t3D/\Below V.heap.size V w12:=by
 have y:=World.ownsMap_made (H:=Unit) V prog 3 R3;obtain⟨e,z,A,B⟩:=zw y (by decide) 1 0 1 0 (by decide);obtain⟨f,C,D,E⟩:=zw A (by decide) 2 0 1 (-1) (by decide);obtain⟨g,F,G,I⟩:=zw D (by decide) 3 1 0 (-1) (by decide);obtain⟨h,J,K,L⟩:=zw G (by decide) 4 1 0 1 (by decide);obtain⟨i,M,N,O⟩:=zw K (by decide) 5 1 1 1 (by decide);obtain⟨j,P,Q,R⟩:=zw N (by decide) 6 1 1 1 (by decide);obtain⟨l,S,T,U⟩:=zw Q (by decide) 15 0 0 (-1) (by decide);obtain⟨m,W,X,Y⟩:=zw T (by decide) 16 1 0 (-1) (by decide);obtain⟨n,Z,h9,g9⟩:=zw X (by decide) 17 0 1 (-1) (by decide);obtain⟨a,o,p,q⟩:=zw h9 (by decide) 18 1 0 1 (by decide);obtain⟨b,r,s,t⟩:=zw p (by decide) 19 1 0 1 (by decide);obtain⟨w12,u,v,w⟩:=zw s (by decide) 20 0 1 128 (by decide);refine⟨e,f,g,h,i,j,l,m,n,a,b,w12,z,C,F,J,M,P,S,W,Z,o,r,u,v,?_⟩;have c:Below V.heap.size V (V.alloc (.map #[] 0)):=(y7 _ _).alloc (y6 _) _;have d:=(K8 (K8 (K8 (K8 (K8 (K8 (K8 (K8 (K8 (K8 (K8 B E) I) L) O) R) U) Y) g9) q) t) w);exact⟨d.os.trans c.os,d.tape.trans c.tape,d.output.trans c.output,C4 c.size d.size,λk x=>(d.block k (z6 x c.size) (by simp;omega)).trans (c.block k x)⟩
theorem zi0{w:World}{b:Nat}(h:w.ownsMap prog 3 R3 b 12 t3D)(k a c d:Int)(f:Bool)(i:(Lit.int .i64 k).wf=true)(j:t3D.atKey (.int .i64 k) (tri 0 0 0)=tri a c d)(l:Maps.has t3D (.int .i64 k)=f):
 (Instr.lookup 179 (.map (some b)) (.int .i64 k) true).run prog w=.ok (.tuple #[.agg #[.int .i64 a,.int .i64 c,.int .i64 d],.bool f]) w:=by
 obtain⟨v,m,e,g⟩:=h.look_ok ZN underlying179 (z:=zjf 0 0 0) (by kernel_rfl) (zd:=tri 0 0 0) (zp:=[]) rfl (ZV i);rw[j]at g;have:=zgB g;subst this;subst l;exact e
def opT(d:Int):Int×Int×Int×Bool:=
 if d=1 then(0,1,0,true)else if d=2 then(0,1,-1,true)else if d=3 then(1,0,-1,true)else if d=4 then(1,0,1,true)else if d=5 then(1,1,1,true)else if d=6 then(1,1,1,true)else if d=15 then(0,0,-1,true)else if d=16 then(1,0,-1,true)else if d=17 then(0,1,-1,true)else if d=18 then(1,0,1,true)else if d=19 then(1,0,1,true)else if d=20 then(0,1,128,true)else(0,0,0,false)
theorem ziz{d:Int}(a:1<=d)(b:d<=20):t3D.atKey (.int .i64 d) (tri 0 0 0)=tri (opT d).1 (opT d).2.1 (opT d).2.2.1/\Maps.has t3D (.int .i64 d)=(opT d).2.2.2:=by
 have:d=1\/d=2\/d=3\/d=4\/d=5\/d=6\/d=7\/d=8\/d=9\/d=10\/d=11\/d=12\/d=13\/d=14\/d=15\/d=16\/d=17\/d=18\/d=19\/d=20:=by omega
 rcases this with rfl|rfl|rfl|rfl|rfl|rfl|rfl|rfl|rfl|rfl|rfl|rfl|rfl|rfl|rfl|rfl|rfl|rfl|rfl|rfl
 all_goals exact⟨by kernel_rfl,by kernel_rfl⟩
end
end Go.Proofs.YtalgmjmibamdfaaGreatDoor
namespace Go.Proofs.YtalgmjmibamdfaaGreatDoor
open Go.RowKit Tw
theorem zb4{t:Bs}(h:3<=lv t): ∃d,(7<=d/\d<=14)/\(ZC t=[(d,0)]\/ZC t=[(d,0),(6,0)]):=by
 unfold lv at h;unfold ZC
 by_cases a:t=[124,124]
 ·subst a;simp at h
 by_cases b:t=[38,38]
 ·subst b;simp at h
 rw[B5 a,B5 b]at h
 by_cases c:t=[43]
 ·exact⟨7,by decide,by simp[c]⟩
 by_cases e:t=[45]
 ·exact⟨8,by decide,by simp[e]⟩
 by_cases f:t=[42]
 ·exact⟨9,by decide,by simp[f]⟩
 by_cases g:t=[47]
 ·exact⟨10,by decide,by simp[g]⟩
 by_cases i:t=[37]
 ·exact⟨11,by decide,by simp[i]⟩
 by_cases j:t=[60]
 ·exact⟨12,by decide,by simp[j]⟩
 by_cases k:t=[62,61]
 ·exact⟨12,by decide,by simp[k]⟩
 by_cases l:t=[61,61]
 ·exact⟨14,by decide,by simp[l]⟩
 by_cases m:t=[33,61]
 ·exact⟨14,by decide,by simp[m]⟩
 by_cases n:t=[62]
 ·exact⟨13,by decide,by simp[n]⟩
 by_cases o:t=[60,61]
 ·exact⟨13,by decide,by simp[o]⟩
 ·simp[c,e,f,g,i,j,k,l,m,n,o]at h
section
variable {us:List Fn}{vs:O5}{env:W9}{nv d:Nat}{τ:Int}{x:Ex}
theorem xJ(hx:Xw us env d τ x): ∀n h,∃o l,O3 us vs n h x=(o,h)::l:=by
 induction hx with
 | @mk d k n t c p σ τ e _ _ f=>
   intro m h;rw[O3]
   split
   ·rename_i b
    obtain⟨rfl,-⟩:=b;cases c with
    |nil=>cases e
    |cons a l=>
     obtain⟨o,r,b⟩:=f a (B2 ..) m h;exact⟨o,_,by rw[hdC,b];rfl⟩
   ·cases c with
    |nil=>cases e<;>exact⟨_,_,rfl⟩
    |cons a l=>
     obtain⟨o,r,b⟩:=f a (B2 ..) m h;exact⟨o,_,by rw[R2,b];rfl⟩
variable {ps:List Nat}{C:T5}
theorem jX{k h a:Nat}{o:S3}(c:C[k]?=some (o,h))(e:Y6 C (k+1) a)(hf:jb ps.length nv C.length o)(f:J4 ps o<=h)(g:h-J4 ps o+L3 o=a)(i:a<=256)(hs:L5 k o=[k+1]):zn ps nv C k (k+1):=
 .Y0 c ⟨hf,f,by omega,λj b=>by rw[hs]at b;obtain rfl:=List.mem_singleton.1 b;rw[g];exact e⟩
theorem Y6.lt{k h:Nat}(b:Y6 C k h):k<C.length:=by
 obtain⟨o,h⟩:=b
 rcases E5 k C.length with a|a
 ·exact a
 ·rw[D6 a]at h;cases h
theorem Xo{k h tg:Nat}(c:C[k]?=some ((16,(tg:Int)),h+1))(f:Y6 C (k+1) h)(a:Y6 C tg h)(g:h<=256):zn ps nv C k (k+1):=by
 have:=a.lt;refine .Y0 c ⟨⟨by simp,by simp,λ_=>⟨by simp,by simp[Y1];exact_mod_cast this⟩,by simp⟩,by simp[J4],by simp[J4,L3];omega,λj b=>?_⟩;simp[L5]at b;have e:h+1-J4 ps (16,(tg:Int))+L3 (16,(tg:Int))=h:=by simp[J4,L3]
 rw[e]
 rcases b with rfl|rfl
 ·exact f
 ·exact a
theorem zaE{k h tg:Nat}(c:C[k]?=some ((15,(tg:Int)),h))(a:Y6 C tg h)(f:h<=256):zn ps nv C k (k+1):=by
 have:=a.lt;refine .Y0 c ⟨⟨by simp,by simp,λ_=>⟨by simp,by simp[Y1];exact_mod_cast this⟩,by simp⟩,by simp[J4],by simp[J4,L3];omega,λj b=>?_⟩;simp[L5]at b;have e:h-J4 ps (15,(tg:Int))+L3 (15,(tg:Int))=h:=by simp[J4,L3]
 rw[e,b];exact a
theorem ze8{n h left:Nat}{z:Bool}{a b:T5}(hs:qP C n (QE n h z a b))(c:Y6 C (n+(QE n h z a b).length) (h+1))(f:h+1<=256)
 (t:qP C n a->Y6 C (n+a.length) (h+1)->zn ps nv C n (n+a.length))
 (u:qP C (n+a.length+(if z then 1 else 0)+1) b->Y6 C (n+a.length+(if z then 1 else 0)+1+b.length) (h+1)->zn ps nv C (n+a.length+(if z then 1 else 0)+1) (n+a.length+(if z then 1 else 0)+1+b.length))
 (g: ∃o l,b=(o,h)::l):zn ps nv C n (n+(QE n h z a b).length):=by
 have v:(QE n h z a b).length=a.length+(if z then 1 else 0)+b.length+3:=by
  unfold QE;cases z<;>simp<;>omega
 rw[v]at c|-
 unfold QE at hs;obtain⟨w,y⟩:=hs.W8;obtain⟨j,k⟩:=y.W8;have i:(if z then[(((6,0):S3),h+1)]else[]).length=(if z then 1 else 0):=by cases z<;>rfl
 rw[i]at k;obtain⟨m,A⟩:=k.cons;obtain⟨p,B⟩:=A.W8;obtain⟨q,D⟩:=B.cons;obtain⟨r,-⟩:=D.cons;have s:Y6 C (n+a.length+(if z then 1 else 0)) (h+1):=⟨_,m⟩;have E:Y6 C (n+a.length+(if z then 1 else 0)+1+b.length) (h+1):=⟨_,q⟩;have F:Y6 C (n+a.length+(if z then 1 else 0)+1) h:=Y6.XX p g;have G:Y6 C (n+a.length+(if z then 1 else 0)+b.length+2) h:=⟨_,by rw[show n+a.length+(if z then 1 else 0)+b.length+2=n+a.length+(if z then 1 else 0)+1+b.length+1 by omega];exact r⟩;have H:zn ps nv C n (n+a.length):=t w (by
  cases z with
  |false=>simpa using s
  |true=>exact⟨_,j.cons.1⟩)
 have I:zn ps nv C (n+a.length) (n+a.length+(if z then 1 else 0)):=by
  cases z with
  |false=>exact .none
  |true=>exact jX j.cons.1 (by simpa using s) ⟨by decide,by decide,λ_=>⟨by decide,by simp[Y1]⟩,by simp⟩ (by simp[J4]) (by simp[J4,L3]) f (by simp[L5])
 have J:=Xo (ps:=ps) (nv:=nv) m F G (by omega);have K:=u p E;have L:=zaE (ps:=ps) (nv:=nv) (h:=h+1) (tg:=n+a.length+(if z then 1 else 0)+b.length+3) q (by rw[show n+a.length+(if z then 1 else 0)+b.length+3=n+(a.length+(if z then 1 else 0)+b.length+3) by omega];exact c) f
 have M:zn ps nv C (n+a.length+(if z then 1 else 0)+1+b.length+1) (n+a.length+(if z then 1 else 0)+1+b.length+1+1):=
  jX r (by rw[show n+a.length+(if z then 1 else 0)+1+b.length+1+1=n+(a.length+(if z then 1 else 0)+b.length+3) by omega];exact c) ⟨by simp,by simp,λe=>I2 rfl e,by simp⟩ (by simp[J4]) (by simp[J4,L3]) f (by simp[L5])
 have:=(((((H.jc I).jc J).jc K).jc L).jc M)
 rwa [show n+a.length+(if z then 1 else 0)+1+b.length+1+1=n+(a.length+(if z then 1 else 0)+b.length+3) by omega]at this
def zD(env:W9)(vs:O5)(m:Nat):Prop:=vs.map Prod.fst=env.reverse/\ ∀q∈vs,0<=q.2/\q.2<m
theorem zD.zjy{m:Nat}(a:zD env vs m){s:ByteArray}(hs:s∈env):0<=qB vs s/\qB vs s<m:=by
 have c:s∈vs.map Prod.fst:=by rw[a.1,List.mem_reverse];exact hs
 obtain⟨q,f,e⟩:=List.mem_map.1 c;unfold qB;cases b:vs.find? (λq=>decide (q.1=s))with
 |none=>have:=List.find?_eq_none.1 b q f;simp[e]at this
 |some g=>exact a.2 _ (List.mem_of_find?_eq_some b)
theorem zby{t:ByteArray}{f:Fn}(c:(us.map Fn.L6).Nodup)(hf:f∈us)(b:f.L6=t):us[qS us t]?=some f:=by
 have a:us.findIdx (λf=>decide (f.L6=t))<us.length:=List.findIdx_lt_length_of_exists ⟨f,hf,decide_eq_true b⟩;have e:=List.findIdx_getElem (w:=a);unfold qS;rw[y8 a];exact I1 some (ziS c (List.getElem_mem a) hf ((of_decide_eq_true e).trans b.symm))
theorem zhn(V: ∀s∈env,0<=qB vs s/\qB vs s<nv)(y:ps=us.map (λf=>f.J3.length))(W:(us.map Fn.L6).Nodup)(hx:Xw us env d τ x): ∀(n h:Nat),
 qP C n (O3 us vs n h x)->Y6 C (n+(O3 us vs n h x).length) (h+1)->h+5*d<=256->zn ps nv C n (n+(O3 us vs n h x).length):=by
 induction hx with
 | @mk d k nn t j p σ τ S _ T z=>
 intro n h i g hm;rw[O3]at i g|-
 have q: ∀{o:S3},j=[]->jb ps.length nv C.length o->J4 ps o=0->L3 o=1->(∀k,L5 k o=[k+1])->qP C n (R2 us vs n h j++jZ (h+0) [o])->Y6 C (n+(R2 us vs n h j++jZ (h+0) [o]).length) (h+1)->zn ps nv C n (n+(R2 us vs n h j++jZ (h+0) [o]).length):=by
  rintro o rfl A X H K i g;exact jX i.cons.1 g A (by omega) (by omega) (by omega) (K _)
 have M: ∀{o:S3},j.length=1->jb ps.length nv C.length o->J4 ps o=1->L3 o=1->(∀k,L5 k o=[k+1])->qP C n (R2 us vs n h j++jZ (h+1) [o])->Y6 C (n+(R2 us vs n h j++jZ (h+1) [o]).length) (h+1)->zn ps nv C n (n+(R2 us vs n h j++jZ (h+1) [o]).length):=by
  intro o v A X H K i g
  match j,v with
  |[a],_=>
  simp only[R2,List.append_nil]at i g|-
  obtain⟨w,l⟩:=i.W8;rw[z9,<-Nat.add_assoc]at g|-
  exact(z a (by simp) n h w ⟨_,l.cons.1⟩ (by omega)).jc (jX l.cons.1 g A (by omega) (by omega) (by omega) (K _))
 have args: ∀{L:T5}{o:S3}{r:T5},j.length=2->L=(o,h+2)::r->qP C n (R2 us vs n h j++L)->zn ps nv C n (n+(R2 us vs n h j).length)/\qP C (n+(R2 us vs n h j).length) L:=by
  intro L o r v Y i
  match j,v with
  |[a,b],_=>
  simp only[R2,List.append_nil]at i|-
  obtain⟨w,l⟩:=i.W8;obtain⟨N,I⟩:=w.W8;rw[z9,<-Nat.add_assoc]at l|-
  have Z:Y6 C (n+(O3 us vs n h a).length) (h+1):=Y6.XX I (xJ (T b (by simp)) _ _);have A2:Y6 C (n+(O3 us vs n h a).length+(O3 us vs (n+(O3 us vs n h a).length) (h+1) b).length) (h+1+1):=⟨o,by rw[Y]at l;exact l.cons.1⟩;exact⟨(z a (by simp) n h N Z (by omega)).jc (z b (by simp) _ _ I A2 (by omega)),l⟩
 have Je:3<=lv t.data.toList->j.length=2->qP C n (R2 us vs n h j++jZ (h+2) (ZC t.data.toList))->Y6 C (n+(R2 us vs n h j++jZ (h+2) (ZC t.data.toList)).length) (h+1)->zn ps nv C n (n+(R2 us vs n h j++jZ (h+2) (ZC t.data.toList)).length):=by
  intro O v i g;obtain⟨d,⟨d1,d2⟩,J⟩:=zb4 O;have m:J4 ps (d,0)=2:=by simp only[J4];rw[B5 (by omega),B5 (by omega),B5 (by omega),B5 (by omega)]
  have B:L3 (d,0)=1:=by simp only[L3];rw[B5 (by omega)]
  have D: ∀k,L5 k (d,0)=[k+1]:=λk=>by simp only[L5];rw[B5 (by omega),B5 (by omega),B5 (by omega)]
  have E:jb ps.length nv C.length (d,0):=⟨by simp;omega,by simp;omega,λ_=>⟨by simp,by simp only[Y1];rw[B5 (by omega),B5 (by omega),B5 (by omega),B5 (by omega),B5 (by omega)];decide⟩,λe=>by simp at e;omega⟩
  rcases J with J|J
  all_goals
   rw[J]at i g|-
   obtain⟨P,l⟩:=args v rfl i;rw[z9,<-Nat.add_assoc]at g|-
   refine P.jc ?_
  ·exact jX l.cons.1 g E (by rw[m];omega) (by rw[m,B];omega) (by omega) (D _)
  ·obtain⟨N,I⟩:=l.cons
   have U:=I.cons.1;have q2:zn ps nv C (n+(R2 us vs n h j).length+1) (n+(R2 us vs n h j).length+1+1):=jX U (by simpa[jZ]using g) ⟨by simp,by simp,λ_=>⟨by simp,by simp[Y1]⟩,by simp⟩ (by simp[J4]) (by simp[J4,L3]) (by omega) (by simp[L5]);exact(jX N ⟨_,U⟩ E (by rw[m];omega) (by rw[m,B];omega) (by omega) (D _)).jc q2
 generalize u:j.length=c at S i g|-
 cases S with
 |num h1 F=>rw[B5 (by simp)]at i g|-;exact q (I3 u) ⟨by simp,by simp,λe=>I2 rfl e,by simp⟩ (by simp[J4]) (by simp[L3]) (by simp[L5]) i g
 |no=>rw[B5 (by simp)]at i g|-;exact q (I3 u) ⟨by simp,by simp,λe=>I2 rfl e,by simp⟩ (by simp[J4]) (by simp[L3]) (by simp[L5]) i g
 |yes=>rw[B5 (by simp)]at i g|-;exact q (I3 u) ⟨by simp,by simp,λe=>I2 rfl e,by simp⟩ (by simp[J4]) (by simp[L3]) (by simp[L5]) i g
 |Zw _ F=>
  rw[B5 (by simp)]at i g|-
  have H:=V t F;exact q (I3 u) ⟨by simp,by simp,λ_=>⟨H.1,by simpa[Y1]using H.2⟩,by simp⟩ (by simp[J4]) (by simp[L3]) (by simp[L5]) i g
 |neg=>rw[B5 (by simp)]at i g|-;exact M u ⟨by simp,by simp,λ_=>⟨by simp,by simp[Y1]⟩,by simp⟩ (by simp[J4]) (by simp[L3]) (by simp[L5]) i g
 |not=>rw[B5 (by simp)]at i g|-;exact M u ⟨by simp,by simp,λ_=>⟨by simp,by simp[Y1]⟩,by simp⟩ (by simp[J4]) (by simp[L3]) (by simp[L5]) i g
 |host h1 F=>rw[B5 (by simp)]at i g|-;exact M (o:=(20,nn*8+(1:Nat))) u ⟨by simp,by simp,λ_=>⟨by simp<;>omega,by simp[Y1]<;>omega⟩,by simp<;>omega⟩ (by simp[J4]<;>omega) (by simp[L3]) (by simp[L5]) i g
 |log v=>
  have Q:lv t.data.toList<=2:=by rcases v with rfl|rfl<;>decide
  rw[E1 ⟨rfl,Q⟩]at i g|-
  match j,u with
  |[a,b],_=>
  simp only[hdC,sdC]at i g|-
  exact ze8 (left:=0) i g (by omega) (λw l=>z a (by simp) n h w l (by omega)) (λw l=>z b (by simp) _ h w l (by omega)) (xJ (T b (by simp)) _ h)
 |cmp v=>rw[B5 (by omega)]at i g|-;exact Je (by omega) u i g
 |Je v=>rw[B5 (by omega)]at i g|-;exact Je (by omega) u i g
 | @call _ _ f _ A ht F=>
   rw[B5 (by simp)]at i g|-
   have G:=zby W A ht;have R:=(List.getElem?_eq_some_iff.1 G).1;have m:J4 ps (17,(qS us t:Int))=2:=by
    simp only[J4];simp[y,List.getD_eq_getElem?_getD,G];exact F
   obtain⟨P,l⟩:=args u rfl (show qP C n (R2 us vs n h j++jZ (h+2) [(17,(qS us t:Int))]) from i);rw[z9,<-Nat.add_assoc]at g|-
   exact P.jc (jX l.cons.1 g ⟨by simp,by simp,λ_=>⟨by simp,by simp[Y1,y];exact R⟩,by simp⟩ (by rw[m];omega) (by rw[m];simp[L3]) (by omega) (by simp[L5]))
end
end Go.Proofs.YtalgmjmibamdfaaGreatDoor
