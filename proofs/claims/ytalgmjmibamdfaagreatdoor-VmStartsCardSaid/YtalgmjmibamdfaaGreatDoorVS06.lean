/- Merged. -/
import Derived.Test.YtalgmjmibamdfaaGreatDoorVS05
set_option linter.all false
set_option maxHeartbeats 16000000
set_option maxRecDepth 100000
namespace Go.Proofs.YtalgmjmibamdfaaGreatDoor
open Go.Proofs.Tryz
open Go.RowKit Tw
theorem Fr.old{p:Bool}{c:Cx}{w0 w:World}{i b n T:Nat}{u:List Value}{x:Value}{os:List Ob}{ps:List zq}(h:Fr p c w0 w i os ps)(l:w0.heap[b]?=some (.cells ⟨u⟩ T (0,0)))(G:b≠c.rb)(H:10<b)(B:qK (w.setCell ⟨b,n,none⟩ x) c.rb c.v c.ws):Fr p c (w0.setCell ⟨b,n,none⟩ x) (w.setCell ⟨b,n,none⟩ x) i os ps:=by
 have q:=I0 l;have d:=I7 w b n x;have r:=I7 w0 b n x;have j:(w0.setCell ⟨b,n,none⟩ x).heap.size=w0.heap.size:=by simp
 have f:(w.setCell ⟨b,n,none⟩ x).heap.size=w.heap.size:=by simp
 have s:=(h.gr.block b q (by simp;omega)).trans l;refine⟨⟨(d.block c.rb h.rd.lt (by simp;omega)).trans h.rd.J7,B,h.rd.xy,h.rd.pos⟩,h.gl.zr d.size λg C=>d.block g (by have:=h.r0;have:=h.rd.lt;omega) (by simp;omega),⟨h.gr.os,h.gr.tape,h.gr.output,by rw[j,f];exact h.gr.size,λk I y=>?_⟩,h.r0,by rw[j];exact h.z0,λm o e=>?_,h.nd,λt D=>(h.pt t D).I5 λg z A=>⟨⟨by rw[j];exact z.1,z.2⟩,by rw[f];exact A,d.block g A (by simp;omega)⟩⟩
 ·by_cases a:k=b
  ·subst a;rw[W6 s,W6 l]
  ·exact(d.block k (by have:=h.gr.size;omega) (by simpa using a)).trans ((h.gr.block k (by omega) y).trans (r.block k (by omega) (by simpa using a)).symm)
 ·rw[j];exact(h.ob m o e).I5 d λg E F=>by cases F;have:=((h.ob m o e).lt E).1;omega
theorem jJ{W W2:World}{B b T:Nat}{v u:Value}{ws:List Wd}(h:qK W B v ws)(n:W.heap[b]?=some (.cells #[u] T (0,0)))(o:W.grownBy W2 (some b)):qK W2 B v ws:=by
 rcases h with⟨rfl,rfl⟩|⟨g,d,rfl,e,k⟩
 ·exact .inl ⟨rfl,rfl⟩
 ·refine .inr ⟨g,d,rfl,e,λj u l=>?_⟩
  have c:=k j u l;have f:g<W.heap.size:=by
   rcases D6 g W.heap.size with h|h
   ·exact h
   ·unfold World.cell? at c;rw[G0 h]at c;cases c
  have i:g≠b:=by
   rintro rfl;cases ws with
   |nil=>simp[O6]at l
   |cons x ws=>
    have p:=k 1 (.string x.N4) (by simp[O6,Wd.cells]);have m:=x5 n 1;rw[p]at m;simp at m
  exact(E0 (a:=⟨g,j,none⟩) (o.block g f (by simp;exact i))).trans c
theorem Qm(b:Nat)(A:Option Addr)(n c:Nat)(a:Array Value)(w:World)(g:a.getD 2 undef=.pointer (some ⟨b,0,none⟩))(h:a.getD 3 undef=.pointer (some ⟨b+1,0,none⟩))(i:a.getD 4 undef=.pointer (some ⟨b+2,0,none⟩))
 (j:w.heap[b]?=some (.cells #[.slice A n c] 34 (0,0))) (k:w.heap[b+1]?=some (.cells #[.int .i64 0] 3 (0,0))) (l:w.heap[b+2]?=some (.cells #[.int .i64 0] 27 (0,0))):
 (results Tryz.f26 a).run prog w=.ok (.tuple #[.agg #[.slice A n c],.int .i64 0,.int .i64 0]) w:=by
 have d:a[2]?.getD undef=.pointer (some ⟨b,0,none⟩):=by simpa using g
 have e:a[3]?.getD undef=.pointer (some ⟨b+1,0,none⟩):=by simpa using h
 have f:a[4]?.getD undef=.pointer (some ⟨b+2,0,none⟩):=by simpa using i
 have m:=O1 j;have o:=O1 k;have p:=O1 l;simp[results,Tryz.results26,d,e,f,asAddr,go_sem,m,o,p]
theorem YD(p q r:Addr)(w:World):
 CallsD prog 51 #[.pointer (some p),.pointer (some q),.pointer (some r)] .returning w λe a w'=>e=.returned (.tuple #[])/\a=.returning/\w'=w:=by
 refine callsD_of_wpS func51 rfl λb d c=>?_;apply wpS_seq;apply wpS_region;simp[wpOpsS,go_sem,recoverD,c,ntmps51,Exit.thenS];apply wpS_seq;apply wpS_region;simp[wpOpsS,go_sem,Exit.thenS];refine wpS_cond (t:=false) (by simp[Act.eval,Array.replicate]) ?_;simp only[B6,if_false];refine wpS_of_wp (wp_skip ?_);cases b
 simp_all[bodyPostS,results,Tryz.results51]
structure Un(w W:World)(s:Value):Prop where
 be:Below w.heap.size w W
 u:W.heap[w.heap.size]?=some (.cells #[s] 34 (0,0))
 p:W.heap[w.heap.size+1]?=some (.cells #[.int .i64 0] 3 (0,0))
 e:W.heap[w.heap.size+2]?=some (.cells #[.int .i64 0] 27 (0,0))
theorem Un.grown{w W c:World}{s:Value}{r:Option Nat}(h:Un w W s)(a:W.grownBy c r)(b: ∀k,r=some k->w.heap.size+2<k):Un w c s:=
 ⟨⟨a.os.trans h.be.os,a.tape.trans h.be.tape,a.output.trans h.be.output,B5 h.be.size a.size,λk d=>(a.block k (y5 d h.be.size) (λe=>by have:=b _ e.symm;omega)).trans (h.be.block k d)⟩,
  (a.block _ (I0 h.u) (λe=>by have:=b _ e.symm;omega)).trans h.u,(a.block _ (I0 h.p) (λe=>by have:=b _ e.symm;omega)).trans h.p,(a.block _ (I0 h.e) (λe=>by have:=b _ e.symm;omega)).trans h.e⟩
theorem Un.set{w W:World}{s s':Value}(h:Un w W s):Un w (W.setCell ⟨w.heap.size,0,none⟩ s') s':=by
 have o: ∀k,k≠w.heap.size->(W.setCell ⟨w.heap.size,0,none⟩ s').heap[k]?=W.heap[k]?:=λk a=>F3 W ⟨w.heap.size,0,none⟩ s' k (by simpa using a);exact⟨⟨h.be.os,h.be.tape,h.be.output,by simpa using h.be.size,λk a=>(o k (by omega)).trans (h.be.block k a)⟩,W6 (u:=[s]) h.u,(o _ (by omega)).trans h.p,(o _ (by omega)).trans h.e⟩
theorem Un.zr{w W:World}{s:Value}{j:Nat}{x:Value}(h:Un w W s)(b:j=1\/j=2)(hx:x=.int .i64 0):Un w (W.setCell ⟨w.heap.size+j,0,none⟩ x) s:=by
 subst hx;have o: ∀k,k≠w.heap.size+j->(W.setCell ⟨w.heap.size+j,0,none⟩ (.int .i64 0)).heap[k]?=W.heap[k]?:=λk a=>F3 W ⟨w.heap.size+j,0,none⟩ _ k (by simpa using a);refine⟨⟨h.be.os,h.be.tape,h.be.output,by simpa using h.be.size,λk a=>(o k (by omega)).trans (h.be.block k a)⟩,(o _ (by omega)).trans h.u,?_,?_⟩
 ·rcases b with rfl|rfl
  ·exact W6 (u:=[.int .i64 0]) h.p
  ·exact(o _ (by omega)).trans h.p
 ·rcases b with rfl|rfl
  ·exact(o _ (by omega)).trans h.e
  ·exact W6 (u:=[.int .i64 0]) h.e
theorem zc1(h:ByteArray)(w:World)(ws:List Wd)(us:List Fn)(hs:h.size<=maxLen)(Y:R8 w)(hw:ZZ h 0 0 ws)(hl:ws.length<=4000)(hN:zw ws)(K:Du ws h.size 0 us)
 (hu: ∀A n W,(∃F,P4 W F (.slice A us.length n) us)->R8 W->Calls prog 53 #[.agg #[.slice A us.length n]] W λe Z=>e=.returned (.int .i64 0)/\Below W.heap.size W Z):
 Calls prog 26 #[.string h] w λe w'=> ∃A n,e=.returned (.tuple #[.agg #[.slice A us.length n],.int .i64 0,.int .i64 0])/\P4 w' (λg=>w.heap.size<=g) (.slice A us.length n) us/\Below w.heap.size w w'/\us.length<=n:=by
 have a8:=Y.Qz;have HG:=zh Y;have HU:=zh hu;have HN:=zh hN;have HD:=zh K;have O:=zh hl;have L:Below w.heap.size w (((w.alloc (.cells #[.slice none 0 0] 34)).alloc (.cells #[.int .i64 0] 3)).alloc (.cells #[.int .i64 0] 27)):=(((x7 _ _).alloc (x6 _) _).alloc (by simp) _).alloc (by simp;omega) _
 have N:Un w (((w.alloc (.cells #[.slice none 0 0] 34)).alloc (.cells #[.int .i64 0] 3)).alloc (.cells #[.int .i64 0] 27)) (.slice none 0 0):=
  ⟨L,(B8 _ _ (by simp;omega)).trans ((B8 _ _ (by simp)).trans (x9 w _)),(B8 _ _ (by simp)).trans (by simpa using x9 (w.alloc (.cells #[.slice none 0 0] 34)) (.cells #[.int .i64 0] 3)),by simpa using x9 ((w.alloc (.cells #[.slice none 0 0] 34)).alloc (.cells #[.int .i64 0] 3)) (.cells #[.int .i64 0] 27)⟩
 have WC:=zh (zdA h _ 0 0 ws hs (Y.to L) hw);have b0: ∀(fn:Go.Fn)(first P:Array Value)(w:World),(Instr.makeFunc fn first P).run prog w=.ok (.func fn first P) w:=λ_ _ _ _=>rfl;have i:=zh N;clear hw Y hu hN K hl L N;unfold maxLen at hs
 go_enter_defers func26,ntmps26
 go_wp2_with fail
 refine WC.out.mono ?_;rintro e w1 ⟨⟨v,rfl,hv⟩,Q⟩;obtain⟨R,o,rfl,-⟩:=hv.zt;replace i:=zh (i.out.grown (J5 Q none) (by simp));have C:=O1 i.out.p;have D:=O1 i.out.e;have HV:=zh hv;clear hv Q WC
 go_upto_region 2 with(fail)
 have hz:=I0 i.out.e;have H:=zh (jJ (W2:=(w1.setCell ⟨w.heap.size+1,0,none⟩ (.int .i64 0)).setCell ⟨w.heap.size+2,0,none⟩ (.int .i64 0)) (jJ HV.out i.out.p (I7 _ _ _ _)) (i.out.zr (x:=.int .i64 0) (.inl rfl) rfl).e (I7 _ _ _ _));replace i:=zh ((i.out.zr (j:=1) (x:=.int .i64 0) (.inl rfl) rfl).zr (j:=2) (x:=.int .i64 0) (.inr rfl) rfl);clear C D;generalize hW:(w1.setCell _ _).setCell _ _=B at i H|-
 have T:B.heap.size=w1.heap.size:=by rw[<-hW];simp
 rw[<-T]at hz H;clear hW T;have D:=O1 i.out.e
 go_upto_block 0 with(fail)
 have I:Below B.heap.size B (B.alloc (.cells #[.slice R ws.length o,.int .i64 0,.int .i64 h.size] 116)):=(x7 _ _).alloc (x6 _) _;have d:=zh ((Fr.start (p:=true) (c:=⟨B.heap.size,.slice R ws.length o,ws,h.size⟩) ⟨x9 B _,H.out.zr λk hk=>I.block k hk,O.out,C6 _⟩ (HG.out.to (i.out.be.trans (I.mono (by omega)))) (by simp only;omega)).nil 91 6);replace i:=zh (i.out.grown (J5 I none) (by simp));have U:B.heap.size<(B.alloc (.cells #[.slice R ws.length o,.int .i64 0,.int .i64 h.size] 116)).heap.size:=by simp
 simp only[cond]at d;clear I D HV H;generalize B.alloc _=W0 at d i U|-
 generalize B.heap.size=rb at d hz U|-
 have a0:10<rb:=by omega
 go_wp2_with fail
 go_loopw[] (λwr=> ∃(l:List (Fn×Value×Value×Value))(A:Option Addr)(n G:Nat)(W:World),Hid (Fr true ⟨rb,.slice R ws.length o,ws,h.size⟩ W wr G [.r 91 6 (.slice A l.length n) l.length (l.flatMap S8.cells)] (l.flatMap S8.zW))/\Hid (Un w W (.slice A l.length n))/\Hid (∃m,Du ws h.size G m/\us=l.map (·.1)++m/\l.length<=G))
  (λwr=>ws.length-U0 wr rb)
 case atStart=>exact⟨[],none,0,0,W0,d,i,zh ⟨us,HD.out,rfl,by simp⟩⟩
 case round=>
  clear d i;obtain⟨l,A,n,G,W,d,i,HI⟩:=hrel;obtain⟨m,K,hL,hi⟩:=HI.out;have HL:=zh hL;have b1:=O.out;clear hL;have F:=O1 d.out.rd.J7;have a1:G<=ws.length:=d.out.rd.pos;have V:=d.out.zH;have q:Hid (∀Z,W.grownBy Z (some rb)->Un w Z (.slice A l.length n)):=zh λ_ hg=>i.out.grown hg λk e=>by cases e;exact hz
  cases K with
  |done a2=>
   have a9:(ws.length:Int)<=(G:Int):=by omega
   obtain rfl:us=l.map (·.1):=by simpa using HL.out
   go_upto_region 6 with(fail)
   go_quiet (fail)
   go_upto_region 8 with(fail)
   replace d:=zh (d.out.drewN (n:=nq));generalize World.drewN wr nq=wn at d|-
   have C:=O1 (q.out _ d.out.gr).u;have a3:=zh (YR (d.out.ob 0 _ rfl));have S:=d.out.Xb S8 λa ha t ht=>List.mem_flatMap.2 ⟨a,ha,ht⟩;have X:P4 wn _ (.slice A l.length n) (l.map (·.1)):=S.pp (z5 ..);have N:=HU.out A n wn ⟨_,by rw[C0];exact X⟩ d.out.gl;rw[C0]at N;replace d:=zh S;have a4:=zh N;clear S X N hi a1 a2 V F
   go_wp2_with fail
   refine a4.out.mono ?_;rintro e wz ⟨rfl,Q⟩;replace d:=zh (d.out.below Q);have HZ:=zh (q.out _ d.out.gr);have C1:=O1 HZ.out.u;have C2:=O1 HZ.out.p;have C3:=O1 HZ.out.e;clear Q C
   go_wp2_with fail
   refine leaves_cons (f:=51) (args:= #[.pointer (some ⟨w.heap.size,0,none⟩),.pointer (some ⟨w.heap.size+1,0,none⟩),.pointer (some ⟨w.heap.size+2,0,none⟩)]) (by simp) (by simp[go_sem]) ?_;refine(YD _ _ _ _).mono ?_;rintro e u' w' ⟨rfl,rfl,rfl⟩;simp only[settle];have y:Un w (((wz.setCell ⟨w.heap.size,0,none⟩ (.slice A l.length n)).setCell ⟨w.heap.size+1,0,none⟩ (.int .i64 0)).setCell ⟨w.heap.size+2,0,none⟩ (.int .i64 0)) (.slice A l.length n):=(HZ.out.set.zr (j:=1) (.inl rfl) rfl).zr (j:=2) (.inr rfl) rfl;have b2:=I0 i.out.e;have hk:P4 _ (λg=>w.heap.size<=g) (.slice A l.length n) (l.map (·.1)):=(d.out.pp (z5 ..)).I5 λg h1 h2=>⟨by omega,by have:=y.be.size;simpa using h2,(F3 _ ⟨w.heap.size+2,0,none⟩ (.int .i64 0) g (by simp;omega)).trans ((F3 _ ⟨w.heap.size+1,0,none⟩ (.int .i64 0) g (by simp;omega)).trans (F3 _ ⟨w.heap.size,0,none⟩ (.slice A l.length n) g (by simp;omega)))⟩;exact⟨_,Qm w.heap.size A l.length n _ _ (by simp) (by simp) (by simp) y.u y.p y.e,A,n,by simp,by rw[C0];exact hk,y.be,by simpa using a3.out⟩
  | @Qf _ j f m b3 hf K=>
    have k1:(G:Int)<(ws.length:Int):=by omega
    have b4:G<j:=by
     cases hf with
     |fn h1 h2 h3 h4 h5 h6=>have:=h4.on;have:=h6.on;simp only[onS]at this;omega
    have a5:=zh hf;have a6:=zh K;clear hf K
    go_upto_region 6 with(fail)
    go_quiet (fail)
    go_upto_region 7 with(fail)
    replace d:=zh (d.out.drewN (n:=nq));generalize World.drewN wr nq=wn at d|-
    have z:=zh (d.out.below ⟨rfl,rfl,rfl,x6 _,λ_ _=>rfl⟩:Fr true _ W wn.drew G _ _);have C:=O1 (q.out _ z.out.gr).u;have E:=I0 (q.out _ z.out.gr).u
    first|(go_region_law(first|(go_simp;go_at_call 52;refine(zhz ⟨rb,.slice R ws.length o,ws,h.size⟩ G j f a0 HN.out a5.out _ z.out.rd z.out.gl).mono ?_;rintro e w8 ⟨An,mn,At,mt,Ab,mb,rfl,X,hR,hg⟩;have M:=zh (z.out.zhX hR hg X);have C8:=O1 (q.out _ M.out.gr).u;have E8:=I0 (q.out _ M.out.gr).u;clear hR hg X)|(refine M.out.aps S8 (f,.slice An f.I4.length mn,.slice At f.N2.length mt,.slice Ab f.J0.length mb) zbM (by rfl) _ _ (by rfl) (by rfl) (by rfl) (by rfl) (by simp[S8,yY,Value.oneCell']) (by omega) ?_;intro g9 s w9 J;have C9:=O1 (q.out _ J.out.gr).u)))|fail
    all_goals
     have H9:=J.out.old (b:=w.heap.size) (n:=0) (x:=.slice (some ⟨g9,0,none⟩) (l.length+1) s) i.out.u (by simp only;omega) (by omega) (jJ J.out.rd.row (q.out _ J.out.gr).u (I7 _ _ _ _));have a7:=i.out.set (s':=.slice (some ⟨g9,0,none⟩) (l.length+1) s)
     go_wp2_with fail
     go_roundw
     case rel=>exact⟨l++[(f,.slice An f.I4.length mn,.slice At f.N2.length mt,.slice Ab f.J0.length mb)],some ⟨g9,0,none⟩,s,j,W.setCell ⟨w.heap.size,0,none⟩ (.slice (some ⟨g9,0,none⟩) (l.length+1) s),zh (H9.sub λt ht=>by simpa[or_comm]using ht),zh (by simpa using a7),zh ⟨m,a6.out,by simp[HL.out],by simp;omega⟩⟩
     case measure=>have hj:j<=ws.length:=H9.rd.pos;rw[show U0 _ rb=j from H9.zH,V];omega
end Go.Proofs.YtalgmjmibamdfaaGreatDoor
namespace Go.Proofs.YtalgmjmibamdfaaGreatDoor
open Go.RowKit Tw
def R5(s:ByteArray):Bool:=L9 s.data.toList
inductive Hd:Int->Int->ByteArray->Nat->Prop
 |YO {n:Int} {t:ByteArray}:0<=n->n<=999999999999->Hd 1 n t 0
 |no {t:ByteArray}:Hd 2 0 t 0
 |yes {t:ByteArray}:Hd 2 1 t 0
 |yE {n:Int} {t:ByteArray}:R5 t=true->Hd 3 n t 0
 |neg {n:Int} {t:ByteArray}:Hd 4 n t 1
 |not {n:Int} {t:ByteArray}:Hd 5 n t 1
 |two {n:Int} {t:ByteArray}:1<=lv t.data.toList->Hd 6 n t 2
 |call {n:Int} {t:ByteArray}:R5 t=true->Hd 7 n t 2
 |host {n:Int} {t:ByteArray}:0<=n->n<=15->Hd 8 n t 1
inductive Ew:Nat->Ex->Prop
 |mk {d:Nat} {k n:Int} {t:ByteArray} {xs:List Ex} {p:Int}:Hd k n t xs.length->t.size<=maxLen->(∀x∈xs,Ew d x)->Ew (d+1) (.mk k n t xs p)
inductive Sw:Nat->Sm->Prop
 |mk {d:Nat} {k:Int} {nm:ByteArray} {a:Ex} {J0 P2:List Sm} {p:Int}:1<=k->k<=7->(k<=2->R5 nm=true)->nm.size<=maxLen->Ew d a->(∀s∈J0,Sw d s)->(∀s∈P2,Sw d s)->J0.length<=281474976710656->P2.length<=281474976710656->Sw (d+1) (.mk k nm a J0 P2 p)
structure Fw(f:Fn):Prop where
 K3:R5 f.K3=true/\f.K3.size<=maxLen
 I4: ∀n∈f.I4,R5 n=true/\n.size<=maxLen
 zbk:f.I4.length<=6
 N2:f.N2=f.I4.map λ_=>1
 out:f.out=1
 J0: ∀s∈f.J0,Sw 40 s
 zeu:f.J0.length<=281474976710656
abbrev T9:Type:=List ByteArray
inductive Sg(us:List Fn)(env:T9):Int->Int->ByteArray->Nat->Int->Int->Prop
 |YO {n:Int} {t:ByteArray}:0<=n->n<=999999999999->Sg us env 1 n t 0 1 1
 |no {t:ByteArray}:Sg us env 2 0 t 0 1 2
 |yes {t:ByteArray}:Sg us env 2 1 t 0 1 2
 |yE {n:Int} {t:ByteArray}:R5 t=true->t∈env->Sg us env 3 n t 0 1 1
 |neg {n:Int} {t:ByteArray}:Sg us env 4 n t 1 1 1
 |not {n:Int} {t:ByteArray}:Sg us env 5 n t 1 2 2
 |log {n:Int} {t:ByteArray}:t=⟨#[124,124]⟩\/t=⟨#[38,38]⟩->Sg us env 6 n t 2 2 2
 |XU {n:Int} {t:ByteArray}:lv t.data.toList=3->Sg us env 6 n t 2 1 2
 |Qg {n:Int} {t:ByteArray}:3<lv t.data.toList->Sg us env 6 n t 2 1 1
 |call {n:Int} {t:ByteArray} {f:Fn}:R5 t=true->f∈us->f.K3=t->f.I4.length=2->Sg us env 7 n t 2 1 1
 |host {n:Int} {t:ByteArray}:0<=n->n<=15->Sg us env 8 n t 1 1 1
theorem Sg.hd{us:List Fn}{env:T9}{k n:Int}{t:ByteArray}{c:Nat}{σ τ:Int}(h:Sg us env k n t c σ τ):Hd k n t c:=by
 cases h with
 |YO h a=>exact .YO h a
 |no=>exact .no
 |yes=>exact .yes
 |yE h _=>exact .yE h
 |neg=>exact .neg
 |not=>exact .not
 |log h=>exact .two (by rcases h with rfl|rfl<;>decide)
 |XU h=>exact .two (by omega)
 |Qg h=>exact .two (by omega)
 |call h _ _ _=>exact .call h
 |host h a=>exact .host h a
inductive Xw(us:List Fn)(env:T9):Nat->Int->Ex->Prop
 |mk {d:Nat} {k n:Int} {t:ByteArray} {xs:List Ex} {p σ τ:Int}:Sg us env k n t xs.length σ τ->t.size<=maxLen->(∀a∈xs,Xw us env d σ a)->Xw us env (d+1) τ (.mk k n t xs p)
section
variable {us:List Fn}{env:T9}{d e:Nat}{τ:Int}{x:Ex}
theorem Xw.ew(h:Xw us env d τ x):Ew d x:=by
 induction h with
 |mk a b _ c=>exact .mk a.hd b c
theorem Xw.mono(h:Xw us env d τ x): ∀{e:Nat},d<=e->Xw us env e τ x:=by
 induction h with
 |mk b c _ f=>
  intro e j;obtain⟨e,rfl⟩: ∃g,e=g+1:=⟨e-1,by omega⟩;exact .mk b c λa i=>f a i (by omega)
end
inductive Sx(us:List Fn)(B:List Sm->T9->Nat->T9->Nat->Bool->Prop)(d:Nat):Sm->T9->Nat->T9->Nat->Bool->Prop
 |bind {nm:ByteArray} {a:Ex} {p:Int} {env:T9} {m:Nat}:R5 nm=true->nm∉env->m<64->Xw us env d 1 a->Sx us B d (.mk 1 nm a [] [] p) env m (nm::env) (m+1) false
 |set {nm:ByteArray} {a:Ex} {p:Int} {env:T9} {m:Nat}:R5 nm=true->nm∈env->Xw us env d 1 a->Sx us B d (.mk 2 nm a [] [] p) env m env m false
 |Qc {nm:ByteArray} {a:Ex} {J0 P2:List Sm} {p:Int} {env e1 e2:T9} {m m1 m2:Nat} {r1 r2:Bool}:nm.size<=16->Xw us env d 2 a->J0.length<=1000->P2.length<=1000->B J0 env m e1 m1 r1->B P2 env m1 e2 m2 r2->Sx us B d (.mk 3 nm a J0 P2 p) env m env m2 (r1&&r2)
 |qv {nm:ByteArray} {a:Ex} {J0:List Sm} {p:Int} {env e1:T9} {m m1:Nat} {r1:Bool}:nm.size<=16->Xw us env d 2 a->J0.length<=1000->B J0 env m e1 m1 r1->Sx us B d (.mk 4 nm a J0 [] p) env m env m1 false
 |V0 {k:Int} {nm:ByteArray} {a:Ex} {p:Int} {env:T9} {m:Nat}:k=5\/k=6\/k=7->nm.size<=16->Xw us env d 1 a->Sx us B d (.mk k nm a [] [] p) env m env m (decide (k=5))
inductive qm(S:Sm->T9->Nat->T9->Nat->Bool->Prop):List Sm->T9->Nat->T9->Nat->Bool->Prop
 |nil {env:T9} {m:Nat}:qm S [] env m env m false
 |cons {s:Sm} {l:List Sm} {env e1 e2:T9} {m m1 m2:Nat} {r1 r2:Bool}:S s env m e1 m1 r1->qm S l e1 m1 e2 m2 r2->qm S (s::l) env m e2 m2 (r1||r2)
def Bx(us:List Fn):Nat->List Sm->T9->Nat->T9->Nat->Bool->Prop
 |0=>λ_ _ _ _ _ _=>False
 |d+1=>qm (Sx us (Bx us d) d)
section
variable {us:List Fn}{d:Nat}{s:Sm}{l l':List Sm}{env e1 e2:T9}{m m1 m2:Nat}{r r1 r2:Bool}
theorem xl{s:ByteArray}(h:R5 s=true):s.size<=16:=by
 have a:L9 s.data.toList=true:=h;simp only[L9,E4,E2,Array.length_toList]at a;exact a.1.1.1.2
theorem qm.U7{S:Sm->T9->Nat->T9->Nat->Bool->Prop}(h:qm S l env m e1 m1 r1)(a:qm S l' e1 m1 e2 m2 r2):qm S (l++l') env m e2 m2 (r1||r2):=by
 induction h with
 |nil=>simpa using a
 |cons b _ c=>rw[Bool.or_assoc];exact .cons b (c a)
theorem qm.all{S:Sm->T9->Nat->T9->Nat->Bool->Prop}{P:Sm->Prop}(a: ∀s env m e1 m1 r,S s env m e1 m1 r->P s)(h:qm S l env m e1 m1 r): ∀s∈l,P s:=by
 induction h with
 |nil=>exact λ_ h=>nomatch h
 |cons b _ c=>exact List.forall_mem_cons.2 ⟨a _ _ _ _ _ _ b,c⟩
theorem Bx.sw: ∀{d:Nat}{l:List Sm}{env:T9}{m:Nat}{e1:T9}{m1:Nat}{r:Bool},Bx us d l env m e1 m1 r-> ∀s∈l,Sw d s
 |0,_,_,_,_,_,_,h=>h.elim
 |d+1,_,_,_,_,_,_,h=>by
  have a: ∀{n:Nat},n<=16->n<=maxLen:=λh=>B5 h (by decide);refine qm.all (λs env m e1 m1 r i=>?_) h;cases i with
  |bind b c g f=>exact .mk (by decide) (by decide) (λ_=>b) (a (xl b)) f.ew (λ_ h=>nomatch h) (λ_ h=>nomatch h) (by decide) (by decide)
  |set b c f=>exact .mk (by decide) (by decide) (λ_=>b) (a (xl b)) f.ew (λ_ h=>nomatch h) (λ_ h=>nomatch h) (by decide) (by decide)
  |Qc b c g f j k=>exact .mk (by decide) (by decide) (λh=>G5 h (by decide)) (a b) c.ew j.sw k.sw (by omega) (by omega)
  |qv b c g f=>exact .mk (by decide) (by decide) (λh=>G5 h (by decide)) (a b) c.ew f.sw (λ_ h=>nomatch h) (by omega) (by decide)
  |V0 b c g=>exact .mk (by omega) (by omega) (λh=>by omega) (a c) g.ew (λ_ h=>nomatch h) (λ_ h=>nomatch h) (by decide) (by decide)
end
theorem qm.le{S:Sm->T9->Nat->T9->Nat->Bool->Prop}(f: ∀s env m e1 m1 r,S s env m e1 m1 r->m<=64->env.length<=m->m<=m1/\m1<=64/\e1.length<=m1/\ ∃pre,e1=pre++env){l:List Sm}{env:T9}{m:Nat}{e1:T9}{m1:Nat}{r:Bool}(h:qm S l env m e1 m1 r):m<=64->env.length<=m->m<=m1/\m1<=64/\e1.length<=m1/\ ∃pre,e1=pre++env:=by
 induction h with
 |nil=>exact λc g=>⟨x6 _,c,g,[],rfl⟩
 |cons c _ i=>
  intro a b;obtain⟨t,j,k,n,rfl⟩:=f _ _ _ _ _ _ c a b;obtain⟨u,o,p,q,rfl⟩:=i j k;exact⟨by omega,o,p,q++n,by simp⟩
theorem Bx.le{us:List Fn}: ∀{d:Nat}{l:List Sm}{env:T9}{m:Nat}{e1:T9}{m1:Nat}{r:Bool},Bx us d l env m e1 m1 r->m<=64->env.length<=m->m<=m1/\m1<=64/\e1.length<=m1/\ ∃pre,e1=pre++env
 |0,_,_,_,_,_,_,h=>h.elim
 |d+1,_,_,_,_,_,_,h=>by
  refine qm.le (λs env m e1 m1 r hs g c=>?_) h;cases hs with
  |bind=>exact⟨by omega,by omega,by simp;omega,[_],rfl⟩
  |set=>exact⟨by omega,by omega,c,[],rfl⟩
  |V0=>exact⟨by omega,by omega,c,[],rfl⟩
  |Qc _ _ _ _ f i=>
   have a:=Bx.le f g c;have b:=Bx.le i a.2.1 (by omega);exact⟨by omega,b.2.1,by omega,[],rfl⟩
  |qv _ _ _ f=>
   have a:=Bx.le f g c;exact⟨by omega,a.2.1,by omega,[],rfl⟩
theorem zhx{us:List Fn}(c:(us.map Fn.K3).Nodup){f g:Fn}(hf:f∈us)(h:g∈us)(e:f.K3=g.K3):f=g:=by
 induction us with
 |nil=>cases hf
 |cons u us i=>
  simp only[List.map_cons,List.nodup_cons]at c
  rcases List.mem_cons.1 hf with a|a<;>rcases List.mem_cons.1 h with b|b
  ·rw[a,b]
  ·exact G5 (List.mem_map.2 ⟨g,b,by rw[<-e,a]⟩) c.1
  ·exact G5 (List.mem_map.2 ⟨f,a,by rw[e,b]⟩) c.1
  ·exact i c.2 a b
def yc:ByteArray:=⟨#[109,97,105,110]⟩
structure Uw(us:List Fn):Prop where
 xy:us.length<=16
 yo:(us.map Fn.K3).Nodup
 main: ∃f∈us,f.K3=yc/\f.I4.length=0
 fw: ∀f∈us,Fw f
 ty: ∀f∈us,f.I4.Nodup/\ ∃env m,Bx us 40 f.J0 f.I4.reverse f.I4.length env m true
end Go.Proofs.YtalgmjmibamdfaaGreatDoor
namespace Go.Proofs.YtalgmjmibamdfaaGreatDoor
open Go.Proofs.Tryz
open Go.RowKit Tw
section
open Go.Maps
theorem M9.zt{w:World}{F:Nat->Prop}{v:Value}{l:List Ex}(h:M9 w F v l): ∃A c,v=.slice A l.length c:=by
 cases h with
 |nil a c=>exact⟨a,c,rfl⟩
 |row g d b=>exact⟨_,b,rfl⟩
theorem M9.at{w:World}{F:Nat->Prop}{A:Option Addr}{c:Nat}{l:List Ex}(h:M9 w F (.slice A l.length c) l)(k:Nat)(x:Ex)(hx:l[k]?=some x):
 ∃g b A' c',A=some ⟨g,b,none⟩/\F g/\g<w.heap.size/\M9 w F (.slice A' x.args.length c') x.args/\w.cell? ⟨g,b+k*5,none⟩=some (.int .i64 x.M0)/\w.cell? ⟨g,b+k*5+1,none⟩=some (.int .i64 x.n)/\w.cell? ⟨g,b+k*5+2,none⟩=some (.string x.N4)/\w.cell? ⟨g,b+k*5+3,none⟩=some (.slice A' x.args.length c')/\w.cell? ⟨g,b+k*5+4,none⟩=some (.int .i64 x.pos):=by
 generalize i:Value.slice A l.length c=v at h;cases h with
 |nil a c'=>simp at hx
 |row g b j _ s m o p f=>
  injection i with q t u
  obtain⟨A',c',r⟩:=(f k x hx).zt;have d:=p k x hx;have e:=f k x hx;rw[r]at d e;exact⟨g,b,A',c',q,m,o,e,d 0 _ rfl,d 1 _ rfl,d 2 _ rfl,d 3 _ rfl,d 4 _ rfl⟩
theorem L7.zt{w:World}{F:Nat->Prop}{v:Value}{l:List Sm}(h:L7 w F v l): ∃A c,v=.slice A l.length c:=by
 cases h with
 |nil a c=>exact⟨a,c,rfl⟩
 |row g d b=>exact⟨_,b,rfl⟩
theorem L7.at{w:World}{F:Nat->Prop}{A:Option Addr}{c:Nat}{l:List Sm}(h:L7 w F (.slice A l.length c) l)(k:Nat)(s:Sm)(hx:l[k]?=some s):
 ∃g b Aa ca e f i m,A=some ⟨g,b,none⟩/\F g/\g<w.heap.size/\M9 w F (.slice Aa s.a.args.length ca) s.a.args/\L7 w F (.slice e s.J0.length f) s.J0/\L7 w F (.slice i s.P2.length m) s.P2/\
  ∀j u,(#[.int .i64 s.M0,.string s.K3,.int .i64 s.a.M0,.int .i64 s.a.n,.string s.a.N4,.slice Aa s.a.args.length ca,.int .i64 s.a.pos,.slice e s.J0.length f,.slice i s.P2.length m,.int .i64 s.pos]:Array Value).toList[j]?=some u->w.cell? ⟨g,b+k*10+j,none⟩=some u:=by
 generalize C:Value.slice A l.length c=v at h;cases h with
 |nil a J=>simp at hx
 |row g b D _ K L M E G H o p q=>
  injection C with I N O
  obtain⟨Aa,ca,r⟩:=(o k s hx).zt;obtain⟨e,f,t⟩:=(p k s hx).zt;obtain⟨i,m,x⟩:=(q k s hx).zt;have d:=H k s hx;have y:=o k s hx;have z:=p k s hx;have B:=q k s hx;rw[r,t,x]at d;rw[r]at y;rw[t]at z;rw[x]at B;exact⟨g,b,Aa,ca,e,f,i,m,I,E,G,y,z,B,d⟩
theorem qa.zt{w:World}{F:Nat->Prop}{v:Value}{l:List ByteArray}(h:qa w F v l): ∃A c,v=.slice A l.length c:=by
 rcases h with⟨a,c,rfl,rfl⟩|⟨g,d,b,rfl,_⟩
 ·exact⟨a,c,rfl⟩
 ·exact⟨_,b,rfl⟩
theorem J8.zt{w:World}{F:Nat->Prop}{v:Value}{l:List Int}(h:J8 w F v l): ∃A c,v=.slice A l.length c:=by
 rcases h with⟨a,c,rfl,rfl⟩|⟨g,d,b,rfl,_⟩
 ·exact⟨a,c,rfl⟩
 ·exact⟨_,b,rfl⟩
theorem qa.at{w:World}{F:Nat->Prop}{A:Option Addr}{c:Nat}{l:List ByteArray}(h:qa w F (.slice A l.length c) l)(k:Nat)(s:ByteArray)(hs:l[k]?=some s): ∃g b,A=some ⟨g,b,none⟩/\g<w.heap.size/\w.cell? ⟨g,b+k,none⟩=some (.string s):=by
 rcases h with⟨a,c,e,rfl⟩|⟨g,b,d,e,_,f,i⟩
 ·simp at hs
 ·injection e with j m n
  exact⟨g,b,j,f,i k s hs⟩
theorem J8.at{w:World}{F:Nat->Prop}{A:Option Addr}{c:Nat}{l:List Int}(h:J8 w F (.slice A l.length c) l)(k:Nat)(s:Int)(hs:l[k]?=some s): ∃g b,A=some ⟨g,b,none⟩/\g<w.heap.size/\w.cell? ⟨g,b+k,none⟩=some (.int .i64 s):=by
 rcases h with⟨a,c,e,rfl⟩|⟨g,b,d,e,_,f,i⟩
 ·simp at hs
 ·injection e with j m n
  exact⟨g,b,j,f,i k s hs⟩
theorem P4.at{w:World}{F:Nat->Prop}{A:Option Addr}{c:Nat}{l:List Fn}(h:P4 w F (.slice A l.length c) l)(k:Nat)(f:Fn)(hf:l[k]?=some f):
 ∃g b n cn o p q r,A=some ⟨g,b,none⟩/\g<w.heap.size/\qa w F (.slice n f.I4.length cn) f.I4/\J8 w F (.slice o f.N2.length p) f.N2/\L7 w F (.slice q f.J0.length r) f.J0/\
  ∀j u,(#[.string f.K3,.slice n f.I4.length cn,.slice o f.N2.length p,.int .i64 f.out,.slice q f.J0.length r,.int .i64 f.pos]:Array Value).toList[j]?=some u->w.cell? ⟨g,b+k*6+j,none⟩=some u:=by
 rcases h with⟨a,c,e,rfl⟩|⟨g,b,y,D,E,G,e,_,z,B⟩
 ·simp at hf
 ·injection e with C H I
  obtain⟨x,s,t,v⟩:=B k f hf;obtain⟨n,cn,d⟩:=s.zt;obtain⟨o,p,i⟩:=t.zt;obtain⟨q,r,m⟩:=v.zt;rw[d,i,m]at x;rw[d]at s;rw[i]at t;rw[m]at v;exact⟨g,b,n,cn,o,p,q,r,C,z,s,t,v,x⟩
theorem I3{w w':World}{F:Nat->Prop}(h:Below w.heap.size w w'):yG F F w w':=λg b a=>⟨b,y5 a h.size,h.block g a⟩
theorem Ze:Keyed prog 3:=int_keyed underlying3
theorem zce(w:World):(zeroValue 3).run prog w=.ok (.int .i64 0) w:=by kernel_rfl
theorem yS{k:Int}(h:(Lit.int .i64 k).wf=true):keyOf prog 3 (.int .i64 k)=some (.int .i64 k):=keyOf_int_mk underlying3 h
abbrev Zo:Type:=DataW Unit
def xB(D:Zo)(k v:Int):Zo:=D.put (.int .i64 k) (.lit (.int .i64 v))
def zfE:Zo:=xB (xB (xB (xB (xB (xB (.map []) 1 0) 2 0) 3 0) 4 1) 5 1) 6 2
theorem qW{w:World}{b n:Nat}{D:Zo}(h:w.ownsMap prog 3 (plainElem prog 3) b n D)(d:n<100)(k v:Int)(a:(Lit.int .i64 k).wf=true)(c:(Lit.int .i64 v).wf=true):
 ∃w',(Instr.mapUpdate 258 (.map (some b)) (.int .i64 k) (.int .i64 v)).run prog w=.ok () w'/\w'.ownsMap prog 3 (plainElem prog 3) b (n+1) (xB D k v)/\w.grownBy w' (some b):=
 h.update Ze underlying258 (by unfold maxLen;omega) (yS a) (plainElem_int underlying3 c)
theorem ze3{w:World}{b:Nat}(h:w.ownsMap prog 3 (plainElem prog 3) b 6 zfE)(k c:Int)(e:Bool)(g:(Lit.int .i64 k).wf=true)(i:zfE.atKey (.int .i64 k) (.lit (.int .i64 0))=.lit (.int .i64 c))(j:Maps.has zfE (.int .i64 k)=e):
 (Instr.lookup 258 (.map (some b)) (.int .i64 k) true).run prog w=.ok (.tuple #[.int .i64 c,.bool e]) w:=by
 obtain⟨v,m,d,l⟩:=h.look_ok Ze underlying258 (zce w) (plainElem_int underlying3 (a:=0) (by decide)) (yS g);obtain⟨n,rfl,f,_⟩:=plainElem_int_inv underlying3 l;obtain rfl:=(Lit.int.inj (DataW.lit.inj (i.symm.trans (G4 Prod.fst f)))).2;exact j▸d
theorem zcP(V:World): ∃c d e f g w6:World,
 (Instr.mapUpdate 258 (.map (some V.heap.size)) (.int .i64 1) (.int .i64 0)).run prog (V.alloc (.map #[] 0))=.ok () c/\
 (Instr.mapUpdate 258 (.map (some V.heap.size)) (.int .i64 2) (.int .i64 0)).run prog c=.ok () d/\
 (Instr.mapUpdate 258 (.map (some V.heap.size)) (.int .i64 3) (.int .i64 0)).run prog d=.ok () e/\
 (Instr.mapUpdate 258 (.map (some V.heap.size)) (.int .i64 4) (.int .i64 1)).run prog e=.ok () f/\
 (Instr.mapUpdate 258 (.map (some V.heap.size)) (.int .i64 5) (.int .i64 1)).run prog f=.ok () g/\
 (Instr.mapUpdate 258 (.map (some V.heap.size)) (.int .i64 6) (.int .i64 2)).run prog g=.ok () w6/\
 (∀t∈[((1:Int),(0:Int),true),(2,0,true),(3,0,true),(4,1,true),(5,1,true),(6,2,true),(7,0,false),(8,0,false)],(Instr.lookup 258 (.map (some V.heap.size)) (.int .i64 t.1) true).run prog w6=.ok (.tuple #[.int .i64 t.2.1,.bool t.2.2]) w6)/\Below V.heap.size V w6:=by
 have j:=World.ownsMap_made (H:=Unit) V prog 3 (plainElem prog 3);obtain⟨c,l,m,n⟩:=qW j (by decide) 1 0 (by decide) (by decide);obtain⟨d,o,p,q⟩:=qW m (by decide) 2 0 (by decide) (by decide);obtain⟨e,r,s,u⟩:=qW p (by decide) 3 0 (by decide) (by decide);obtain⟨f,v,w,x⟩:=qW s (by decide) 4 1 (by decide) (by decide);obtain⟨g,y,z,A⟩:=qW w (by decide) 5 1 (by decide) (by decide);obtain⟨w6,B,C,D⟩:=qW z (by decide) 6 2 (by decide) (by decide);refine⟨c,d,e,f,g,w6,l,o,r,v,y,B,λt h=>?_,?_⟩
 ·simp only[D9,List.not_mem_nil,or_false]at h
  rcases h with rfl|rfl|rfl|rfl|rfl|rfl|rfl|rfl<;>exact ze3 C _ _ _ (by decide) (by kernel_rfl) (by kernel_rfl)
 ·have a:Below V.heap.size V (V.alloc (.map #[] 0)):=(x7 _ _).alloc (x6 _) _
  have b:=J6 (J6 (J6 (J6 (J6 n q) u) x) A) D;exact⟨b.os.trans a.os,b.tape.trans a.tape,b.output.trans a.output,B5 a.size b.size,λk i=>(b.block k (y5 i a.size) (by simp;omega)).trans (a.block k i)⟩
end
end Go.Proofs.YtalgmjmibamdfaaGreatDoor
namespace Go.Proofs.YtalgmjmibamdfaaGreatDoor
open Go.RowKit Tw
abbrev Q2:Type:=Int×Int
abbrev R2:Type:=List (Q2×Nat)
abbrev N1:Type:=List (ByteArray×Int)
def zR(vs:N1)(s:ByteArray):Int:=match vs.find? (λq=>decide (q.1=s))with|some q=>q.2|none=>0
def ql(us:List Fn)(s:ByteArray):Nat:=us.findIdx (λf=>decide (f.K3=s))
def yM(t:Bs):List Q2:=
 if t=[43]then[(7,0)]else if t=[45]then[(8,0)]else if t=[42]then[(9,0)]else if t=[47]then[(10,0)]else if t=[37]then[(11,0)]
 else if t=[60]then[(12,0)]else if t=[62,61]then[(12,0),(6,0)]else if t=[61,61]then[(14,0)]else if t=[33,61]then[(14,0),(6,0)]
 else if t=[62]then[(13,0)]else if t=[60,61]then[(13,0),(6,0)]else[]
def Ql(us:List Fn)(vs:N1)(k n:Int)(t:ByteArray)(a:Nat):List Q2:=
 if k=1\/k=2 then[(1,n)]else if k=3 then[(2,zR vs t)]else if k=4 then[(5,0)]else if k=5 then[(6,0)]
 else if k=7 then[(17,(ql us t:Int))]else if k=8 then[(20,n*8+a)]else if k=6 then yM t.data.toList else[]
def jp:Nat->List Q2->R2
 |_,[]=>[]
 |h,o::l=>(o,h)::jp (h-1) l
def ZJ(n h:Nat)(z:Bool)(a b:R2):R2:=
 a++((if z then[((6,0),h+1)]else[])++(((16,((n+a.length+(if z then 1 else 0)+b.length+2:Nat):Int)),h+1)::
  (b++[((15,((n+a.length+(if z then 1 else 0)+b.length+3:Nat):Int)),h+1),((1,if z then 1 else 0),h)])))
mutual
def N0(us:List Fn)(vs:N1)(n h:Nat):Ex->R2
 |.mk k nn t xs _=>
  if k=6/\lv t.data.toList<=2 then
   ZJ n h (decide (lv t.data.toList=1)) (hdC us vs n h xs) (sdC us vs (n+(hdC us vs n h xs).length+(if decide (lv t.data.toList=1)then 1 else 0)+1) h xs)
  else P6 us vs n h xs++jp (h+xs.length) (Ql us vs k nn t xs.length)
def hdC(us:List Fn)(vs:N1)(n h:Nat):List Ex->R2
 |[]=>[]
 |a::_=>N0 us vs n h a
def sdC(us:List Fn)(vs:N1)(n h:Nat):List Ex->R2
 |[]=>[]
 |_::l=>hdC us vs n h l
def P6(us:List Fn)(vs:N1)(n h:Nat):List Ex->R2
 |[]=>[]
 |a::l=>N0 us vs n h a++P6 us vs (n+(N0 us vs n h a).length) (h+1) l
end
mutual
def Q4(us:List Fn)(n:Nat)(vs:N1)(m:Nat):Sm->R2×N1×Nat
 |.mk k nm a J0 P2 _=>
  if k=4 then
   (N0 us vs n 0 a++(((16,((n+(N0 us vs n 0 a).length+(S3 us (n+(N0 us vs n 0 a).length+1) vs m J0).1.length+2:Nat):Int)),1)::
    ((S3 us (n+(N0 us vs n 0 a).length+1) vs m J0).1++[((15,(n:Int)),0)])),vs,(S3 us (n+(N0 us vs n 0 a).length+1) vs m J0).2)
  else if k=1 then(N0 us vs n 0 a++[((3,(m:Int)),1)],vs++[(nm,(m:Int))],m+1)
  else if k=2 then(N0 us vs n 0 a++[((3,zR vs nm),1)],vs,m)
  else if k=3 then
   (if P2.isEmpty then
    (N0 us vs n 0 a++(((16,((n+(N0 us vs n 0 a).length+(S3 us (n+(N0 us vs n 0 a).length+1) vs m J0).1.length+1:Nat):Int)),1)::
     (S3 us (n+(N0 us vs n 0 a).length+1) vs m J0).1),vs,(S3 us (n+(N0 us vs n 0 a).length+1) vs m J0).2)
   else
    (N0 us vs n 0 a++(((16,((n+(N0 us vs n 0 a).length+(S3 us (n+(N0 us vs n 0 a).length+1) vs m J0).1.length+2:Nat):Int)),1)::
     ((S3 us (n+(N0 us vs n 0 a).length+1) vs m J0).1++
       (((15,((n+(N0 us vs n 0 a).length+(S3 us (n+(N0 us vs n 0 a).length+1) vs m J0).1.length+2+(S3 us (n+(N0 us vs n 0 a).length+(S3 us (n+(N0 us vs n 0 a).length+1) vs m J0).1.length+2) vs (S3 us (n+(N0 us vs n 0 a).length+1) vs m J0).2 P2).1.length:Nat):Int)),0)::
         (S3 us (n+(N0 us vs n 0 a).length+(S3 us (n+(N0 us vs n 0 a).length+1) vs m J0).1.length+2) vs (S3 us (n+(N0 us vs n 0 a).length+1) vs m J0).2 P2).1))),vs,
     (S3 us (n+(N0 us vs n 0 a).length+(S3 us (n+(N0 us vs n 0 a).length+1) vs m J0).1.length+2) vs (S3 us (n+(N0 us vs n 0 a).length+1) vs m J0).2 P2).2))
  else if k=5 then(N0 us vs n 0 a++[((18,0),1)],vs,m)
  else if k=6 then(N0 us vs n 0 a++[((19,0),1)],vs,m)
  else(N0 us vs n 0 a++[((4,0),1)],vs,m)
def S3(us:List Fn)(n:Nat)(vs:N1)(m:Nat):List Sm->R2×Nat
 |[]=>([],m)
 |s::l=>((Q4 us n vs m s).1++(S3 us (n+(Q4 us n vs m s).1.length) (Q4 us n vs m s).2.1 (Q4 us n vs m s).2.2 l).1,(S3 us (n+(Q4 us n vs m s).1.length) (Q4 us n vs m s).2.1 (Q4 us n vs m s).2.2 l).2)
end
def zX:Nat->List ByteArray->N1
 |_,[]=>[]
 |m,n::l=>(n,(m:Int))::zX (m+1) l
structure Cf where
 params:Nat
 vars:Nat
 I9:R2
def jk(us:List Fn)(f:Fn):Cf:=
 ⟨f.I4.length,(S3 us 0 (zX 0 f.I4) f.I4.length f.J0).2,(S3 us 0 (zX 0 f.I4) f.I4.length f.J0).1++[((1,0),0),((18,0),1)]⟩
def I6(ps:List Nat)(o:Q2):Nat:=
 if o.1=1\/o.1=2\/o.1=15 then 0 else if o.1=17 then ps.getD o.2.toNat 0 else if o.1=20 then(o.2%8).toNat
 else if o.1=3\/o.1=4\/o.1=5\/o.1=6\/o.1=16\/o.1=18\/o.1=19 then 1 else 2
def J9(o:Q2):Nat:=if o.1=3\/o.1=4\/o.1=15\/o.1=16\/o.1=18\/o.1=19 then 0 else 1
def K2(k:Nat)(o:Q2):List Nat:=if o.1=18 then[]else if o.1=15 then[o.2.toNat]else if o.1=16 then[k+1,o.2.toNat]else[k+1]
def U6(b nv a:Nat)(d:Int):Nat:=if d=1 then 0 else if d=2\/d=3 then nv else if d=15\/d=16 then a else if d=17 then b else if d=20 then 128 else 1
def qq(b nv a:Nat)(o:Q2):Prop:=1<=o.1/\o.1<=20/\(o.1≠1->0<=o.2/\o.2<U6 b nv a o.1)/\(o.1=20->o.2%8<=6)
def W3(C:R2)(k h:Nat):Prop:= ∃o,C[k]?=some (o,h)
def Xy(ps:List Nat)(nv:Nat)(C:R2)(k:Nat)(o:Q2)(h:Nat):Prop:=
 qq ps.length nv C.length o/\I6 ps o<=h/\h-I6 ps o+J9 o<=256/\ ∀j∈K2 k o,W3 C j (h-I6 ps o+J9 o)
def Y4(ps:List Nat)(nv:Nat)(C:R2)(lo hi:Nat):Prop:= ∀k,lo<=k->k<hi-> ∃o h,C[k]?=some (o,h)/\Xy ps nv C k o h
def qe(C:R2)(n:Nat)(L:R2):Prop:= ∀i x,L[i]?=some x->C[n+i]?=some x
section
variable {ps:List Nat}{nv:Nat}{C L L':R2}{n lo hi mid k h:Nat}{o:Q2}{x:Q2×Nat}
theorem qe.U7(hs:qe C n (L++L')):qe C n L/\qe C (n+L.length) L':=by
 refine⟨λi x hi=>hs i x ?_,λi x hi=>?_⟩
 ·have:i<L.length:=by rcases D6 i L.length with h|h;exact h;rw[B9 h]at hi;cases hi
  rw[List.getElem?_append_left this];exact hi
 ·have:=hs (L.length+i) x (by rw[List.getElem?_append_right (by omega)];simpa using hi)
  rwa [<-Nat.add_assoc]at this
theorem qe.cons(hs:qe C n (x::L)):C[n]?=some x/\qe C (n+1) L:=by
 refine⟨by simpa using hs 0 x rfl,λi y hi=>?_⟩;have:=hs (i+1) y (by simpa using hi)
 rwa [show n+(i+1)=n+1+i by omega]at this
theorem Y4.qu(a:Y4 ps nv C lo mid)(b:Y4 ps nv C mid hi):Y4 ps nv C lo hi:=λk c d=>by
 rcases D6 k mid with h|h
 ·exact a k c h
 ·exact b k h d
theorem Y4.none:Y4 ps nv C lo lo:=λk a b=>by omega
theorem Y4.V0(a:C[k]?=some (o,h))(hs:Xy ps nv C k o h):Y4 ps nv C k (k+1):=λj b c=>by
 obtain rfl:j=k:=by omega
 exact⟨o,h,a,hs⟩
theorem W3.JZ(hs:qe C n L)(hf: ∃o l,L=(o,h)::l):W3 C n h:=by
 obtain⟨o,l,rfl⟩:=hf;exact⟨o,hs.cons.1⟩
end
end Go.Proofs.YtalgmjmibamdfaaGreatDoor
namespace Go.Proofs.YtalgmjmibamdfaaGreatDoor
open Go.Proofs.Tryz
open Go.RowKit Tw
section
open Go.Maps
def R3l:List Value->Option (Zo×List MemPlace)
 |[.int .i64 a,.int .i64 b,.int .i64 c]=>some (.agg [.lit (.int .i64 a),.lit (.int .i64 b),.lit (.int .i64 c)],[])
 |_=>none
def R3:Value->Option (Zo×List MemPlace)
 |.agg ⟨l⟩=>R3l l
 |_=>none
def tri(a b c:Int):Zo:=.agg [.lit (.int .i64 a),.lit (.int .i64 b),.lit (.int .i64 c)]
def zg6(a b c:Int):Value:=.agg #[.int .i64 a,.int .i64 b,.int .i64 c]
theorem zfc{v:Value}{ps:List MemPlace}{a b c:Int}(h:R3 v=some (tri a b c,ps)):v=zg6 a b c:=by
 unfold R3 at h
 split at h
 ·unfold R3l at h
  split at h
  ·injection h with h;injection h with h _;unfold tri at h;injection h with h
   injection h with d h;injection h with e h;injection h with f _
   injection d with d;injection d with _ d;injection e with e;injection e with _ e;injection f with f;injection f with _ f
   subst d e f;rfl
  ·cases h
 ·cases h
def t3P(D:Zo)(k a b c:Int):Zo:=D.put (.int .i64 k) (tri a b c)
def t3D:Zo:=t3P (t3P (t3P (t3P (t3P (t3P (t3P (t3P (t3P (t3P (t3P (t3P (.map []) 1 0 1 0) 2 0 1 (-1)) 3 1 0 (-1)) 4 1 0 1) 5 1 1 1) 6 1 1 1) 15 0 0 (-1)) 16 1 0 (-1)) 17 0 1 (-1)) 18 1 0 1) 19 1 0 1) 20 0 1 128
theorem Z5{w:World}{b n:Nat}{D:Zo}(h:w.ownsMap prog 3 R3 b n D)(f:n<100)(k a c d:Int)(e:(Lit.int .i64 k).wf=true):
 ∃w',(Instr.mapUpdate 179 (.map (some b)) (.int .i64 k) (.agg #[.int .i64 a,.int .i64 c,.int .i64 d])).run prog w=.ok () w'/\w'.ownsMap prog 3 R3 b (n+1) (t3P D k a c d)/\w.grownBy w' (some b):=
 h.update Ze underlying179 (by unfold maxLen;omega) (yS e) rfl
theorem zd4(V:World): ∃e f g h i j l m n a b w12:World,
 (Instr.mapUpdate 179 (.map (some V.heap.size)) (.int .i64 1) (.agg #[.int .i64 0,.int .i64 1,.int .i64 0])).run prog (V.alloc (.map #[] 0))=.ok () e/\
 (Instr.mapUpdate 179 (.map (some V.heap.size)) (.int .i64 2) (.agg #[.int .i64 0,.int .i64 1,.int .i64 (-1)])).run prog e=.ok () f/\
 (Instr.mapUpdate 179 (.map (some V.heap.size)) (.int .i64 3) (.agg #[.int .i64 1,.int .i64 0,.int .i64 (-1)])).run prog f=.ok () g/\
 (Instr.mapUpdate 179 (.map (some V.heap.size)) (.int .i64 4) (.agg #[.int .i64 1,.int .i64 0,.int .i64 1])).run prog g=.ok () h/\
 (Instr.mapUpdate 179 (.map (some V.heap.size)) (.int .i64 5) (.agg #[.int .i64 1,.int .i64 1,.int .i64 1])).run prog h=.ok () i/\
 (Instr.mapUpdate 179 (.map (some V.heap.size)) (.int .i64 6) (.agg #[.int .i64 1,.int .i64 1,.int .i64 1])).run prog i=.ok () j/\
 (Instr.mapUpdate 179 (.map (some V.heap.size)) (.int .i64 15) (.agg #[.int .i64 0,.int .i64 0,.int .i64 (-1)])).run prog j=.ok () l/\
 (Instr.mapUpdate 179 (.map (some V.heap.size)) (.int .i64 16) (.agg #[.int .i64 1,.int .i64 0,.int .i64 (-1)])).run prog l=.ok () m/\
 (Instr.mapUpdate 179 (.map (some V.heap.size)) (.int .i64 17) (.agg #[.int .i64 0,.int .i64 1,.int .i64 (-1)])).run prog m=.ok () n/\
 (Instr.mapUpdate 179 (.map (some V.heap.size)) (.int .i64 18) (.agg #[.int .i64 1,.int .i64 0,.int .i64 1])).run prog n=.ok () a/\
 (Instr.mapUpdate 179 (.map (some V.heap.size)) (.int .i64 19) (.agg #[.int .i64 1,.int .i64 0,.int .i64 1])).run prog a=.ok () b/\
 (Instr.mapUpdate 179 (.map (some V.heap.size)) (.int .i64 20) (.agg #[.int .i64 0,.int .i64 1,.int .i64 128])).run prog b=.ok () w12/\
 w12.ownsMap prog 3 R3 V.heap.size 12 t3D/\Below V.heap.size V w12:=by
 have y:=World.ownsMap_made (H:=Unit) V prog 3 R3;obtain⟨e,z,A,B⟩:=Z5 y (by decide) 1 0 1 0 (by decide);obtain⟨f,C,D,E⟩:=Z5 A (by decide) 2 0 1 (-1) (by decide);obtain⟨g,F,G,I⟩:=Z5 D (by decide) 3 1 0 (-1) (by decide);obtain⟨h,J,K,L⟩:=Z5 G (by decide) 4 1 0 1 (by decide);obtain⟨i,M,N,O⟩:=Z5 K (by decide) 5 1 1 1 (by decide);obtain⟨j,P,Q,R⟩:=Z5 N (by decide) 6 1 1 1 (by decide);obtain⟨l,S,T,U⟩:=Z5 Q (by decide) 15 0 0 (-1) (by decide);obtain⟨m,W,X,Y⟩:=Z5 T (by decide) 16 1 0 (-1) (by decide);obtain⟨n,Z,h9,g9⟩:=Z5 X (by decide) 17 0 1 (-1) (by decide);obtain⟨a,o,p,q⟩:=Z5 h9 (by decide) 18 1 0 1 (by decide);obtain⟨b,r,s,t⟩:=Z5 p (by decide) 19 1 0 1 (by decide);obtain⟨w12,u,v,w⟩:=Z5 s (by decide) 20 0 1 128 (by decide);refine⟨e,f,g,h,i,j,l,m,n,a,b,w12,z,C,F,J,M,P,S,W,Z,o,r,u,v,?_⟩;have c:Below V.heap.size V (V.alloc (.map #[] 0)):=(x7 _ _).alloc (x6 _) _;have d:=(J6 (J6 (J6 (J6 (J6 (J6 (J6 (J6 (J6 (J6 (J6 B E) I) L) O) R) U) Y) g9) q) t) w);exact⟨d.os.trans c.os,d.tape.trans c.tape,d.output.trans c.output,B5 c.size d.size,λk x=>(d.block k (y5 x c.size) (by simp;omega)).trans (c.block k x)⟩
theorem zhf{w:World}{b:Nat}(h:w.ownsMap prog 3 R3 b 12 t3D)(k a c d:Int)(f:Bool)(i:(Lit.int .i64 k).wf=true)(j:t3D.atKey (.int .i64 k) (tri 0 0 0)=tri a c d)(l:Maps.has t3D (.int .i64 k)=f):
 (Instr.lookup 179 (.map (some b)) (.int .i64 k) true).run prog w=.ok (.tuple #[.agg #[.int .i64 a,.int .i64 c,.int .i64 d],.bool f]) w:=by
 obtain⟨v,m,e,g⟩:=h.look_ok Ze underlying179 (z:=zg6 0 0 0) (by kernel_rfl) (zd:=tri 0 0 0) (zp:=[]) rfl (yS i);rw[j]at g;have:=zfc g;subst this;subst l;exact e
def opT(d:Int):Int×Int×Int×Bool:=
 if d=1 then(0,1,0,true)else if d=2 then(0,1,-1,true)else if d=3 then(1,0,-1,true)else if d=4 then(1,0,1,true)else if d=5 then(1,1,1,true)else if d=6 then(1,1,1,true)else if d=15 then(0,0,-1,true)else if d=16 then(1,0,-1,true)else if d=17 then(0,1,-1,true)else if d=18 then(1,0,1,true)else if d=19 then(1,0,1,true)else if d=20 then(0,1,128,true)else(0,0,0,false)
theorem zg2{d:Int}(a:1<=d)(b:d<=20):t3D.atKey (.int .i64 d) (tri 0 0 0)=tri (opT d).1 (opT d).2.1 (opT d).2.2.1/\Maps.has t3D (.int .i64 d)=(opT d).2.2.2:=by
 have:d=1\/d=2\/d=3\/d=4\/d=5\/d=6\/d=7\/d=8\/d=9\/d=10\/d=11\/d=12\/d=13\/d=14\/d=15\/d=16\/d=17\/d=18\/d=19\/d=20:=by omega
 rcases this with rfl|rfl|rfl|rfl|rfl|rfl|rfl|rfl|rfl|rfl|rfl|rfl|rfl|rfl|rfl|rfl|rfl|rfl|rfl|rfl
 all_goals exact⟨by kernel_rfl,by kernel_rfl⟩
end
end Go.Proofs.YtalgmjmibamdfaaGreatDoor
namespace Go.Proofs.YtalgmjmibamdfaaGreatDoor
open Go.RowKit Tw
theorem zaY{t:Bs}(h:3<=lv t): ∃d,(7<=d/\d<=14)/\(yM t=[(d,0)]\/yM t=[(d,0),(6,0)]):=by
 unfold lv at h;unfold yM
 by_cases a:t=[124,124]
 ·subst a;simp at h
 by_cases b:t=[38,38]
 ·subst b;simp at h
 rw[z7 a,z7 b]at h
 by_cases c:t=[43]
 ·exact⟨7,by decide,by simp[c]⟩
 by_cases e:t=[45]
 ·exact⟨8,by decide,by simp[e]⟩
 by_cases f:t=[42]
 ·exact⟨9,by decide,by simp[f]⟩
 by_cases g:t=[47]
 ·exact⟨10,by decide,by simp[g]⟩
 by_cases i:t=[37]
 ·exact⟨11,by decide,by simp[i]⟩
 by_cases j:t=[60]
 ·exact⟨12,by decide,by simp[j]⟩
 by_cases k:t=[62,61]
 ·exact⟨12,by decide,by simp[k]⟩
 by_cases l:t=[61,61]
 ·exact⟨14,by decide,by simp[l]⟩
 by_cases m:t=[33,61]
 ·exact⟨14,by decide,by simp[m]⟩
 by_cases n:t=[62]
 ·exact⟨13,by decide,by simp[n]⟩
 by_cases o:t=[60,61]
 ·exact⟨13,by decide,by simp[o]⟩
 ·simp[c,e,f,g,i,j,k,l,m,n,o]at h
section
variable {us:List Fn}{vs:N1}{env:T9}{nv d:Nat}{τ:Int}{x:Ex}
theorem jW(hx:Xw us env d τ x): ∀n h,∃o l,N0 us vs n h x=(o,h)::l:=by
 induction hx with
 | @mk d k n t c p σ τ e _ _ f=>
   intro m h;rw[N0]
   split
   ·rename_i b
    obtain⟨rfl,-⟩:=b;cases c with
    |nil=>cases e
    |cons a l=>
     obtain⟨o,r,b⟩:=f a (z5 ..) m h;exact⟨o,_,by rw[hdC,b];rfl⟩
   ·cases c with
    |nil=>cases e<;>exact⟨_,_,rfl⟩
    |cons a l=>
     obtain⟨o,r,b⟩:=f a (z5 ..) m h;exact⟨o,_,by rw[P6,b];rfl⟩
variable {ps:List Nat}{C:R2}
theorem jx{k h a:Nat}{o:Q2}(c:C[k]?=some (o,h))(e:W3 C (k+1) a)(hf:qq ps.length nv C.length o)(f:I6 ps o<=h)(g:h-I6 ps o+J9 o=a)(i:a<=256)(hs:K2 k o=[k+1]):Y4 ps nv C k (k+1):=
 .V0 c ⟨hf,f,by omega,λj b=>by rw[hs]at b;obtain rfl:=List.mem_singleton.1 b;rw[g];exact e⟩
theorem W3.lt{k h:Nat}(b:W3 C k h):k<C.length:=by
 obtain⟨o,h⟩:=b
 rcases D6 k C.length with a|a
 ·exact a
 ·rw[B9 a]at h;cases h
theorem JL{k h tg:Nat}(c:C[k]?=some ((16,(tg:Int)),h+1))(f:W3 C (k+1) h)(a:W3 C tg h)(g:h<=256):Y4 ps nv C k (k+1):=by
 have:=a.lt;refine .V0 c ⟨⟨by simp,by simp,λ_=>⟨by simp,by simp[U6];exact_mod_cast this⟩,by simp⟩,by simp[I6],by simp[I6,J9];omega,λj b=>?_⟩;simp[K2]at b;have e:h+1-I6 ps (16,(tg:Int))+J9 (16,(tg:Int))=h:=by simp[I6,J9]
 rw[e]
 rcases b with rfl|rfl
 ·exact f
 ·exact a
theorem Yw{k h tg:Nat}(c:C[k]?=some ((15,(tg:Int)),h))(a:W3 C tg h)(f:h<=256):Y4 ps nv C k (k+1):=by
 have:=a.lt;refine .V0 c ⟨⟨by simp,by simp,λ_=>⟨by simp,by simp[U6];exact_mod_cast this⟩,by simp⟩,by simp[I6],by simp[I6,J9];omega,λj b=>?_⟩;simp[K2]at b;have e:h-I6 ps (15,(tg:Int))+J9 (15,(tg:Int))=h:=by simp[I6,J9]
 rw[e,b];exact a
theorem zdy{n h left:Nat}{z:Bool}{a b:R2}(hs:qe C n (ZJ n h z a b))(c:W3 C (n+(ZJ n h z a b).length) (h+1))(f:h+1<=256)
 (t:qe C n a->W3 C (n+a.length) (h+1)->Y4 ps nv C n (n+a.length))
 (u:qe C (n+a.length+(if z then 1 else 0)+1) b->W3 C (n+a.length+(if z then 1 else 0)+1+b.length) (h+1)->Y4 ps nv C (n+a.length+(if z then 1 else 0)+1) (n+a.length+(if z then 1 else 0)+1+b.length))
 (g: ∃o l,b=(o,h)::l):Y4 ps nv C n (n+(ZJ n h z a b).length):=by
 have v:(ZJ n h z a b).length=a.length+(if z then 1 else 0)+b.length+3:=by
  unfold ZJ;cases z<;>simp<;>omega
 rw[v]at c|-
 unfold ZJ at hs;obtain⟨w,y⟩:=hs.U7;obtain⟨j,k⟩:=y.U7;have i:(if z then[(((6,0):Q2),h+1)]else[]).length=(if z then 1 else 0):=by cases z<;>rfl
 rw[i]at k;obtain⟨m,A⟩:=k.cons;obtain⟨p,B⟩:=A.U7;obtain⟨q,D⟩:=B.cons;obtain⟨r,-⟩:=D.cons;have s:W3 C (n+a.length+(if z then 1 else 0)) (h+1):=⟨_,m⟩;have E:W3 C (n+a.length+(if z then 1 else 0)+1+b.length) (h+1):=⟨_,q⟩;have F:W3 C (n+a.length+(if z then 1 else 0)+1) h:=W3.JZ p g;have G:W3 C (n+a.length+(if z then 1 else 0)+b.length+2) h:=⟨_,by rw[show n+a.length+(if z then 1 else 0)+b.length+2=n+a.length+(if z then 1 else 0)+1+b.length+1 by omega];exact r⟩;have H:Y4 ps nv C n (n+a.length):=t w (by
  cases z with
  |false=>simpa using s
  |true=>exact⟨_,j.cons.1⟩)
 have I:Y4 ps nv C (n+a.length) (n+a.length+(if z then 1 else 0)):=by
  cases z with
  |false=>exact .none
  |true=>exact jx j.cons.1 (by simpa using s) ⟨by decide,by decide,λ_=>⟨by decide,by simp[U6]⟩,by simp⟩ (by simp[I6]) (by simp[I6,J9]) f (by simp[K2])
 have J:=JL (ps:=ps) (nv:=nv) m F G (by omega);have K:=u p E;have L:=Yw (ps:=ps) (nv:=nv) (h:=h+1) (tg:=n+a.length+(if z then 1 else 0)+b.length+3) q (by rw[show n+a.length+(if z then 1 else 0)+b.length+3=n+(a.length+(if z then 1 else 0)+b.length+3) by omega];exact c) f
 have M:Y4 ps nv C (n+a.length+(if z then 1 else 0)+1+b.length+1) (n+a.length+(if z then 1 else 0)+1+b.length+1+1):=
  jx r (by rw[show n+a.length+(if z then 1 else 0)+1+b.length+1+1=n+(a.length+(if z then 1 else 0)+b.length+3) by omega];exact c) ⟨by simp,by simp,λe=>G5 rfl e,by simp⟩ (by simp[I6]) (by simp[I6,J9]) f (by simp[K2])
 have:=(((((H.qu I).qu J).qu K).qu L).qu M)
 rwa [show n+a.length+(if z then 1 else 0)+1+b.length+1+1=n+(a.length+(if z then 1 else 0)+b.length+3) by omega]at this
def zf(env:T9)(vs:N1)(m:Nat):Prop:=vs.map Prod.fst=env.reverse/\ ∀q∈vs,0<=q.2/\q.2<m
theorem zf.zhV{m:Nat}(a:zf env vs m){s:ByteArray}(hs:s∈env):0<=zR vs s/\zR vs s<m:=by
 have c:s∈vs.map Prod.fst:=by rw[a.1,List.mem_reverse];exact hs
 obtain⟨q,f,e⟩:=List.mem_map.1 c;unfold zR;cases b:vs.find? (λq=>decide (q.1=s))with
 |none=>have:=List.find?_eq_none.1 b q f;simp[e]at this
 |some g=>exact a.2 _ (List.mem_of_find?_eq_some b)
theorem zag{t:ByteArray}{f:Fn}(c:(us.map Fn.K3).Nodup)(hf:f∈us)(b:f.K3=t):us[ql us t]?=some f:=by
 have a:us.findIdx (λf=>decide (f.K3=t))<us.length:=List.findIdx_lt_length_of_exists ⟨f,hf,decide_eq_true b⟩;have e:=List.findIdx_getElem (w:=a);unfold ql;rw[x8 a];exact G4 some (zhx c (List.getElem_mem a) hf ((of_decide_eq_true e).trans b.symm))
theorem zfM(V: ∀s∈env,0<=zR vs s/\zR vs s<nv)(y:ps=us.map (λf=>f.I4.length))(W:(us.map Fn.K3).Nodup)(hx:Xw us env d τ x): ∀(n h:Nat),
 qe C n (N0 us vs n h x)->W3 C (n+(N0 us vs n h x).length) (h+1)->h+5*d<=256->Y4 ps nv C n (n+(N0 us vs n h x).length):=by
 induction hx with
 | @mk d k nn t j p σ τ S _ T z=>
 intro n h i g hm;rw[N0]at i g|-
 have q: ∀{o:Q2},j=[]->qq ps.length nv C.length o->I6 ps o=0->J9 o=1->(∀k,K2 k o=[k+1])->qe C n (P6 us vs n h j++jp (h+0) [o])->W3 C (n+(P6 us vs n h j++jp (h+0) [o]).length) (h+1)->Y4 ps nv C n (n+(P6 us vs n h j++jp (h+0) [o]).length):=by
  rintro o rfl A X H K i g;exact jx i.cons.1 g A (by omega) (by omega) (by omega) (K _)
 have M: ∀{o:Q2},j.length=1->qq ps.length nv C.length o->I6 ps o=1->J9 o=1->(∀k,K2 k o=[k+1])->qe C n (P6 us vs n h j++jp (h+1) [o])->W3 C (n+(P6 us vs n h j++jp (h+1) [o]).length) (h+1)->Y4 ps nv C n (n+(P6 us vs n h j++jp (h+1) [o]).length):=by
  intro o v A X H K i g
  match j,v with
  |[a],_=>
  simp only[P6,List.append_nil]at i g|-
  obtain⟨w,l⟩:=i.U7;rw[y7,<-Nat.add_assoc]at g|-
  exact(z a (by simp) n h w ⟨_,l.cons.1⟩ (by omega)).qu (jx l.cons.1 g A (by omega) (by omega) (by omega) (K _))
 have args: ∀{L:R2}{o:Q2}{r:R2},j.length=2->L=(o,h+2)::r->qe C n (P6 us vs n h j++L)->Y4 ps nv C n (n+(P6 us vs n h j).length)/\qe C (n+(P6 us vs n h j).length) L:=by
  intro L o r v Y i
  match j,v with
  |[a,b],_=>
  simp only[P6,List.append_nil]at i|-
  obtain⟨w,l⟩:=i.U7;obtain⟨N,I⟩:=w.U7;rw[y7,<-Nat.add_assoc]at l|-
  have Z:W3 C (n+(N0 us vs n h a).length) (h+1):=W3.JZ I (jW (T b (by simp)) _ _);have A2:W3 C (n+(N0 us vs n h a).length+(N0 us vs (n+(N0 us vs n h a).length) (h+1) b).length) (h+1+1):=⟨o,by rw[Y]at l;exact l.cons.1⟩;exact⟨(z a (by simp) n h N Z (by omega)).qu (z b (by simp) _ _ I A2 (by omega)),l⟩
 have Qg:3<=lv t.data.toList->j.length=2->qe C n (P6 us vs n h j++jp (h+2) (yM t.data.toList))->W3 C (n+(P6 us vs n h j++jp (h+2) (yM t.data.toList)).length) (h+1)->Y4 ps nv C n (n+(P6 us vs n h j++jp (h+2) (yM t.data.toList)).length):=by
  intro O v i g;obtain⟨d,⟨d1,d2⟩,J⟩:=zaY O;have m:I6 ps (d,0)=2:=by simp only[I6];rw[z7 (by omega),z7 (by omega),z7 (by omega),z7 (by omega)]
  have B:J9 (d,0)=1:=by simp only[J9];rw[z7 (by omega)]
  have D: ∀k,K2 k (d,0)=[k+1]:=λk=>by simp only[K2];rw[z7 (by omega),z7 (by omega),z7 (by omega)]
  have E:qq ps.length nv C.length (d,0):=⟨by simp;omega,by simp;omega,λ_=>⟨by simp,by simp only[U6];rw[z7 (by omega),z7 (by omega),z7 (by omega),z7 (by omega),z7 (by omega)];decide⟩,λe=>by simp at e;omega⟩
  rcases J with J|J
  all_goals
   rw[J]at i g|-
   obtain⟨P,l⟩:=args v rfl i;rw[y7,<-Nat.add_assoc]at g|-
   refine P.qu ?_
  ·exact jx l.cons.1 g E (by rw[m];omega) (by rw[m,B];omega) (by omega) (D _)
  ·obtain⟨N,I⟩:=l.cons
   have U:=I.cons.1;have q2:Y4 ps nv C (n+(P6 us vs n h j).length+1) (n+(P6 us vs n h j).length+1+1):=jx U (by simpa[jp]using g) ⟨by simp,by simp,λ_=>⟨by simp,by simp[U6]⟩,by simp⟩ (by simp[I6]) (by simp[I6,J9]) (by omega) (by simp[K2]);exact(jx N ⟨_,U⟩ E (by rw[m];omega) (by rw[m,B];omega) (by omega) (D _)).qu q2
 generalize u:j.length=c at S i g|-
 cases S with
 |YO h1 F=>rw[z7 (by simp)]at i g|-;exact q (G6 u) ⟨by simp,by simp,λe=>G5 rfl e,by simp⟩ (by simp[I6]) (by simp[J9]) (by simp[K2]) i g
 |no=>rw[z7 (by simp)]at i g|-;exact q (G6 u) ⟨by simp,by simp,λe=>G5 rfl e,by simp⟩ (by simp[I6]) (by simp[J9]) (by simp[K2]) i g
 |yes=>rw[z7 (by simp)]at i g|-;exact q (G6 u) ⟨by simp,by simp,λe=>G5 rfl e,by simp⟩ (by simp[I6]) (by simp[J9]) (by simp[K2]) i g
 |yE _ F=>
  rw[z7 (by simp)]at i g|-
  have H:=V t F;exact q (G6 u) ⟨by simp,by simp,λ_=>⟨H.1,by simpa[U6]using H.2⟩,by simp⟩ (by simp[I6]) (by simp[J9]) (by simp[K2]) i g
 |neg=>rw[z7 (by simp)]at i g|-;exact M u ⟨by simp,by simp,λ_=>⟨by simp,by simp[U6]⟩,by simp⟩ (by simp[I6]) (by simp[J9]) (by simp[K2]) i g
 |not=>rw[z7 (by simp)]at i g|-;exact M u ⟨by simp,by simp,λ_=>⟨by simp,by simp[U6]⟩,by simp⟩ (by simp[I6]) (by simp[J9]) (by simp[K2]) i g
 |host h1 F=>rw[z7 (by simp)]at i g|-;exact M (o:=(20,nn*8+(1:Nat))) u ⟨by simp,by simp,λ_=>⟨by simp<;>omega,by simp[U6]<;>omega⟩,by simp<;>omega⟩ (by simp[I6]<;>omega) (by simp[J9]) (by simp[K2]) i g
 |log v=>
  have Q:lv t.data.toList<=2:=by rcases v with rfl|rfl<;>decide
  rw[C5 ⟨rfl,Q⟩]at i g|-
  match j,u with
  |[a,b],_=>
  simp only[hdC,sdC]at i g|-
  exact zdy (left:=0) i g (by omega) (λw l=>z a (by simp) n h w l (by omega)) (λw l=>z b (by simp) _ h w l (by omega)) (jW (T b (by simp)) _ h)
 |XU v=>rw[z7 (by omega)]at i g|-;exact Qg (by omega) u i g
 |Qg v=>rw[z7 (by omega)]at i g|-;exact Qg (by omega) u i g
 | @call _ _ f _ A ht F=>
   rw[z7 (by simp)]at i g|-
   have G:=zag W A ht;have R:=(List.getElem?_eq_some_iff.1 G).1;have m:I6 ps (17,(ql us t:Int))=2:=by
    simp only[I6];simp[y,List.getD_eq_getElem?_getD,G];exact F
   obtain⟨P,l⟩:=args u rfl (show qe C n (P6 us vs n h j++jp (h+2) [(17,(ql us t:Int))]) from i);rw[y7,<-Nat.add_assoc]at g|-
   exact P.qu (jx l.cons.1 g ⟨by simp,by simp,λ_=>⟨by simp,by simp[U6,y];exact R⟩,by simp⟩ (by rw[m];omega) (by rw[m];simp[J9]) (by omega) (by simp[K2]))
end
end Go.Proofs.YtalgmjmibamdfaaGreatDoor
