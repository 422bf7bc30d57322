/- Merged. -/
import Derived.Test.YtmngofgminlloaaGreatDoorCT25
import Derived.Test.YtmngofgminlloaaGreatDoorCT15
set_option linter.all false
set_option maxHeartbeats 16000000
set_option maxRecDepth 100000
namespace Go.Proofs.YtmngofgminlloaaGreatDoor
open Go.Proofs.Tryz
open Go.RowKit Tw
section
open Go.Maps
theorem zci(us env x): ∀l ws,L4 us env (l++[x]) ws=match L4 us env l ws with
 |.ok _=>(match O2 us env x with|.ok t=>if t=(ws.drop l.length).headD 1 then .ok ()else .J9 x.pos 8|.J9 q e=>.J9 q e)
 |.J9 q e=>.J9 q e:=by
 intro l
 induction l with
 |nil=>
  intro ws;simp only[C0,L4,B1,List.drop_zero]
  all_goals(cases O2 us env x<;>rfl)
 |cons a l c=>
  intro ws;simp only[B6,L4];cases O2 us env a with
  |J9 q e=>rfl
  |ok t=>
   simp only
   by_cases h:t=ws.headD 1
   ·rw[C8 h,C8 h,c,List.drop_tail]
    simp
   ·rw[B5 h,B5 h]
theorem yF{us:List Fn}{env:P1}{xs:List Ex}{ws:List Int}{i:Nat}{x:Ex}{t:Int}{Fl:Y6}(a:xs[i]?=some x)(f:Fl.on (L4 us env (xs.take i) ws)=none-> ∀c,O2 us env x=.ok c->t=c):
 Fl.on (L4 us env (xs.take (i+1)) ws)=if t=(ws.drop i).headD 1 then(Fl.on (L4 us env (xs.take i) ws)).on (O2 us env x)else((Fl.on (L4 us env (xs.take i) ws)).on (O2 us env x)).or x.pos 8:=by
 have g:i<xs.length:=by rcases E0 i xs.length with h|h;exact h;rw[C5 h]at a;cases a
 have e:xs.take (i+1)=xs.take i++[x]:=by
  rw[List.take_succ_eq_append_getElem g];have:xs[i]=x:=by rw[x9 g]at a;exact F6 a
  rw[this]
 rw[e,zci,I2,Nat.min_eq_left (by omega)];cases Fl with
 |some q=>
  cases L4 us env (xs.take i) ws<;>cases O2 us env x<;>simp[Y6.on,Y6.or]
 |none=>
  cases k:L4 us env (xs.take i) ws with
  |J9 q e=>cases O2 us env x<;>simp[Y6.on,Y6.or]
  |ok u=>
   rw[k]at f;cases d:O2 us env x with
   |J9 q e=>simp[Y6.on,Y6.or]
   |ok c=>
    have:=f rfl c d;subst this
    by_cases j:t=(ws.drop i).headD 1
    ·simp only[C8 j];rfl
    ·simp only[B5 j];rfl
theorem Y6.XC{α:Type}(F:Y6)(a:α):F.on (.ok a)=F:=by cases F<;>rfl
theorem Y6.zel(F:Y6){α}(p e:Int):F.on (.J9 p e:X1 α)=F.or p e:=by cases F<;>rfl
structure Zk(w0 w:World)(cb b:Nat)(Au:Option Addr)(cu:Nat)(us:List Fn)(out:Int)(L0:Nat)(Fl:Y6)(env:P1)(F:Nat->Prop):Prop where
 Zh:ZN w cb (.slice Au us.length cu) out L0 Fl
 yd:Z6 w b env
 xL:U2 w F (.slice Au us.length cu) us
 gr:w0.grownBy w (some cb)
 gl:O4 w
 bc:b≠cb
 fc: ∀g,F g->g≠cb
section
variable {w0 w w':World}{cb b:Nat}{Au:Option Addr}{cu:Nat}{us:List Fn}{out:Int}{L0:Nat}{Fl Fl':Y6}{env:P1}{F:Nat->Prop}
theorem Zk.L9(h:Zk w0 w cb b Au cu us out L0 Fl env F)(hs:ZN w' cb (.slice Au us.length cu) out L0 Fl')(a:w.grownBy w' (some cb)):Zk w0 w' cb b Au cu us out L0 Fl' env F:=
 ⟨hs,h.yd.kept a (by have:=h.bc;simpa using λe=>this e.symm),h.xL.K7 (λg c d=>⟨c,A7 d a.size,a.block g d (by have:=h.fc g c;simpa using this)⟩),I4 h.gr a,h.gl.of a h.Zh.xM,h.bc,h.fc⟩
theorem Zk.below(h:Zk w0 w cb b Au cu us out L0 Fl env F)(a:Below w.heap.size w w'):Zk w0 w' cb b Au cu us out L0 Fl env F:=
 h.L9 (h.Zh.kept (a.block cb h.Zh.lt)) (I7 a _)
theorem Zk.Z8(h:Zk w0 w cb b Au cu us out L0 Fl env F):Zk w w cb b Au cu us out L0 Fl env F:={h with gr:=I7 (x8 _ _) _}
theorem Zk.args{v l}(h:Zk w0 w cb b Au cu us out L0 Fl env F)(a:w.grownBy w' (some cb))(e:J7 w F v l):J7 w' F v l:=
 e.K7 (λg c d=>⟨c,A7 d a.size,a.block g d (by have:=h.fc g c;simpa using this)⟩)
end
def zhG(w:World)(cb:Nat)(U:Value)(out:Int)(L0:Nat)(Fl:Y6)(r:X1 Int)(e:Ending)(w':World):Prop:=
 ∃t:Int,e=.returned (.int .i64 t)/\(Fl=none-> ∀a,r=.ok a->t=a)/\ZN w' cb U out L0 (Fl.on r)/\w.grownBy w' (some cb)
def zdi(us:List Fn):Prop:= ∀(i j:Nat)(f g:Fn),us[i]?=some f->us[j]?=some g->f.J2=g.J2->i=j
def znG(left:Nat):Prop:=
 ∀(x:Ex)(A:Option Addr)(c:Nat)(F:Nat->Prop)(w0 w:World)(cb b:Nat)(Au:Option Addr)(cu:Nat)(us:List Fn)(out:Int)(L0:Nat)(Fl:Y6)(env:P1),zK x left=0->xN x->(∀f∈us,FnZ f)->us.length<=281474976710656->zdi us->
  Zk w0 w cb b Au cu us out L0 Fl env F->J7 w F (.slice A x.args.length c) x.args->
  Calls prog 118 #[.pointer (some ⟨cb,0,none⟩),.agg #[.int .i64 x.I9,.int .i64 x.n,.string x.K0,.slice A x.args.length c,.int .i64 x.pos],.map (some b)] w (zhG w cb (.slice Au us.length cu) out L0 Fl (O2 us env x))
end
section
open Go.Maps
def zmi(n:Int)(t:ByteArray)(xs:List Ex)(p:Int)(A:Option Addr)(c:Nat)(F:Nat->Prop)(w0 w)(d b:Nat)(e)(f:Nat)(us)(out:Int)(a:Nat)(g env)(h:Zk w0 w d b e f us out a g env F):
 Calls prog 118 #[.pointer (some ⟨d,0,none⟩),.agg #[.int .i64 1,.int .i64 n,.string t,.slice A xs.length c,.int .i64 p],.map (some b)] w (zhG w d (.slice e us.length f) out a g (O2 us env (.mk 1 n t xs p))):=by
 have k:=qh h;clear h
 go_enter func118,ntmps118
 go_wp2_with fail
 go_ret;have i:=(x8 w.heap.size w).alloc (x7 _) (.cells #[.int .i64 1,.int .i64 n,.string t,.slice A xs.length c,.int .i64 p] 186);refine⟨1,rfl,λ_ l j=>?_,?_,I7 i _⟩
 ·simp[O2]at j;exact j
 ·simp only[O2]
  first|rw[C8 rfl,Y6.XC]|rw[B5 (by decide),C8 rfl,Y6.XC]|(simp[Y6.XC])
  exact(k.out.below i).Zh
def zmy(n:Int)(t:ByteArray)(xs:List Ex)(p:Int)(A:Option Addr)(c:Nat)(F:Nat->Prop)(w0 w)(d b:Nat)(e)(f:Nat)(us)(out:Int)(a:Nat)(g env)(h:Zk w0 w d b e f us out a g env F):
 Calls prog 118 #[.pointer (some ⟨d,0,none⟩),.agg #[.int .i64 2,.int .i64 n,.string t,.slice A xs.length c,.int .i64 p],.map (some b)] w (zhG w d (.slice e us.length f) out a g (O2 us env (.mk 2 n t xs p))):=by
 have k:=qh h;clear h
 go_enter func118,ntmps118
 go_wp2_with fail
 go_ret;have i:=(x8 w.heap.size w).alloc (x7 _) (.cells #[.int .i64 2,.int .i64 n,.string t,.slice A xs.length c,.int .i64 p] 186);refine⟨2,rfl,λ_ l j=>?_,?_,I7 i _⟩
 ·simp[O2]at j;exact j
 ·simp only[O2]
  first|rw[C8 rfl,Y6.XC]|rw[B5 (by decide),C8 rfl,Y6.XC]|(simp[Y6.XC])
  exact(k.out.below i).Zh
def zmA(n:Int)(t:ByteArray)(xs:List Ex)(p:Int)(A:Option Addr)(c:Nat)(F:Nat->Prop)(w0 w)(g b:Nat)(y)(z:Nat)(us)(out:Int)(a:Nat)(B env)(C:t.size<=maxLen)(h:Zk w0 w g b y z us out a B env F):
 Calls prog 118 #[.pointer (some ⟨g,0,none⟩),.agg #[.int .i64 3,.int .i64 n,.string t,.slice A xs.length c,.int .i64 p],.map (some b)] w (zhG w g (.slice y us.length z) out a B (O2 us env (.mk 3 n t xs p))):=by
 have q:=(x8 w.heap.size w).alloc (x7 _) (.cells #[.int .i64 3,.int .i64 n,.string t,.slice A xs.length c,.int .i64 p] 186);have l:=qh (h.Z8.below q);have d:=l.out.yd.ZP t C;have m:=A5 w (.cells #[.int .i64 3,.int .i64 n,.string t,.slice A xs.length c,.int .i64 p] 186);have H:=qh m;have D:=qh q;have r:=I5 m;obtain⟨⟨I,J,K,L,M⟩,-⟩:=K6 m;have i:g≠w.heap.size:=by have:=h.Zh.lt;omega
 have N:=qh i;clear h q m i;have E:O2 us env (.mk 3 n t xs p)=if L5 env t=0 then .J9 p 16 else .ok (L5 env t):=by
  rw[O2,B5 (by decide),B5 (by decide),C8 rfl]
 rw[E];clear E
 by_cases f:L5 env t=0
 ·rw[C8 f]
  rw[f]at d;clear f
  go_enter func118,ntmps118
  go_wp2_with fail
  refine(Zc p 16 (by decide) l.out.Zh).mono ?_;rintro R O ⟨rfl,s,o⟩;have u:=qh (l.out.L9 s o);have G:=u.out.yd.ZP t C;have j:O.heap[w.heap.size]?=_:=(o.block _ r (by have:=N.out;simpa using λe=>this e.symm)).trans H.out;obtain⟨⟨S,T,U,V,W⟩,-⟩:=K6 j;have P:=qh (I4 (I7 D.out (some g)) o);have v:=qh s;clear s o j d I J K L M
  go_wp2_with fail
  go_ret;exact⟨_,rfl,(λ_ Q x=>by cases x),by rw[Y6.zel];exact v.out,P.out⟩
 ·rw[B5 f]
  obtain⟨tt,k⟩: ∃tt,L5 env t=tt:=⟨_,rfl⟩;rw[k]at f d|-;have X:(tt==0)=false:=beq_eq_false_iff_ne.2 f;clear k f
  go_enter func118,ntmps118
  go_wp2_with fail
  go_ret;exact⟨tt,rfl,(λ_ Q x=>by injection x),by rw[Y6.XC];exact l.out.Zh,I7 D.out _⟩
end
section
open Go.Maps
theorem zgF: ∀l(left:Nat),zx l left=0-> ∀a∈l,zK a left=0:=by
 intro l
 induction l with
 |nil=>intro left _ a c;cases c
 |cons b l e=>
  intro left h a c;rw[zx]at h
  split at h
  ·rename_i d
   rcases List.mem_cons.1 c with rfl|c
   ·exact d
   ·exact e left h a c
  ·rename_i d;exact H9 h d
theorem Yz{k n:Int}{t:ByteArray}{xs}{p:Int}{left:Nat}(h:zK (.mk k n t xs p) left=0):1<=left/\zJ k n t xs.length=true/\ ∀a∈xs,zK a (left-1)=0:=by
 rw[zK]at h;unfold yo at h
 by_cases d:left=0
 ·rw[C8 d]at h;cases h
 rw[B5 d]at h
 by_cases c:zJ k n t xs.length=false
 ·rw[C8 c]at h;cases h
 rw[B5 c]at h
 split at h
 ·rename_i e b;split at b
  ·injection b with b;omega
  ·cases b
 ·exact⟨by omega,by simpa using c,zgF _ _ h⟩
theorem Zk.zdp{w0 w c}{d b:Nat}{j}{k:Nat}{us}{out:Int}{a:Nat}{m env}{F:Nat->Prop}{v l}(h:Zk w0 w d b j k us out a m env F)(e:c.grownBy w (some d))(o:J7 c F v l):J7 w F v l:=
 o.K7 (λg f i=>⟨f,A7 i e.size,e.block g i (by have:=h.fc g f;simpa using this)⟩)
theorem JS(t:ByteArray)(l):(t.toList==l)=decide (t=⟨l.toArray⟩):=by
 rw[C7,F7];simp only[beq_iff_eq,F1];constructor
 ·intro h;cases t with|mk d=>congr 1;exact Array.toList_inj.1 h
 ·intro h;rw[h]
theorem ziY{us env xs a}(h:xs[0]?=some a):Qw us env xs=O2 us env a:=by
 cases xs with
 |nil=>cases h
 |cons b l=>injection h with h;subst h;rfl
theorem zjn{us}{t:ByteArray}{j:Nat}{f}(b:zdi us)(a:us[j]?=some f)(c:f.J2=t):S3 us t=some f:=by
 unfold S3;cases h:us.find? (λf=>decide (f.J2=t))with
 |none=>
  have:=List.find?_eq_none.1 h f (B7 a);simp[c]at this
 |some g=>
  have d:=List.find?_some h;simp at d;obtain⟨i,e⟩:=List.mem_iff_getElem?.1 (List.mem_of_find?_eq_some h);have:i=j:=b i j g f e a (d.trans c.symm);subst this;rw[e]at a;exact a
theorem zk9(w:World)(f:Nat)(a b:Int)(d:w.heap.size≠f):zn (w.alloc (.cells #[.int .i64 a,.int .i64 b] 3)) (λg=>g≠f) (.slice (some ⟨w.heap.size,0,none⟩) 2 2) [a,b]:=by
 have e:=A5 w (.cells #[.int .i64 a,.int .i64 b] 3);refine .inr ⟨w.heap.size,0,2,rfl,d,I5 e,λq s c=>?_⟩;have h:q<2:=(List.getElem?_eq_some_iff.1 c).1;have d:q=0\/q=1:=by omega
 rcases d with rfl|rfl
 ·injection c with c;subst c;exact x6 e 0
 ·injection c with c;subst c;exact x6 e 1
def X1.to{α β:Type}(r:X1 α)(b:β):X1 β:=match r with|.ok _=>.ok b|.J9 q e=>.J9 q e
theorem Y6.Zb{α β:Type}(F:Y6)(r:X1 α)(b:β):F.on (r.to b)=F.on r:=by cases F<;>cases r<;>rfl
theorem zmJ{b:Y6}{r:X1 Int}{a:Int}(W:Int->X1 Unit)(d:b=none-> ∀c,r=.ok c->a=c):b.on (match r with|.ok t=>(W t).to (2:Int)|.J9 q e=>.J9 q e)=(b.on r).on (W a):=by
 cases b with
 |some q=>cases r<;>cases W a<;>simp[Y6.on]
 |none=>
  cases r with
  |J9 q e=>cases W a<;>simp[Y6.on]
  |ok t=>
   have:=d rfl t rfl;subst this;simp only[Y6.on];cases W a<;>rfl
theorem zlM{r:X1 Int}{W:Int->X1 Unit}{t':Int}(h:(match r with|.ok t=>(W t).to (2:Int)|.J9 q e=>.J9 q e)=.ok t'):2=t':=by
 cases r with
 |J9 q e=>cases h
 |ok t=>simp only at h;revert h;cases W t<;>intro h<;>cases h;rfl
theorem QD{α β:Type}{r:X1 α}{b t:β}(h:r.to b=.ok t):b=t:=by cases r<;>cases h;rfl
section
variable {us:List Fn}{env:P1}{n:Int}{t:ByteArray}{xs:List Ex}{p:Int}
theorem zn3:O2 us env (.mk 4 n t xs p)=(L4 us env xs []).to 1:=by rw[O2];simp only[X1.to];cases L4 us env xs []<;>simp
theorem zn0:O2 us env (.mk 5 n t xs p)=(L4 us env xs [2]).to 2:=by rw[O2];simp only[X1.to];cases L4 us env xs [2]<;>simp
theorem zoj:O2 us env (.mk 8 n t xs p)=(L4 us env xs []).to 1:=by rw[O2];simp only[X1.to];cases L4 us env xs []<;>simp
theorem zmN(h:S3 us t=none):O2 us env (.mk 7 n t xs p)=.J9 p 16:=by rw[O2,h];simp
theorem zmn{f:Fn}(h:S3 us t=some f)(a:f.K4.length≠xs.length):O2 us env (.mk 7 n t xs p)=.J9 p 8:=by rw[O2,h];simp[a]
theorem znw{f:Fn}(h:S3 us t=some f)(a:f.K4.length=xs.length):O2 us env (.mk 7 n t xs p)=(L4 us env xs f.K4).to f.out:=by rw[O2,h];simp only[X1.to,a];cases L4 us env xs f.K4<;>simp
theorem zmm(h:lv t.data.toList<=2):O2 us env (.mk 6 n t xs p)=(L4 us env xs [2,2]).to 2:=by rw[O2];simp only[X1.to];cases L4 us env xs [2,2]<;>simp[h]
theorem zlW(h: ¬lv t.data.toList<=2)(b:t=⟨#[61,61]⟩\/t=⟨#[33,61]⟩):O2 us env (.mk 6 n t xs p)=match Qw us env xs with|.ok a=>(L4 us env xs [a,a]).to 2|.J9 q e=>.J9 q e:=by
 rw[O2];simp only[X1.to];rw[B5 (by decide),B5 (by decide),B5 (by decide),B5 (by decide),B5 (by decide),B5 (λe=>h e.2),C8 (⟨trivial,b⟩:True/\_)];cases Qw us env xs with
 |ok a=>simp only;cases L4 us env xs [a,a]<;>rfl
 |J9 q e=>rfl
theorem zhL(h: ¬lv t.data.toList<=2)(a: ¬(t=⟨#[61,61]⟩\/t=⟨#[33,61]⟩)):O2 us env (.mk 6 n t xs p)=(L4 us env xs []).to (if lv t.data.toList=3 then 2 else 1):=by
 rw[O2];simp only[X1.to];rw[B5 (by decide),B5 (by decide),B5 (by decide),B5 (by decide),B5 (by decide),B5 (λe=>h e.2),B5 (λe=>a e.2)];cases L4 us env xs []<;>simp
end
theorem zhB{ws:List Int}{j:Nat}{s:Int}(h:ws[j]?=some s):(ws.drop j).headD 1=s:=by
 rw[List.headD_eq_head?_getD,List.head?_drop,h];rfl
theorem zgg{ws:List Int}{j:Nat}(h:ws.length<=j):(ws.drop j).headD 1=1:=by
 rw[List.drop_of_length_le h];rfl
theorem N9{w w':World}{d g o:Nat}{v}(e:w.grownBy w' (some d))(b:g<w.heap.size)(c:g≠d)(f:w.cell? ⟨g,o,none⟩=some v):w'.cell? ⟨g,o,none⟩=some v:=
 (E8 (a:=⟨g,o,none⟩) (e.block g b (by simpa using c))).trans f
theorem zmk(left:Nat)(h1:1<=left)(ih:znG (left-1))(k:Int)(hk:k=4\/k=5\/k=6\/k=7\/k=8)(n:Int)(t:ByteArray)(xs:List Ex)(p:Int)(A:Option Addr)(c:Nat)(F:Nat->Prop)(w0 w:World)(l b:Nat)(Au:Option Addr)(cu:Nat)(us:List Fn)(out:Int)(d:Nat)(Fl:Y6)(env:P1)(f4:zK (.mk k n t xs p) left=0)(hZ:xN (.mk k n t xs p))(f5: ∀f∈us,FnZ f)(f6:us.length<=281474976710656)(f7:zdi us)(h:Zk w0 w l b Au cu us out d Fl env F)(hA:J7 w F (.slice A xs.length c) xs):
 Calls prog 118 #[.pointer (some ⟨l,0,none⟩),.agg #[.int .i64 k,.int .i64 n,.string t,.slice A xs.length c,.int .i64 p],.map (some b)] w (zhG w l (.slice Au us.length cu) out d Fl (O2 us env (.mk k n t xs p))):=by
 have hb:=(x8 w.heap.size w).alloc (x7 _) (.cells #[.int .i64 k,.int .i64 n,.string t,.slice A xs.length c,.int .i64 p] 186);have HF:=qh (h.Z8.below hb);have HA:=qh (h.args (I7 hb (some l)) hA);have hx:=A5 w (.cells #[.int .i64 k,.int .i64 n,.string t,.slice A xs.length c,.int .i64 p] 186);have HX:=qh hx;have HB:=qh hb;have d6:=I5 hx;obtain⟨⟨V,X,Y,Z,z4⟩,-⟩:=K6 hx;have f8:l≠w.heap.size:=by have:=h.Zh.lt;omega
 have HC:=qh f8;have IH:=qh ih;have HZ:=qh hZ;have d7:=qh f5;have b5:=qh f7;have c4:=qh f6;obtain⟨-,f9,b6⟩:=Yz f4;have d8:=qh b6;have i0:=qh f9;have k5:t.size<=maxLen:=hZ.args.1;have k6:xs.length<=281474976710656:=hZ.args.2.1;clear h hb hx f8 ih hZ f5 f6 f7 f4 f9 b6 hA;have m1:((k==1)=false):=beq_eq_false_iff_ne.2 (by omega);have m2:((k==2)=false):=beq_eq_false_iff_ne.2 (by omega);have m3:((k==3)=false):=beq_eq_false_iff_ne.2 (by omega);generalize g0:w.alloc (.cells #[.int .i64 k,.int .i64 n,.string t,.slice A xs.length c,.int .i64 p] 186)=w1 at HF HA HX HB d6 V X Y Z z4;have i1:=qh g0;clear g0
 go_enter func118,ntmps118
 go_upto_region 1 with(fail)
 rw[i1.out]
 go_upto_block 1 with(fail)
 go_cut[7,8] (λwv ov W=> ∃(O:List Int)(Aw:Option Addr)(cw:Nat)(oo:Int)(M:Y6),wv=.slice Aw O.length cw/\ov=.int .i64 oo/\Hid (Zk w W l b Au cu us out d M env F)/\Hid (W.heap[w.heap.size]?=some (.cells #[.int .i64 k,.int .i64 n,.string t,.slice A xs.length c,.int .i64 p] 186 (0,0)))/\
  Hid (zn W (λg=>g≠l) (.slice Aw O.length cw) O)/\Hid (w1.grownBy W (some l))/\Hid (Fl.on (O2 us env (.mk k n t xs p))=M.on (L4 us env xs O))/\Hid (Fl=none-> ∀t',O2 us env (.mk k n t xs p)=.ok t'->oo=t'))
 case first=>
  rcases hk with rfl|rfl|rfl|rfl|rfl
  ·go_wp2_with fail
   go_meet
   case rel=>
    rw[zn3];exact⟨[],none,0,1,Fl,rfl,rfl,HF,HX,qh (.inl ⟨none,0,rfl,rfl⟩),qh (I7 (x8 _ _) _),qh (Y6.Zb _ _ _),qh (λ_ t' H=>QD H)⟩
  ·go_wp2_with fail
   have I:=(x8 w1.heap.size w1).alloc (x7 _) (.cells #[.int .i64 2] 3);have J:=qh (HF.out.below I);have P:=qh ((I.block _ d6).trans HX.out);have a6:=qh (I7 I (some l));have d9:=A5 w1 (.cells #[.int .i64 2] 3);have e0:Hid (zn (w1.alloc (.cells #[.int .i64 2] 3)) (λg=>g≠l) (.slice (some ⟨w1.heap.size,0,none⟩) 1 1) [2]):=qh (.inr ⟨w1.heap.size,0,1,rfl,by have:=HF.out.Zh.lt;omega,I5 d9,λq s hs=>by
    have:q=0:=by have:=(List.getElem?_eq_some_iff.1 hs).1;simp at this;omega
    subst this;injection hs with hs;subst hs
    exact x6 d9 0⟩)
   clear I d9
   go_meet
   case rel=>
    rw[zn0];exact⟨[2],_,1,2,Fl,rfl,rfl,J,P,e0,a6,qh (Y6.Zb _ _ _),qh (λ_ t' H=>QD H)⟩
  ·obtain⟨m,hm⟩: ∃m,lv t.data.toList=m:=⟨_,rfl⟩
   have HM:=qh hm;have BC:Hid (∀W:World,O4 W->Calls prog 161 #[.string t] W λe w'=>e=.returned (.int .i64 m)/\Below W.heap.size W w'):=qh (λW hW=>by rw[<-hm];exact zdI t W hW);clear hm
   go_wp2_with fail
   refine(BC.out w1 HF.out.gl).mono ?_;rintro e w2 ⟨rfl,I⟩;have J:=qh (HF.out.below I);have P:=qh ((I.block _ d6).trans HX.out);have a6:=qh (I7 I (some l));have Xr:=I5 P.out;clear V X Y Z z4 I;obtain⟨⟨V,X,Y,Z,z4⟩,-⟩:=K6 P.out
   by_cases c5:m<=2
   ·have g1:(m:Int)<=2:=by omega
    go_wp2_with fail
    have K:=(x8 w2.heap.size w2).alloc (x7 _) (.cells #[.int .i64 2,.int .i64 2] 3);have Q:=qh (J.out.below K);have N:=qh ((K.block _ Xr).trans P.out);have z:=qh (I4 a6.out (I7 K (some l)));have i2:=qh (zk9 w2 l 2 2 (by have:=J.out.Zh.lt;omega));clear K
    go_meet
    case rel=>
     rw[zmm (by rw[HM.out];exact c5)];exact⟨[2,2],_,2,2,Fl,rfl,rfl,Q,N,i2,z,qh (Y6.Zb _ _ _),qh (λ_ t' H=>QD H)⟩
   ·have g1:(2:Int)<(m:Int):=by omega
    by_cases he:t=⟨#[61,61]⟩\/t=⟨#[33,61]⟩
    ·have HE:=qh he
     have d5:xs.length=2:=by
      have:=i0.out;simp[ok6]at this;exact this.1
     obtain⟨a,e1⟩: ∃a,xs[0]?=some a:=⟨_,x9 (by omega)⟩;have k2:=qh d5;have k1:(0:Int)<(xs.length:Int):=by omega
     obtain⟨g,g3,A',c',rfl,g4,hg,b7,a0,a1,a2,a3,a4⟩:=(J.out.zdp a6.out HA.out).at 0 a e1;simp only[Nat.zero_mul,Nat.add_zero]at a0 a1 a2 a3 a4;have c6:=qh b7;have e2:=qh e1;clear e1 b7 d5;have R:((t.toList==[61,61])=true)\/((t.toList==[61,61])=false/\(t.toList==[33,61])=true):=by
      rcases he with rfl|rfl
      ·exact .inl (by rw[JS];exact decide_eq_true rfl)
      ·exact .inr ⟨by rw[JS];decide,by rw[JS];exact decide_eq_true rfl⟩
     clear he
     rcases R with f1|⟨f1,f2⟩
     all_goals
      go_wp2_with fail
      refine(IH.out a A' c' F _ w2 l b Au cu us out d Fl env (d8.out a (B7 e2.out)) (HZ.out.args.2.2 a (B7 e2.out)) d7.out c4.out b5.out J.out c6.out).mono ?_;rintro e w3 ⟨ta,rfl,hT,G,B⟩;have Q:=qh (J.out.L9 G B);have N:=qh ((B.block _ Xr (by have:=HC.out;simpa using λe=>this e.symm)).trans P.out);have z:=qh (I4 a6.out B);have HT:=qh hT;have hs3:=I5 N.out;clear hT G B a0 a1 a2 a3 a4 V X Y Z z4 f1;obtain⟨⟨V,X,Y,Z,z4⟩,-⟩:=K6 N.out
      go_wp2_with fail
      have c7:=(x8 w3.heap.size w3).alloc (x7 _) (.cells #[.int .i64 ta,.int .i64 ta] 3);have i3:=qh (Q.out.below c7);have i4:=qh ((c7.block _ hs3).trans N.out);have i5:=qh (I4 z.out (I7 c7 (some l)));have i6:=qh (zk9 w3 l ta ta (by have:=Q.out.Zh.lt;omega));clear c7
      go_meet
      case rel=>
       rw[zlW (by rw[HM.out];exact c5) HE.out,ziY e2.out];exact⟨[ta,ta],_,2,2,_,rfl,rfl,i3,i4,i6,i5,qh (zmJ (λu=>L4 us env xs [u,u]) HT.out),qh (λ_ t' H=>zlM H)⟩
    ·have HE:=qh he
     have f1:(t.toList==[61,61])=false:=by rw[JS];exact G1 (λe=>he (.inl e))
     have f2:(t.toList==[33,61])=false:=by rw[JS];exact G1 (λe=>he (.inr e))
     clear he
     go_wp2_with fail
     refine(BC.out w2 J.out.gl).mono ?_;rintro e w3 ⟨rfl,K⟩;have Q:=qh (J.out.below K);have N:=qh ((K.block _ Xr).trans P.out);have z:=qh (I4 a6.out (I7 K (some l)));clear K V X Y Z z4
     by_cases g5:m=3
     ·subst g5
      go_wp2_with fail
      go_meet
      case rel=>
       rw[zhL (by rw[HM.out];exact c5) HE.out,HM.out,C8 rfl];exact⟨[],none,0,2,Fl,rfl,rfl,Q,N,qh (.inl ⟨none,0,rfl,rfl⟩),z,qh (Y6.Zb _ _ _),qh (λ_ t' H=>QD H)⟩
     ·have k3:((m:Int)==3)=false:=beq_eq_false_iff_ne.2 (by omega)
      go_wp2_with fail
      go_meet
      case rel=>
       rw[zhL (by rw[HM.out];exact c5) HE.out,HM.out,B5 g5];exact⟨[],none,0,1,Fl,rfl,rfl,Q,N,qh (.inl ⟨none,0,rfl,rfl⟩),z,qh (Y6.Zb _ _ _),qh (λ_ t' H=>QD H)⟩
  ·obtain⟨d0,-,-,-,-⟩:=HF.out.Zh.cells
   go_wp2_with fail
   clear d0 V X Y Z z4
   go_loopw[7,8,9,53] (λwv ov fv iv wr=> ∃j:Nat,j<=us.length/\iv=.int .i64 j/\Hid (Zk w wr l b Au cu us out d Fl env F)/\Hid (wr.heap[w.heap.size]?=some (.cells #[.int .i64 7,.int .i64 n,.string t,.slice A xs.length c,.int .i64 p] 186 (0,0)))/\Hid (w1.grownBy wr (some l))/\
    ((fv=.bool false/\wv=.slice none 0 0/\ov=.int .i64 1/\Hid (∀i f,i<j->us[i]?=some f->f.J2≠t))\/(∃(jf:Nat)(f:Fn)(Aw:Option Addr)(cw:Nat),fv=.bool true/\wv=.slice Aw f.K4.length cw/\ov=.int .i64 f.out/\Hid (jf<j/\us[jf]?=some f/\f.J2=t)/\Hid (zn wr F (.slice Aw f.K4.length cw) f.K4))))
    (λ_ _ _ iv _=>us.length-(intOf iv).toNat)
   case atStart=>exact⟨0,D0 _,rfl,HF,HX,qh (I7 (x8 _ _) _),.inl ⟨rfl,rfl,rfl,qh (λi f h=>by omega)⟩⟩
   case round=>
    obtain⟨j,hj,rfl,o,b8,c8,g6⟩:=hrel;have e3:=qh g6;clear HF HX g6;have i7:=I5 b8.out
    by_cases C:j<us.length
    ·obtain⟨r,e4⟩: ∃f,us[j]?=some f:=⟨_,x9 C⟩
     obtain⟨g,g3,An,cn,At,ct,Ab,e5,rfl,hg,-,g7,-,hc⟩:=o.out.xL.at j r e4;have a0:=hc 0 _ rfl;have a1:=hc 1 _ rfl;have a2:=hc 2 _ rfl;have a3:=hc 3 _ rfl;have a4:=hc 4 _ rfl;have a5:=hc 5 _ rfl;simp only[Nat.add_zero]at a0;have i8:=qh g7;have HJ:=qh e4;clear hc g7 e4;obtain⟨⟨V,X,Y,Z,z4⟩,-⟩:=K6 b8.out;have k0:(0:Int)<=(j:Int):=by omega
     have k1:(j:Int)<(us.length:Int):=by omega
     have k7:=c4.out;have S:=(x8 wr.heap.size wr).alloc (x7 _) (.cells #[.string r.J2,.slice An r.J1.length cn,.slice At r.K4.length ct,.int .i64 r.out,.slice Ab r.J0.length e5,.int .i64 r.pos] 32);have y:=qh (o.out.below S);have c9:=qh ((S.block _ i7).trans b8.out);have e6:=qh (I4 c8.out (I7 S (some l)));have i9:=qh (i8.out.K7 (F':=F) (λg h1 h2=>⟨h1,A7 h2 S.size,S.block g h2⟩));have b9:=S;clear S
     by_cases a7:r.J2=t
     ·have hq:(r.J2.toList==t.toList)=true:=by rw[a7];simp
      have d1:=qh a7;clear a7
      rcases e3.out with⟨rfl,rfl,rfl,c0⟩|⟨jf,f,Aw,cw,rfl,rfl,rfl,D,HI⟩
      ·clear b9
       go_upto_region 20 with(fail)
       go_quiet (fail)
       go_wp2_with fail
       have a8:=J6 (x8 (wr.alloc (.cells #[.string r.J2,.slice An r.J1.length cn,.slice At r.K4.length ct,.int .i64 r.out,.slice Ab r.J0.length e5,.int .i64 r.pos] 32)).heap.size (wr.alloc (.cells #[.string r.J2,.slice An r.J1.length cn,.slice At r.K4.length ct,.int .i64 r.out,.slice Ab r.J0.length e5,.int .i64 r.pos] 32))) nq;have j0:=qh (y.out.below a8);have j1:=qh ((a8.block _ (I5 c9.out)).trans c9.out);have j2:=qh (I4 e6.out (I7 a8 (some l)));have j3:=qh (i9.out.K7 (F':=F) (λg h1 h2=>⟨h1,A7 h2 a8.size,a8.block g h2⟩));clear a8
       go_roundw
       case rel=>exact⟨j+1,C,by go_num,j0,j1,j2,.inr ⟨j,r,At,ct,rfl,rfl,rfl,qh ⟨by omega,HJ.out,d1.out⟩,j3⟩⟩
       case measure=>simp[intOf];omega
      ·exact H9 (b5.out jf j f r D.out.2.1 HJ.out (D.out.2.2.trans d1.out.symm)) (by have:=D.out.1;omega)
     ·have hq:(r.J2.toList==t.toList)=false:=by rw[C7 t,JS];exact G1 (λe=>a7 (e.trans (by cases t;rfl)))
      have d1:=qh a7;clear a7
      rcases e3.out with⟨rfl,rfl,rfl,c0⟩|⟨jf,f,Aw,cw,rfl,rfl,rfl,D,HI⟩
      ·clear b9
       go_wp2_with fail
       go_roundw
       case rel=>exact⟨j+1,C,by go_num,y,c9,e6,.inl ⟨rfl,rfl,rfl,qh (λi f h hi=>by
        rcases E0 i j with h'|h'
        ·exact c0.out i f h' hi
        ·obtain rfl:i=j:=by omega
         have:=HJ.out;rw[hi]at this;injection this with this
         subst this;exact d1.out)⟩⟩
       case measure=>simp[intOf];omega
      ·have j4:=qh (HI.out.K7 (F':=F) (λg h1 h2=>⟨h1,A7 h2 b9.size,b9.block g h2⟩))
       clear b9
       go_wp2_with fail
       go_roundw
       case rel=>exact⟨j+1,C,by go_num,y,c9,e6,.inr ⟨jf,f,Aw,cw,rfl,rfl,rfl,qh ⟨by have:=D.out.1;omega,D.out.2.1,D.out.2.2⟩,j4⟩⟩
       case measure=>simp[intOf];omega
    ·obtain rfl:j=us.length:=by omega
     obtain⟨⟨V,X,Y,Z,z4⟩,-⟩:=K6 b8.out
     rcases e3.out with⟨rfl,rfl,rfl,c0⟩|⟨jf,f,Aw,cw,rfl,rfl,rfl,D,HI⟩
     ·have R:S3 us t=none:=by
       unfold S3;rw[List.find?_eq_none];intro f hf;obtain⟨i,hi⟩:=List.mem_iff_getElem?.1 hf;have:=c0.out i f (by have:=(List.getElem?_eq_some_iff.1 hi).1;omega) hi;simpa using this
      have d2:=qh R;clear R c0
      go_wp2_with fail
      refine(Zc p 16 (by decide) o.out.Zh).mono ?_;rintro e w3 ⟨rfl,G,B⟩;have e7:=qh G;have z:=qh (I4 (I7 HB.out (some l)) (I4 c8.out B));clear G B V X Y Z z4
      go_wp2_with fail
      go_ret;rw[zmN d2.out];exact⟨0,rfl,(λ_ t' H=>by cases H),by rw[Y6.zel];exact e7.out,z.out⟩
     ·have R:S3 us t=some f:=zjn b5.out D.out.2.1 D.out.2.2
      have d2:=qh R;clear R
      by_cases hl:f.K4.length=xs.length
      ·have g8:((f.K4.length:Int)==(xs.length:Int))=true:=by rw[hl];simp
       have j5:((f.K4.length:Int) !=(xs.length:Int))=false:=by rw[hl];simp
       have HL:=qh hl;clear hl;have e0:Hid (zn wr (λg=>g≠l) (.slice Aw f.K4.length cw) f.K4):=qh (HI.out.K7 (λg h1 h2=>⟨o.out.fc g h1,h2,rfl⟩))
       go_wp2_with fail
       go_meet
       case rel=>
        rw[znw d2.out HL.out];exact⟨f.K4,Aw,cw,f.out,Fl,rfl,rfl,o,b8,e0,c8,qh (Y6.Zb _ _ _),qh (λ_ t' H=>QD H)⟩
      ·have g8:((f.K4.length:Int)==(xs.length:Int))=false:=beq_eq_false_iff_ne.2 (by omega)
       have j5:((f.K4.length:Int) !=(xs.length:Int))=true:=by simp[bne,g8]
       have HL:=qh hl;clear hl
       go_wp2_with fail
       refine(Zc p 8 (by decide) o.out.Zh).mono ?_;rintro e w3 ⟨rfl,G,B⟩;have e7:=qh G;have z:=qh (I4 (I7 HB.out (some l)) (I4 c8.out B));clear G B V X Y Z z4
       go_wp2_with fail
       go_ret;rw[zmn d2.out HL.out];exact⟨0,rfl,(λ_ t' H=>by cases H),by rw[Y6.zel];exact e7.out,z.out⟩
  ·go_wp2_with fail
   go_meet
   case rel=>
    rw[zoj];exact⟨[],none,0,1,Fl,rfl,rfl,HF,HX,qh (.inl ⟨none,0,rfl,rfl⟩),qh (I7 (x8 _ _) _),qh (Y6.Zb _ _ _),qh (λ_ t' H=>QD H)⟩
 case rest=>
  obtain⟨O,Aw,cw,oo,M,rfl,rfl,e8,g9,HI,h0,H1,H2⟩:=hcut;clear m1 m2 m3 V X Y Z z4 HX HF;have j6:=qh (e8.out.zdp h0.out HA.out);have h3:=qh e8.out.Z8;have k8:=I5 g9.out;obtain⟨⟨V,X,Y,Z,z4⟩,-⟩:=K6 g9.out
  go_wp2_with fail
  clear V X Y Z z4;obtain⟨wa,rfl⟩: ∃wo:World,wo=wc:=⟨_,rfl⟩
  go_loopw[131] (λi wr=> ∃j:Nat,j<=xs.length/\i=.int .i64 j/\Hid (Zk wa wr l b Au cu us out d (M.on (L4 us env (xs.take j) O)) env F)) (λi _=>xs.length-(intOf i).toNat)
  case atStart=>exact⟨0,D0 _,rfl,by rw[List.take_zero,L4,Y6.XC];exact h3⟩
  case round=>
   obtain⟨j,hj,rfl,o⟩:=hrel;clear h3
   by_cases C:j<xs.length
   ·obtain⟨x,hx⟩: ∃x,xs[j]?=some x:=⟨_,x9 C⟩
    obtain⟨g,g3,A',c',rfl,g4,hg,b7,a0,a1,a2,a3,a4⟩:=j6.out.at j x hx;have c1:=e8.out.fc g g4;have b0:=N9 o.out.gr hg c1 a0;have b1:=N9 o.out.gr hg c1 a1;have b2:=N9 o.out.gr hg c1 a2;have b3:=N9 o.out.gr hg c1 a3;have b4:=N9 o.out.gr hg c1 a4;clear a0 a1 a2 a3 a4;have c6:=qh b7;have d3:=qh (B7 hx);have d4:=qh hx;clear hx b7;have k0:(0:Int)<=(j:Int):=by omega
    have k1:(j:Int)<(xs.length:Int):=by omega
    have h4:=(x8 wr.heap.size wr).alloc (x7 _) (.cells #[.int .i64 x.I9,.int .i64 x.n,.string x.K0,.slice A' x.args.length c',.int .i64 x.pos] 186);have h5:=A5 wr (.cells #[.int .i64 x.I9,.int .i64 x.n,.string x.K0,.slice A' x.args.length c',.int .i64 x.pos] 186);have E:=qh (o.out.below h4);have e9:=qh h5;have h6:l≠wr.heap.size:=by have:=o.out.Zh.lt;omega
    have h7:=qh h6;obtain⟨wv,h8⟩: ∃v,(O.drop j).headD 1=v:=⟨_,rfl⟩;have a9:=qh h8;have j7:=qh (HI.out.K7 (F':=λg=>g≠l) (λq h1 h2=>⟨h1,A7 h2 E.out.gr.size,E.out.gr.block q h2 (by simpa using h1)⟩));clear h4 h5 h6 h8;have h9:=I5 e9.out
    by_cases j8:j<O.length
    ·obtain⟨s,hs⟩: ∃s,O[j]?=some s:=⟨_,x9 j8⟩
     obtain rfl:wv=s:=by rw[<-a9.out];exact zhB hs
     obtain⟨g2,k4,rfl,k9,f0⟩:=j7.out.at j wv hs;have q1:(j:Int)<(O.length:Int):=by omega
     clear hs
     go_wp2_with fail
     refine(IH.out x A' c' F _ _ l b Au cu us out d _ env (d8.out x d3.out) (HZ.out.args.2.2 x d3.out) d7.out c4.out b5.out E.out (E.out.zdp E.out.gr c6.out)).mono ?_;rintro e w8 ⟨tt,rfl,hT,G,T⟩;have U:=qh (E.out.L9 G T);have HT:=qh hT;have c2:w8.heap[wr.heap.size]?=_:=(T.block _ h9 (by have:=h7.out;simpa using λe=>this e.symm)).trans e9.out;obtain⟨⟨y0,y1,y2,y3,y4⟩,-⟩:=K6 c2;clear hT G T c2 b0 b1 b2 b3 b4 f0
     by_cases L:tt=wv
     ·subst L
      have y:Hid (Zk wa w8 l b Au cu us out d (M.on (L4 us env (xs.take (j+1)) O)) env F):=qh (by rw[yF d4.out HT.out,C8 a9.out.symm];exact U.out)
      go_wp2_with fail
      go_roundw
      case rel=>exact⟨j+1,C,by go_num,y⟩
      case measure=>simp[intOf];omega
     ·have f3:(tt==wv)=false:=beq_eq_false_iff_ne.2 L
      have j9:(tt !=wv)=true:=by simp[bne,f3]
      have HQ:=qh L;clear L
      go_wp2_with fail
      refine(Zc x.pos 8 (by decide) U.out.Zh).mono ?_;rintro e w9 ⟨rfl,G,c3⟩;have y:Hid (Zk wa w9 l b Au cu us out d (M.on (L4 us env (xs.take (j+1)) O)) env F):=qh (by rw[yF d4.out HT.out,B5 (λe=>HQ.out (e.trans a9.out))];exact U.out.L9 G c3);clear G c3 y0 y1 y2 y3 y4
      go_wp2_with fail
      go_roundw
      case rel=>exact⟨j+1,C,by go_num,y⟩
      case measure=>simp[intOf];omega
    ·have q1:(O.length:Int)<=(j:Int):=by omega
     obtain rfl:wv=1:=by rw[<-a9.out];exact zgg (by omega)
     go_wp2_with fail
     refine(IH.out x A' c' F _ _ l b Au cu us out d _ env (d8.out x d3.out) (HZ.out.args.2.2 x d3.out) d7.out c4.out b5.out E.out (E.out.zdp E.out.gr c6.out)).mono ?_;rintro e w8 ⟨tt,rfl,hT,G,T⟩;have U:=qh (E.out.L9 G T);have HT:=qh hT;have c2:w8.heap[wr.heap.size]?=_:=(T.block _ h9 (by have:=h7.out;simpa using λe=>this e.symm)).trans e9.out;obtain⟨⟨y0,y1,y2,y3,y4⟩,-⟩:=K6 c2;clear hT G T c2 b0 b1 b2 b3 b4
     by_cases L:tt=1
     ·subst L
      have y:Hid (Zk wa w8 l b Au cu us out d (M.on (L4 us env (xs.take (j+1)) O)) env F):=qh (by rw[yF d4.out HT.out,C8 a9.out.symm];exact U.out)
      go_wp2_with fail
      go_roundw
      case rel=>exact⟨j+1,C,by go_num,y⟩
      case measure=>simp[intOf];omega
     ·have f3:(tt==1)=false:=beq_eq_false_iff_ne.2 L
      have j9:(tt !=1)=true:=by simp[bne,f3]
      have HQ:=qh L;clear L
      go_wp2_with fail
      refine(Zc x.pos 8 (by decide) U.out.Zh).mono ?_;rintro e w9 ⟨rfl,G,c3⟩;have y:Hid (Zk wa w9 l b Au cu us out d (M.on (L4 us env (xs.take (j+1)) O)) env F):=qh (by rw[yF d4.out HT.out,B5 (λe=>HQ.out (e.trans a9.out))];exact U.out.L9 G c3);clear G c3 y0 y1 y2 y3 y4
      go_wp2_with fail
      go_roundw
      case rel=>exact⟨j+1,C,by go_num,y⟩
      case measure=>simp[intOf];omega
   ·obtain rfl:j=xs.length:=by omega
    go_wp2_with fail
    go_ret;refine⟨oo,rfl,H2.out,?_,I4 (I7 HB.out _) (I4 h0.out o.out.gr)⟩;rw[H1.out];have:=o.out.Zh;rw[F5]at this;exact this
end
end Go.Proofs.YtmngofgminlloaaGreatDoor
namespace Go.Proofs.YtmngofgminlloaaGreatDoor
open Go.RowKit Tw
section
open Go.Maps
def zhi: ∀left:Nat,znG left:=by
 intro left
 induction left with
 |zero=>
  intro x A c F w0 w g b i j l d a m e f;cases x with|mk k n t o p=>
  exact H9 (Yz f).1 (by omega)
 |succ left z=>
  intro x A c F w0 w g b i j l d a m e f v r s u h y;cases x with|mk k n t o p=>
  obtain⟨_,q,_⟩:=Yz f;simp only[Ex.I9,Ex.n,Ex.K0,Ex.args,Ex.pos]at y|-
  by_cases B:k=4\/k=5\/k=6\/k=7\/k=8
  ·exact zmk (left+1) (by omega) z k B n t o p A c F w0 w g b i j l d a m e f v r s u h y
  by_cases C:k=1
  ·subst C;exact zmi n t o p A c F w0 w g b i j l d a m e h
  by_cases D:k=2
  ·subst D;exact zmy n t o p A c F w0 w g b i j l d a m e h
  by_cases E:k=3
  ·subst E;exact zmA n t o p A c F w0 w g b i j l d a m e v.args.1 h
  rw[oko (by omega)]at q;cases q
end
end Go.Proofs.YtmngofgminlloaaGreatDoor
namespace Go.Proofs.YtmngofgminlloaaGreatDoor
open Go.Proofs.Tryz
open Go.RowKit Tw
section
open Go.Maps
def yq(w:World)(b n:Nat)(f:Int->Int):Prop:= ∃D:XH,w.ownsMap prog 3 (plainElem prog 3) b n D/\ ∀k:Int,(Lit.int .i64 k).wf=true->D.atKey (.int .i64 k) (.lit (.int .i64 0))=.lit (.int .i64 (f k))
theorem yq.M3(w:World):yq (w.alloc (.map #[] 0)) w.heap.size 0 (λ_=>0):=⟨.map [],World.ownsMap_made _ _ _ _,λ_ _=>rfl⟩
theorem yq.lt{w:World}{b n:Nat}{f:Int->Int}(h:yq w b n f):b<w.heap.size:=by obtain⟨D,a,_⟩:=h;exact a.lt
theorem yq.kept{w w'}{b n:Nat}{f row}(h:yq w b n f)(c:w.grownBy w' row)(a:row≠some b):yq w' b n f:=by
 obtain⟨D,d,g⟩:=h;exact⟨D,d.kept c (by first|exact a|exact λe=>a e.symm),g⟩
theorem yq.put{w}{b n:Nat}{f}(h:yq w b n f)(d:n<100)(k v:Int)(g:(Lit.int .i64 k).wf=true)(i:(Lit.int .i64 v).wf=true):
 ∃w',(Instr.mapUpdate 207 (.map (some b)) (.int .i64 k) (.int .i64 v)).run prog w=.ok () w'/\yq w' b (n+1) (λj=>if j=k then v else f j)/\w.grownBy w' (some b):=by
 obtain⟨D,c,l⟩:=h;obtain⟨w',m,o,p⟩:=xF c d k v g i;refine⟨w',m,⟨_,o,λj q=>?_⟩,p⟩;unfold ZB;simp only
 by_cases e:j=k
 ·subst e
  rw[C8 rfl,atKey_put_same c.isMap (by trivial)]
 ·rw[B5 e,atKey_put_other (by intro a;injection a with _ a;exact e a)]
  exact l j q
theorem yq.ZP{w}{b n:Nat}{f}(h:yq w b n f)(k:Int)(e:(Lit.int .i64 k).wf=true):(Instr.lookup 207 (.map (some b)) (.int .i64 k) false).run prog w=.ok (.int .i64 (f k)) w:=by
 obtain⟨D,i,j⟩:=h;obtain⟨c,a,d,_⟩:=i.lookup_int Ju underlying207 underlying3 (zc9 w) (Jg e);have g:=j k e;rw[d]at g;have:c=f k:=(Lit.int.inj (DataW.lit.inj g)).2;rw[<-this];exact a
def bn(b:Bool):Nat:=if b then 1 else 0
def ju(l3 l4 l5 l6 l2:Bool)(out a:Int)(k:Int):Int:=if k=3 then(if l3 then 2 else 0)else if k=4 then(if l4 then 2 else 0)else if k=5 then(if l5 then out else 0)else if k=6 then(if l6 then 1 else 0)else if k=2 then(if l2 then a else 0)else 0
def jE(w:World)(b:Nat)(l3 l4 l5 l6 l2:Bool)(out a:Int):Prop:=yq w b (bn l3+bn l4+bn l5+bn l6+bn l2) (ju l3 l4 l5 l6 l2 out a)
section
variable {w:World}{b:Nat}{l3 l4 l5 l6 l2:Bool}{out lk:Int}
theorem jE.M3(w:World)(out lk:Int):jE (w.alloc (.map #[] 0)) w.heap.size false false false false false out lk:=by
 have:=yq.M3 w;unfold jE;rw[show ju false false false false false out lk=λ_=>0 by funext k;simp[ju]];exact this
theorem qT(b:Bool):bn b<=1:=by cases b<;>decide
theorem jE.zp0(h:jE w b false l4 l5 l6 l2 out lk): ∃w',(Instr.mapUpdate 207 (.map (some b)) (.int .i64 3) (.int .i64 2)).run prog w=.ok () w'/\jE w' b true l4 l5 l6 l2 out lk/\w.grownBy w' (some b):=by
 have:=qT l4;have:=qT l5;have:=qT l6;have:=qT l2;obtain⟨w',a,c,d⟩:=yq.put h (by have:bn false=0:=rfl;omega) 3 2 (by decide) (by decide);refine⟨w',a,?_,d⟩;unfold jE;rw[show bn true+bn l4+bn l5+bn l6+bn l2=bn false+bn l4+bn l5+bn l6+bn l2+1 by have:bn false=0:=rfl;have:bn true=1:=rfl;omega,show ju true l4 l5 l6 l2 out lk=λj=>if j=3 then 2 else ju false l4 l5 l6 l2 out lk j by funext j;simp only[ju];split<;>simp_all];exact c
theorem jE.zpR(h:jE w b l3 false l5 l6 l2 out lk): ∃w',(Instr.mapUpdate 207 (.map (some b)) (.int .i64 4) (.int .i64 2)).run prog w=.ok () w'/\jE w' b l3 true l5 l6 l2 out lk/\w.grownBy w' (some b):=by
 have:=qT l3;have:=qT l5;have:=qT l6;have:=qT l2;obtain⟨w',a,c,d⟩:=yq.put h (by have:bn false=0:=rfl;omega) 4 2 (by decide) (by decide);refine⟨w',a,?_,d⟩;unfold jE;rw[show bn l3+bn true+bn l5+bn l6+bn l2=bn l3+bn false+bn l5+bn l6+bn l2+1 by have:bn false=0:=rfl;have:bn true=1:=rfl;omega,show ju l3 true l5 l6 l2 out lk=λj=>if j=4 then 2 else ju l3 false l5 l6 l2 out lk j by
  funext j;simp only[ju];by_cases e:j=4
  ·subst e;simp
  ·rw[B5 e,B5 e,B5 e]]
 exact c
theorem jE.zpE(h:jE w b l3 l4 false l6 l2 out lk)(a:(Lit.int .i64 out).wf=true): ∃w',(Instr.mapUpdate 207 (.map (some b)) (.int .i64 5) (.int .i64 out)).run prog w=.ok () w'/\jE w' b l3 l4 true l6 l2 out lk/\w.grownBy w' (some b):=by
 have:=qT l3;have:=qT l4;have:=qT l6;have:=qT l2;obtain⟨w',c,d,f⟩:=yq.put h (by have:bn false=0:=rfl;omega) 5 out (by decide) a;refine⟨w',c,?_,f⟩;unfold jE;rw[show bn l3+bn l4+bn true+bn l6+bn l2=bn l3+bn l4+bn false+bn l6+bn l2+1 by have:bn false=0:=rfl;have:bn true=1:=rfl;omega,show ju l3 l4 true l6 l2 out lk=λj=>if j=5 then out else ju l3 l4 false l6 l2 out lk j by
  funext j;simp only[ju];by_cases e:j=5
  ·subst e;simp
  ·rw[B5 e,B5 e,B5 e]]
 exact d
theorem jE.zpD(h:jE w b l3 l4 l5 false l2 out lk): ∃w',(Instr.mapUpdate 207 (.map (some b)) (.int .i64 6) (.int .i64 1)).run prog w=.ok () w'/\jE w' b l3 l4 l5 true l2 out lk/\w.grownBy w' (some b):=by
 have:=qT l3;have:=qT l4;have:=qT l5;have:=qT l2;obtain⟨w',a,c,d⟩:=yq.put h (by have:bn false=0:=rfl;omega) 6 1 (by decide) (by decide);refine⟨w',a,?_,d⟩;unfold jE;rw[show bn l3+bn l4+bn l5+bn true+bn l2=bn l3+bn l4+bn l5+bn false+bn l2+1 by have:bn false=0:=rfl;have:bn true=1:=rfl;omega,show ju l3 l4 l5 true l2 out lk=λj=>if j=6 then 1 else ju l3 l4 l5 false l2 out lk j by
  funext j;simp only[ju];by_cases e:j=6
  ·subst e;simp
  ·rw[B5 e,B5 e,B5 e]]
 exact c
theorem jE.zpB(h:jE w b l3 l4 l5 l6 false out lk)(a:(Lit.int .i64 lk).wf=true): ∃w',(Instr.mapUpdate 207 (.map (some b)) (.int .i64 2) (.int .i64 lk)).run prog w=.ok () w'/\jE w' b l3 l4 l5 l6 true out lk/\w.grownBy w' (some b):=by
 have:=qT l3;have:=qT l4;have:=qT l5;have:=qT l6;obtain⟨w',c,d,f⟩:=yq.put h (by have:bn false=0:=rfl;omega) 2 lk (by decide) a;refine⟨w',c,?_,f⟩;unfold jE;rw[show bn l3+bn l4+bn l5+bn l6+bn true=bn l3+bn l4+bn l5+bn l6+bn false+1 by have:bn false=0:=rfl;have:bn true=1:=rfl;omega,show ju l3 l4 l5 l6 true out lk=λj=>if j=2 then lk else ju l3 l4 l5 l6 false out lk j by
  funext j;simp only[ju];by_cases e:j=2
  ·subst e;simp
  ·rw[B5 e,B5 e,B5 e]]
 exact d
theorem jE.ZP(h:jE w b true true true true true out lk)(k:Int)(a:(Lit.int .i64 k).wf=true):(Instr.lookup 207 (.map (some b)) (.int .i64 k) false).run prog w=.ok (.int .i64 (ju true true true true true out lk k)) w:=yq.ZP h k a
end
end
section
open Go.Maps
structure W9(w0:World)(out lk:Int)(L:Array Bool)(w:World):Prop where
 M1:Below w0.heap.size w0 w
 no:L.getD 0 false=false->w.heap.size=w0.heap.size/\L.getD 1 false=false/\L.getD 2 false=false/\L.getD 7 false=false/\L.getD 8 false=false/\L.getD 13 false=false
 yes:L.getD 0 false=true->jE w w0.heap.size (L.getD 1 false) (L.getD 2 false) (L.getD 7 false) (L.getD 8 false) (L.getD 13 false) out lk
section
variable {w0 w:World}{out lk:Int}{L:Array Bool}
theorem W9.skip(h:W9 w0 out lk L w)(i:Nat)(hi:i≠0/\i≠1/\i≠2/\i≠7/\i≠8/\i≠13):W9 w0 out lk (L.setIfInBounds i true) w:=by
 obtain⟨b,c,d,e,f,a⟩:=hi;refine⟨h.M1,?_,?_⟩
 ·rw[I6 b.symm,I6 c.symm,I6 d.symm,I6 e.symm,I6 f.symm,I6 a.symm];exact h.no
 ·rw[I6 b.symm,I6 c.symm,I6 d.symm,I6 e.symm,I6 f.symm,I6 a.symm];exact h.yes
theorem W9.zp5(d:0<L.size)(h:W9 w0 out lk L w)(e:L.getD 0 false=false):w.heap.size=w0.heap.size/\W9 w0 out lk (L.setIfInBounds 0 true) (w.alloc (.map #[] 0)):=by
 obtain⟨b,f,g,i,j,a⟩:=h.no e;refine⟨b,h.M1.alloc (by have:=h.M1.size;omega) _,λc=>?_,λ_=>?_⟩
 ·rw[N6 d]at c;cases c
 ·rw[I6 (by decide),I6 (by decide),I6 (by decide),I6 (by decide),I6 (by decide),f,g,i,j,a,<-b]
  exact jE.M3 w out lk
theorem W9.grown{w'}{b:Nat}(h:W9 w0 out lk L w)(d:w0.heap.size<=b)(a:w.grownBy w' (some b)):Below w0.heap.size w0 w':=
 ⟨a.os.trans h.M1.os,a.tape.trans h.M1.tape,a.output.trans h.M1.output,C1 h.M1.size a.size,λk c=>(a.block k (A7 c h.M1.size) (by simp;omega)).trans (h.M1.block k c)⟩
theorem W9.zpF(g:13<L.size)(h:W9 w0 out lk L w)(a:L.getD 0 false=true)(hi:L.getD 1 false=false): ∃w',(Instr.mapUpdate 207 (.map (some w0.heap.size)) (.int .i64 3) (.int .i64 2)).run prog w=.ok () w'/\W9 w0 out lk (L.setIfInBounds 1 true) w':=by
 have b:=h.yes a;rw[hi]at b;obtain⟨w',d,e,f⟩:=b.zp0;refine⟨w',d,h.grown (x7 _) f,λc=>?_,λ_=>?_⟩
 ·rw[I6 (by decide),a]at c;cases c
 ·rw[N6 (by omega),I6 (by decide),I6 (by decide),I6 (by decide),I6 (by decide)];exact e
theorem W9.zp7(g:13<L.size)(h:W9 w0 out lk L w)(a:L.getD 0 false=true)(hi:L.getD 2 false=false): ∃w',(Instr.mapUpdate 207 (.map (some w0.heap.size)) (.int .i64 4) (.int .i64 2)).run prog w=.ok () w'/\W9 w0 out lk (L.setIfInBounds 2 true) w':=by
 have b:=h.yes a;rw[hi]at b;obtain⟨w',d,e,f⟩:=b.zpR;refine⟨w',d,h.grown (x7 _) f,λc=>?_,λ_=>?_⟩
 ·rw[I6 (by decide),a]at c;cases c
 ·rw[N6 (by omega),I6 (by decide),I6 (by decide),I6 (by decide),I6 (by decide)];exact e
theorem W9.zpX(d:(Lit.int .i64 out).wf=true)(i:13<L.size)(h:W9 w0 out lk L w)(a:L.getD 0 false=true)(hi:L.getD 7 false=false): ∃w',(Instr.mapUpdate 207 (.map (some w0.heap.size)) (.int .i64 5) (.int .i64 out)).run prog w=.ok () w'/\W9 w0 out lk (L.setIfInBounds 7 true) w':=by
 have b:=h.yes a;rw[hi]at b;obtain⟨w',e,f,g⟩:=b.zpE d;refine⟨w',e,h.grown (x7 _) g,λc=>?_,λ_=>?_⟩
 ·rw[I6 (by decide),a]at c;cases c
 ·rw[N6 (by omega),I6 (by decide),I6 (by decide),I6 (by decide),I6 (by decide)];exact f
theorem W9.zpL(g:13<L.size)(h:W9 w0 out lk L w)(a:L.getD 0 false=true)(hi:L.getD 8 false=false): ∃w',(Instr.mapUpdate 207 (.map (some w0.heap.size)) (.int .i64 6) (.int .i64 1)).run prog w=.ok () w'/\W9 w0 out lk (L.setIfInBounds 8 true) w':=by
 have b:=h.yes a;rw[hi]at b;obtain⟨w',d,e,f⟩:=b.zpD;refine⟨w',d,h.grown (x7 _) f,λc=>?_,λ_=>?_⟩
 ·rw[I6 (by decide),a]at c;cases c
 ·rw[N6 (by omega),I6 (by decide),I6 (by decide),I6 (by decide),I6 (by decide)];exact e
theorem W9.zpC(d:(Lit.int .i64 lk).wf=true)(i:13<L.size)(h:W9 w0 out lk L w)(a:L.getD 0 false=true)(hi:L.getD 13 false=false): ∃w',(Instr.mapUpdate 207 (.map (some w0.heap.size)) (.int .i64 2) (.int .i64 lk)).run prog w=.ok () w'/\W9 w0 out lk (L.setIfInBounds 13 true) w':=by
 have b:=h.yes a;rw[hi]at b;obtain⟨w',e,f,g⟩:=b.zpB d;refine⟨w',e,h.grown (x7 _) g,λc=>?_,λ_=>?_⟩
 ·rw[I6 (by decide),a]at c;cases c
 ·rw[N6 (by omega),I6 (by decide),I6 (by decide),I6 (by decide),I6 (by decide)];exact f
end
def zdn(a d b c:Nat)(out lk e v:Int)(nm:ByteArray):XM:=[(0,33,.map (some c)),(3,34,.pointer (some ⟨a,0,none⟩)),(4,35,.pointer (some ⟨a,0,none⟩)),(5,36,.pointer (some ⟨a,1,none⟩)),(6,37,.int .i64 out),(9,38,.map (some d)),(10,39,.pointer (some ⟨b,1,none⟩)),(11,40,.string nm),(12,41,.int .i64 lk),(14,42,.map (some c)),(15,43,.pointer (some ⟨b,0,none⟩)),(16,44,.int .i64 e),(17,45,.int .i64 v),(18,12,.int .i64 v)]
def C9(L:Array Bool):Prop:=L.getD 14 false=true->L.getD 0 false=true/\L.getD 1 false=true/\L.getD 2 false=true/\L.getD 7 false=true/\L.getD 8 false=true/\L.getD 13 false=true
theorem C9.skip{L}(h:C9 L)(i:Nat)(hi:i≠14):C9 (L.setIfInBounds i true):=λb=>by
 rw[I6 (λe=>hi e.symm)]at b;obtain⟨c,d,f,g,j,a⟩:=h b;exact⟨U5 c,U5 d,U5 f,U5 g,U5 j,U5 a⟩
theorem C9.ziy{L:Array Bool}(b:L.getD 0 false=true)(c:L.getD 1 false=true)(d:L.getD 2 false=true)(e:L.getD 7 false=true)(f:L.getD 8 false=true)(a:L.getD 13 false=true):C9 (L.setIfInBounds 14 true):=λ_=>⟨U5 b,U5 c,U5 d,U5 e,U5 f,U5 a⟩
theorem W9.start(w)(out lk:Int)(n:Nat):W9 w out lk (Array.replicate n false) w:=⟨x8 _ _,λ_=>⟨rfl,S8 _ _,S8 _ _,S8 _ _,S8 _ _,S8 _ _⟩,(λh=>by rw[S8]at h;cases h)⟩
theorem C9.start(n:Nat):C9 (Array.replicate n false):=λh=>by rw[S8]at h;cases h
theorem S9.ziH{b j c d:Nat}{out lk l v:Int}{nm:ByteArray}{f a L}(h:S9 (zdn b j c d out lk l v nm) f L a)(u:45<f.tmps.size)(m: ∀e∈zdn b j c d out lk l v nm,L.getD e.1 false=true):
 a=Act.mk ((((((((((((((f.tmps.setIfInBounds 12 (.int .i64 v)).setIfInBounds 33 (.map (some d))).setIfInBounds 34 (.pointer (some ⟨b,0,none⟩))).setIfInBounds 35 (.pointer (some ⟨b,0,none⟩))).setIfInBounds 36 (.pointer (some ⟨b,1,none⟩))).setIfInBounds 37 (.int .i64 out)).setIfInBounds 38 (.map (some j))).setIfInBounds 39 (.pointer (some ⟨c,1,none⟩))).setIfInBounds 40 (.string nm)).setIfInBounds 41 (.int .i64 lk)).setIfInBounds 42 (.map (some d))).setIfInBounds 43 (.pointer (some ⟨c,0,none⟩))).setIfInBounds 44 (.int .i64 l)).setIfInBounds 45 (.int .i64 v)) f.defers:=by
 have g:a.tmps=((((((((((((((f.tmps.setIfInBounds 12 (.int .i64 v)).setIfInBounds 33 (.map (some d))).setIfInBounds 34 (.pointer (some ⟨b,0,none⟩))).setIfInBounds 35 (.pointer (some ⟨b,0,none⟩))).setIfInBounds 36 (.pointer (some ⟨b,1,none⟩))).setIfInBounds 37 (.int .i64 out)).setIfInBounds 38 (.map (some j))).setIfInBounds 39 (.pointer (some ⟨c,1,none⟩))).setIfInBounds 40 (.string nm)).setIfInBounds 41 (.int .i64 lk)).setIfInBounds 42 (.map (some d))).setIfInBounds 43 (.pointer (some ⟨c,0,none⟩))).setIfInBounds 44 (.int .i64 l)).setIfInBounds 45 (.int .i64 v)):=by
  have t:=λe i=>h.tb e i (m e i)
  simp only[zdn,List.forall_mem_cons,List.not_mem_nil,false_implies,implies_true,and_true]at t;obtain⟨x,y,z,A,B,C,D,E,F,G,n,o,p,q⟩:=t;apply Array.ext_getElem?;intro k
  by_cases H:k=12\/(33<=k/\k<=45)
  ·have r:k=12\/k=33\/k=34\/k=35\/k=36\/k=37\/k=38\/k=39\/k=40\/k=41\/k=42\/k=43\/k=44\/k=45:=by omega
   rcases r with rfl|rfl|rfl|rfl|rfl|rfl|rfl|rfl|rfl|rfl|rfl|rfl|rfl|rfl
   all_goals
    simp[Array.getElem?_setIfInBounds, *]
    try omega
  ·have s:=h.un k (by
    intro e i;simp only[zdn,E7,List.mem_nil_iff,or_false]at i
    rcases i with rfl|rfl|rfl|rfl|rfl|rfl|rfl|rfl|rfl|rfl|rfl|rfl|rfl|rfl<;>(simp only;omega))
   rw[s];rw[D8 (by omega),D8 (by omega),D8 (by omega),D8 (by omega),D8 (by omega),D8 (by omega),D8 (by omega),D8 (by omega),D8 (by omega),D8 (by omega),D8 (by omega),D8 (by omega),D8 (by omega),D8 (by omega)]
 cases a with|mk I J=>
 simp only at g;have:=h.df;simp only at this;rw[g,this]
end
end Go.Proofs.YtmngofgminlloaaGreatDoor
