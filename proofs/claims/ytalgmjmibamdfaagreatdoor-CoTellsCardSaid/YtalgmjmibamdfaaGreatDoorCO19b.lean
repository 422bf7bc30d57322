/- Merged. -/
import Derived.Test.YtalgmjmibamdfaaGreatDoorCO19
set_option linter.all false
set_option maxHeartbeats 16000000
set_option maxRecDepth 100000
namespace Go.Proofs.YtalgmjmibamdfaaGreatDoor
open Go.Proofs.Tryz
open Go.RowKit Tw
theorem zd7(b:Bool)(w:World):Calls prog 78 #[.bool b] w λe w'=>e=.returned (.int .i64 (tr b))/\w'=w:=by
 go_enter func78,ntmps78
 cases b<;>(go_wp2;go_ret;exact⟨rfl,rfl⟩)
theorem zcy(x k:Int):IntKind.i64.wrap (x+18446744073709551616*k)=IntKind.i64.wrap x:=by
 rw[IntKind.wrap_i64,IntKind.wrap_i64];omega
theorem zbe(x:Int): ∃k,IntKind.i64.wrap x=x+18446744073709551616*k:=⟨-((x+9223372036854775808)/18446744073709551616),by rw[IntKind.wrap_i64];omega⟩
theorem zg0{a b:Int}(j:qX a):IntKind.i64.wrap (a-IntKind.i64.wrap (IntKind.i64.wrap (a.tdiv b)*b))=a.tmod b:=by
 obtain⟨f,l⟩:=zbe (a.tdiv b);rw[l];obtain⟨i,m⟩:=zbe ((a.tdiv b+18446744073709551616*f)*b);rw[m];have n:=Int.mul_tdiv_add_tmod a b;have e:a-((a.tdiv b+18446744073709551616*f)*b+18446744073709551616*i)=a.tmod b+18446744073709551616*(-(f*b)-i):=by
  rw[Int.add_mul,Int.mul_assoc,Int.mul_comm (a.tdiv b) b];omega
 rw[e,zcy];obtain⟨o,p⟩:=j;refine IntWalk.i64_in _ ?_;have q:=Int.natAbs_tmod a b;have r:=Nat.mod_le a.natAbs b.natAbs
 rcases Int.le_total 0 a with h|h
 ·have:=Int.tmod_nonneg b h;omega
 ·have:=Int.tmod_nonneg b (show 0<= -a by omega);rw[Int.neg_tmod]at this;omega
theorem zi7{a b:Int}(f:qX a):wrap64 (a-wrap64 (wrap64 (a.tdiv b)*b))=a.tmod b:=by
 have e: ∀z,wrap64 z=IntKind.i64.wrap z:=λz=>(IntWalk.i64_left z).symm;rw[e,e,e];exact zg0 f
theorem ziX(d a b:Int)(q:7<=d)(i:d<=14)(m:qX a)(w:World):
 Calls prog 79 #[.int .i64 d,.int .i64 a,.int .i64 b] w λe w'=>(match Zv d a b with|some y=>e=.returned (.tuple #[.int .i64 y,.bool true])|none=>e=.returned (.tuple #[.int .i64 0,.bool false]))/\w'=w:=by
 obtain⟨r,f⟩: ∃r,Zv d a b=r:=⟨_,rfl⟩;rw[f];have n:=zh f;have j:=zh (zi7 (b:=b) m);have o:d=7\/d=8\/d=9\/d=10\/d=11\/d=12\/d=13\/d=14:=by omega
 clear f q i m
 go_enter func79,ntmps79
 by_cases h:b=0
 ·have l:(b==0)=true:=beq_iff_eq.2 h
  rcases o with rfl|rfl|rfl|rfl|rfl|rfl|rfl|rfl
  all_goals
   have f:=n.out;simp only[Zv,Int.reduceEq,if_true,if_false]at f
   try rw[E1 h]at f
   first
    |(obtain⟨y,rfl⟩: ∃y,r=some y:=⟨_,f.symm⟩;injection f with f)
    |(obtain rfl:r=none:=f.symm;clear f)
   try(have u:tr (a==b)=y:=f)
   clear h
   go_wp2_with(go_at_call 78;refine(zd7 _ _).mono ?_;rintro e w' ⟨rfl,rfl⟩)
   go_ret2;exact⟨rfl,rfl⟩
 ·have l:(b==0)=false:=beq_eq_false_iff_ne.2 h
  rcases o with rfl|rfl|rfl|rfl|rfl|rfl|rfl|rfl
  all_goals
   have f:=n.out;simp only[Zv,Int.reduceEq,if_true,if_false]at f
   try rw[B5 h]at f
   try simp only[if_true]at f
   obtain⟨y,rfl⟩: ∃y,r=some y:=⟨_,f.symm⟩;injection f with f
   try(have u:tr (a==b)=y:=f)
   have p:=j.out
   try rw[f]at p
   go_wp2_with(go_at_call 78;refine(zd7 _ _).mono ?_;rintro e w' ⟨rfl,rfl⟩)
   go_ret2
   first|exact⟨rfl,rfl⟩|(refine⟨?_,rfl⟩;rw[<-p];rfl)
theorem zeB{w:World}{g n sl sc:Nat}{sp:Option Addr}{xs:List Int}(i:w.heap[g]?=some (.cells (U5 (List.replicate n 0)) 3 (0,0)))(m:xs.length<=n)(l:sl=xs.length)(a: ∀k v,(iC xs)[k]?=some v-> ∃b,sp=some b/\w.cell? (b.add k)=some v):
 ∃w',(Builtin.copy_ #[22,22] 3 #[.slice (some ⟨g,0,none⟩) n n,.slice sp sl sc]).run prog w=.ok (.int .i64 xs.length) w'/\w'.heap[g]?=some (.cells (U5 (xs++List.replicate (n-xs.length) 0)) 3 (0,0))/\Below g w w':=by
 subst l
 rcases xs with _|⟨x,r⟩
 ·exact⟨w,run_copy_none w _ _ _ 3 _ _ _ _ _ _ underlying22 (by kernel_rfl) (by simp),by simpa using i,y7 _ _⟩
 ·obtain⟨b,rfl,-⟩:=a 0 _ rfl
  have h:=run_copy_row (P:=prog) w 22 22 3 3 g 0 n n b (x::r).length sc (U5 (List.replicate n 0)) 3 (iC (x::r)) underlying22 (by kernel_rfl) i (by rw[ju];exact(Nat.min_eq_left m).symm) (λj v f=>by
   obtain⟨o,e,p⟩:=a j v f;injection e with e;subst e;exact p) (by rw[ju];simpa[U5]using m) (λv f=>by unfold iC at f;obtain⟨y,-,rfl⟩:=List.mem_map.1 f;rfl)
  rw[ju]at h;refine⟨_,h,?_,below_setRow (y7 _ _) (y6 _) _⟩;rw[setRow_heap w g _ _ _ _ i]
  congr 2
  simp[U5,iC]
structure NxL(rb b3 b4 b7 b8 gc k:Nat)(Af:Option Addr)(nf cf:Nat)(main d x:Int)(w:World):Prop where
 p3:w.heap[b3]?=some (.cells #[.pointer (some ⟨rb,0,none⟩)] 145 (0,0))
 p4:w.heap[b4]?=some (.cells #[.slice Af nf cf,.int .i64 main] 26 (0,0))
 p7:w.heap[b7]?=some (.cells #[.pointer (some ⟨gc,k*4,none⟩)] 146 (0,0))
 p8:w.heap[b8]?=some (.cells #[.int .i64 d,.int .i64 x] 74 (0,0))
section
variable {rb b3 b4 b7 b8 gc k nf cf Z:Nat}{B:Bd}{Af:Option Addr}{main d x:Int}{w w':World}
theorem NxL.qn(h:NxL rb b3 b4 b7 b8 gc k Af nf cf main d x w)(n: ∀(b:Nat)(a:Array Value)(t:Nat)(e:Nat×Nat),w.heap[b]?=some (.cells a t e)-> ¬Vt0 t-> ¬xo t->w'.heap[b]?=w.heap[b]?):NxL rb b3 b4 b7 b8 gc k Af nf cf main d x w':=
 ⟨(n b3 _ _ _ h.p3 (by simp[Vt0]) (by unfold xo;decide)).trans h.p3,(n b4 _ _ _ h.p4 (by simp[Vt0]) (by unfold xo;decide)).trans h.p4,(n b7 _ _ _ h.p7 (by simp[Vt0]) (by unfold xo;decide)).trans h.p7,(n b8 _ _ _ h.p8 (by simp[Vt0]) (by unfold xo;decide)).trans h.p8⟩
theorem NxL.vo(h:NxL rb b3 b4 b7 b8 gc k Af nf cf main d x w)(a:Vo B w w'):NxL rb b3 b4 b7 b8 gc k Af nf cf main d x w':=h.qn λb e t f i j _=>a.K3 b e t f i λh=>j h.t0
theorem NxL.hk(h:NxL rb b3 b4 b7 b8 gc k Af nf cf main d x w)(a:Hk Z w w'):NxL rb b3 b4 b7 b8 gc k Af nf cf main d x w':=h.qn λb e t f i _ j=>a.K3 b e t f i j
theorem NxL.cells(h:NxL rb b3 b4 b7 b8 gc k Af nf cf main d x w):w.cell? ⟨b3,0,none⟩=some (.pointer (some ⟨rb,0,none⟩))/\w.cell? ⟨b4,0,none⟩=some (.slice Af nf cf)/\w.cell? ⟨b7,0,none⟩=some (.pointer (some ⟨gc,k*4,none⟩))/\w.cell? ⟨b8,0,none⟩=some (.int .i64 d)/\w.cell? ⟨b8,1,none⟩=some (.int .i64 x):=
 ⟨y5 h.p3 0,y5 h.p4 0,y5 h.p7 0,y5 h.p8 0,y5 h.p8 1⟩
structure X8(Z:Nat)(B:Bd)(I:World->(Nat->Prop)->List (Int×List Int)->Prop)(t:List (Int×List Int))(w0:World)(rb b3 b4 b7 b8 gc k:Nat)(Af:Option Addr)(nf cf:Nat)(main d x value:Int)(c:Nat)(l:List Fm)(w:World):Prop where
 rf:qF w B rb 0 value (some ⟨gc,0,none⟩) c l
 lo:NxL rb b3 b4 b7 b8 gc k Af nf cf main d x w
 q:Qh Z B w0 w
 hi:I w B.S t
theorem X8.vo{g c:Nat}{lb:Array Value}{hf:R4}{I:World->(Nat->Prop)->List (Int×List Int)->Prop}{t:List (Int×List Int)}{w0:World}{value a:Int}{l l':List Fm}(h:X8 Z B I t w0 rb b3 b4 b7 b8 gc k Af nf cf main d x value c l w)(e:zT Z B g lb hf I)(b:Vo B w w')(f:qF w' B rb 0 a (some ⟨gc,0,none⟩) c l'):X8 Z B I t w0 rb b3 b4 b7 b8 gc k Af nf cf main d x a c l' w':=
 ⟨f,h.lo.vo b,h.q.trans (b.qh e.le),e.J0 h.hi b⟩
def NxO(r:Mc×Bool)(Z B rb:Nat)(I:World->(Nat->Prop)->List (Int×List Int)->Prop)(t:List (Int×List Int))(w:World)(e:Ending)(w':World):Prop:=
 e=.returned (.bool r.2)/\ ∃S,(∃A c l,qF w' ⟨B,S⟩ rb r.1.mode r.1.value A c l/\l.map Prod.fst=r.1.P0)/\Qh Z B w w'/\I w' S t
theorem NxO.mk{r:Mc×Bool}{n c:Nat}{S:Nat->Prop}{A:Option Addr}{l:List Fm}{b:Bool}{M:Mc}{I:World->(Nat->Prop)->List (Int×List Int)->Prop}{t:List (Int×List Int)}(a:r=(M,b))(h:qF w' ⟨n,S⟩ rb M.mode M.value A c l)(e:l.map Prod.fst=M.P0)(f:Qh Z n w w')(i:I w' S t):NxO r Z n rb I t w (.returned (.bool b)) w':=by
 subst a;exact⟨rfl,S,⟨A,c,l,h,e⟩,f,i⟩
theorem X8.drew{g c:Nat}{lb:Array Value}{hf:R4}{I:World->(Nat->Prop)->List (Int×List Int)->Prop}{t:List (Int×List Int)}{w0:World}{value:Int}{l:List Fm}(h:X8 Z B I t w0 rb b3 b4 b7 b8 gc k Af nf cf main d x value c l w)(a:zT Z B g lb hf I):X8 Z B I t w0 rb b3 b4 b7 b8 gc k Af nf cf main d x value c l w.drew:=
 h.vo a (Vo.of (J5 w) h.rf.bd) (h.rf.below (J5 w))
theorem qF.yld{A:Option Addr}{c:Nat}{mode value:Int}{l:List Fm}(h:qF w B rb mode value A c l)(y:Int):qF (w.setCell ⟨rb,1,none⟩ (.int .i64 y)) B rb mode y A c l/\Vo B w (w.setCell ⟨rb,1,none⟩ (.int .i64 y)):=
 ⟨⟨h.lo,z5 w rb 1 _ _ _ h.K3,h.T9.else h.K3 (by decide) (by decide) 1 _⟩,.set h.K3 h.lo (by simp[xm]) _ _⟩
theorem zbX{L:List Cf}{hf:R4}{v:Int}{fs:List Fq}{f:Fq}{d x a b:Int}{l:List Int}(h:7<=d)(e:d<=14):
 M8 L hf v fs f (d,x) l [a,b]=match Zv d a b with|some y=>(⟨0,v,fs++[⟨f.fn,f.pc+1,f.vars,l++[y]⟩]⟩,false)|none=>(yf 17,false):=by
 rw[Yq (by omega) e];unfold rkM;rw[B5 (by omega),B5 (by omega)];rfl
variable {g c:Nat}{lb:Array Value}{hf:R4}{I:World->(Nat->Prop)->List (Int×List Int)->Prop}{t:List (Int×List Int)}{w0:World}{value:Int}{low:List Fm}{fn pc:Nat}{vs st:List Int}{v s:Value}
theorem X8.U0(e:low.length=k)(h:X8 Z B I t w0 rb b3 b4 b7 b8 gc k Af nf cf main d x value c (low++[(⟨fn,pc,vs,st⟩,v,s)]) w):
 (w.cell? ⟨b3,0,none⟩=some (.pointer (some ⟨rb,0,none⟩))/\w.cell? ⟨b4,0,none⟩=some (.slice Af nf cf)/\w.cell? ⟨b7,0,none⟩=some (.pointer (some ⟨gc,k*4,none⟩))/\w.cell? ⟨b8,0,none⟩=some (.int .i64 d)/\w.cell? ⟨b8,1,none⟩=some (.int .i64 x))/\
 (w.cell? ⟨gc,k*4,none⟩=some (.int .i64 fn)/\w.cell? ⟨gc,k*4+1,none⟩=some (.int .i64 pc)/\w.cell? ⟨gc,k*4+2,none⟩=some v/\w.cell? ⟨gc,k*4+3,none⟩=some s/\w.frozen? ⟨gc,k*4+1,none⟩=false/\w.frozen? ⟨gc,k*4+3,none⟩=false)/\
 w.cell? ⟨rb,0,none⟩=some (.int .i64 0)/\w.cell? ⟨rb,1,none⟩=some (.int .i64 value)/\w.cell? ⟨rb,2,none⟩=some (.slice (some ⟨gc,0,none⟩) (k+1) c)/\w.frozen? ⟨rb,0,none⟩=false/\w.frozen? ⟨rb,1,none⟩=false/\w.frozen? ⟨rb,2,none⟩=false:=by
 subst e;obtain⟨z,f,A,C,D,E,a,-,-,-,-,i,j,l,m,n,o,-⟩:=qw h.rf.T9;injection a with a;injection a with a
 subst a;obtain⟨p,q,b,r,u,y⟩:=qM h.rf;rw[z9,List.length_singleton]at b;exact⟨h.lo.cells,⟨i,j,l,m,n,o⟩,p,q,b,r,u,y⟩
theorem jS(i:low.length=k)(j:zT Z B g lb hf I){b:Option Addr}{f:Nat}{S:List Int}{a:Int}(h:X8 Z B I t w0 rb b3 b4 b7 b8 gc k Af nf cf main d x value c (low++[(⟨fn,pc,vs,S++[a]⟩,v,.slice b (S++[a]).length f)]) w)(l:(S++[a]).length<=2000):
 Calls prog 75 #[.pointer (some ⟨b7,0,none⟩)] w λe w'=>e=.returned (.int .i64 a)/\X8 Z B I t w0 rb b3 b4 b7 b8 gc k Af nf cf main d x value c (low++[(⟨fn,pc,vs,S⟩,v,.slice b S.length f)]) w':=by
 subst i;exact(zhj h.rf h.lo.p7 rfl l).mono λ_ _ ⟨e,m,n⟩=>⟨e,h.vo j n m⟩
theorem xK(a:low.length=k)(b:zT Z B g lb hf I)(h:X8 Z B I t w0 rb b3 b4 b7 b8 gc k Af nf cf main d x value c (low++[(⟨fn,pc,vs,st⟩,v,s)]) w)(f:st.length<=2000)(y:Int):
 Calls prog 76 #[.int .i64 y,.pointer (some ⟨b7,0,none⟩)] w λe w'=>e=.returned (.tuple #[])/\ ∃s',X8 Z B I t w0 rb b3 b4 b7 b8 gc k Af nf cf main d x value c (low++[(⟨fn,pc,vs,st++[y]⟩,v,s')]) w':=by
 subst a;exact(zeL h.rf h.lo.p7 f y).mono λ_ _ ⟨e,⟨s',i⟩,j⟩=>⟨e,s',h.vo b j i⟩
theorem yl(a:low.length=k)(b:zT Z B g lb hf I)(h:X8 Z B I t w0 rb b3 b4 b7 b8 gc k Af nf cf main d x value c (low++[(⟨fn,pc,vs,st⟩,v,s)]) w)(p:Nat):X8 Z B I t w0 rb b3 b4 b7 b8 gc k Af nf cf main d x value c (low++[(⟨fn,p,vs,st⟩,v,s)]) (w.setCell ⟨gc,k*4+1,none⟩ (.int .i64 p)):=by
 subst a;obtain⟨e,f⟩:=zfX h.rf p;exact h.vo b f e
theorem zcC(f:low.length=k)(i:zT Z B g lb hf I){a:Option Addr}{b:Nat}{S T:List Int}(h:X8 Z B I t w0 rb b3 b4 b7 b8 gc k Af nf cf main d x value c (low++[(⟨fn,pc,vs,S++T⟩,v,.slice a (S++T).length b)]) w):X8 Z B I t w0 rb b3 b4 b7 b8 gc k Af nf cf main d x value c (low++[(⟨fn,pc,vs,S⟩,v,.slice a S.length b)]) (w.setCell ⟨gc,k*4+3,none⟩ (.slice a S.length b)):=by
 subst f;obtain⟨e,j⟩:=zdu h.rf S.length (by simp);simp only[List.take_left']at e;exact h.vo i j e
theorem Xr(b:zT Z B g lb hf I){k:Nat}{l:List Fm}(h:X8 Z B I t w0 rb b3 b4 b7 b8 gc k Af nf cf main d x value c l w)(a:Int):
 Calls prog 77 #[.int .i64 a,.pointer (some ⟨b3,0,none⟩)] w λe w'=>e=.returned (.tuple #[])/\qF w' B rb 2 a none 0 []/\Qh Z B w0 w'/\I w' B.S t:=
 (zfu h.rf h.lo.p3 a).mono λ_ _ ⟨e,i,f⟩=>⟨e,i,h.q.trans (f.qh b.le),b.J0 h.hi f⟩
end
end Go.Proofs.YtalgmjmibamdfaaGreatDoor
