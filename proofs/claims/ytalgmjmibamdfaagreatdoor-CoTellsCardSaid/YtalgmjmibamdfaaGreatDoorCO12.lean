/- Merged. -/
import Derived.Test.YtalgmjmibamdfaaGreatDoorCO11
set_option linter.all false
set_option maxHeartbeats 16000000
set_option maxRecDepth 100000
namespace Go.Proofs.YtalgmjmibamdfaaGreatDoor
open Go.Proofs.Tryz
open Go.RowKit Tw
theorem Xt{P:Program}{ops:Array Oper}{Q:Exit->Act->World->Prop}{i:Nat}{K:Act->World->Prop}{a:Act}{w:World}{o:Oper}(b:ops[i]?=some o)(h:if Region.wanted o (yielded ops a.tmps)=true then Oper.wp P o a w K Q else False):wpOp P ops Q i K a w:=by
 unfold wpOp;rw[b];simp only
 split at h
 ·rename_i c;rw[E1 c];exact .inl h
 ·exact h.elim
theorem zaF{a:Region.Mode}{ops:Array Oper}{L:Array Bool}(h:Region.ready a ops L=[]){i:Nat}{o:Oper}(c:ops[i]?=some o)(f:i<L.size)(g: ∀e∈o.after.toList,Region.binds a e=true->L.getD e.on false=true):L.getD i false=true:=by
 cases b:L.getD i false with
 |true=>rfl
 |false=>
  exfalso;have d:i∈Region.ready a ops L:=by
   unfold Region.ready;rw[List.mem_filter];refine⟨List.mem_range.2 (Array.getElem?_eq_some_iff.1 c).1,?_⟩;have j:L.getD i true=false:=by
    rw[F5]at b|-
    rw[Array.getElem?_eq_getElem f]at b|-
    exact b
   rw[j,c];simp only[Bool.not_false,Bool.true_and,Option.map_some,Option.getD_some];rw[<-Array.all_toList];exact List.all_eq_true.2 λe k=>by
    cases l:Region.binds a e with
    |false=>simp
    |true=>rw[g e k l];simp
  rw[h]at d;cases d
theorem zaA{ops:Array Oper}{L:Array Bool}(j:L.size=ops.size)(b:Region.ready .any ops L=[])(c:((List.range ops.size).all λi=>match ops[i]? with|some o=>o.after.toList.all (λe=>!Region.binds .any e||decide (e.on<i))|none=>true)=true): ∀n i,i<n->i<ops.size->L.getD i false=true:=by
 intro n
 induction n with
 |zero=>intro i h;omega
 |succ n d=>
  intro i _ h;refine zaF b (Array.getElem?_eq_getElem h) (by omega) λe f g=>?_;have a:=List.all_eq_true.1 c i (List.mem_range.2 h);rw[Array.getElem?_eq_getElem h]at a;have k:e.on<i:=by have:=List.all_eq_true.1 a e f;rw[g]at this;simpa using this
  exact d e.on (by omega) (by omega)
theorem ja{P:Program}{ops:Array Oper}{Q:Exit->Act->World->Prop}{m:Nat}{a:Act}{w:World}(p:P.follows .mixedOrders=true)(n:Nat)(g:ops.size=n)(J:Array Bool->Act->World->Prop)(q:J (Array.replicate n false) a w.drew)
 (b: ∀L a w i,L.size=n->Clo ops L->J L a w->i∈Region.ready .any ops L->wpOp P ops Q i (λl w'=>J (L.setIfInBounds i true) l w') a w)
 (r:((List.range ops.size).all λi=>match ops[i]? with|some o=>o.after.toList.all (λe=>!Region.binds .any e||decide (e.on<i))|none=>true)=true)
 (c: ∀L a w,(∀i,i<n->L.getD i false=true)->J L a w->Q .normal a w):(Code.region m ops true).wp P Q a w:=by
 subst g;refine zan p (λL a w=>L.size=ops.size/\Clo ops L/\J L a w) ⟨by simp,Clo.start _ _,q⟩ ?_ ?_
 ·rintro L a w i ⟨d,j,k⟩ f
  exact wpOp_mono (λl w' h=>⟨by simpa using d,j.next f,h⟩) (b L a w i d j k f)
 ·rintro L a w ⟨d,j,k⟩ s
  exact c L a w (λi f=>zaA d s r _ i (Nat.lt_succ_self i) f) k
theorem zfQ(nm:ByteArray)(F:Nat->Prop)(w:World)(b:Nat)(U:Value)(V:Mv)(vs:O5)(f:Nat)(ops:List S3)(us:List Fn)(hl:vs.length<=1000)(hm:f<=1000)(h:W6 w w b U V vs f ops us F):
 Calls prog 57 #[.pointer (some ⟨b,0,none⟩),.string nm] w λe w'=>e=.returned (.int .i64 f)/\ ∃V',W6 w w' b U V' (vs++[(nm,(f:Int))]) (f+1) ops us F:=by
 have HF:=zh h;clear h
 go_enter func57,ntmps57
 go_upto_region 1 with(fail)
 generalize B:Act.mk _ _=K;have e0:K.tmps[0]?=some (.pointer (some ⟨b,0,none⟩)):=by rw[<-B];rfl
 have e1:K.tmps[1]?=some (.string nm):=by rw[<-B];rfl
 have ez:K.tmps.size=40:=by rw[<-B];rfl
 have N:=zh B;clear B;refine ja (by kernel_rfl) 25 rfl (λL a w'=> ∃p q P Q,S9 (Q8 b V vs nm f p q P Q) K L a/\qi w w' b U V vs f ops nm p q P Q (L.getD 21 false) (L.getD 24 false)/\p.isSome=L.getD 7 false/\q.isSome=L.getD 17 false/\P.isSome=L.getD 8 false/\Q.isSome=L.getD 18 false) ?_ ?_ (by kernel_rfl) ?_
 ·refine⟨none,none,none,none,S9.start _ _ _,?_,?_,?_,?_,?_⟩
  ·rw[W3,W3];exact qi.start (HF.out.below (J5 w))
  all_goals rw[W3];rfl
 ·rintro L a w' i hz M ⟨p,q,P,Q,c,l,o,r,m,n⟩ s
  have c7:i<25:=(zN s).1;have u:=xz s (by omega);have O:=(c.un 0 λe d=>by have:=P3 e d;omega).trans e0;have f1:=(c.un 1 λe d=>by have:=P3 e d;omega).trans e1;have x1:w'.cell? ⟨b,1,none⟩=some (if L.getD 21 false then Jd V vs P else Jd V vs none):=y5 l.K3 1;have x2:w'.cell? ⟨b,2,none⟩=some (if L.getD 24 false then Jc V vs Q else Jc V vs none):=y5 l.K3 2;have x3:w'.cell? ⟨b,3,none⟩=some (.int .i64 f):=y5 l.K3 3;have y1:=B4 l.K3 1;have y2:=B4 l.K3 2;have a9:i=0\/i=1\/i=2\/i=3\/i=4\/i=5\/i=6\/i=7\/i=8\/i=9\/i=10\/i=11\/i=12\/i=13\/i=14\/i=15\/i=16\/i=17\/i=18\/i=19\/i=20\/i=21\/i=22\/i=23\/i=24:=by omega
  rcases a9 with rfl|rfl|rfl|rfl|rfl|rfl|rfl|rfl|rfl|rfl|rfl|rfl|rfl|rfl|rfl|rfl|rfl|rfl|rfl|rfl|rfl|rfl|rfl|rfl|rfl
  ·have j:=K5 s rfl
   refine K0 5 (w':=w') (v:=.pointer (some ⟨b,0,none⟩)) rfl rfl rfl (by simp[execOp,go_sem,O];try rfl) ?_;exact⟨p,q,P,Q,c.put (by rw[N7];decide) (by rw[M6];decide) (λe d=>by have:=P3 e d;omega) (0,5,.pointer (some ⟨b,0,none⟩)) (by unfold Q8;simp),by rw[I9 (by decide),I9 (by decide)];exact l,by rw[I9 (by decide)];exact o,by rw[I9 (by decide)];exact r,by rw[I9 (by decide)];exact m,by rw[I9 (by decide)];exact n⟩
  ·have j:=K5 s rfl
   refine K0 6 (w':=w') (v:=.pointer (some ⟨b,0,none⟩)) rfl rfl rfl (by simp[execOp,go_sem,O];try rfl) ?_;exact⟨p,q,P,Q,c.put (by rw[N7];decide) (by rw[M6];decide) (λe d=>by have:=P3 e d;omega) (1,6,.pointer (some ⟨b,0,none⟩)) (by unfold Q8;simp),by rw[I9 (by decide),I9 (by decide)];exact l,by rw[I9 (by decide)];exact o,by rw[I9 (by decide)];exact r,by rw[I9 (by decide)];exact m,by rw[I9 (by decide)];exact n⟩
  ·have j:=K5 s rfl
   refine K0 7 (w':=w') (v:=.pointer (some ⟨b,0,none⟩)) rfl rfl rfl (by simp[execOp,go_sem,O];try rfl) ?_;exact⟨p,q,P,Q,c.put (by rw[N7];decide) (by rw[M6];decide) (λe d=>by have:=P3 e d;omega) (2,7,.pointer (some ⟨b,0,none⟩)) (by unfold Q8;simp),by rw[I9 (by decide),I9 (by decide)];exact l,by rw[I9 (by decide)];exact o,by rw[I9 (by decide)];exact r,by rw[I9 (by decide)];exact m,by rw[I9 (by decide)];exact n⟩
  ·have j:=K5 s rfl
   have g2:L.getD 2 false=true:=j ⟨2,.data⟩ (by simp) (by decide);have v2:=c.tb (2,7,.pointer (some ⟨b,0,none⟩)) (by unfold Q8;simp) g2;simp only at v2;refine K0 8 (w':=w') (v:=.pointer (some ⟨b,0,none⟩)) rfl rfl rfl (by simp[execOp,go_sem,v2];try rfl) ?_;exact⟨p,q,P,Q,c.put (by rw[N7];decide) (by rw[M6];decide) (λe d=>by have:=P3 e d;omega) (3,8,.pointer (some ⟨b,0,none⟩)) (by unfold Q8;simp),by rw[I9 (by decide),I9 (by decide)];exact l,by rw[I9 (by decide)];exact o,by rw[I9 (by decide)];exact r,by rw[I9 (by decide)];exact m,by rw[I9 (by decide)];exact n⟩
  ·have j:=K5 s rfl
   have g3:L.getD 3 false=true:=j ⟨3,.data⟩ (by simp) (by decide);have v3:=c.tb (3,8,.pointer (some ⟨b,0,none⟩)) (by unfold Q8;simp) g3;simp only at v3;refine K0 9 (w':=w') (v:=.pointer (some ⟨b,1,none⟩)) rfl rfl rfl (by simp[execOp,go_sem,v3];try rfl) ?_;exact⟨p,q,P,Q,c.put (by rw[N7];decide) (by rw[M6];decide) (λe d=>by have:=P3 e d;omega) (4,9,.pointer (some ⟨b,1,none⟩)) (by unfold Q8;simp),by rw[I9 (by decide),I9 (by decide)];exact l,by rw[I9 (by decide)];exact o,by rw[I9 (by decide)];exact r,by rw[I9 (by decide)];exact m,by rw[I9 (by decide)];exact n⟩
  ·have j:=K5 s rfl
   have g4:L.getD 4 false=true:=j ⟨4,.data⟩ (by simp) (by decide);have v4:=c.tb (4,9,.pointer (some ⟨b,1,none⟩)) (by unfold Q8;simp) g4;simp only at v4;have b0:L.getD 21 false=false:=by
    cases b1:L.getD 21 false with
    |false=>rfl
    |true=>have C:=M 21 _ rfl b1 ⟨8,.data⟩ (by simp) (by decide);have R:=M 8 _ rfl C ⟨5,.data⟩ (by simp) (by decide);rw[u]at R;cases R
   rw[b0,B5 (by decide)]at x1;refine K0 10 (w':=w') (v:=Jd V vs none) rfl rfl rfl (by simp[execOp,go_sem,v4,x1];try rfl) ?_;exact⟨p,q,P,Q,c.put (by rw[N7];decide) (by rw[M6];decide) (λe d=>by have:=P3 e d;omega) (5,10,Jd V vs none) (by unfold Q8;simp),by rw[I9 (by decide),I9 (by decide)];exact l,by rw[I9 (by decide)];exact o,by rw[I9 (by decide)];exact r,by rw[I9 (by decide)];exact m,by rw[I9 (by decide)];exact n⟩
  ·have j:=K5 s rfl
   refine K0 11 (w':=w') (v:=.string nm) rfl rfl rfl (by simp[execOp,go_sem,f1];try rfl) ?_;exact⟨p,q,P,Q,c.put (by rw[N7];decide) (by rw[M6];decide) (λe d=>by have:=P3 e d;omega) (6,11,.string nm) (by unfold Q8;simp),by rw[I9 (by decide),I9 (by decide)];exact l,by rw[I9 (by decide)];exact o,by rw[I9 (by decide)];exact r,by rw[I9 (by decide)];exact m,by rw[I9 (by decide)];exact n⟩
  ·have j:=K5 s rfl
   have g6:L.getD 6 false=true:=j ⟨6,.data⟩ (by simp) (by decide);have v6:=c.tb (6,11,.string nm) (by unfold Q8;simp) g6;simp only at v6;refine K0 12 (w':=w'.alloc (.cells #[.string nm] 9)) (v:=slV (some w'.heap.size)) rfl rfl rfl (by simp[execOp,go_sem,slV,v6];try rfl) ?_;exact⟨some w'.heap.size,q,P,Q,(ji (p':=some w'.heap.size) (q':=q) (P':=P) (Q':=Q) c (λh=>by rw[u]at h;cases h) (λ_=>rfl) (λ_=>rfl) (λ_=>rfl)).put (by rw[N7];decide) (by rw[M6];decide) (λe d=>by have:=P3 e d;omega) (7,12,slV (some w'.heap.size)) (by unfold Q8;simp),by rw[I9 (by decide),I9 (by decide)];exact l.zhT,by rw[M9 (by omega)];rfl,by rw[I9 (by decide)];exact r,by rw[I9 (by decide)];exact m,by rw[I9 (by decide)];exact n⟩
  ·have j:=K5 s rfl
   have g5:L.getD 5 false=true:=j ⟨5,.data⟩ (by simp) (by decide);have v5:=c.tb (5,10,Jd V vs none) (by unfold Q8;simp) g5;simp only at v5;have g7:L.getD 7 false=true:=j ⟨7,.data⟩ (by simp) (by decide);have v7:=c.tb (7,12,slV p) (by unfold Q8;simp) g7;simp only at v7;have G:L.getD 21 false=false:=by
    cases H:L.getD 21 false with
    |false=>rfl
    |true=>have C:=M 21 _ rfl H ⟨8,.data⟩ (by simp) (by decide);rw[u]at C;cases C
   obtain rfl:P=none:=by rw[u]at m;cases P with|none=>rfl|some _=>cases m
   obtain⟨D,rfl⟩: ∃g,p=some g:=by rw[g7]at o;cases p with|none=>cases o|some g=>exact⟨g,rfl⟩
   refine Xt rfl (jz Xx rfl (.tmp 10) (.tmp 12) rfl b _ vs.length (ze vs) (jK v5) l.rn D 1 #[.string nm] (jK v7) (l.pb D rfl rfl).1 rfl (by simp[Value.oneCell']) (by omega) (I0 l.lt) ?_);intro x A w9 o1 k1 _ _;exact⟨some D,q,some (x,A),Q,(ji (p':=some D) (q':=q) (P':=some (x,A)) (Q':=Q) c (λ_=>rfl) (λ_=>rfl) (λh=>by rw[u]at h;cases h) (λ_=>rfl)).put (by rw[N7];decide) (by rw[M6];decide) (λe d=>by have:=P3 e d;omega) (8,13,Jd V vs (some (x,A))) (by unfold Q8;simp),by rw[I9 (by decide),I9 (by decide)];exact l.zkK G o1 k1,by rw[I9 (by decide)];exact o,by rw[I9 (by decide)];exact r,by rw[M9 (by omega)];rfl,by rw[I9 (by decide)];exact n⟩
  ·have j:=K5 s rfl
   refine K0 14 (w':=w') (v:=.pointer (some ⟨b,0,none⟩)) rfl rfl rfl (by simp[execOp,go_sem,O];try rfl) ?_;exact⟨p,q,P,Q,c.put (by rw[N7];decide) (by rw[M6];decide) (λe d=>by have:=P3 e d;omega) (9,14,.pointer (some ⟨b,0,none⟩)) (by unfold Q8;simp),by rw[I9 (by decide),I9 (by decide)];exact l,by rw[I9 (by decide)];exact o,by rw[I9 (by decide)];exact r,by rw[I9 (by decide)];exact m,by rw[I9 (by decide)];exact n⟩
  ·have j:=K5 s rfl
   have g9:L.getD 9 false=true:=j ⟨9,.data⟩ (by simp) (by decide);have v9:=c.tb (9,14,.pointer (some ⟨b,0,none⟩)) (by unfold Q8;simp) g9;simp only at v9;refine K0 15 (w':=w') (v:=.pointer (some ⟨b,0,none⟩)) rfl rfl rfl (by simp[execOp,go_sem,v9];try rfl) ?_;exact⟨p,q,P,Q,c.put (by rw[N7];decide) (by rw[M6];decide) (λe d=>by have:=P3 e d;omega) (10,15,.pointer (some ⟨b,0,none⟩)) (by unfold Q8;simp),by rw[I9 (by decide),I9 (by decide)];exact l,by rw[I9 (by decide)];exact o,by rw[I9 (by decide)];exact r,by rw[I9 (by decide)];exact m,by rw[I9 (by decide)];exact n⟩
  ·have j:=K5 s rfl
   have b2:L.getD 10 false=true:=j ⟨10,.data⟩ (by simp) (by decide);have S:=c.tb (10,15,.pointer (some ⟨b,0,none⟩)) (by unfold Q8;simp) b2;simp only at S;refine K0 16 (w':=w') (v:=.pointer (some ⟨b,2,none⟩)) rfl rfl rfl (by simp[execOp,go_sem,S];try rfl) ?_;exact⟨p,q,P,Q,c.put (by rw[N7];decide) (by rw[M6];decide) (λe d=>by have:=P3 e d;omega) (11,16,.pointer (some ⟨b,2,none⟩)) (by unfold Q8;simp),by rw[I9 (by decide),I9 (by decide)];exact l,by rw[I9 (by decide)];exact o,by rw[I9 (by decide)];exact r,by rw[I9 (by decide)];exact m,by rw[I9 (by decide)];exact n⟩
  ·have j:=K5 s rfl
   have b3:L.getD 11 false=true:=j ⟨11,.data⟩ (by simp) (by decide);have T:=c.tb (11,16,.pointer (some ⟨b,2,none⟩)) (by unfold Q8;simp) b3;simp only at T;have b4:L.getD 24 false=false:=by
    cases b5:L.getD 24 false with
    |false=>rfl
    |true=>have C:=M 24 _ rfl b5 ⟨18,.data⟩ (by simp) (by decide);have R:=M 18 _ rfl C ⟨12,.data⟩ (by simp) (by decide);rw[u]at R;cases R
   rw[b4,B5 (by decide)]at x2;refine K0 17 (w':=w') (v:=Jc V vs none) rfl rfl rfl (by simp[execOp,go_sem,T,x2];try rfl) ?_;exact⟨p,q,P,Q,c.put (by rw[N7];decide) (by rw[M6];decide) (λe d=>by have:=P3 e d;omega) (12,17,Jc V vs none) (by unfold Q8;simp),by rw[I9 (by decide),I9 (by decide)];exact l,by rw[I9 (by decide)];exact o,by rw[I9 (by decide)];exact r,by rw[I9 (by decide)];exact m,by rw[I9 (by decide)];exact n⟩
  ·have j:=K5 s rfl
   refine K0 18 (w':=w') (v:=.pointer (some ⟨b,0,none⟩)) rfl rfl rfl (by simp[execOp,go_sem,O];try rfl) ?_;exact⟨p,q,P,Q,c.put (by rw[N7];decide) (by rw[M6];decide) (λe d=>by have:=P3 e d;omega) (13,18,.pointer (some ⟨b,0,none⟩)) (by unfold Q8;simp),by rw[I9 (by decide),I9 (by decide)];exact l,by rw[I9 (by decide)];exact o,by rw[I9 (by decide)];exact r,by rw[I9 (by decide)];exact m,by rw[I9 (by decide)];exact n⟩
  ·have j:=K5 s rfl
   have b6:L.getD 13 false=true:=j ⟨13,.data⟩ (by simp) (by decide);have W:=c.tb (13,18,.pointer (some ⟨b,0,none⟩)) (by unfold Q8;simp) b6;simp only at W;refine K0 19 (w':=w') (v:=.pointer (some ⟨b,0,none⟩)) rfl rfl rfl (by simp[execOp,go_sem,W];try rfl) ?_;exact⟨p,q,P,Q,c.put (by rw[N7];decide) (by rw[M6];decide) (λe d=>by have:=P3 e d;omega) (14,19,.pointer (some ⟨b,0,none⟩)) (by unfold Q8;simp),by rw[I9 (by decide),I9 (by decide)];exact l,by rw[I9 (by decide)];exact o,by rw[I9 (by decide)];exact r,by rw[I9 (by decide)];exact m,by rw[I9 (by decide)];exact n⟩
  ·have j:=K5 s rfl
   have b7:L.getD 14 false=true:=j ⟨14,.data⟩ (by simp) (by decide);have X:=c.tb (14,19,.pointer (some ⟨b,0,none⟩)) (by unfold Q8;simp) b7;simp only at X;refine K0 20 (w':=w') (v:=.pointer (some ⟨b,3,none⟩)) rfl rfl rfl (by simp[execOp,go_sem,X];try rfl) ?_;exact⟨p,q,P,Q,c.put (by rw[N7];decide) (by rw[M6];decide) (λe d=>by have:=P3 e d;omega) (15,20,.pointer (some ⟨b,3,none⟩)) (by unfold Q8;simp),by rw[I9 (by decide),I9 (by decide)];exact l,by rw[I9 (by decide)];exact o,by rw[I9 (by decide)];exact r,by rw[I9 (by decide)];exact m,by rw[I9 (by decide)];exact n⟩
  ·have j:=K5 s rfl
   have b8:L.getD 15 false=true:=j ⟨15,.data⟩ (by simp) (by decide);have Y:=c.tb (15,20,.pointer (some ⟨b,3,none⟩)) (by unfold Q8;simp) b8;simp only at Y;refine K0 21 (w':=w') (v:=.int .i64 f) rfl rfl rfl (by simp[execOp,go_sem,Y,x3];try rfl) ?_;exact⟨p,q,P,Q,c.put (by rw[N7];decide) (by rw[M6];decide) (λe d=>by have:=P3 e d;omega) (16,21,.int .i64 f) (by unfold Q8;simp),by rw[I9 (by decide),I9 (by decide)];exact l,by rw[I9 (by decide)];exact o,by rw[I9 (by decide)];exact r,by rw[I9 (by decide)];exact m,by rw[I9 (by decide)];exact n⟩
  ·have j:=K5 s rfl
   have b9:L.getD 16 false=true:=j ⟨16,.data⟩ (by simp) (by decide);have Z:=c.tb (16,21,.int .i64 f) (by unfold Q8;simp) b9;simp only at Z;refine K0 22 (w':=w'.alloc (.cells #[.int .i64 f] 3)) (v:=slV (some w'.heap.size)) rfl rfl rfl (by simp[execOp,go_sem,slV,Z];try rfl) ?_;exact⟨p,some w'.heap.size,P,Q,(ji (p':=p) (q':=some w'.heap.size) (P':=P) (Q':=Q) c (λ_=>rfl) (λh=>by rw[u]at h;cases h) (λ_=>rfl) (λ_=>rfl)).put (by rw[N7];decide) (by rw[M6];decide) (λe d=>by have:=P3 e d;omega) (17,22,slV (some w'.heap.size)) (by unfold Q8;simp),by rw[I9 (by decide),I9 (by decide)];exact l.zib,by rw[I9 (by decide)];exact o,by rw[M9 (by omega)];rfl,by rw[I9 (by decide)];exact m,by rw[I9 (by decide)];exact n⟩
  ·have j:=K5 s rfl
   have c0:L.getD 12 false=true:=j ⟨12,.data⟩ (by simp) (by decide);have a1:=c.tb (12,17,Jc V vs none) (by unfold Q8;simp) c0;simp only at a1;have a2:L.getD 17 false=true:=j ⟨17,.data⟩ (by simp) (by decide);have a3:=c.tb (17,22,slV q) (by unfold Q8;simp) a2;simp only at a3;have G:L.getD 24 false=false:=by
    cases H:L.getD 24 false with
    |false=>rfl
    |true=>have C:=M 24 _ rfl H ⟨18,.data⟩ (by simp) (by decide);rw[u]at C;cases C
   obtain rfl:Q=none:=by rw[u]at n;cases Q with|none=>rfl|some _=>cases n
   obtain⟨D,rfl⟩: ∃g,q=some g:=by rw[a2]at r;cases q with|none=>cases r|some g=>exact⟨g,rfl⟩
   refine Xt rfl (jz ZQ rfl (.tmp 17) (.tmp 22) rfl b _ vs.length (Z9 vs) (jK a1) l.ra D 1 #[.int .i64 f] (jK a3) (l.qb D rfl rfl).1 rfl (by simp[Value.oneCell']) (by omega) (I0 l.lt) ?_);intro x A w9 o1 k1 _ _;exact⟨p,some D,P,some (x,A),(ji (p':=p) (q':=some D) (P':=P) (Q':=some (x,A)) c (λ_=>rfl) (λ_=>rfl) (λ_=>rfl) (λh=>by rw[u]at h;cases h)).put (by rw[N7];decide) (by rw[M6];decide) (λe d=>by have:=P3 e d;omega) (18,23,Jc V vs (some (x,A))) (by unfold Q8;simp),by rw[I9 (by decide),I9 (by decide)];exact l.zkP G o1 k1,by rw[I9 (by decide)];exact o,by rw[I9 (by decide)];exact r,by rw[I9 (by decide)];exact m,by rw[M9 (by omega)];rfl⟩
  ·have j:=K5 s rfl
   have g0:L.getD 0 false=true:=j ⟨0,.data⟩ (by simp) (by decide);have v0:=c.tb (0,5,.pointer (some ⟨b,0,none⟩)) (by unfold Q8;simp) g0;simp only at v0;refine K0 24 (w':=w') (v:=.pointer (some ⟨b,0,none⟩)) rfl rfl rfl (by simp[execOp,go_sem,v0];try rfl) ?_;exact⟨p,q,P,Q,c.put (by rw[N7];decide) (by rw[M6];decide) (λe d=>by have:=P3 e d;omega) (19,24,.pointer (some ⟨b,0,none⟩)) (by unfold Q8;simp),by rw[I9 (by decide),I9 (by decide)];exact l,by rw[I9 (by decide)];exact o,by rw[I9 (by decide)];exact r,by rw[I9 (by decide)];exact m,by rw[I9 (by decide)];exact n⟩
  ·have j:=K5 s rfl
   have c3:L.getD 19 false=true:=j ⟨19,.data⟩ (by simp) (by decide);have a4:=c.tb (19,24,.pointer (some ⟨b,0,none⟩)) (by unfold Q8;simp) c3;simp only at a4;refine K0 25 (w':=w') (v:=.pointer (some ⟨b,1,none⟩)) rfl rfl rfl (by simp[execOp,go_sem,a4];try rfl) ?_;exact⟨p,q,P,Q,c.put (by rw[N7];decide) (by rw[M6];decide) (λe d=>by have:=P3 e d;omega) (20,25,.pointer (some ⟨b,1,none⟩)) (by unfold Q8;simp),by rw[I9 (by decide),I9 (by decide)];exact l,by rw[I9 (by decide)];exact o,by rw[I9 (by decide)];exact r,by rw[I9 (by decide)];exact m,by rw[I9 (by decide)];exact n⟩
  ·have j:=K5 s rfl
   have c4:L.getD 20 false=true:=j ⟨20,.data⟩ (by simp) (by decide);have a5:=c.tb (20,25,.pointer (some ⟨b,1,none⟩)) (by unfold Q8;simp) c4;simp only at a5;have g8:L.getD 8 false=true:=j ⟨8,.data⟩ (by simp) (by decide);have v8:=c.tb (8,13,Jd V vs P) (by unfold Q8;simp) g8;simp only at v8;obtain⟨⟨x,A⟩,rfl⟩: ∃g,P=some g:=by rw[g8]at m;cases P with|none=>cases m|some g=>exact⟨g,rfl⟩
   simp only[Jd]at v8;refine zO (w':=w'.setCell ⟨b,1,none⟩ (Jd V vs (some (x,A)))) rfl rfl rfl (by simp[execOp,go_sem,a5,v8,Jd,x1,y1];try rfl) ?_;exact⟨p,q,some (x,A),Q,c.skip 21 (λe d hh=>by have h:e.1∈(Q8 b V vs nm f p q (some (x,A)) Q).map (·.1):=G8 d;rw[N7,hh]at h;revert h;decide),by rw[M9 (by omega),I9 (by decide)];exact l.stS,by rw[I9 (by decide)];exact o,by rw[I9 (by decide)];exact r,by rw[I9 (by decide)];exact m,by rw[I9 (by decide)];exact n⟩
  ·have j:=K5 s rfl
   have x:L.getD 1 false=true:=j ⟨1,.data⟩ (by simp) (by decide);have v1:=c.tb (1,6,.pointer (some ⟨b,0,none⟩)) (by unfold Q8;simp) x;simp only at v1;refine K0 26 (w':=w') (v:=.pointer (some ⟨b,0,none⟩)) rfl rfl rfl (by simp[execOp,go_sem,v1];try rfl) ?_;exact⟨p,q,P,Q,c.put (by rw[N7];decide) (by rw[M6];decide) (λe d=>by have:=P3 e d;omega) (22,26,.pointer (some ⟨b,0,none⟩)) (by unfold Q8;simp),by rw[I9 (by decide),I9 (by decide)];exact l,by rw[I9 (by decide)];exact o,by rw[I9 (by decide)];exact r,by rw[I9 (by decide)];exact m,by rw[I9 (by decide)];exact n⟩
  ·have j:=K5 s rfl
   have c5:L.getD 22 false=true:=j ⟨22,.data⟩ (by simp) (by decide);have a6:=c.tb (22,26,.pointer (some ⟨b,0,none⟩)) (by unfold Q8;simp) c5;simp only at a6;refine K0 27 (w':=w') (v:=.pointer (some ⟨b,2,none⟩)) rfl rfl rfl (by simp[execOp,go_sem,a6];try rfl) ?_;exact⟨p,q,P,Q,c.put (by rw[N7];decide) (by rw[M6];decide) (λe d=>by have:=P3 e d;omega) (23,27,.pointer (some ⟨b,2,none⟩)) (by unfold Q8;simp),by rw[I9 (by decide),I9 (by decide)];exact l,by rw[I9 (by decide)];exact o,by rw[I9 (by decide)];exact r,by rw[I9 (by decide)];exact m,by rw[I9 (by decide)];exact n⟩
  ·have j:=K5 s rfl
   have c6:L.getD 23 false=true:=j ⟨23,.data⟩ (by simp) (by decide);have a7:=c.tb (23,27,.pointer (some ⟨b,2,none⟩)) (by unfold Q8;simp) c6;simp only at a7;have a8:L.getD 18 false=true:=j ⟨18,.data⟩ (by simp) (by decide);have I:=c.tb (18,23,Jc V vs Q) (by unfold Q8;simp) a8;simp only at I;obtain⟨⟨x,A⟩,rfl⟩: ∃g,Q=some g:=by rw[a8]at n;cases Q with|none=>cases n|some g=>exact⟨g,rfl⟩
   simp only[Jc]at I;refine zO (w':=w'.setCell ⟨b,2,none⟩ (Jc V vs (some (x,A)))) rfl rfl rfl (by simp[execOp,go_sem,a7,I,Jc,x2,y2];try rfl) ?_;exact⟨p,q,P,some (x,A),c.skip 24 (λe d hh=>by have h:e.1∈(Q8 b V vs nm f p q P (some (x,A))).map (·.1):=G8 d;rw[N7,hh]at h;revert h;decide),by rw[I9 (by decide),M9 (by omega)];exact l.stI,by rw[I9 (by decide)];exact o,by rw[I9 (by decide)];exact r,by rw[I9 (by decide)];exact m,by rw[I9 (by decide)];exact n⟩
 ·rintro L a w' z ⟨p,q,P,Q,c,l,o,r,m,n⟩
  rw[z 8 (by decide)]at m;rw[z 18 (by decide)]at n;rw[z 21 (by decide),z 24 (by decide)]at l;obtain⟨⟨x,A⟩,rfl⟩: ∃g,P=some g:=by cases P with|none=>cases m|some g=>exact⟨g,rfl⟩
  obtain⟨⟨g2,c2⟩,rfl⟩: ∃g,Q=some g:=by cases Q with|none=>cases n|some g=>exact⟨g,rfl⟩
  have E:=za8 (lo:=5) (hi:=27) c.df c.az (λk hk=>c.un k λe d=>by have:=P3 e d;omega);obtain⟨y,hy⟩: ∃y:Nat->Value,a=⟨(List.range' 5 23).foldl (λt k=>t.setIfInBounds k (y k)) K.tmps,K.defers⟩:=⟨_,E⟩;clear E c z o r m n e0 e1 ez;subst hy;have B:=N.out;clear N;subst B;have hD:=l.done HF.out;have x3:=y5 hD.1 3;have y3:=B4 hD.1 3;have J:=zh hD.2;clear hD l HF;simp only[List.range',List.foldl];go_simp
  go_upto_region 3 with(fail)
  clear x3 y3;generalize World.setCell _ _ _=w9 at J|-
  have x3:=(qa J.out.st).1.2.2.2.1
  go_wp2_with fail
  go_ret;exact⟨by simp,_,J.out⟩
end Go.Proofs.YtalgmjmibamdfaaGreatDoor
namespace Go.Proofs.YtalgmjmibamdfaaGreatDoor
open Go.RowKit
def zr(ops:Array Oper):Nat->Nat->Nat->Bool
 |0,_,_=>false
 |f+1,i,k=>match ops[i]? with
  |some o=>o.after.toList.any λe=>Region.binds .any e&&(e.on==k||zr ops f e.on k)
  |none=>false
def zeF(ops:Array Oper)(i k:Nat):Bool:=match ops[i]? with
 |some o=>o.after.toList.any λe=>Region.binds .any e&&e.on==k
 |none=>false
def okB(ops:Array Oper)(a:List Nat)(i j:Nat):Bool:=
 ((List.range a.length).all λt=>if t<j then !(a.getD t 0==i)&&!zr ops ops.size (a.getD t 0) i else !zr ops ops.size i (a.getD t 0))&&(!a.contains i||a[j]?==some i)
def zgM(ops:Array Oper)(a:List Nat):List (Nat×Nat):=(List.range ops.size).flatMap λi=>((List.range (a.length+1)).filter (okB ops a i)).map λj=>(i,j)
def opB(ops:Array Oper)(a b:List (Nat×Nat))(i:Nat):Bool:=match ops[i]? with
 |some o=>o.guard.isNone&&(match o.op with|.select ..=>false|_=>true)&&decide (o.dst=((a++b).find? (λe=>e.1==i)).map (·.2))&&(o.after.toList.all λe=>!Region.binds .any e||decide (e.on<i))&&
  o.op.operands.toList.all λx=>match x with|.tmp t=>(a.all λe=>!(e.2==t)||zeF ops i e.1)&&(b.all λe=>!(e.2==t)||zr ops ops.size e.1 i)|_=>true
 |none=>false
def zf7(ops:Array Oper)(b c:List (Nat×Nat))(a:List Nat):Bool:=
 ((List.range ops.size).all (opB ops b c))&&((List.range a.length).all λt=>(List.range t).all λs=>zr ops ops.size (a.getD t 0) (a.getD s 0))&&decide (((b++c).map (·.1)).Nodup)&&decide (((b++c).map (·.2)).Nodup)&&decide a.Nodup&&a.all (λk=>decide (k<ops.size))&&(b++c).all (λe=>decide (e.1<ops.size))
def J8(T:je)(a:Act):Act:=⟨T.foldl (λt e=>t.setIfInBounds e.2.1 e.2.2) a.tmps,a.defers⟩
def X9(T:je)(i:Nat):Next:=match T.find? (λe=>e.1==i)with
 |some e=>.value e.2.2
 |none=>.skip
end Go.Proofs.YtalgmjmibamdfaaGreatDoor
