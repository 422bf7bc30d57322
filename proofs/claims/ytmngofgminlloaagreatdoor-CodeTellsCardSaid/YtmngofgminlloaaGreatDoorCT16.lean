/- Merged. -/
import Derived.Test.YtmngofgminlloaaGreatDoorCT15
set_option linter.all false
set_option maxHeartbeats 16000000
set_option maxRecDepth 100000
namespace Go.Proofs.YtmngofgminlloaaGreatDoor
open Go.Proofs.Tryz
open Go.RowKit Tw
def zbq{P ops}{Q:Exit->Act->World->Prop}{i:Nat}{K:Act->World->Prop}{a w o}(b:ops[i]?=some o)(h:if Region.wanted o (yielded ops a.tmps)=true then Oper.wp P o a w K Q else False):wpOp P ops Q i K a w:=by
 unfold wpOp;rw[b];simp only
 split at h
 ·rename_i c;rw[C8 c];exact .inl h
 ·exact h.elim
def zdJ{a ops L}(h:Region.ready a ops L=[]){i:Nat}{o}(c:ops[i]?=some o)(f:i<L.size)(g: ∀e∈o.after.toList,Region.binds a e=true->L.getD e.on false=true):L.getD i false=true:=by
 cases b:L.getD i false with
 |true=>rfl
 |false=>
  exfalso;have d:i∈Region.ready a ops L:=by
   unfold Region.ready;rw[List.mem_filter];refine⟨List.mem_range.2 (Array.getElem?_eq_some_iff.1 c).1,?_⟩;have j:L.getD i true=false:=by
    rw[F4]at b|-;rw[Array.getElem?_eq_getElem f]at b|-;exact b
   rw[j,c];simp only[Bool.not_false,Bool.true_and,Option.map_some,Option.getD_some];rw[<-Array.all_toList];exact List.all_eq_true.2 λe k=>by
    cases l:Region.binds a e with
    |false=>simp
    |true=>rw[g e k l];simp
  rw[h]at d;cases d
def zdH{ops L}(j:L.size=ops.size)(b:Region.ready .any ops L=[])(c:((List.range ops.size).all λi=>match ops[i]? with|some o=>o.after.toList.all (λe=>!Region.binds .any e||decide (e.on<i))|none=>true)=true): ∀n i,i<n->i<ops.size->L.getD i false=true:=by
 intro n
 induction n with
 |zero=>intro i h;omega
 |succ n d=>
  intro i _ h;refine zdJ b (Array.getElem?_eq_getElem h) (by omega) λe f g=>?_
  have a:=List.all_eq_true.1 c i (List.mem_range.2 h);rw[Array.getElem?_eq_getElem h]at a;have k:e.on<i:=by have:=List.all_eq_true.1 a e f;rw[g]at this;simpa using this
  exact d e.on (by omega) (by omega)
def Yp{P ops}{Q:Exit->Act->World->Prop}{m:Nat}{a w}(p:P.follows .mixedOrders=true)(n:Nat)(g:ops.size=n)(J:Array Bool->Act->World->Prop)(q:J (Array.replicate n false) a w.drew)
 (b: ∀L a w i,L.size=n->Clo ops L->J L a w->i∈Region.ready .any ops L->wpOp P ops Q i (λl w'=>J (L.setIfInBounds i true) l w') a w)
 (r:((List.range ops.size).all λi=>match ops[i]? with|some o=>o.after.toList.all (λe=>!Region.binds .any e||decide (e.on<i))|none=>true)=true)
 (c: ∀L a w,(∀i,i<n->L.getD i false=true)->J L a w->Q .normal a w):(Code.region m ops true).wp P Q a w:=by
 subst g;refine QJ p (λL a w=>L.size=ops.size/\Clo ops L/\J L a w) ⟨by simp,Clo.start _ _,q⟩ ?_ ?_
 ·rintro L a w i ⟨d,j,k⟩ f
  exact wpOp_mono (λl w' h=>⟨by simpa using d,j.next f,h⟩) (b L a w i d j k f)
 ·rintro L a w ⟨d,j,k⟩ s
  exact c L a w (λi f=>zdH d s r _ i (Nat.lt_succ_self i) f) k
def zkT(nm:ByteArray)(F:Nat->Prop)(w)(b:Nat)(U V vs)(f:Nat)(ops us)(hl:vs.length<=1000)(hm:f<=1000)(h:zu w w b U V vs f ops us F):
 Calls prog 143 #[.pointer (some ⟨b,0,none⟩),.string nm] w λe w'=>e=.returned (.int .i64 f)/\ ∃V',zu w w' b U V' (vs++[(nm,(f:Int))]) (f+1) ops us F:=by
 have HF:=qh h;clear h
 go_enter func143,ntmps143
 go_upto_region 1 with(fail)
 generalize B:Act.mk _ _=K;have e0:K.tmps[0]?=some (.pointer (some ⟨b,0,none⟩)):=by rw[<-B];rfl
 have e1:K.tmps[1]?=some (.string nm):=by rw[<-B];rfl
 have ez:K.tmps.size=40:=by rw[<-B];rfl
 have N:=qh B;clear B;refine Yp (by kernel_rfl) 25 rfl (λL a w'=> ∃p q P Q,S9 (U3 b V vs nm f p q P Q) K L a/\jp w w' b U V vs f ops nm p q P Q (L.getD 21 false) (L.getD 24 false)/\p.isSome=L.getD 7 false/\q.isSome=L.getD 17 false/\P.isSome=L.getD 8 false/\Q.isSome=L.getD 18 false) ?_ ?_ (by kernel_rfl) ?_
 ·refine⟨none,none,none,none,S9.start _ _ _,?_,?_,?_,?_,?_⟩
  ·rw[S8,S8];exact jp.start (HF.out.below (M2 w))
  all_goals rw[S8];rfl
 ·rintro L a w' i hz M ⟨p,q,P,Q,c,l,o,r,m,n⟩ s
  have c7:i<25:=(jC s).1;have u:=Je s (by omega);have O:=(c.un 0 λe d=>by have:=R0 e d;omega).trans e0;have f1:=(c.un 1 λe d=>by have:=R0 e d;omega).trans e1;have x1:w'.cell? ⟨b,1,none⟩=some (if L.getD 21 false then nmV V vs P else nmV V vs none):=x6 l.P6 1;have x2:w'.cell? ⟨b,2,none⟩=some (if L.getD 24 false then noV V vs Q else noV V vs none):=x6 l.P6 2;have x3:w'.cell? ⟨b,3,none⟩=some (.int .i64 f):=x6 l.P6 3;have y1:=B4 l.P6 1;have y2:=B4 l.P6 2;have a9:i=0\/i=1\/i=2\/i=3\/i=4\/i=5\/i=6\/i=7\/i=8\/i=9\/i=10\/i=11\/i=12\/i=13\/i=14\/i=15\/i=16\/i=17\/i=18\/i=19\/i=20\/i=21\/i=22\/i=23\/i=24:=by omega
  rcases a9 with rfl|rfl|rfl|rfl|rfl|rfl|rfl|rfl|rfl|rfl|rfl|rfl|rfl|rfl|rfl|rfl|rfl|rfl|rfl|rfl|rfl|rfl|rfl|rfl|rfl
  ·have j:=J8 s rfl
   refine K5 5 (w':=w') (v:=.pointer (some ⟨b,0,none⟩)) rfl rfl rfl (by simp[execOp,go_sem,O];try rfl) ?_;exact⟨p,q,P,Q,c.put (by rw[P2];decide) (by rw[N5];decide) (λe d=>by have:=R0 e d;omega) (0,5,.pointer (some ⟨b,0,none⟩)) (by unfold U3;simp),by rw[I6 (by decide),I6 (by decide)];exact l,by rw[I6 (by decide)];exact o,by rw[I6 (by decide)];exact r,by rw[I6 (by decide)];exact m,by rw[I6 (by decide)];exact n⟩
  ·have j:=J8 s rfl
   refine K5 6 (w':=w') (v:=.pointer (some ⟨b,0,none⟩)) rfl rfl rfl (by simp[execOp,go_sem,O];try rfl) ?_;exact⟨p,q,P,Q,c.put (by rw[P2];decide) (by rw[N5];decide) (λe d=>by have:=R0 e d;omega) (1,6,.pointer (some ⟨b,0,none⟩)) (by unfold U3;simp),by rw[I6 (by decide),I6 (by decide)];exact l,by rw[I6 (by decide)];exact o,by rw[I6 (by decide)];exact r,by rw[I6 (by decide)];exact m,by rw[I6 (by decide)];exact n⟩
  ·have j:=J8 s rfl
   refine K5 7 (w':=w') (v:=.pointer (some ⟨b,0,none⟩)) rfl rfl rfl (by simp[execOp,go_sem,O];try rfl) ?_;exact⟨p,q,P,Q,c.put (by rw[P2];decide) (by rw[N5];decide) (λe d=>by have:=R0 e d;omega) (2,7,.pointer (some ⟨b,0,none⟩)) (by unfold U3;simp),by rw[I6 (by decide),I6 (by decide)];exact l,by rw[I6 (by decide)];exact o,by rw[I6 (by decide)];exact r,by rw[I6 (by decide)];exact m,by rw[I6 (by decide)];exact n⟩
  ·have j:=J8 s rfl
   have g2:L.getD 2 false=true:=j ⟨2,.data⟩ (by simp) (by decide);have v2:=c.tb (2,7,.pointer (some ⟨b,0,none⟩)) (by unfold U3;simp) g2;simp only at v2;refine K5 8 (w':=w') (v:=.pointer (some ⟨b,0,none⟩)) rfl rfl rfl (by simp[execOp,go_sem,v2];try rfl) ?_;exact⟨p,q,P,Q,c.put (by rw[P2];decide) (by rw[N5];decide) (λe d=>by have:=R0 e d;omega) (3,8,.pointer (some ⟨b,0,none⟩)) (by unfold U3;simp),by rw[I6 (by decide),I6 (by decide)];exact l,by rw[I6 (by decide)];exact o,by rw[I6 (by decide)];exact r,by rw[I6 (by decide)];exact m,by rw[I6 (by decide)];exact n⟩
  ·have j:=J8 s rfl
   have g3:L.getD 3 false=true:=j ⟨3,.data⟩ (by simp) (by decide);have v3:=c.tb (3,8,.pointer (some ⟨b,0,none⟩)) (by unfold U3;simp) g3;simp only at v3;refine K5 9 (w':=w') (v:=.pointer (some ⟨b,1,none⟩)) rfl rfl rfl (by simp[execOp,go_sem,v3];try rfl) ?_;exact⟨p,q,P,Q,c.put (by rw[P2];decide) (by rw[N5];decide) (λe d=>by have:=R0 e d;omega) (4,9,.pointer (some ⟨b,1,none⟩)) (by unfold U3;simp),by rw[I6 (by decide),I6 (by decide)];exact l,by rw[I6 (by decide)];exact o,by rw[I6 (by decide)];exact r,by rw[I6 (by decide)];exact m,by rw[I6 (by decide)];exact n⟩
  ·have j:=J8 s rfl
   have g4:L.getD 4 false=true:=j ⟨4,.data⟩ (by simp) (by decide);have v4:=c.tb (4,9,.pointer (some ⟨b,1,none⟩)) (by unfold U3;simp) g4;simp only at v4;have b0:L.getD 21 false=false:=by
    cases b1:L.getD 21 false with
    |false=>rfl
    |true=>have C:=M 21 _ rfl b1 ⟨8,.data⟩ (by simp) (by decide);have R:=M 8 _ rfl C ⟨5,.data⟩ (by simp) (by decide);rw[u]at R;cases R
   rw[b0,B5 (by decide)]at x1;refine K5 10 (w':=w') (v:=nmV V vs none) rfl rfl rfl (by simp[execOp,go_sem,v4,x1];try rfl) ?_;exact⟨p,q,P,Q,c.put (by rw[P2];decide) (by rw[N5];decide) (λe d=>by have:=R0 e d;omega) (5,10,nmV V vs none) (by unfold U3;simp),by rw[I6 (by decide),I6 (by decide)];exact l,by rw[I6 (by decide)];exact o,by rw[I6 (by decide)];exact r,by rw[I6 (by decide)];exact m,by rw[I6 (by decide)];exact n⟩
  ·have j:=J8 s rfl
   refine K5 11 (w':=w') (v:=.string nm) rfl rfl rfl (by simp[execOp,go_sem,f1];try rfl) ?_;exact⟨p,q,P,Q,c.put (by rw[P2];decide) (by rw[N5];decide) (λe d=>by have:=R0 e d;omega) (6,11,.string nm) (by unfold U3;simp),by rw[I6 (by decide),I6 (by decide)];exact l,by rw[I6 (by decide)];exact o,by rw[I6 (by decide)];exact r,by rw[I6 (by decide)];exact m,by rw[I6 (by decide)];exact n⟩
  ·have j:=J8 s rfl
   have g6:L.getD 6 false=true:=j ⟨6,.data⟩ (by simp) (by decide);have v6:=c.tb (6,11,.string nm) (by unfold U3;simp) g6;simp only at v6;refine K5 12 (w':=w'.alloc (.cells #[.string nm] 9)) (v:=slV (some w'.heap.size)) rfl rfl rfl (by simp[execOp,go_sem,slV,v6];try rfl) ?_;exact⟨some w'.heap.size,q,P,Q,(xQ (p':=some w'.heap.size) (q':=q) (P':=P) (Q':=Q) c (λh=>by rw[u]at h;cases h) (λ_=>rfl) (λ_=>rfl) (λ_=>rfl)).put (by rw[P2];decide) (by rw[N5];decide) (λe d=>by have:=R0 e d;omega) (7,12,slV (some w'.heap.size)) (by unfold U3;simp),by rw[I6 (by decide),I6 (by decide)];exact l.zm3,by rw[N6 (by omega)];rfl,by rw[I6 (by decide)];exact r,by rw[I6 (by decide)];exact m,by rw[I6 (by decide)];exact n⟩
  ·have j:=J8 s rfl
   have g5:L.getD 5 false=true:=j ⟨5,.data⟩ (by simp) (by decide);have v5:=c.tb (5,10,nmV V vs none) (by unfold U3;simp) g5;simp only at v5;have g7:L.getD 7 false=true:=j ⟨7,.data⟩ (by simp) (by decide);have v7:=c.tb (7,12,slV p) (by unfold U3;simp) g7;simp only at v7;have G:L.getD 21 false=false:=by
    cases H:L.getD 21 false with
    |false=>rfl
    |true=>have C:=M 21 _ rfl H ⟨8,.data⟩ (by simp) (by decide);rw[u]at C;cases C
   obtain rfl:P=none:=by rw[u]at m;cases P with|none=>rfl|some _=>cases m
   obtain⟨D,rfl⟩: ∃g,p=some g:=by rw[g7]at o;cases p with|none=>cases o|some g=>exact⟨g,rfl⟩
   refine zbq rfl (qt zbM rfl (.tmp 10) (.tmp 12) rfl b _ vs.length (qn vs) (yp v5) l.rn D 1 #[.string nm] (yp v7) (l.pb D rfl rfl).1 rfl (by simp[Value.oneCell']) (by omega) (G9 l.lt) ?_);intro x A w9 o1 k1 _ _;exact⟨some D,q,some (x,A),Q,(xQ (p':=some D) (q':=q) (P':=some (x,A)) (Q':=Q) c (λ_=>rfl) (λ_=>rfl) (λh=>by rw[u]at h;cases h) (λ_=>rfl)).put (by rw[P2];decide) (by rw[N5];decide) (λe d=>by have:=R0 e d;omega) (8,13,nmV V vs (some (x,A))) (by unfold U3;simp),by rw[I6 (by decide),I6 (by decide)];exact l.zpG G o1 k1,by rw[I6 (by decide)];exact o,by rw[I6 (by decide)];exact r,by rw[N6 (by omega)];rfl,by rw[I6 (by decide)];exact n⟩
  ·have j:=J8 s rfl
   refine K5 14 (w':=w') (v:=.pointer (some ⟨b,0,none⟩)) rfl rfl rfl (by simp[execOp,go_sem,O];try rfl) ?_;exact⟨p,q,P,Q,c.put (by rw[P2];decide) (by rw[N5];decide) (λe d=>by have:=R0 e d;omega) (9,14,.pointer (some ⟨b,0,none⟩)) (by unfold U3;simp),by rw[I6 (by decide),I6 (by decide)];exact l,by rw[I6 (by decide)];exact o,by rw[I6 (by decide)];exact r,by rw[I6 (by decide)];exact m,by rw[I6 (by decide)];exact n⟩
  ·have j:=J8 s rfl
   have g9:L.getD 9 false=true:=j ⟨9,.data⟩ (by simp) (by decide);have v9:=c.tb (9,14,.pointer (some ⟨b,0,none⟩)) (by unfold U3;simp) g9;simp only at v9;refine K5 15 (w':=w') (v:=.pointer (some ⟨b,0,none⟩)) rfl rfl rfl (by simp[execOp,go_sem,v9];try rfl) ?_;exact⟨p,q,P,Q,c.put (by rw[P2];decide) (by rw[N5];decide) (λe d=>by have:=R0 e d;omega) (10,15,.pointer (some ⟨b,0,none⟩)) (by unfold U3;simp),by rw[I6 (by decide),I6 (by decide)];exact l,by rw[I6 (by decide)];exact o,by rw[I6 (by decide)];exact r,by rw[I6 (by decide)];exact m,by rw[I6 (by decide)];exact n⟩
  ·have j:=J8 s rfl
   have b2:L.getD 10 false=true:=j ⟨10,.data⟩ (by simp) (by decide);have S:=c.tb (10,15,.pointer (some ⟨b,0,none⟩)) (by unfold U3;simp) b2;simp only at S;refine K5 16 (w':=w') (v:=.pointer (some ⟨b,2,none⟩)) rfl rfl rfl (by simp[execOp,go_sem,S];try rfl) ?_;exact⟨p,q,P,Q,c.put (by rw[P2];decide) (by rw[N5];decide) (λe d=>by have:=R0 e d;omega) (11,16,.pointer (some ⟨b,2,none⟩)) (by unfold U3;simp),by rw[I6 (by decide),I6 (by decide)];exact l,by rw[I6 (by decide)];exact o,by rw[I6 (by decide)];exact r,by rw[I6 (by decide)];exact m,by rw[I6 (by decide)];exact n⟩
  ·have j:=J8 s rfl
   have b3:L.getD 11 false=true:=j ⟨11,.data⟩ (by simp) (by decide);have T:=c.tb (11,16,.pointer (some ⟨b,2,none⟩)) (by unfold U3;simp) b3;simp only at T;have b4:L.getD 24 false=false:=by
    cases b5:L.getD 24 false with
    |false=>rfl
    |true=>have C:=M 24 _ rfl b5 ⟨18,.data⟩ (by simp) (by decide);have R:=M 18 _ rfl C ⟨12,.data⟩ (by simp) (by decide);rw[u]at R;cases R
   rw[b4,B5 (by decide)]at x2;refine K5 17 (w':=w') (v:=noV V vs none) rfl rfl rfl (by simp[execOp,go_sem,T,x2];try rfl) ?_;exact⟨p,q,P,Q,c.put (by rw[P2];decide) (by rw[N5];decide) (λe d=>by have:=R0 e d;omega) (12,17,noV V vs none) (by unfold U3;simp),by rw[I6 (by decide),I6 (by decide)];exact l,by rw[I6 (by decide)];exact o,by rw[I6 (by decide)];exact r,by rw[I6 (by decide)];exact m,by rw[I6 (by decide)];exact n⟩
  ·have j:=J8 s rfl
   refine K5 18 (w':=w') (v:=.pointer (some ⟨b,0,none⟩)) rfl rfl rfl (by simp[execOp,go_sem,O];try rfl) ?_;exact⟨p,q,P,Q,c.put (by rw[P2];decide) (by rw[N5];decide) (λe d=>by have:=R0 e d;omega) (13,18,.pointer (some ⟨b,0,none⟩)) (by unfold U3;simp),by rw[I6 (by decide),I6 (by decide)];exact l,by rw[I6 (by decide)];exact o,by rw[I6 (by decide)];exact r,by rw[I6 (by decide)];exact m,by rw[I6 (by decide)];exact n⟩
  ·have j:=J8 s rfl
   have b6:L.getD 13 false=true:=j ⟨13,.data⟩ (by simp) (by decide);have W:=c.tb (13,18,.pointer (some ⟨b,0,none⟩)) (by unfold U3;simp) b6;simp only at W;refine K5 19 (w':=w') (v:=.pointer (some ⟨b,0,none⟩)) rfl rfl rfl (by simp[execOp,go_sem,W];try rfl) ?_;exact⟨p,q,P,Q,c.put (by rw[P2];decide) (by rw[N5];decide) (λe d=>by have:=R0 e d;omega) (14,19,.pointer (some ⟨b,0,none⟩)) (by unfold U3;simp),by rw[I6 (by decide),I6 (by decide)];exact l,by rw[I6 (by decide)];exact o,by rw[I6 (by decide)];exact r,by rw[I6 (by decide)];exact m,by rw[I6 (by decide)];exact n⟩
  ·have j:=J8 s rfl
   have b7:L.getD 14 false=true:=j ⟨14,.data⟩ (by simp) (by decide);have X:=c.tb (14,19,.pointer (some ⟨b,0,none⟩)) (by unfold U3;simp) b7;simp only at X;refine K5 20 (w':=w') (v:=.pointer (some ⟨b,3,none⟩)) rfl rfl rfl (by simp[execOp,go_sem,X];try rfl) ?_;exact⟨p,q,P,Q,c.put (by rw[P2];decide) (by rw[N5];decide) (λe d=>by have:=R0 e d;omega) (15,20,.pointer (some ⟨b,3,none⟩)) (by unfold U3;simp),by rw[I6 (by decide),I6 (by decide)];exact l,by rw[I6 (by decide)];exact o,by rw[I6 (by decide)];exact r,by rw[I6 (by decide)];exact m,by rw[I6 (by decide)];exact n⟩
  ·have j:=J8 s rfl
   have b8:L.getD 15 false=true:=j ⟨15,.data⟩ (by simp) (by decide);have Y:=c.tb (15,20,.pointer (some ⟨b,3,none⟩)) (by unfold U3;simp) b8;simp only at Y;refine K5 21 (w':=w') (v:=.int .i64 f) rfl rfl rfl (by simp[execOp,go_sem,Y,x3];try rfl) ?_;exact⟨p,q,P,Q,c.put (by rw[P2];decide) (by rw[N5];decide) (λe d=>by have:=R0 e d;omega) (16,21,.int .i64 f) (by unfold U3;simp),by rw[I6 (by decide),I6 (by decide)];exact l,by rw[I6 (by decide)];exact o,by rw[I6 (by decide)];exact r,by rw[I6 (by decide)];exact m,by rw[I6 (by decide)];exact n⟩
  ·have j:=J8 s rfl
   have b9:L.getD 16 false=true:=j ⟨16,.data⟩ (by simp) (by decide);have Z:=c.tb (16,21,.int .i64 f) (by unfold U3;simp) b9;simp only at Z;refine K5 22 (w':=w'.alloc (.cells #[.int .i64 f] 3)) (v:=slV (some w'.heap.size)) rfl rfl rfl (by simp[execOp,go_sem,slV,Z];try rfl) ?_;exact⟨p,some w'.heap.size,P,Q,(xQ (p':=p) (q':=some w'.heap.size) (P':=P) (Q':=Q) c (λ_=>rfl) (λh=>by rw[u]at h;cases h) (λ_=>rfl) (λ_=>rfl)).put (by rw[P2];decide) (by rw[N5];decide) (λe d=>by have:=R0 e d;omega) (17,22,slV (some w'.heap.size)) (by unfold U3;simp),by rw[I6 (by decide),I6 (by decide)];exact l.zm5,by rw[I6 (by decide)];exact o,by rw[N6 (by omega)];rfl,by rw[I6 (by decide)];exact m,by rw[I6 (by decide)];exact n⟩
  ·have j:=J8 s rfl
   have c0:L.getD 12 false=true:=j ⟨12,.data⟩ (by simp) (by decide);have a1:=c.tb (12,17,noV V vs none) (by unfold U3;simp) c0;simp only at a1;have a2:L.getD 17 false=true:=j ⟨17,.data⟩ (by simp) (by decide);have a3:=c.tb (17,22,slV q) (by unfold U3;simp) a2;simp only at a3;have G:L.getD 24 false=false:=by
    cases H:L.getD 24 false with
    |false=>rfl
    |true=>have C:=M 24 _ rfl H ⟨18,.data⟩ (by simp) (by decide);rw[u]at C;cases C
   obtain rfl:Q=none:=by rw[u]at n;cases Q with|none=>rfl|some _=>cases n
   obtain⟨D,rfl⟩: ∃g,q=some g:=by rw[a2]at r;cases q with|none=>cases r|some g=>exact⟨g,rfl⟩
   refine zbq rfl (qt zbG rfl (.tmp 17) (.tmp 22) rfl b _ vs.length (qo vs) (yp a1) l.ra D 1 #[.int .i64 f] (yp a3) (l.qb D rfl rfl).1 rfl (by simp[Value.oneCell']) (by omega) (G9 l.lt) ?_);intro x A w9 o1 k1 _ _;exact⟨p,some D,P,some (x,A),(xQ (p':=p) (q':=some D) (P':=P) (Q':=some (x,A)) c (λ_=>rfl) (λ_=>rfl) (λ_=>rfl) (λh=>by rw[u]at h;cases h)).put (by rw[P2];decide) (by rw[N5];decide) (λe d=>by have:=R0 e d;omega) (18,23,noV V vs (some (x,A))) (by unfold U3;simp),by rw[I6 (by decide),I6 (by decide)];exact l.zpK G o1 k1,by rw[I6 (by decide)];exact o,by rw[I6 (by decide)];exact r,by rw[I6 (by decide)];exact m,by rw[N6 (by omega)];rfl⟩
  ·have j:=J8 s rfl
   have g0:L.getD 0 false=true:=j ⟨0,.data⟩ (by simp) (by decide);have v0:=c.tb (0,5,.pointer (some ⟨b,0,none⟩)) (by unfold U3;simp) g0;simp only at v0;refine K5 24 (w':=w') (v:=.pointer (some ⟨b,0,none⟩)) rfl rfl rfl (by simp[execOp,go_sem,v0];try rfl) ?_;exact⟨p,q,P,Q,c.put (by rw[P2];decide) (by rw[N5];decide) (λe d=>by have:=R0 e d;omega) (19,24,.pointer (some ⟨b,0,none⟩)) (by unfold U3;simp),by rw[I6 (by decide),I6 (by decide)];exact l,by rw[I6 (by decide)];exact o,by rw[I6 (by decide)];exact r,by rw[I6 (by decide)];exact m,by rw[I6 (by decide)];exact n⟩
  ·have j:=J8 s rfl
   have c3:L.getD 19 false=true:=j ⟨19,.data⟩ (by simp) (by decide);have a4:=c.tb (19,24,.pointer (some ⟨b,0,none⟩)) (by unfold U3;simp) c3;simp only at a4;refine K5 25 (w':=w') (v:=.pointer (some ⟨b,1,none⟩)) rfl rfl rfl (by simp[execOp,go_sem,a4];try rfl) ?_;exact⟨p,q,P,Q,c.put (by rw[P2];decide) (by rw[N5];decide) (λe d=>by have:=R0 e d;omega) (20,25,.pointer (some ⟨b,1,none⟩)) (by unfold U3;simp),by rw[I6 (by decide),I6 (by decide)];exact l,by rw[I6 (by decide)];exact o,by rw[I6 (by decide)];exact r,by rw[I6 (by decide)];exact m,by rw[I6 (by decide)];exact n⟩
  ·have j:=J8 s rfl
   have c4:L.getD 20 false=true:=j ⟨20,.data⟩ (by simp) (by decide);have a5:=c.tb (20,25,.pointer (some ⟨b,1,none⟩)) (by unfold U3;simp) c4;simp only at a5;have g8:L.getD 8 false=true:=j ⟨8,.data⟩ (by simp) (by decide);have v8:=c.tb (8,13,nmV V vs P) (by unfold U3;simp) g8;simp only at v8;obtain⟨⟨x,A⟩,rfl⟩: ∃g,P=some g:=by rw[g8]at m;cases P with|none=>cases m|some g=>exact⟨g,rfl⟩
   simp only[nmV]at v8;refine qU (w':=w'.setCell ⟨b,1,none⟩ (nmV V vs (some (x,A)))) rfl rfl rfl (by simp[execOp,go_sem,a5,v8,nmV,x1,y1];try rfl) ?_;exact⟨p,q,some (x,A),Q,c.skip 21 (λe d hh=>by have h:e.1∈(U3 b V vs nm f p q (some (x,A)) Q).map (·.1):=G7 d;rw[P2,hh]at h;revert h;decide),by rw[N6 (by omega),I6 (by decide)];exact l.stS,by rw[I6 (by decide)];exact o,by rw[I6 (by decide)];exact r,by rw[I6 (by decide)];exact m,by rw[I6 (by decide)];exact n⟩
  ·have j:=J8 s rfl
   have x:L.getD 1 false=true:=j ⟨1,.data⟩ (by simp) (by decide);have v1:=c.tb (1,6,.pointer (some ⟨b,0,none⟩)) (by unfold U3;simp) x;simp only at v1;refine K5 26 (w':=w') (v:=.pointer (some ⟨b,0,none⟩)) rfl rfl rfl (by simp[execOp,go_sem,v1];try rfl) ?_;exact⟨p,q,P,Q,c.put (by rw[P2];decide) (by rw[N5];decide) (λe d=>by have:=R0 e d;omega) (22,26,.pointer (some ⟨b,0,none⟩)) (by unfold U3;simp),by rw[I6 (by decide),I6 (by decide)];exact l,by rw[I6 (by decide)];exact o,by rw[I6 (by decide)];exact r,by rw[I6 (by decide)];exact m,by rw[I6 (by decide)];exact n⟩
  ·have j:=J8 s rfl
   have c5:L.getD 22 false=true:=j ⟨22,.data⟩ (by simp) (by decide);have a6:=c.tb (22,26,.pointer (some ⟨b,0,none⟩)) (by unfold U3;simp) c5;simp only at a6;refine K5 27 (w':=w') (v:=.pointer (some ⟨b,2,none⟩)) rfl rfl rfl (by simp[execOp,go_sem,a6];try rfl) ?_;exact⟨p,q,P,Q,c.put (by rw[P2];decide) (by rw[N5];decide) (λe d=>by have:=R0 e d;omega) (23,27,.pointer (some ⟨b,2,none⟩)) (by unfold U3;simp),by rw[I6 (by decide),I6 (by decide)];exact l,by rw[I6 (by decide)];exact o,by rw[I6 (by decide)];exact r,by rw[I6 (by decide)];exact m,by rw[I6 (by decide)];exact n⟩
  ·have j:=J8 s rfl
   have c6:L.getD 23 false=true:=j ⟨23,.data⟩ (by simp) (by decide);have a7:=c.tb (23,27,.pointer (some ⟨b,2,none⟩)) (by unfold U3;simp) c6;simp only at a7;have a8:L.getD 18 false=true:=j ⟨18,.data⟩ (by simp) (by decide);have I:=c.tb (18,23,noV V vs Q) (by unfold U3;simp) a8;simp only at I;obtain⟨⟨x,A⟩,rfl⟩: ∃g,Q=some g:=by rw[a8]at n;cases Q with|none=>cases n|some g=>exact⟨g,rfl⟩
   simp only[noV]at I;refine qU (w':=w'.setCell ⟨b,2,none⟩ (noV V vs (some (x,A)))) rfl rfl rfl (by simp[execOp,go_sem,a7,I,noV,x2,y2];try rfl) ?_;exact⟨p,q,P,some (x,A),c.skip 24 (λe d hh=>by have h:e.1∈(U3 b V vs nm f p q P (some (x,A))).map (·.1):=G7 d;rw[P2,hh]at h;revert h;decide),by rw[I6 (by decide),N6 (by omega)];exact l.stI,by rw[I6 (by decide)];exact o,by rw[I6 (by decide)];exact r,by rw[I6 (by decide)];exact m,by rw[I6 (by decide)];exact n⟩
 ·rintro L a w' z ⟨p,q,P,Q,c,l,o,r,m,n⟩
  rw[z 8 (by decide)]at m;rw[z 18 (by decide)]at n;rw[z 21 (by decide),z 24 (by decide)]at l;obtain⟨⟨x,A⟩,rfl⟩: ∃g,P=some g:=by cases P with|none=>cases m|some g=>exact⟨g,rfl⟩
  obtain⟨⟨g2,c2⟩,rfl⟩: ∃g,Q=some g:=by cases Q with|none=>cases n|some g=>exact⟨g,rfl⟩
  have E:=zbE (lo:=5) (hi:=27) c.df c.az (λk hk=>c.un k λe d=>by have:=R0 e d;omega);obtain⟨y,hy⟩: ∃y:Nat->Value,a=⟨(List.range' 5 23).foldl (λt k=>t.setIfInBounds k (y k)) K.tmps,K.defers⟩:=⟨_,E⟩;clear E c z o r m n e0 e1 ez;subst hy;have B:=N.out;clear N;subst B;have hD:=l.done HF.out;have x3:=x6 hD.1 3;have y3:=B4 hD.1 3;have J:=qh hD.2;clear hD l HF;simp only[List.range',List.foldl];go_simp
  go_upto_region 3 with(fail)
  clear x3 y3;generalize World.setCell _ _ _=w9 at J|-;have x3:=(jq J.out.st).1.2.2.2.1
  go_wp2_with fail
  go_ret;exact⟨by simp,_,J.out⟩
section
variable {us:List Fn}{n m:Nat}{vs:P4}{nm:ByteArray}{a:Ex}{J0 M9:List Sm}{p:Int}{LA LB LE:List zv}{m1 m2:Nat}
theorem sm1(b:(O7 us vs n 0 a).map Prod.fst=LA):(Z9 us n vs m (.mk 1 nm a J0 M9 p)).1.map Prod.fst=LA++[(3,(m:Int))]:=by rw[Z9];simp[b]
theorem zpj:(Z9 us n vs m (.mk 1 nm a J0 M9 p)).2=(vs++[(nm,(m:Int))],m+1):=by rw[Z9];simp
theorem sm2(b:(O7 us vs n 0 a).map Prod.fst=LA):(Z9 us n vs m (.mk 2 nm a J0 M9 p)).1.map Prod.fst=LA++[(3,zL vs nm)]:=by rw[Z9];simp[b]
theorem zo7:(Z9 us n vs m (.mk 2 nm a J0 M9 p)).2=(vs,m):=by rw[Z9];simp
theorem sm5(b:(O7 us vs n 0 a).map Prod.fst=LA):(Z9 us n vs m (.mk 5 nm a J0 M9 p)).1.map Prod.fst=LA++[(18,0)]:=by rw[Z9];simp[b]
theorem zpx:(Z9 us n vs m (.mk 5 nm a J0 M9 p)).2=(vs,m):=by rw[Z9];simp
theorem sm6(b:(O7 us vs n 0 a).map Prod.fst=LA):(Z9 us n vs m (.mk 6 nm a J0 M9 p)).1.map Prod.fst=LA++[(19,0)]:=by rw[Z9];simp[b]
theorem zo9:(Z9 us n vs m (.mk 6 nm a J0 M9 p)).2=(vs,m):=by rw[Z9];simp
theorem sm7(b:(O7 us vs n 0 a).map Prod.fst=LA):(Z9 us n vs m (.mk 7 nm a J0 M9 p)).1.map Prod.fst=LA++[(4,0)]:=by rw[Z9];simp[b]
theorem zpp:(Z9 us n vs m (.mk 7 nm a J0 M9 p)).2=(vs,m):=by rw[Z9];simp
theorem QG(b:(O7 us vs n 0 a).map Prod.fst=LA):(O7 us vs n 0 a).length=LA.length:=by rw[<-b,C6]
theorem yH{x:qm×Nat}(b:x.1.map Prod.fst=LB):x.1.length=LB.length:=by rw[<-b,C6]
theorem sm4(b:(O7 us vs n 0 a).map Prod.fst=LA)(c:(X9 us (n+LA.length+1) vs m J0).1.map Prod.fst=LB):
 (Z9 us n vs m (.mk 4 nm a J0 M9 p)).1.map Prod.fst=LA++(16,((n+LA.length+LB.length+2:Nat):Int))::(LB++[(15,(n:Int))]):=by
 rw[Z9];simp only[if_true];rw[QG b,yH c];simp only[List.map_append,List.map_cons,List.map_nil,b,c]
theorem zpi(b:(O7 us vs n 0 a).map Prod.fst=LA):(Z9 us n vs m (.mk 4 nm a J0 M9 p)).2=(vs,(X9 us (n+LA.length+1) vs m J0).2):=by
 rw[Z9];simp only[if_true];rw[QG b]
theorem sm3(b:(O7 us vs n 0 a).map Prod.fst=LA)(c:(X9 us (n+LA.length+1) vs m J0).1.map Prod.fst=LB):
 (Z9 us n vs m (.mk 3 nm a J0 [] p)).1.map Prod.fst=LA++(16,((n+LA.length+LB.length+1:Nat):Int))::LB:=by
 rw[Z9];simp only[List.isEmpty_nil,if_true];rw[B5 (by decide),B5 (by decide),B5 (by decide),QG b,yH c];simp only[List.map_append,List.map_cons,b,c]
theorem zpn(b:(O7 us vs n 0 a).map Prod.fst=LA):(Z9 us n vs m (.mk 3 nm a J0 [] p)).2=(vs,(X9 us (n+LA.length+1) vs m J0).2):=by
 rw[Z9];simp only[List.isEmpty_nil,if_true];rw[B5 (by decide),B5 (by decide),B5 (by decide),QG b]
theorem zo8(e:M9.isEmpty=false)(b:(O7 us vs n 0 a).map Prod.fst=LA)(c:(X9 us (n+LA.length+1) vs m J0).1.map Prod.fst=LB)(f:(X9 us (n+LA.length+1) vs m J0).2=m1)(d:(X9 us (n+LA.length+LB.length+2) vs m1 M9).1.map Prod.fst=LE):
 (Z9 us n vs m (.mk 3 nm a J0 M9 p)).1.map Prod.fst=LA++(16,((n+LA.length+LB.length+2:Nat):Int))::(LB++(15,((n+LA.length+LB.length+2+LE.length:Nat):Int))::LE):=by
 rw[Z9];simp only[e,if_true];rw[B5 (by decide),B5 (by decide),B5 (by decide),B5 (by decide),QG b,yH c,f,yH d];simp only[List.map_append,List.map_cons,b,c,d]
theorem znO(b:M9.isEmpty=false)(c:(O7 us vs n 0 a).map Prod.fst=LA)(d:(X9 us (n+LA.length+1) vs m J0).1.map Prod.fst=LB)(e:(X9 us (n+LA.length+1) vs m J0).2=m1):
 (Z9 us n vs m (.mk 3 nm a J0 M9 p)).2=(vs,(X9 us (n+LA.length+LB.length+2) vs m1 M9).2):=by
 rw[Z9];simp only[b,if_true];rw[B5 (by decide),B5 (by decide),B5 (by decide),B5 (by decide),QG c,yH d,e]
end
theorem zu.eqV{w0 w:World}{c:Nat}{U:Value}{V:Mv}{vs:P4}{b:Nat}{ops ops':List zv}{us:List Fn}{F:Nat->Prop}(h:zu w0 w c U V vs b ops us F)(z:P4×Nat)(e:z=(vs,b))(d:ops=ops'):zu w0 w c U V z.1 z.2 ops' us F:=by subst e d;exact h
theorem zkI(us:List Fn)(left:Nat)(ib:1<=left->CmB us (left-1)):CmS us left:=by
 intro s Aa Ab Ae ca cb ce F w o Z c0 V vs d b Q L f0 m' r c9 ht G S b0 b1 b2 a5 h;cases s with|mk k nm a J0 M9 p=>
 obtain⟨b3,a6,b4,a0,b5⟩:=Yq c9;obtain⟨⟨ty,d0,d9⟩,h2,h3,h4,-,-⟩:=Yy ht;simp only[Sm.I9,Sm.J2,Sm.a,Sm.J0,Sm.M9,Sm.pos]at a6 b4 a0 b5 b0 b1 b2|-;have a7:=G.m64;have b6:=G.el;have b7:vs.length<=1000:=by have:=H0 List.length G.ok.1;simp only[C6,List.length_reverse]at this;omega
 have hv: ∀s,L5 L s≠0->s∈vs.map Prod.fst:=λs hs=>by rw[G.ok.1];exact List.mem_reverse.2 (List.mem_map.2 ⟨_,Qd hs,rfl⟩)
 have e0:Hid (k=2->nm∈vs.map Prod.fst):=qh (λe=>hv nm (h2 e));have f1:=qh h3;have f2:=qh h4;have e1:b.length+5*Qn a+5*qL J0+5*qL M9+5<=400000000:=by rw[smN]at a5;omega
 have h0:=h.al (.cells #[.int .i64 k,.string nm,.int .i64 a.I9,.int .i64 a.n,.string a.K0,.slice Aa a.args.length ca,.int .i64 a.pos,.slice Ab J0.length cb,.slice Ae M9.length ce,.int .i64 p] 188);have HX:=qh (A5 w (.cells #[.int .i64 k,.string nm,.int .i64 a.I9,.int .i64 a.n,.string a.K0,.slice Aa a.args.length ca,.int .i64 a.pos,.slice Ab J0.length cb,.slice Ae M9.length ce,.int .i64 p] 188))
 have CX:Hid (∀(W:World),zu w W o (.slice Z us.length c0) V vs d b us F->Calls prog 225 #[.pointer (some ⟨o,0,none⟩),.agg #[.int .i64 a.I9,.int .i64 a.n,.string a.K0,.slice Aa a.args.length ca,.int .i64 a.pos]] W λe w'=>e=.returned (.tuple #[])/\ ∃V',zu W w' o (.slice Z us.length c0) V' vs d (b++(O7 us vs b.length 0 a).map Prod.fst) us F):=
  qh (λW hW=>zoq us (left-1) a Aa ca F W o Z c0 V vs d b 0 L ty b4 d0 hv b7 S (h.args hW.M1 b0) (by omega) hW.Z8)
 have CB:Hid (k=3\/k=4-> ∀(W:World)(V':Mv)(f:List zv),zu w W o (.slice Z us.length c0) V' vs d f us F->f.length<=b.length+5*Qn a+1->Calls prog 144 #[.pointer (some ⟨o,0,none⟩),.slice Ab J0.length cb] W λe w'=>e=.returned (.tuple #[])/\ ∃b8,zu W w' o (.slice Z us.length c0) b8 vs (X9 us f.length vs d J0).2 (f++(X9 us f.length vs d J0).1.map Prod.fst) us F):=
  qh (λX W V' f hW hl=>by
   obtain⟨m1,Y,J⟩: ∃m1 Y,zS us Q J0 L d=.ok (m1,Y):=by
    rcases X with X|X
    ·obtain⟨m1,Y,r2,J,-⟩:=h3 X;exact⟨m1,Y,J⟩
    ·obtain⟨Y,J⟩:=h4 X;exact⟨m',Y,J⟩
   exact ib b3 J0 Ab cb F W o Z c0 V' vs d f Q L m1 Y (a0 X) J G S (h.zb2 hW.M1 b1) (by omega) hW.Z8)
 have CE:Hid (k=3-> ∀(W:World)(V':Mv)(f:List zv)(n m1:Nat),(X9 us n vs d J0).2=m1->zu w W o (.slice Z us.length c0) V' vs m1 f us F->f.length<=b.length+5*Qn a+5*qL J0+2->Calls prog 144 #[.pointer (some ⟨o,0,none⟩),.slice Ae M9.length ce] W λe w'=>e=.returned (.tuple #[])/\ ∃b8,zu W w' o (.slice Z us.length c0) b8 vs (X9 us f.length vs m1 M9).2 (f++(X9 us f.length vs m1 M9).1.map Prod.fst) us F):=
  qh (λX W V' f n m1 a1 hW hl=>by
   obtain⟨e2,Y,r2,J,e3⟩:=h3 X;have hq:=xD (us:=us) (out:=Q) J0 (left-1) n vs L d e2 Y (a0 (.inl X)) J;rw[a1]at hq;subst hq;have b9:=qM us Q J0 L d m1 Y J;exact ib b3 M9 Ae ce F W o Z c0 V' vs m1 f Q L m' r2 (b5 X) e3 ⟨b9.2 G.m64,C1 G.el b9.1,G.ok.1,λx hx=>by have:=G.ok.2 x hx;have:=b9.1;omega⟩ S (h.zb2 hW.M1 b2) (by omega) hW.Z8)
 have HF:=qh h0;have f3:=qh S;have d1:=qh b7;have HM:=qh a7;obtain⟨LA,a2⟩: ∃LA,(O7 us vs b.length 0 a).map Prod.fst=LA:=⟨_,rfl⟩;rw[a2]at CX;have D:=qh a2;have c1:=yG (us:=us) (vs:=vs) a b.length 0;rw[QG a2]at c1;obtain⟨LB,c2⟩: ∃LB,(X9 us (b.length+LA.length+1) vs d J0).1.map Prod.fst=LB:=⟨_,rfl⟩;have R:=qh c2;have c3:=xS (us:=us) J0 (b.length+LA.length+1) d vs;rw[yH c2]at c3;obtain⟨m1,a1⟩: ∃m1,(X9 us (b.length+LA.length+1) vs d J0).2=m1:=⟨_,rfl⟩;have M:=qh a1;obtain⟨LE,c5⟩: ∃LE,(X9 us (b.length+LA.length+LB.length+2) vs m1 M9).1.map Prod.fst=LE:=⟨_,rfl⟩;have d2:=qh c5;have d3:=xS (us:=us) M9 (b.length+LA.length+LB.length+2) m1 vs;rw[yH c5]at d3;have i:Hid (b.length+LA.length+LB.length+LE.length+5<=400000000/\LA.length<=5*Qn a/\LB.length<=5*qL J0):=qh ⟨by omega,c1,c3⟩;have e4:k=1\/k=2\/k=3\/k=4\/k=5\/k=6\/k=7:=by omega
 clear h0 h G S b0 b1 b2 a5 c9 ht b3 a6 b4 a0 b5 d0 d9 h2 h3 h4 a7 b6 b7 hv e1 ib a2 c1 c2 c3 a1 c5 d3
 by_cases h4:k=4
 ·subst h4
  go_enter func192,ntmps192
  go_upto_region 1 with(fail)
  generalize w.alloc _=w1 at HX HF|-;generalize w.heap.size=bx at HX|-;obtain⟨⟨q,t,u,v,y,z,A,B,j,C⟩,-⟩:=J5 HX.out;obtain⟨⟨-,-,-,-,c4⟩,-⟩:=jq HF.out.st
  go_wp2_with fail
  refine(CX.out w1 HF.out).mono ?_;rintro e w2 ⟨rfl,V2,c⟩;have N:=qh (c.yz HX.out (by decide) (by decide) (by decide) (by decide));have E:=qh (HF.out.next c);clear c;clear c4;clear q t u v y z A B j C;obtain⟨⟨q,t,u,v,y,z,A,B,j,C⟩,-⟩:=J5 N.out
  go_wp2_with fail
  refine(qy 16 0 F _ o _ V2 vs d _ us (by have:=i.out;simp only[A9,A8,B1];omega) E.out.Z8).mono ?_;rintro e w3 ⟨rfl,V3,c⟩;have I:=qh (c.yz N.out (by decide) (by decide) (by decide) (by decide));have g:=qh (E.out.next c);clear c;clear q t u v y z A B j C;obtain⟨⟨q,t,u,v,y,z,A,B,j,C⟩,-⟩:=J5 I.out;obtain⟨nP,O⟩: ∃nP:Nat,(b++LA).length=nP:=⟨_,rfl⟩;have P:=qh O;rw[O];clear O;have c6:=qh (CB.out (by simp) w3 V3 _ g.out (by have:=i.out;simp only[A9,A8,B1];omega))
  go_wp2_with fail
  refine c6.out.mono ?_;rintro e w4 ⟨rfl,V4,c⟩;rw[show(b++LA++[(16,0)]:List zv).length=b.length+LA.length+1 from by simp only[A9,A8,B1]<;>omega,R.out,M.out]at c;have T:=qh (c.yz I.out (by decide) (by decide) (by decide) (by decide));have H:=qh (g.out.next c);clear c;clear q t u v y z A B j C;obtain⟨⟨q,t,u,v,y,z,A,B,j,C⟩,-⟩:=J5 T.out
  go_wp2_with fail
  refine(qy 15 (b.length:Int) F _ o _ V4 vs m1 _ us (by have:=i.out;simp only[A9,A8,B1];omega) H.out.Z8).mono ?_;rintro e w5 ⟨rfl,V5,c⟩;have a3:=qh (c.yz T.out (by decide) (by decide) (by decide) (by decide));have U:=qh (H.out.next c);clear c;clear q t u v y z A B j C;obtain⟨⟨q,t,u,v,y,z,A,B,j,C⟩,-⟩:=J5 a3.out;have K:=qh (U.out.eqO (ops':=(b++LA)++(16,0)::(LB++[(15,(b.length:Int))])) (by simp))
  go_wp2_with fail
  refine(JZ nP 16 0 F _ o _ V5 vs m1 _ us (by rw[<-P.out];simp) (by have:=i.out;simp only[A9,A8,B1];omega) K.out.Z8).mono ?_;rintro e w6 ⟨rfl,c⟩;rw[<-P.out,ZZ]at c;have a4:=qh (K.out.next c);clear c
  go_wp2_with fail
  (try simp only[Exit.inBlock,Exit.then]);refine E9 (results_none rfl _ _ _) rfl ?_
  exact⟨rfl,V5,a4.out.eqV _ ((zpi D.out).trans (by rw[M.out])) (by
   rw[sm4 D.out R.out];rw[show(((b++LA)++(16,0)::(LB++[(15,(b.length:Int))]):List zv).length:Int)=((b.length+LA.length+LB.length+2:Nat):Int) from by congr 1;simp only[A9,A8,B1];omega];rw[B9])⟩
 ·have m4:(k==4)=false:=by simpa using h4
  go_enter func192,ntmps192
  go_upto_region 1 with(fail)
  generalize w.alloc _=w1 at HX HF|-;generalize w.heap.size=bx at HX|-;obtain⟨⟨q,t,u,v,y,z,A,B,j,C⟩,-⟩:=J5 HX.out
  go_wp2_with fail
  refine(CX.out w1 HF.out).mono ?_;rintro e w2 ⟨rfl,V2,c⟩;have N:=qh (c.yz HX.out (by decide) (by decide) (by decide) (by decide));have E:=qh (HF.out.next c);clear c;clear q t u v y z A B j C;obtain⟨⟨q,t,u,v,y,z,A,B,j,C⟩,-⟩:=J5 N.out
  rcases e4 with rfl|rfl|rfl|rfl|rfl|rfl|rfl
  ·go_wp2_with fail
   refine(zkT nm F _ o _ V2 vs d _ us d1.out (by have:=HM.out;omega) E.out.Z8).mono ?_;rintro e w3 ⟨rfl,V3,c⟩;have I:=qh (c.yz N.out (by decide) (by decide) (by decide) (by decide));have g:=qh (E.out.next c);clear c;clear q t u v y z A B j C;obtain⟨⟨q,t,u,v,y,z,A,B,j,C⟩,-⟩:=J5 I.out
   go_wp2_with fail
   refine(qy 3 d F _ o _ V3 _ _ _ us (by have:=i.out;simp only[A9,A8,B1];omega) g.out.Z8).mono ?_;rintro e w4 ⟨rfl,V4,c⟩;have H:=qh (g.out.next c);clear c
   go_wp2_with fail
   go_end0;exact⟨rfl,V4,H.out.eqV _ zpj (by rw[sm1 D.out,B9])⟩
  ·go_wp2_with fail
   refine(zij nm F _ o _ V2 vs d _ us (e0.out trivial) d1.out E.out.Z8).mono ?_;rintro e w3 ⟨rfl,c⟩;have I:=qh (c.yz N.out (by decide) (by decide) (by decide) (by decide));have g:=qh (E.out.next c);clear c;clear q t u v y z A B j C;obtain⟨⟨q,t,u,v,y,z,A,B,j,C⟩,-⟩:=J5 I.out
   go_wp2_with fail
   refine(qy 3 (zL vs nm) F _ o _ V2 _ _ _ us (by have:=i.out;simp only[A9,A8,B1];omega) g.out.Z8).mono ?_;rintro e w4 ⟨rfl,V4,c⟩;have H:=qh (g.out.next c);clear c
   go_wp2_with fail
   go_end0;exact⟨rfl,V4,H.out.eqV _ zo7 (by rw[sm2 D.out,B9])⟩
  ·go_wp2_with fail
   refine(qy 16 0 F _ o _ V2 vs d _ us (by have:=i.out;simp only[A9,A8,B1];omega) E.out.Z8).mono ?_;rintro e w3 ⟨rfl,V3,c⟩;have I:=qh (c.yz N.out (by decide) (by decide) (by decide) (by decide));have g:=qh (E.out.next c);clear c;clear q t u v y z A B j C;obtain⟨⟨q,t,u,v,y,z,A,B,j,C⟩,-⟩:=J5 I.out;obtain⟨nP,O⟩: ∃nP:Nat,(b++LA).length=nP:=⟨_,rfl⟩;have P:=qh O;rw[O];clear O;have c6:=qh (CB.out (by simp) w3 V3 _ g.out (by have:=i.out;simp only[A9,A8,B1];omega))
   go_wp2_with fail
   refine c6.out.mono ?_;rintro e w4 ⟨rfl,V4,c⟩;rw[show(b++LA++[(16,0)]:List zv).length=b.length+LA.length+1 from by simp only[A9,A8,B1]<;>omega,R.out,M.out]at c;have T:=qh (c.yz I.out (by decide) (by decide) (by decide) (by decide));have H:=qh (g.out.next c);clear c;clear q t u v y z A B j C;obtain⟨⟨q,t,u,v,y,z,A,B,j,C⟩,-⟩:=J5 T.out
   by_cases hz:M9=[]
   ·subst hz
    have a8:=qh (H.out.eqO (ops':=(b++LA)++(16,0)::LB) (by simp));simp only[B1]at j
    go_wp2_with fail
    refine(JZ nP 16 0 F _ o _ V4 vs m1 _ us (by rw[<-P.out];simp) (by have:=i.out;simp only[A9,A8,B1];omega) a8.out.Z8).mono ?_;rintro e w5 ⟨rfl,c⟩;rw[<-P.out,ZZ]at c;have U:=qh (a8.out.next c);clear c
    go_wp2_with fail
    (try simp only[Exit.inBlock,Exit.then]);refine E9 (results_none rfl _ _ _) rfl ?_
    exact⟨rfl,V4,U.out.eqV _ ((zpn D.out).trans (by rw[M.out])) (by
     rw[sm3 D.out R.out];rw[show(((b++LA)++(16,0)::LB:List zv).length:Int)=((b.length+LA.length+LB.length+1:Nat):Int) from by congr 1;simp only[A9,A8];omega];rw[B9])⟩
   ·have d4:M9.isEmpty=false:=by cases M9 with|nil=>exact H9 rfl hz|cons x l=>rfl
    have f4:((M9.length:Int)==0)=false:=by cases M9 with|nil=>exact H9 rfl hz|cons x l=>simp;omega
    have d5:=qh d4;clear d4 hz
    go_wp2_with fail
    refine(qy 15 0 F _ o _ V4 vs m1 _ us (by have:=i.out;simp only[A9,A8,B1];omega) H.out.Z8).mono ?_;rintro e w5 ⟨rfl,V5,c⟩;have a3:=qh (c.yz T.out (by decide) (by decide) (by decide) (by decide));have U:=qh (H.out.next c);clear c;clear q t u v y z A B j C;obtain⟨⟨q,t,u,v,y,z,A,B,j,C⟩,-⟩:=J5 a3.out;obtain⟨nQ,c7⟩: ∃nQ:Nat,(b++LA++[(16,0)]++LB).length=nQ:=⟨_,rfl⟩;have e5:Hid (nQ=b.length+LA.length+LB.length+1):=qh (by rw[<-c7];simp only[A9,A8,B1]<;>omega);rw[c7];clear c7;have K:=qh (U.out.eqO (ops':=(b++LA)++(16,0)::(LB++[(15,0)])) (by simp))
    go_wp2_with fail
    refine(JZ nP 16 0 F _ o _ V5 vs m1 _ us (by rw[<-P.out];simp) (by have:=i.out;simp only[A9,A8,B1];omega) K.out.Z8).mono ?_;rintro e w6 ⟨rfl,c⟩;rw[<-P.out,ZZ]at c;have d6:=qh (c.yz a3.out (by decide) (by decide) (by decide) (by decide));have a4:=qh (K.out.next c);clear c;clear q t u v y z A B j C;obtain⟨⟨q,t,u,v,y,z,A,B,j,C⟩,-⟩:=J5 d6.out;have e6:=qh (CE.out trivial w6 V5 _ _ m1 M.out a4.out (by have:=i.out;simp only[A9,A8,B1];omega))
    go_wp2_with fail
    refine e6.out.mono ?_;rintro e w7 ⟨rfl,V7,c⟩;rw[show(b++LA++(16,((b++LA++(16,0)::(LB++[(15,0)]):List zv).length:Int))::(LB++[(15,0)]):List zv).length=b.length+LA.length+LB.length+2 from by simp only[A9,A8,B1]<;>omega,d2.out]at c;have e7:=qh (c.yz d6.out (by decide) (by decide) (by decide) (by decide));have d7:=qh (a4.out.next c);clear c;clear q t u v y z A B j C;obtain⟨⟨q,t,u,v,y,z,A,B,j,C⟩,-⟩:=J5 e7.out;obtain⟨t1,c8⟩: ∃t1:Nat,((b++LA)++(16,0)::(LB++[(15,0)]):List zv).length=t1:=⟨_,rfl⟩;have e8:Hid (t1=b.length+LA.length+LB.length+2):=qh (by rw[<-c8];simp only[A9,A8,B1]<;>omega);rw[c8]at d7;clear c8;have a9:=qh (d7.out.eqO (ops':=((b++LA)++(16,(t1:Int))::LB)++(15,0)::LE) (by simp));have d8:Hid (((b++LA)++(16,(t1:Int))::LB:List zv).length=nQ):=qh (by rw[e5.out];simp only[A9,A8,B1]<;>omega)
    go_wp2_with fail
    refine(JZ nQ 15 0 F _ o _ V7 vs _ _ us (by rw[<-d8.out];simp) (by have:=i.out;simp only[A9,A8,B1];omega) a9.out.Z8).mono ?_;rintro e w8 ⟨rfl,c⟩;rw[<-d8.out,ZZ]at c;have e9:=qh (a9.out.next c);clear c
    go_wp2_with fail
    go_end0;exact⟨rfl,V7,e9.out.eqV _ (znO d5.out D.out R.out M.out) (by
     rw[zo8 d5.out D.out R.out M.out d2.out];rw[show((((b++LA)++(16,(t1:Int))::LB)++(15,0)::LE:List zv).length:Int)=((b.length+LA.length+LB.length+2+LE.length:Nat):Int) from by congr 1;simp only[A9,A8];omega,e8.out];simp only[B9,B6])⟩
  ·exact H9 rfl h4
  all_goals
   go_wp2_with fail
   refine(qy _ 0 F _ o _ V2 vs d _ us (by have:=i.out;simp only[A9,A8,B1];omega) E.out.Z8).mono ?_;rintro e w3 ⟨rfl,V3,c⟩;have g:=qh (E.out.next c);clear c
   go_wp2_with fail
   go_end0
   first
    |exact⟨rfl,V3,g.out.eqV _ zpx (by rw[sm5 D.out,B9])⟩
    |exact⟨rfl,V3,g.out.eqV _ zo9 (by rw[sm6 D.out,B9])⟩
    |exact⟨rfl,V3,g.out.eqV _ zpp (by rw[sm7 D.out,B9])⟩
theorem zn5(us): ∀left,CmB us left:=by
 intro left
 induction left with
 |zero=>exact zkV us 0 (zkI us 0 (λh=>H9 h (by omega)))
 |succ left b=>exact zkV us (left+1) (zkI us (left+1) (λ_=>b))
def Xw(q r:Addr)(w:World):
 CallsD prog 61 #[.pointer (some q),.pointer (some r)] .returning w λe a w'=>e=.returned (.tuple #[])/\a=.returning/\w'=w:=by
 refine callsD_of_wpS func61 rfl λb d c=>?_
 apply wpS_seq;apply wpS_region;simp[wpOpsS,go_sem,recoverD,c,ntmps61,Exit.thenS];apply wpS_seq;apply wpS_region;simp[wpOpsS,go_sem,Exit.thenS];refine wpS_cond (t:=false) (by simp[Act.eval,Array.replicate]) ?_;simp only[C2,if_false];refine wpS_of_wp (wp_skip ?_);cases b
 simp_all[bodyPostS,results,Tryz.results61]
def yL(bp be:Nat)(B C x c:Int)(d:List PanicEntry)(w)(o:w.heap[bp]?=some (.cells #[.int .i64 B] 3 (0,0)))(p:w.heap[be]?=some (.cells #[.int .i64 C] 25 (0,0)))(O:bp<be):
 CallsD prog 61 #[.pointer (some ⟨bp,0,none⟩),.pointer (some ⟨be,0,none⟩)] (.panicking ({v:=.iface 123 (.agg #[.int .i64 x,.int .i64 c]),recovered:=false}::d)) w λe J w'=>
  e=.returned (.tuple #[])/\J=.panicking ({v:=.iface 123 (.agg #[.int .i64 x,.int .i64 c]),recovered:=true}::d)/\Below bp w w'/\w'.heap[bp]?=some (.cells #[.int .i64 x] 3 (0,0))/\w'.heap[be]?=some (.cells #[.int .i64 c] 25 (0,0)):=by
 have g: ∀(v:Value)(w:World),(Instr.typeAssert (.iface 123 v) 20 123 true).run prog w=.ok (.tuple #[v,.bool true]) w:=λv w=>by
  simp[Instr.typeAssert,run_underlying underlying123]
 have D: ∀(a b:Value),(#[a,b]++Array.replicate (Tryz.f61.ntmps-(#[a,b]:Array Value).size) undef)= #[a,b,undef,undef,undef,undef,undef,undef,undef,undef,undef,undef,undef,undef,undef,undef,undef,undef,undef,undef]:=λa b=>by
  rw[ntmps61];apply Array.ext';simp
 refine callsD_of_wpS func61 rfl λK P i=>?_
 rw[D];apply wpS_seq;apply wpS_region;simp[wpOpsS,go_sem,recoverD,i,Exit.thenS];apply wpS_seq;apply wpS_region;simp[wpOpsS,go_sem,Exit.thenS];refine wpS_cond (t:=true) (by simp[Act.eval]) ?_;simp only[if_true];apply wpS_seq;apply wpS_region;simp[wpOpsS,go_sem,Exit.thenS,g];obtain⟨L,f⟩: ∃Q:Exit->Act->World->Prop,∀e q w',Q e q w'↔(e=.normal/\q.defers=[]/\Below bp w w'/\w'.heap[bp]?=some (.cells #[.int .i64 x] 3 (0,0))/\w'.heap[be]?=some (.cells #[.int .i64 c] 25 (0,0))):=⟨_,λ_ _ _=>Iff.rfl⟩;refine wpS_of_wp (wp_mono (Q:=L) ?_ ?_)
 ·clear i g D
  have r:=qh f;clear f;have s:=I5 o;have y:=I5 p;have M:=qh o;have N:=qh p;clear o p
  go_upto_region 5 with(fail)
  have E:=qh ((x8 bp w).alloc (by omega) (.cells #[.int .i64 x,.int .i64 c] 123));have l:=(C4 w (.cells #[.int .i64 x,.int .i64 c] 123) s).trans M.out;have m:=(C4 w (.cells #[.int .i64 x,.int .i64 c] 123) y).trans N.out;have n:=A5 w (.cells #[.int .i64 x,.int .i64 c] 123);generalize w.alloc _=W at E l m n|-;have R:W.cell? ⟨bp,0,none⟩=some (.int .i64 B):=x6 l 0;have S:=B4 l 0;have T:W.cell? ⟨be,0,none⟩=some (.int .i64 C):=x6 m 0;have U:=B4 m 0;have X:W.cell? ⟨w.heap.size,0,none⟩=some (.int .i64 x):=x6 n 0;have Y:W.cell? ⟨w.heap.size,1,none⟩=some (.int .i64 c):=x6 n 1;have F:bp≠be:=by omega
  have Z:w.heap.size≠bp:=by omega
  have n6:w.heap.size≠be:=by omega
  have z:=qh l;have A:=qh m;clear l m n
  go_region
  all_goals
   have G: ∀(V:World)(k j:Nat)(u:Value),j≠k->(V.setCell ⟨k,0,none⟩ u).heap[j]?=V.heap[j]?:=λV k j u h=>F9 V ⟨k,0,none⟩ u j (by simpa using h)
   have H:=L6 (L6 E.out (x7 _) 0 (.int .i64 x)) (show bp<=be by omega) 0 (.int .i64 c);have hz:=H.size;refine(r.out _ _ _).2 ⟨rfl,rfl,H.trans ((M2 _).mono (by omega)),?_,?_⟩
   ·show((W.setCell ⟨bp,0,none⟩ (.int .i64 x)).setCell ⟨be,0,none⟩ (.int .i64 c)).heap[bp]?=_
    rw[G _ _ _ _ F];simpa using A6 W bp 0 _ _ (.int .i64 x) z.out
   ·show((W.setCell ⟨bp,0,none⟩ (.int .i64 x)).setCell ⟨be,0,none⟩ (.int .i64 c)).heap[be]?=_
    simpa using A6 _ be 0 _ _ (.int .i64 c) ((G W bp be (.int .i64 x) F.symm).trans A.out)
 ·intro e q w' I
  obtain⟨rfl,hd,hb,g2,g3⟩:=(f _ _ _).1 I;clear f I g;cases K
  simp_all[bodyPostS,results,Tryz.results61]
def zaq(b c:Nat)(p e:Int)(a)(w:World)(g:a.getD 2 undef=.pointer (some ⟨b,0,none⟩))(h:a.getD 3 undef=.pointer (some ⟨c,0,none⟩))
 (i:w.heap[b]?=some (.cells #[.int .i64 p] 3 (0,0))) (j:w.heap[c]?=some (.cells #[.int .i64 e] 25 (0,0))):
 (results Tryz.f17 a).run prog w=.ok (.tuple #[.int .i64 p,.int .i64 e]) w:=by
 have d:a[2]?.getD undef=.pointer (some ⟨b,0,none⟩):=by simpa using g
 have f:a[3]?.getD undef=.pointer (some ⟨c,0,none⟩):=by simpa using h
 have k:w.cell? ⟨b,0,none⟩=some (.int .i64 p):=x6 i 0;have l:w.cell? ⟨c,0,none⟩=some (.int .i64 e):=x6 j 0;simp[results,Tryz.results17,d,f,asAddr,go_sem,k,l]
def CkR(w:World)(us:List Fn)(e:Ending)(w':World):Prop:=e=.returned (.tuple #[.int .i64 (S4 us).1,.int .i64 (S4 us).2])/\Below w.heap.size w w'
def zhp{B a b:Nat}{w W}{d e:Int}(f:Below B w W)(g:B<=a)(m:a<b)(i:W.heap[a]?=some (.cells #[.int .i64 d] 3 (0,0)))(l:W.heap[b]?=some (.cells #[.int .i64 e] 25 (0,0)))(x y:Int):
 Below B w ((W.setCell ⟨a,0,none⟩ (.int .i64 x)).setCell ⟨b,0,none⟩ (.int .i64 y))/\((W.setCell ⟨a,0,none⟩ (.int .i64 x)).setCell ⟨b,0,none⟩ (.int .i64 y)).heap[a]?=some (.cells #[.int .i64 x] 3 (0,0))/\((W.setCell ⟨a,0,none⟩ (.int .i64 x)).setCell ⟨b,0,none⟩ (.int .i64 y)).heap[b]?=some (.cells #[.int .i64 y] 25 (0,0)):=by
 have c: ∀(V:World)(k j:Nat)(u:Value),j≠k->(V.setCell ⟨k,0,none⟩ u).heap[j]?=V.heap[j]?:=λV k j u h=>F9 V ⟨k,0,none⟩ u j (by simpa using h)
 refine⟨L6 (L6 f g 0 _) (by omega) 0 _,?_,?_⟩
 ·rw[c _ _ _ _ (by omega)]
  simpa using A6 W a 0 _ _ (.int .i64 x) i
 ·simpa using A6 _ b 0 _ _ (.int .i64 y) ((c W a b (.int .i64 x) (by omega)).trans l)
def Yd{w W:World}{us:List Fn}{b c:Nat}{a}{p d:Int}(f:a.getD 2 undef=.pointer (some ⟨b,0,none⟩))(g:a.getD 3 undef=.pointer (some ⟨c,0,none⟩))
 (h:W.heap[b]?=some (.cells #[.int .i64 p] 3 (0,0))) (i:W.heap[c]?=some (.cells #[.int .i64 d] 25 (0,0))) (j:Below w.heap.size w W) (hs:S4 us=(p,d)):
 Leaves prog Tryz.f17 a (λe w'=>CkR w us e w') [] .returning W:=
 ⟨_,zaq b c p d a W f g h i,by rw[hs],j⟩
def X4(s:ByteArray)(t:Bool)(a:R2 s=t)(hs:s.size<=maxLen)(w):Calls prog 49 #[.string s] w λe w'=>e=.returned (.bool t)/\w=w':=by
 have h:=zee s w hs;rw[show M5 s.data.toList=t from a]at h;exact h
def zic(s:ByteArray)(m:Nat)(a:lv s.data.toList=m)(w):Calls prog 162 #[.string s] w λe w'=>e=.returned (.int .i64 m)/\w=w':=by
 subst a;exact zbl s w
def zmF(left:Nat):Prop:=
 ∀(a:Int),a=left-> ∀(x:Ex)(A:Option Addr)(c:Nat)(F:Nat->Prop)(w:World),J7 w F (.slice A x.args.length c) x.args->xN x->
  Calls prog 106 #[.agg #[.int .i64 x.I9,.int .i64 x.n,.string x.K0,.slice A x.args.length c,.int .i64 x.pos],.int .i64 a] w λe b=>e=.returned (.int .i64 (zK x left))/\Below w.heap.size w b
def zaL(left:Nat)(b7:left<=40)(ih:1<=left->zmF (left-1)):zmF left:=by
 intro li a0 x A c F w X H;subst a0;cases x with|mk k n t a p=>
 simp only[Ex.I9,Ex.n,Ex.K0,Ex.args,Ex.pos]at X|-
 by_cases I:left=0
 ·subst I
  have e:zK (.mk k n t a p) 0=2:=by rw[zK];rfl
  rw[e];clear X H ih e
  go_enter func106,ntmps106
  go_wp2_with fail
  go_ret;exact⟨rfl,(x8 _ _).alloc (x7 _) _⟩
 have G:1<=left:=by omega
 have b8:(1:Int)<=(left:Int):=by omega
 have J:t.size<=maxLen:=H.args.1;have b9:a.length<=281474976710656:=H.args.2.1;obtain⟨bn,K⟩: ∃b,R2 t=b:=⟨_,rfl⟩;obtain⟨m,M⟩: ∃m,lv t.data.toList=m:=⟨_,rfl⟩;have s:=qh K;have Y:=qh M;have HA:=qh X;have HZ:=qh H;have IH:=qh (ih G);have h:=qh J;clear X H ih J I K M
 go_enter func106,ntmps106
 go_upto_block 0 with(fail)
 have l:=qh ((x8 w.heap.size w).alloc (x7 _) (.cells #[.int .i64 k,.int .i64 n,.string t,.slice A a.length c,.int .i64 p] 186));have Z:=qh (A5 w (.cells #[.int .i64 k,.int .i64 n,.string t,.slice A a.length c,.int .i64 p] 186));generalize w.alloc _=wa at l Z|-
 go_cut[6] (λu W=>u=.bool (zJ k n t a.length)/\W=wa)
 case first=>
  obtain⟨⟨c0,c1,c2,c3,c4⟩,-⟩:=K6 Z.out
  by_cases f:k<1\/8<k
  ·have N:=qh (oko (n:=n) (t:=t) (L:=a.length) f)
   rcases f with f|f
   all_goals
    go_wp2_with fail
    all_goals try(exfalso;omega)
    all_goals
     go_meet
     case rel=>exact⟨by rw[N.out],rfl⟩
  obtain rfl|rfl|rfl|rfl|rfl|rfl|rfl|rfl:k=1\/k=2\/k=3\/k=4\/k=5\/k=6\/k=7\/k=8:=by omega
  ·clear f
   go_wp2_with fail
   all_goals
    go_meet
    case rel=>exact⟨H0 Value.bool (by first|rfl|(rw[F7];simp[ok1];all_goals omega)),rfl⟩
  ·clear f
   cases d:(n==0)with
   |true=>
    go_wp2_with fail
    all_goals
     go_meet
     case rel=>exact⟨H0 Value.bool (by first|rfl|(rw[F7];simp[ok2];have g0:=beq_iff_eq.1 d;all_goals omega)),rfl⟩
   |false=>
    cases O:(n==1)with
    |true=>
     go_wp2_with fail
     all_goals
      go_meet
      case rel=>exact⟨H0 Value.bool (by first|rfl|(rw[F7];simp[ok2];have g0:=beq_iff_eq.1 O;all_goals omega)),rfl⟩
    |false=>
     go_wp2_with fail
     all_goals
      go_meet
      case rel=>exact⟨H0 Value.bool (by first|rfl|(rw[F7];simp[ok2];have g0:=beq_eq_false_iff_ne.1 d;have g1:=beq_eq_false_iff_ne.1 O;all_goals omega)),rfl⟩
  ·clear f
   cases bn with
   |true=>
    go_wp2_with fail
    refine(X4 t _ s.out h.out _).mono ?_;rintro e w7 ⟨rfl,rfl⟩
    go_wp2_with fail
    all_goals
     go_meet
     case rel=>exact⟨H0 Value.bool (by first|rfl|(rw[F7];simp[ok3,s.out];all_goals omega)),rfl⟩
   |false=>
    go_wp2_with fail
    refine(X4 t _ s.out h.out _).mono ?_;rintro e w7 ⟨rfl,rfl⟩
    go_wp2_with fail
    all_goals
     go_meet
     case rel=>exact⟨H0 Value.bool (by first|rfl|(rw[F7];simp[ok3,s.out];all_goals omega)),rfl⟩
  ·clear f
   go_wp2_with fail
   all_goals
    go_meet
    case rel=>exact⟨H0 Value.bool (by first|rfl|(rw[F7];simp[ok4];all_goals omega)),rfl⟩
  ·clear f
   go_wp2_with fail
   all_goals
    go_meet
    case rel=>exact⟨H0 Value.bool (by first|rfl|(rw[F7];simp[ok5];all_goals omega)),rfl⟩
  ·clear f
   cases P:((a.length:Int)==2)with
   |true=>
    go_wp2_with fail
    refine(zic t m Y.out _).mono ?_;rintro e w7 ⟨rfl,rfl⟩
    go_wp2_with fail
    all_goals
     go_meet
     case rel=>exact⟨H0 Value.bool (by first|rfl|(rw[F7];simp[ok6,Y.out];have g0:=beq_iff_eq.1 P;omega)),rfl⟩
   |false=>
    go_wp2_with fail
    all_goals
     go_meet
     case rel=>exact⟨H0 Value.bool (by first|rfl|(rw[F7];simp[ok6,Y.out];have g0:=beq_eq_false_iff_ne.1 P;omega)),rfl⟩
  ·clear f
   cases bn with
   |true=>
    go_wp2_with fail
    refine(X4 t _ s.out h.out _).mono ?_;rintro e w7 ⟨rfl,rfl⟩
    go_wp2_with fail
    all_goals
     go_meet
     case rel=>exact⟨H0 Value.bool (by first|rfl|(rw[F7];simp[ok7,s.out];all_goals omega)),rfl⟩
   |false=>
    go_wp2_with fail
    refine(X4 t _ s.out h.out _).mono ?_;rintro e w7 ⟨rfl,rfl⟩
    go_wp2_with fail
    all_goals
     go_meet
     case rel=>exact⟨H0 Value.bool (by first|rfl|(rw[F7];simp[ok7,s.out];all_goals omega)),rfl⟩
  ·clear f
   go_wp2_with fail
   all_goals
    go_meet
    case rel=>exact⟨H0 Value.bool (by first|rfl|(rw[F7];simp[ok8];all_goals omega)),rfl⟩
 case rest=>
  obtain⟨rfl,hw⟩:=hcut;subst hw;clear s Y h;obtain⟨ok,C⟩: ∃b,zJ k n t a.length=b:=⟨_,rfl⟩;have N:=qh C;rw[C];clear C;obtain⟨⟨c0,c1,c2,c3,c4⟩,-⟩:=K6 Z.out;cases ok with
  |false=>
   go_wp2_with fail
   go_ret;exact⟨by rw[zK,XO G N.out];rfl,l.out⟩
  |true=>
   by_cases D:6<a.length\/(k=8/\15<n)
   ·have Q:=qh (zeB G N.out D)
    by_cases h6:6<a.length
    ·have R:(6:Int)<(a.length:Int):=by omega
     clear D h6
     go_wp2_with fail
     go_ret;exact⟨by rw[zK,Q.out];rfl,l.out⟩
    ·obtain⟨rfl,a1⟩:=D.resolve_left h6
     have R:(a.length:Int)<=6:=by omega
     clear D h6
     go_wp2_with fail
     go_ret;exact⟨by rw[zK,Q.out];rfl,l.out⟩
   ·have Q:=qh (zbm G N.out D)
    have R:(a.length:Int)<=6:=by omega
    have v:Hid (¬(k=8/\15<n)):=qh (λe=>D (.inr e));clear D
    go_upto_region 23 with(fail)
    go_cut[92] (λu W=>u=.bool false/\W=wc)
    case first=>
     by_cases h8:k=8
     ·subst h8
      have a1:n<=15:=by have:=v.out;omega
      go_wp2_with fail
      go_meet
      case rel=>exact⟨H0 Value.bool (by rw[Bool.or_eq_false_iff];constructor<;>exact G1 (by omega)),rfl⟩
     ·have e8:(k==8)=false:=beq_eq_false_iff_ne.2 h8
      clear h8
      go_wp2_with fail
      go_meet
      case rel=>exact⟨H0 Value.bool (G1 (by omega)),rfl⟩
    case rest=>
     obtain⟨rfl,hw⟩:=hcut;subst hw;obtain⟨⟨a2,a3,a4,a5,a6⟩,-⟩:=K6 Z.out;clear c0 c1 c2 c3 c4
     go_wp2_with fail
     clear a2 a3 a4 a5 a6
     go_loopw[96] (λi wr=> ∃j:Nat,j<=a.length/\i=.int .i64 j/\Hid (zx (a.take j) (left-1)=0)/\Hid (Below w.heap.size w wr)) (λi _=>a.length-(intOf i).toNat)
     case atStart=>exact⟨0,D0 _,rfl,qh (by rw[List.take_zero,zx]),l⟩
     case round=>
      obtain⟨j,hj,rfl,HE,B⟩:=hrel
      by_cases a7:j<a.length
      ·obtain⟨y,hy⟩: ∃y,a[j]?=some y:=⟨_,x9 a7⟩
       obtain⟨g,o,A',c',rfl,a8,S,T,q0,q1,q2,q3,q4⟩:=HA.out.at j y hy;have b0:=(B.out.cell (p:=⟨g,o+j*5,none⟩) S).trans q0;have b1:=(B.out.cell (p:=⟨g,o+j*5+1,none⟩) S).trans q1;have b2:=(B.out.cell (p:=⟨g,o+j*5+2,none⟩) S).trans q2;have b3:=(B.out.cell (p:=⟨g,o+j*5+3,none⟩) S).trans q3;have b4:=(B.out.cell (p:=⟨g,o+j*5+4,none⟩) S).trans q4;have HY:=qh hy;have a9:=qh T;have b5:=qh (HZ.out.args.2.2 y (B7 hy));clear hy T q0 q1 q2 q3 q4 a8;have k0:(0:Int)<=(j:Int):=by omega
       have k1:(j:Int)<(a.length:Int):=by omega
       go_wp2_with fail
       clear b0 b1 b2 b3 b4;have r:=qh (B.out.alloc B.out.size (.cells #[.int .i64 y.I9,.int .i64 y.n,.string y.K0,.slice A' y.args.length c',.int .i64 y.pos] 186));refine(IH.out _ (by omega) y A' c' F _ (a9.out.K7 (F':=F) (λq G h2=>⟨G,A7 h2 r.out.size,r.out.block q h2⟩)) b5.out).mono ?_;rintro e w8 ⟨rfl,U⟩;have v:=qh (r.out.trans (U.mono r.out.size));clear U r;obtain⟨z,hz⟩: ∃z,zK y (left-1)=z:=⟨_,rfl⟩;rw[hz];have E:=qh hz;clear hz
       by_cases d:z=0
       ·subst d
        go_wp2_with fail
        go_roundw
        case rel=>exact⟨j+1,by omega,by go_num,qh (zaR HY.out HE.out E.out),v⟩
        case measure=>simp[intOf];omega
       ·have e0:(z !=0)=true:=by simpa using d
        have b6:=qh d;clear d
        go_wp2_with fail
        go_ret;exact⟨by rw[zK,Q.out];exact H0 (λq=>Ending.returned (Value.int .i64 q)) (by rw[zc7 HY.out HE.out (by rw[E.out];exact b6.out),E.out]),v.out⟩
      ·have V:j=a.length:=by omega
       have HF:Hid (zx a (left-1)=0):=qh (by have:=HE.out;rw[V,F5]at this;exact this);clear V
       go_wp2_with fail
       go_ret;exact⟨by rw[zK,Q.out];exact H0 (λq=>Ending.returned (Value.int .i64 q)) HF.out.symm,B.out⟩
def zmP: ∀left,left<=40->zmF left:=by
 intro left
 induction left with
 |zero=>exact λh=>zaL 0 h (λe=>by omega)
 |succ left a=>exact λh=>zaL (left+1) h (λ_=>a (by omega))
end Go.Proofs.YtmngofgminlloaaGreatDoor
