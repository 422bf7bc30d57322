/- Merged. -/
import Derived.Test.YtalgmjmibamdfaaGreatDoorCO07
import Derived.StillTailTactics
set_option linter.all false
set_option maxHeartbeats 64000000
set_option maxRecDepth 100000
namespace Go.Proofs.YtalgmjmibamdfaaGreatDoor
open Go.RowKit Tw
theorem ze5{us:List Fn}{d:Nat}(hU:zdA us)(ih:zeT us d):zeT us (d+1):=by
 intro l b e1 m H r hl hm he a0 B dd w I J K F A c h hb;have IH:=zh ih;have HF:=zh h;have HB:=zh hb;have HL:Hid (qT (Sx us (Bx us d) d) l b m e1 H r):=zh hl;have D:=N6 h.K3;clear h hb hl ih
 go_in
 go_wp2_with fail
 clear D
 go_loopw[6,16] (λu i wr=> ∃(j:Nat)(r0 L:Bool)(env':W9)(t:Nat)(z:Option Addr)(c':Nat),j<=l.length/\i=.int .i64 j/\u=.bool r0/\t<=64/\env'.length<=t/\Hid (qT (Sx us (Bx us d) d) (l.drop j) env' t e1 H L/\r=(r0||L)/\ ∃f,env'=f++b)/\Hid (xl wr I J K us F z c' env' t)/\Hid (Kq w wr J A z)) (λ_ i _=>l.length-(intOf i).toNat)
 case atStart=>exact⟨0,false,r,b,m,A,c,E2 _,rfl,rfl,hm,he,zh ⟨HL.out,by simp,[],rfl⟩,HF,zh (Kq.of J A (y7 _ _))⟩
 case round=>
  obtain⟨j,r0,L,env',t,z,c',hj,rfl,rfl,M,N,O,p,x⟩:=hrel
  by_cases P:j<l.length
  ·obtain⟨s,hs⟩: ∃s,l[j]?=some s:=⟨_,y8 P⟩
   obtain⟨g,a1,Aa,ca,Ab,Q,Ae,ce,rfl,-,hg,R,S,T,n⟩:=(HB.out.J0 (F':=F) (HF.out.JV x.out)).at j s hs;have q0:wr.cell? ⟨g,a1+j*10,none⟩=_:=n 0 _ rfl;have q1:=n 1 _ rfl;have q2:=n 2 _ rfl;have q3:=n 3 _ rfl;have q4:=n 4 _ rfl;have q5:=n 5 _ rfl;have q6:=n 6 _ rfl;have q7:=n 7 _ rfl;have q8:=n 8 _ rfl;have q9:=n 9 _ rfl;obtain⟨a,v,C,E,y,o,U⟩: ∃a v C E,Sx us (Bx us d) d s env' t a v C/\qT (Sx us (Bx us d) d) (l.drop (j+1)) a v e1 H E/\L=(C||E):=by
    have G:=O.out.1;rw[F9 P,(List.getElem?_eq_some_iff.1 hs).2]at G;cases G with
    |cons h1 h2=>exact⟨_,_,_,_,h1,h2,rfl⟩
   have q:v<=64/\a.length<=v/\ ∃f,a=f++env':=by
    have:Bx us (d+1) [s] env' t a v (C||false):=.cons y .nil;have:=this.le M N;exact this.2
   have k:=(y7 wr.heap.size wr).alloc (y6 _) (.cells (s.cs Aa Ab Ae ca Q ce) 174);have HX:=zh (y9 wr (.cells (s.cs Aa Ab Ae ca Q ce) 174));have V:=zh (x.out.trans (Kq.of J z k));have W:=zh (zhD hU IH.out y M N (p.out.below k) (R.J0 (F':=F) (J1 k)) (S.J0 (F':=F) (J1 k)) (T.J0 (F':=F) (J1 k)));have HN:Hid (qT (Sx us (Bx us d) d) (l.drop (j+1)) a v e1 H E/\r=(r0||C||E)/\ ∃f,a=f++b):=zh ⟨o,by rw[O.out.2.1,U,Bool.or_assoc],by
    obtain⟨p1,h1⟩:=O.out.2.2;obtain⟨p2,h2⟩:=q.2.2;exact⟨p2++p1,by rw[h2,h1,B9]⟩⟩
   have a2:=q.1;have a3:=q.2.1;have k0:(0:Int)<=(j:Int):=by omega
   have k1:(j:Int)<(l.length:Int):=by omega
   clear hs R S T n y o U q k hg O
   go_upto_region 6 with(fail)
   clear q0 q1 q2 q3 q4 q5 q6 q7 q8 q9;generalize wr.alloc _=wa at HX V W|-
   generalize wr.heap.size=bx at HX|-
   have D:=N6 HX.out
   go_wp2_with fail
   refine W.out.mono ?_;rintro e w2 ⟨rfl,A2,c2,X,Y⟩;have a4:=zh X;have a5:=zh (V.out.trans Y);clear D X Y;cases C
   all_goals
    go_wp2_with fail
    exact⟨⟨j+1,_,E,a,v,A2,c2,by omega,by go_num,rfl,a2,a3,zh (by simpa using HN.out),a4,a5⟩,by simp[intOf];omega⟩
  ·obtain rfl:j=l.length:=by omega
   obtain⟨G,hr,f,rfl⟩:=O.out;rw[List.drop_length]at G;obtain⟨rfl,rfl⟩:H=t/\L=false:=by
    cases G;exact⟨rfl,rfl⟩
   rw[Bool.or_false]at hr;subst hr;have a9:(0:Int)<=(b.length:Int):=by omega
   obtain⟨Z,a6⟩:=p.out.cap;have b0:(b.length:Int)<=(c':Int):=by simp at Z;omega
   have D:=N6 p.out.K3;have a7:=zh p.out.cut;have a8:=zh (x.out.trans (Kq.set wr J z 7 (.slice z b.length c')));clear G
   rcases a6 with rfl|⟨gA,rfl⟩
   all_goals
    go_wp2_with fail
    go_ret;exact⟨rfl,_,_,a7.out,a8.out⟩
theorem zf4{us:List Fn}(a:zdA us): ∀d,zeT us d
 |0=>λ_ _ _ _ _ _ h=>h.elim
 |d+1=>ze5 a (zf4 a d)
end Go.Proofs.YtalgmjmibamdfaaGreatDoor
namespace Go.Proofs.YtalgmjmibamdfaaGreatDoor
open Go.Proofs.Tryz
open Go.RowKit Tw
theorem zhv(s:Bs):lv s<=5:=by unfold lv;repeat' (first|omega|split)
theorem zgv(t:ByteArray)(w:World)(l:U2 w):Calls prog 188 #[.string t] w λe w'=>e=.returned (.int .i64 (lv t.data.toList))/\Below w.heap.size w w':=by
 have v:=zh l;clear l
 go_enter func188,ntmps188
 go_wp2_with fail
 go_loopw[3] (λi wr=> ∃n:Nat,1<=n/\n<=6/\i=.int .i64 n/\Hid (∀m,1<=m->m<n->lv t.data.toList≠m)/\Hid (Below w.heap.size w wr)) (λi _=>6-(intOf i).toNat)
 case atStart=>exact⟨1,by omega,by omega,rfl,zh (λm a b=>by omega),zh (y7 _ _)⟩
 case round=>
  obtain⟨n,o,z,rfl,p,f⟩:=hrel
  by_cases q:n<=5
  ·have j:(n:Int)<=5:=by omega
   obtain⟨b,r⟩: ∃b,(lv t.data.toList==n)=b:=⟨_,rfl⟩;have k:=zh r;clear r
   go_wp2_with fail
   refine(Xg n o q wr (v.out.to f.out)).mono ?_;rintro e A ⟨⟨g,rfl,s⟩,c⟩;have x:=zh s;have d:=zh (f.out.trans (c.mono f.out.size));clear s c
   go_wp2_with fail
   refine(yr n o q g t _ x.out b k.out).mono ?_;rintro e B ⟨rfl,rfl⟩;cases b with
   |true=>
    go_wp2_with fail
    go_ret;exact⟨by rw[beq_iff_eq.1 k.out];rfl,d.out⟩
   |false=>
    go_wp2_with fail
    go_roundw
    case rel=>exact⟨n+1,by omega,by omega,by go_num,zh (λm a b=>by
     rcases E5 m n with h|h
     ·exact p.out m a h
     ·obtain rfl:m=n:=by omega
      exact beq_eq_false_iff_ne.1 k.out),d⟩
    case measure=>simp[intOf];omega
  ·have j: ¬(n:Int)<=5:=by omega
   have u:lv t.data.toList=0:=by
    have:=zhv t.data.toList
    rcases Nat.eq_zero_or_pos (lv t.data.toList)with h|h
    ·exact h
    ·exact I2 rfl (p.out _ h (by omega))
   have y:=zh u;clear u
   go_wp2_with fail
   go_ret;exact⟨by rw[y.out];rfl,f.out⟩
section
open Go.Shelf
theorem zkr(s:ByteArray)(h:0<s.size):(s.extract 0 1).data.toList=[s[0]]:=by
 rw[qc,List.drop_zero];have:=jI s 0 h;rw[List.drop_zero]at this;rw[this];rfl
theorem zhd(s:ByteArray)(t:Bool)(w:World)(hs:s.size<=9223372036854775807)(a:s.data.toList.all T0=t):
 Calls prog 109 #[.string s,.string ⟨#[97,98,99,100,101,102,103,104,105,106,107,108,109,110,111,112,113,114,115,116,117,118,119,120,121,122,95,48,49,50,51,52,53,54,55,56,57]⟩] w λe w'=>e=.returned (.bool t)/\Below w.heap.size w w':=
 zhu _ _ t w hs (by decide) (ascii_of_all (by decide)) (by
  rw[<-a];have:(λx=>(ByteArray.data ⟨#[97,98,99,100,101,102,103,104,105,106,107,108,109,110,111,112,113,114,115,116,117,118,119,120,121,122,95,48,49,50,51,52,53,54,55,56,57]⟩).toList.contains x)=T0:=funext zbr;rw[this])
theorem zi4(s:ByteArray)(h:0<s.size)(t:Bool)(w:World)(a:xY s[0]=t):
 Calls prog 109 #[.string (s.extract 0 1),.string ⟨#[97,98,99,100,101,102,103,104,105,106,107,108,109,110,111,112,113,114,115,116,117,118,119,120,121,122,95]⟩] w λe w'=>e=.returned (.bool t)/\Below w.heap.size w w':=
 zhu _ _ t w (by simp;omega) (by decide) (ascii_of_all (by decide)) (by rw[zkr s h];simp only[List.all_cons,List.all_nil,Bool.and_true];exact(ze6 _).trans a)
theorem zaP(s:ByteArray)(w:World)(hs:s.size<=maxLen)(p:U8 w)(q:5<w.heap.size):
 Calls prog 119 #[.string s] w λe w'=>e=.returned (.bool (N3 s.data.toList))/\Below w.heap.size w w':=by
 unfold maxLen at hs;have z:=zh p;clear p;have A:=zh q;clear q
 by_cases m:1<=s.size
 case neg=>
  have d:N3 s.data.toList=false:=by simp[N3];omega
  have i:=zh d;clear d;have r:s.toList.isEmpty=true:=by
   rw[E0,List.isEmpty_iff];exact I3 (by rw[P7];omega)
  have B:s.toList=[]:=by simpa using r
  go_enter func119,ntmps119
  go_wp2_with fail
  go_ret;exact⟨Z4 i.out,y7 _ _⟩
 have r:s.toList.isEmpty=false:=by
  rw[E0];cases C:s.data.toList with
  |nil=>have:=P7 s;rw[C]at this;simp at this;omega
  |cons a l=>rfl
 by_cases D:s.size<=16
 case neg=>
  have d:N3 s.data.toList=false:=by simp[N3];omega
  have i:=zh d;clear d
  go_enter func119,ntmps119
  go_wp2_with fail
  go_ret;exact⟨Z4 i.out,y7 _ _⟩
 have u:=zh (qZ s m);cases h:s.data.toList.all T0
 case false=>
  have d:N3 s.data.toList=false:=by simp only[N3,h];simp
  have i:=zh d;have j:=zh h;clear d h
  go_enter func119,ntmps119
  go_wp2_with fail
  refine(zhd s false _ (by omega) j.out).mono ?_;rintro e v ⟨rfl,b⟩;have c:=zh b;clear b
  go_wp2_with fail
  go_ret;exact⟨Z4 i.out,c.out⟩
 cases k:xY s[0]
 case false=>
  have d:N3 s.data.toList=false:=by simp only[N3,u.out,k];simp
  have i:=zh d;have j:=zh h;have o:=zh k;clear d h k
  go_enter func119,ntmps119
  go_wp2_with fail
  refine(zhd s true _ (by omega) j.out).mono ?_;rintro e v ⟨rfl,b⟩;have c:=zh b;clear b
  go_wp2_with fail
  refine(zi4 s m false _ o.out).mono ?_;rintro e E ⟨rfl,f⟩;have g:=zh (c.out.trans (f.mono c.out.size));clear f
  go_wp2_with fail
  go_ret;exact⟨Z4 i.out,g.out⟩
 have x: ∀t,zX s.data.toList=t->N3 s.data.toList=!t:=by
  intro t n;simp only[N3,u.out,h,k,n,P7,m,D];simp
 have F:=zh x;have j:=zh h;have o:=zh k;clear x h k;obtain⟨t,n⟩: ∃t,zX s.data.toList=t:=⟨_,rfl⟩;have y:=zh n;clear n
 go_enter func119,ntmps119
 go_wp2_with fail
 refine(zhd s true _ (by omega) j.out).mono ?_;rintro e v ⟨rfl,b⟩;have c:=zh b;clear b
 go_wp2_with fail
 refine(zi4 s m true _ o.out).mono ?_;rintro e E ⟨rfl,f⟩;have g:=zh (c.out.trans (f.mono c.out.size));clear f
 go_wp2_with fail
 refine(zaY s t _ j.out y.out (z.out.below g.out (by have:=A.out;show 3<_;omega))).mono ?_;rintro e G ⟨rfl,rfl⟩
 go_wp2_with fail
 go_ret;exact⟨Z4 (F.out t y.out),g.out⟩
end
section
open Go.Maps
theorem yU(s:ByteArray)(hs:T8 s=true/\s.size<=maxLen)(w:World)(a:U2 w):Calls prog 119 #[.string s] w λe w'=>e=.returned (.bool true)/\Below w.heap.size w w':=by
 have h:=zaP s w hs.2 a.maxLen (by have:=a.Jv;omega);rw[show N3 s.data.toList=true from hs.1]at h;exact h
theorem yP(s:ByteArray)(hs:T8 s=true/\s.size<=maxLen)(w:World):Calls prog 95 #[.string s] w λe w'=>e=.returned (.bool true)/\w=w':=by
 have h:=zak s w hs.2;rw[show N3 s.data.toList=true from hs.1]at h;exact h
theorem zj6{d:Nat}{x:Ex}(h:Ew d x): ∀(li:Int),li=d->d<=40-> ∀(A:Option Addr)(c:Nat)(F:Nat->Prop)(w:World),O2 w F (.slice A x.args.length c) x.args->U2 w->
 Calls prog 152 #[.agg #[.int .i64 x.N4,.int .i64 x.n,.string x.O9,.slice A x.args.length c,.int .i64 x.pos],.int .i64 li] w λe w'=>e=.returned (.int .i64 0)/\Below w.heap.size w w':=by
 induction h with
 | @mk d k n t f p T U v V=>
 intro li y a0 A c F w K W;simp only[Ex.N4,Ex.n,Ex.O9,Ex.args,Ex.pos]at K|-
 have HA:=zh K;have M:=zh W;have IH:=zh V;obtain⟨w1,w2,w3,w4,w5,u,N,X,Y,Z,r5,r6,O,o⟩:=zcz (w.alloc (.cells #[.int .i64 k,.int .i64 n,.string t,.slice A f.length c,.int .i64 p] 172));have hm:(w.alloc (.cells #[.int .i64 k,.int .i64 n,.string t,.slice A f.length c,.int .i64 p] 172)).heap.size=w.heap.size+1:=by simp
 rw[hm]at N X Y Z r5 r6 O;have l:u.heap[w.heap.size]?=some (.cells #[.int .i64 k,.int .i64 n,.string t,.slice A f.length c,.int .i64 p] 172 (0,0)):=(o.block _ (by simp)).trans (y9 w _);have a:=zh (((y7 w.heap.size w).alloc (y6 _) (.cells #[.int .i64 k,.int .i64 n,.string t,.slice A f.length c,.int .i64 p] 172)).trans (o.mono (by simp)));have C:=N6 l;have NC:=zh (λH=>yU t ⟨H,U⟩ u (M.out.to a.out));have BC:=zh (zgv t u (M.out.to a.out));have a1:1<=li:=by omega
 have a2:li<=40:=by omega
 have P:=zh y;have Q:= @run_makeMap prog;have r: ∀z,Below u.heap.size u z->z.heap[w.heap.size]?=u.heap[w.heap.size]?:=λz b=>b.block _ (I7 l);rw[l]at r;have m:=zh r;clear y K W V v hm l o r U;generalize hL:f.length=L at T N C m a|-
 have HL:=zh hL;clear hL;simp only[List.forall_mem_cons,List.not_mem_nil]at O;cases T
 all_goals(try(rename_i H;have HN:=zh H))
 all_goals(try(have e0:((lv t.data.toList:Int)==0)=false:=beq_eq_false_iff_ne.2 (by omega)))
 all_goals(go_in;go_wp2_with(first|(go_at_call 188;refine BC.out.mono ?_;rintro e z ⟨rfl,b⟩;have D:=N6 (m.out _ b))|(go_at_call 119;refine(NC.out HN.out).mono ?_;rintro e z ⟨rfl,b⟩;have D:=N6 (m.out _ b))))
 all_goals
  (try replace a:=zh (a.out.trans (b.mono a.out.size)))
  (try clear D b)
  clear C O N X Y Z r5 r6 Q NC BC m
  (try clear H)
  go_loopw[122] (λi wr=> ∃j:Nat,j<=f.length/\i=.int .i64 j/\Hid (Below w.heap.size w wr)) (λi _=>f.length-(intOf i).toNat)
  case atStart=>exact⟨0,E2 _,rfl,a⟩
  case round=>
   obtain⟨j,hj,rfl,I⟩:=hrel
   by_cases R:j<f.length
   ·obtain⟨x,v⟩: ∃x,f[j]?=some x:=⟨_,y8 R⟩
    obtain⟨g,a3,A',c',rfl,-,hg,hk,q⟩:=(HA.out.J0 (J1 I.out)).at j x v;have HK:=zh hk;have S:=zh (B7 v);have k0:(0:Int)<=(j:Int):=by omega
    have B:(j:Int)<(f.length:Int):=by omega
    rw[HL.out]at B
    push_cast at B
    first
    |(exfalso;omega)
    |(clear hk v
      go_wp2_with fail
      have s:=zh (I.out.alloc I.out.size (.cells #[.int .i64 x.N4,.int .i64 x.n,.string x.O9,.slice A' x.args.length c',.int .i64 x.pos] 172));refine(IH.out x S.out _ (by have:=P.out;omega) (by omega) A' c' F _ (HK.out.J0 (J1 ((y7 _ _).alloc (y6 _) _))) (M.out.to s.out)).mono ?_;rintro e w8 ⟨rfl,E⟩;have G:=zh (s.out.trans (E.mono s.out.size));clear E q
      go_wp2_with fail
      go_roundw
      case rel=>first|exact⟨j+1,by omega,by go_num,G⟩|((repeat apply J.intro);exact⟨⟨j+1,by omega,by go_num,G⟩,rfl⟩)
      case measure=>simp[intOf];omega)
   ·have B:(f.length:Int)<=(j:Int):=by omega
    rw[HL.out]at B
    push_cast at B
    go_wp2_with fail
    go_ret;exact⟨rfl,I.out⟩
end
theorem zkG{d:Nat}{x:Ex}(h:Ew d x): ∀(li:Int),li=d->d<=40-> ∀(A:Option Addr)(c:Nat)(F:Nat->Prop)(w:World),O2 w F (.slice A x.args.length c) x.args->
 Calls prog 126 #[.agg #[.int .i64 x.N4,.int .i64 x.n,.string x.O9,.slice A x.args.length c,.int .i64 x.pos],.int .i64 li] w λe w'=>e=.returned (.int .i64 0)/\Below w.heap.size w w':=by
 induction h with
 | @mk d k n t a p D E b G=>
 intro li f O A c F w y;simp only[Ex.N4,Ex.n,Ex.O9,Ex.args,Ex.pos]at y|-
 have P:=zh y;have Q:=zh G;have R:=zh E;have S:1<=li:=by omega
 have T:li<=40:=by omega
 have U:(li==0)=false:=beq_eq_false_iff_ne.2 (by omega);have z:=zh f;have l:=zh ((y7 w.heap.size w).alloc (y6 _) (.cells #[.int .i64 k,.int .i64 n,.string t,.slice A a.length c,.int .i64 p] 172));clear f y G b E;generalize H:a.length=L at D l|-
 have I:=zh H;clear H;cases D
 all_goals(try(rename_i J;have V:=zh J))
 all_goals(try(have Z:((lv t.data.toList:Int)==0)=false:=beq_eq_false_iff_ne.2 (by omega);have e1:decide (0<lv t.data.toList)=true:=decide_eq_true (by omega)))
 all_goals(go_in;go_wp2_with(first|(go_at_call 156;refine(Xn t _).mono ?_;rintro e W ⟨rfl,rfl⟩)|(go_at_call 95;refine(yP t ⟨V.out,R.out⟩ _).mono ?_;rintro e W ⟨rfl,rfl⟩)))
 all_goals
  (try clear J)
  go_loopw[96] (λi wr=> ∃j:Nat,j<=a.length/\i=.int .i64 j/\Hid (Below w.heap.size w wr)) (λi _=>a.length-(intOf i).toNat)
  case atStart=>exact⟨0,E2 _,rfl,l⟩
  case round=>
   obtain⟨j,hj,rfl,u⟩:=hrel
   by_cases B:j<a.length
   ·obtain⟨x,b⟩: ∃x,a[j]?=some x:=⟨_,y8 B⟩
    obtain⟨g,X,K,M,rfl,-,hg,N,q⟩:=(P.out.J0 (J1 u.out)).at j x b;have Y:=zh N;have C:=zh (B7 b);have k0:(0:Int)<=(j:Int):=by omega
    have m:(j:Int)<(a.length:Int):=by omega
    rw[I.out]at m
    push_cast at m
    first
    |(exfalso;omega)
    |(clear N b
      go_wp2_with fail
      have o:=zh (u.out.alloc u.out.size (.cells #[.int .i64 x.N4,.int .i64 x.n,.string x.O9,.slice K x.args.length M,.int .i64 x.pos] 172));refine(Q.out x C.out _ (by have:=z.out;omega) (by omega) K M F _ (Y.out.J0 (J1 ((y7 _ _).alloc (y6 _) _)))).mono ?_;rintro e w8 ⟨rfl,r⟩;have s:=zh (o.out.trans (r.mono o.out.size));clear r q
      go_wp2_with fail
      go_roundw
      case rel=>first|exact⟨j+1,by omega,by go_num,s⟩|((repeat apply v.intro);exact⟨⟨j+1,by omega,by go_num,s⟩,rfl⟩)
      case measure=>simp[intOf];omega)
   ·have m:(a.length:Int)<=(j:Int):=by omega
    rw[I.out]at m
    push_cast at m
    go_wp2_with fail
    go_ret;exact⟨rfl,u.out⟩
def SwC(p:Bool)(d:Nat):Prop:=
 ∀(a:Int),a=d->d<=40-> ∀(l:List Sm)(A:Option Addr)(c:Nat)(F:Nat->Prop)(w:World),N0 w F (.slice A l.length c) l->(∀s∈l,Sw d s)->l.length<=281474976710656->U2 w->
  Calls prog (bif p then 96 else 120) #[.slice A l.length c,.int .i64 a] w λe b=>e=.returned (.int .i64 0)/\Below w.heap.size w b
theorem zj1(d:Nat)(ih: ∀e,e<d->SwC true e):SwC true d:=by
 intro li N a8 l A c F w hA hw a7 hG;have HA:=zh hA;have HW:=zh hw;have IH:=zh ih;have y:=zh N;have HG:=zh hG;clear hA hw ih hG;simp only[cond]
 go_in
 go_wp2_with fail
 go_loopw[12] (λi wr=> ∃j:Nat,j<=l.length/\i=.int .i64 j/\Hid (Below w.heap.size w wr)) (λi _=>l.length-(intOf i).toNat)
 case atStart=>exact⟨0,E2 _,rfl,zh (y7 _ _)⟩
 case round=>
  obtain⟨j,hj,rfl,Y⟩:=hrel
  by_cases Z:j<l.length
  ·obtain⟨s,hs⟩: ∃s,l[j]?=some s:=⟨_,y8 Z⟩
   have HS:=zh (HW.out s (B7 hs));obtain⟨g,a0,H,I,J,K,L,M,rfl,-,hg,O,P,Q,f⟩:=(HA.out.J0 (J1 Y.out)).at j s hs;have q0:wr.cell? ⟨g,a0+j*10,none⟩=_:=f 0 _ rfl;have q1:=f 1 _ rfl;have q2:=f 2 _ rfl;have q3:=f 3 _ rfl;have q4:=f 4 _ rfl;have q5:=f 5 _ rfl;have q6:=f 6 _ rfl;have q7:=f 7 _ rfl;have q8:=f 8 _ rfl;have q9:=f 9 _ rfl;have q:=zh O;have r:=zh P;have t:=zh Q;clear hs O P Q f;have k0:(0:Int)<=(j:Int):=by omega
   have k1:(j:Int)<(l.length:Int):=by omega
   cases s with|mk k o a J7 Q7 p=>
   simp only[Sm.N4,Sm.L6,Sm.a,Sm.J7,Sm.Q7,Sm.pos]at*;obtain⟨z,rfl,h1,h7,hn,R,ha,hb,he,S,T⟩: ∃z,d=z+1/\1<=k/\k<=7/\(k<=2->T8 o=true)/\o.size<=maxLen/\Ew z a/\(∀s∈J7,Sw z s)/\(∀s∈Q7,Sw z s)/\J7.length<=281474976710656/\Q7.length<=281474976710656:=by
    cases HS.out with
    |mk h1 h2 h3 h4 h5 h6 h7 h8 h9=>exact⟨_,rfl,h1,h2,h3,h4,h5,h6,h7,h8,h9⟩
   have a9:1<=li:=by omega
   have b0:li<=40:=by omega
   have b1:(li==0)=false:=beq_eq_false_iff_ne.2 (by omega);have HN:=zh λh=>(⟨hn h,R⟩:T8 o=true/\o.size<=maxLen);have HE:=zh ha;have a1:=zh hb;have a2:=zh he;have a3:=zh S;have a4:=zh T;clear hn R ha hb he S T HS N;have B:=zh (Y.out.alloc Y.out.size (.cells #[.int .i64 k,.string o,.int .i64 a.N4,.int .i64 a.n,.string a.O9,.slice H a.args.length I,.int .i64 a.pos,.slice J J7.length K,.slice L Q7.length M,.int .i64 p] 174));have U:=zh (y9 wr (.cells #[.int .i64 k,.string o,.int .i64 a.N4,.int .i64 a.n,.string a.O9,.slice H a.args.length I,.int .i64 a.pos,.slice J J7.length K,.slice L Q7.length M,.int .i64 p] 174))
   go_upto_region 6 with(fail)
   clear q0 q1 q2 q3 q4 q5 q6 q7 q8 q9;replace q:=zh (q.out.J0 (J1 ((y7 wr.heap.size wr).alloc (y6 _) (.cells #[.int .i64 k,.string o,.int .i64 a.N4,.int .i64 a.n,.string a.O9,.slice H a.args.length I,.int .i64 a.pos,.slice J J7.length K,.slice L Q7.length M,.int .i64 p] 174))));replace r:=zh (r.out.J0 (J1 ((y7 wr.heap.size wr).alloc (y6 _) (.cells #[.int .i64 k,.string o,.int .i64 a.N4,.int .i64 a.n,.string a.O9,.slice H a.args.length I,.int .i64 a.pos,.slice J J7.length K,.slice L Q7.length M,.int .i64 p] 174))));replace t:=zh (t.out.J0 (J1 ((y7 wr.heap.size wr).alloc (y6 _) (.cells #[.int .i64 k,.string o,.int .i64 a.N4,.int .i64 a.n,.string a.O9,.slice H a.args.length I,.int .i64 a.pos,.slice J J7.length K,.slice L Q7.length M,.int .i64 p] 174))));generalize wr.alloc _=wa at B U q r t|-
   have C:=N6 U.out;have V:=I7 U.out;generalize wr.heap.size=b6 at U V C|-
   obtain rfl|rfl|rfl|rfl|rfl|rfl|rfl:k=1\/k=2\/k=3\/k=4\/k=5\/k=6\/k=7:=by omega
   all_goals clear h1 h7
   all_goals
    (go_wp2_with(first|(go_at_call 95;refine(yP o (HN.out (by decide)) _).mono ?_;rintro e w7 ⟨rfl,rfl⟩)|(go_at_call 126;refine(zkG HE.out _ (by have:=y.out;omega) (by omega) H I F _ q.out).mono ?_;rintro e w8 ⟨rfl,m⟩;have G:=zh ((m.block b6 V).trans U.out);have D:=N6 G.out;have a5:=I7 G.out)))
   all_goals
    have u:=zh (B.out.trans (m.mono B.out.size))
    first
    |exact⟨⟨j+1,by omega,by go_num,u⟩,by simp[intOf];omega⟩
    |(refine(IH.out z (by omega) _ (by have:=y.out;omega) (by omega) J7 J K F _ (r.out.J0 (J1 m)) a1.out a3.out (HG.out.to u.out)).mono ?_
      rintro e w9 ⟨rfl,b⟩;have a6:=zh ((b.block b6 a5).trans G.out);have v:=zh (u.out.trans (b.mono u.out.size));have E:=N6 a6.out;have W:=zh ((t.out.J0 (F':=F) (J1 m)).J0 (F':=F) (J1 b));clear C D m b
      go_wp2_with fail
      first
      |exact⟨⟨j+1,by omega,by go_num,v⟩,by simp[intOf];omega⟩
      |(refine(IH.out z (by omega) _ (by have:=y.out;omega) (by omega) Q7 L M F _ W.out a2.out a4.out (HG.out.to v.out)).mono ?_
        rintro e b2 ⟨rfl,x⟩;have X:=zh (v.out.trans (x.mono v.out.size));clear E x
        go_wp2_with fail
        exact⟨⟨j+1,by omega,by go_num,X⟩,by simp[intOf];omega⟩))
  ·have k1:(l.length:Int)<=(j:Int):=by omega
   go_wp2_with fail
   go_ret;exact⟨rfl,Y.out⟩
theorem zeW:R1 prog 228 89 1:=⟨underlying228,by kernel_rfl,by decide⟩
theorem zbw{ops:Array Oper}{b:List Oper}{o:Oper}{a:Act}{Q:Exit->Act->World->Prop}{W w:World}{v u:Value}{n c H:Nat}{xs:List Value}(e:Hid (Below W.heap.size W w))(f:Hid (w.ownsRow W.heap.size 89 1 v n xs))(d:o.guard=none)(s x:Operand)(h:o.op=.call {callee:=.builtin .append,args:= #[s,x],argTypes:= #[228,228]})
 (hs:a.eval s=v) (hx:a.eval x=.slice (some ⟨H,0,none⟩) 1 c) (i:H=w.heap.size) (j:u.oneCell'=true) (l:n+1<=500000000000)
 (k: ∀g cap w',Hid (w'.ownsRow W.heap.size 89 1 (.slice (some ⟨g,0,none⟩) (n+1) cap) (n+1) (xs++[u]))->Hid (Below W.heap.size W w')->wpList prog ops Q b (a.put o.dst (.slice (some ⟨g,0,none⟩) (n+1) cap)) w'):
 wpList prog ops Q (o::b) a (w.alloc (.cells #[u] 89)):=by
 have m:=e.out.size;subst i;exact M7 zeW d s x h W.heap.size v n xs hs (f.out.alloc _) w.heap.size c #[u] hx (y9 w _) rfl (by simpa using j) l (by simp;omega) λg cap w' p q _ _=>k g cap w' (zh p) (zh (L8 (e.out.alloc m _) (f.out.alloc _) (y6 _) (by simp;omega) q))
theorem zj7(d:Nat)(ih: ∀e,e<d->SwC false e):SwC false d:=by
 intro li W c4 l A c F w hA hw b9 hG;have HA:=zh hA;have HW:=zh hw;have IH:=zh ih;have J:=zh W;have HG:=zh hG;clear hA hw ih hG;simp only[cond]
 go_in
 go_wp2_with fail
 go_loopw[14] (λi wr=> ∃j:Nat,j<=l.length/\i=.int .i64 j/\Hid (Below w.heap.size w wr)) (λi _=>l.length-(intOf i).toNat)
 case atStart=>exact⟨0,E2 _,rfl,zh (y7 _ _)⟩
 case round=>
  obtain⟨j,hj,rfl,HB⟩:=hrel
  by_cases b0:j<l.length
  ·obtain⟨s,hs⟩: ∃s,l[j]?=some s:=⟨_,y8 b0⟩
   have HS:=zh (HW.out s (B7 hs));obtain⟨g,b1,O,P,Q,R,S,T,rfl,-,hg,X,Y,Z,x⟩:=(HA.out.J0 (J1 HB.out)).at j s hs;have q0:wr.cell? ⟨g,b1+j*10,none⟩=_:=x 0 _ rfl;have q1:=x 1 _ rfl;have q2:=x 2 _ rfl;have q3:=x 3 _ rfl;have q4:=x 4 _ rfl;have q5:=x 5 _ rfl;have q6:=x 6 _ rfl;have q7:=x 7 _ rfl;have q8:=x 8 _ rfl;have q9:=x 9 _ rfl;have u:=zh X;have m:=zh Y;have o:=zh Z;clear hs X Y Z x;have k0:(0:Int)<=(j:Int):=by omega
   have k1:(j:Int)<(l.length:Int):=by omega
   cases s with|mk k E a J7 Q7 p=>
   simp only[Sm.N4,Sm.L6,Sm.a,Sm.J7,Sm.Q7,Sm.pos]at*;obtain⟨K,rfl,h1,h7,hn,a0,ha,hb,he,a1,a2⟩: ∃K,d=K+1/\1<=k/\k<=7/\(k<=2->T8 E=true)/\E.size<=maxLen/\Ew K a/\(∀s∈J7,Sw K s)/\(∀s∈Q7,Sw K s)/\J7.length<=281474976710656/\Q7.length<=281474976710656:=by
    cases HS.out with
    |mk h1 h2 h3 h4 h5 h6 h7 h8 h9=>exact⟨_,rfl,h1,h2,h3,h4,h5,h6,h7,h8,h9⟩
   have c5:1<=li:=by omega
   have c6:li<=40:=by omega
   have c7:(li==0)=false:=beq_eq_false_iff_ne.2 (by omega);have HN:=zh λh=>(⟨hn h,a0⟩:T8 E=true/\E.size<=maxLen);have HE:=zh ha;have b2:=zh hb;have b3:=zh he;have b4:=zh a1;have b5:=zh a2;clear hn a0 ha hb he a1 a2 HS W;have b:=zh (HB.out.alloc HB.out.size (.cells #[.int .i64 k,.string E,.int .i64 a.N4,.int .i64 a.n,.string a.O9,.slice O a.args.length P,.int .i64 a.pos,.slice Q J7.length R,.slice S Q7.length T,.int .i64 p] 174));have G:=zh (y9 wr (.cells #[.int .i64 k,.string E,.int .i64 a.N4,.int .i64 a.n,.string a.O9,.slice O a.args.length P,.int .i64 a.pos,.slice Q J7.length R,.slice S Q7.length T,.int .i64 p] 174))
   go_upto_region 6 with(fail)
   clear q0 q1 q2 q3 q4 q5 q6 q7 q8 q9;replace u:=zh (u.out.J0 (J1 ((y7 wr.heap.size wr).alloc (y6 _) (.cells #[.int .i64 k,.string E,.int .i64 a.N4,.int .i64 a.n,.string a.O9,.slice O a.args.length P,.int .i64 a.pos,.slice Q J7.length R,.slice S Q7.length T,.int .i64 p] 174))));replace m:=zh (m.out.J0 (J1 ((y7 wr.heap.size wr).alloc (y6 _) (.cells #[.int .i64 k,.string E,.int .i64 a.N4,.int .i64 a.n,.string a.O9,.slice O a.args.length P,.int .i64 a.pos,.slice Q J7.length R,.slice S Q7.length T,.int .i64 p] 174))));replace o:=zh (o.out.J0 (J1 ((y7 wr.heap.size wr).alloc (y6 _) (.cells #[.int .i64 k,.string E,.int .i64 a.N4,.int .i64 a.n,.string a.O9,.slice O a.args.length P,.int .i64 a.pos,.slice Q J7.length R,.slice S Q7.length T,.int .i64 p] 174))));generalize wr.alloc _=wa at b G u m o|-
   have C:=N6 G.out;have H:=I7 G.out;generalize wr.heap.size=b6 at G H C|-
   obtain rfl|rfl|rfl|rfl|rfl|rfl|rfl:k=1\/k=2\/k=3\/k=4\/k=5\/k=6\/k=7:=by omega
   all_goals clear h1 h7
   all_goals
    (go_wp2_with(first|(go_at_call 119;refine(yU E (HN.out (by decide)) _ (HG.out.to b.out)).mono ?_;rintro e w7 ⟨rfl,y⟩;replace G:=zh ((y.block b6 H).trans G.out);have C:=N6 G.out;have H:=I7 G.out;replace b:=zh (b.out.trans (y.mono b.out.size));replace u:=zh (u.out.J0 (F':=F) (J1 y));replace m:=zh (m.out.J0 (F':=F) (J1 y));replace o:=zh (o.out.J0 (F':=F) (J1 y)))|(go_at_call 152;refine(zj6 HE.out _ (by have:=J.out;omega) (by omega) O P F _ u.out (HG.out.to b.out)).mono ?_;rintro e w8 ⟨rfl,v⟩;have I:=zh ((v.block b6 H).trans G.out);have D:=N6 I.out;have a3:=I7 I.out;have L:=zh (World.ownsRow_made (e:=89) (size:=1) (base:=w8.heap.size) w8 #[] 0 (y6 _) (by decide) rfl);have a4:=zh ((y7 w8.heap.size w8).alloc (y6 _) (.cells #[] 89)))|(at_builtin;go_must(first|(refine zbw a4 L rfl _ _ rfl rfl rfl (by simp) (by simp[Value.oneCell']) (by decide) ?_;clear L;intro g1 c2 w9 M N;have D1:=N6 ((N.out.block b6 a3).trans I.out))|(refine zbw N M rfl _ _ rfl rfl rfl (by simp) (by simp[Value.oneCell']) (by decide) ?_;clear M;intro g2 c3 w10 b7 a5;have D2:=N6 ((a5.out.block b6 a3).trans I.out))))))
   all_goals
    first
    |(have a6:=N8 b7.out;have V:=a5;obtain⟨wz,rfl⟩: ∃z:World,z=w10:=⟨_,rfl⟩)
    |(have a6:=N8 M.out;have V:=N;obtain⟨wz,rfl⟩: ∃z:World,z=w9:=⟨_,rfl⟩)
    |(clear L;have V:=a4;generalize w8.alloc (.cells #[] 89)=wz at V|-)
    have a7:=zh ((b.out.trans (v.mono b.out.size)).trans (V.out.mono (C4 b.out.size v.size)));replace m:=zh ((m.out.J0 (F':=F) (J1 v)).J0 (F':=F) (J1 V.out));replace o:=zh ((o.out.J0 (F':=F) (J1 v)).J0 (F':=F) (J1 V.out))
    (try clear D1)
    (try clear D2)
    clear C D v
    (try(rcases a6 with⟨h,-⟩|⟨c8,c9,h,-,a8,a9⟩;cases h;cases h))
    go_loopw[71] (λi wq=> ∃q:Nat,q<=2/\i=.int .i64 q/\Hid (Below wz.heap.size wz wq)) (λi _=>2-(intOf i).toNat)
    case atStart=>exact⟨0,by omega,rfl,zh (y7 _ _)⟩
    case round=>
     obtain⟨q,hq,rfl,f⟩:=hrel;have B:=zh (a7.out.trans (f.out.mono a7.out.size));obtain rfl|rfl|rfl:q=0\/q=1\/q=2:=by omega
     ·(try have kc:=(f.out.cell (p:=⟨_,0,none⟩) a8).trans (a9 0 _ rfl))
      go_wp2_with fail
      first
      |exact⟨⟨j+1,by omega,by go_num,B⟩,by simp[intOf];omega⟩
      |((try clear kc)
        refine(IH.out K (by omega) _ (by have:=J.out;omega) (by omega) J7 Q R F _ (m.out.J0 (J1 f.out)) b2.out b4.out (HG.out.to B.out)).mono ?_;rintro e b8 ⟨rfl,r⟩;have t:=zh (f.out.trans (r.mono f.out.size));clear r
        go_wp2_with fail
        first
        |exact⟨⟨1,by omega,rfl,t⟩,by simp[intOf]⟩
        |(go_roundw
          case rel=>exact⟨1,by omega,rfl,t⟩
          case measure=>simp[intOf]))
     ·(try have kc:=(f.out.cell (p:=⟨_,1,none⟩) a8).trans (a9 1 _ rfl))
      go_wp2_with fail
      first
      |exact⟨⟨j+1,by omega,by go_num,B⟩,by simp[intOf];omega⟩
      |((try clear kc)
        refine(IH.out K (by omega) _ (by have:=J.out;omega) (by omega) Q7 S T F _ (o.out.J0 (J1 f.out)) b3.out b5.out (HG.out.to B.out)).mono ?_;rintro e b8 ⟨rfl,r⟩;have t:=zh (f.out.trans (r.mono f.out.size));clear r
        go_wp2_with fail
        first
        |exact⟨⟨2,by omega,rfl,t⟩,by simp[intOf]⟩
        |(go_roundw
          case rel=>exact⟨2,by omega,rfl,t⟩
          case measure=>simp[intOf]))
     ·go_wp2_with fail
      exact⟨⟨j+1,by omega,by go_num,B⟩,by simp[intOf];omega⟩
  ·have k1:(l.length:Int)<=(j:Int):=by omega
   go_wp2_with fail
   go_ret;exact⟨rfl,HB.out⟩
theorem sw(p:Bool)(d:Nat):SwC p d:=by
 induction d using Nat.strongRecOn with
 |_ d a=>cases p with
  |true=>exact zj1 d a
  |false=>exact zj7 d a
theorem zf6(w:World):Calls prog 118 #[.int .i64 1] w λe w'=>e=.returned (.bool true)/\w=w':=by
 go_in
 go_wp2_with fail
 go_ret;exact⟨rfl,rfl⟩
theorem zc9(l:List Fn)(A:Option Addr)(c:Nat)(F:Nat->Prop)(w:World)(R:R0 w F (.slice A l.length c) l)(S: ∀f∈l,Fw f)(T:l.length<=16)(U:U2 w):
 Calls prog 53 #[.agg #[.slice A l.length c]] w λe w'=>e=.returned (.int .i64 0)/\Below w.heap.size w w':=by
 have W:=zh R;have X:=zh S;have Y:=zh U;have Z:(l.length:Int)<=16:=by omega
 have E:=zh ((y7 w.heap.size w).alloc (y6 _) (.cells #[.slice A l.length c] 34));clear R S U
 go_in
 go_wp2_with fail
 go_loopw[15] (λi wr=> ∃j:Nat,j<=l.length/\i=.int .i64 j/\Hid (Below w.heap.size w wr)) (λi _=>l.length-(intOf i).toNat)
 case atStart=>exact⟨0,E2 _,rfl,E⟩
 case round=>
  obtain⟨j,hj,rfl,y⟩:=hrel
  by_cases G:j<l.length
  ·obtain⟨f,H⟩: ∃f,l[j]?=some f:=⟨_,y8 G⟩
   have r:=X.out f (B7 H);obtain⟨g,I,J,K,L,M,z,B,rfl,hg,s,a,t,o⟩:=(W.out.J0 (J1 y.out)).at j f H;have p:f.O6.length=f.J3.length:=by rw[r.O6,D9]
   rw[p,r.out]at o;have q0:wr.cell? ⟨g,I+j*6,none⟩=_:=o 0 _ rfl;have q1:=o 1 _ rfl;have q2:=o 2 _ rfl;have q3:=o 3 _ rfl;have q4:=o 4 _ rfl;have q5:=o 5 _ rfl;have h6:(f.J3.length:Int)<=6:=by have:=r.zcj;omega
   have u:=zh r;have b:=zh s;have d:=zh a;have h:=zh t;have a0:=zh p;clear r s a t p o H;have k0:(0:Int)<=(j:Int):=by omega
   have k1:(j:Int)<(l.length:Int):=by omega
   go_wp2_with(go_at_call 95;refine(yP f.L6 u.out.L6 _).mono ?_;rintro e w7 ⟨rfl,rfl⟩)
   have k:=zh (y.out.alloc y.out.size (.cells #[.string f.L6,.slice J f.J3.length K,.slice L f.J3.length M,.int .i64 1,.slice z f.J7.length B,.int .i64 f.pos] 91));have N:=zh (y9 wr (.cells #[.string f.L6,.slice J f.J3.length K,.slice L f.J3.length M,.int .i64 1,.slice z f.J7.length B,.int .i64 f.pos] 91));have m:Below wr.heap.size wr (wr.alloc (.cells #[.string f.L6,.slice J f.J3.length K,.slice L f.J3.length M,.int .i64 1,.slice z f.J7.length B,.int .i64 f.pos] 91)):=(y7 _ _).alloc (y6 _) _;replace b:=zh (b.out.J0 (F':=F) (J1 m));replace d:=zh (d.out.J0 (F':=F) (J1 m));replace h:=zh (h.out.J0 (F':=F) (J1 m));clear q0 q1 q2 q3 q4 q5 m;generalize wr.alloc _=wa at k N b d h|-
   generalize wr.heap.size=b6 at N|-
   go_loopw[49] (λi wq=> ∃q:Nat,q<=f.J3.length/\i=.int .i64 q/\wq=wa) (λi _=>f.J3.length-(intOf i).toNat)
   case atStart=>exact⟨0,E2 _,rfl,rfl⟩
   case round=>
    obtain⟨q,hq,rfl,rfl⟩:=hrel;have D:=N6 N.out
    by_cases O:q<f.J3.length
    ·obtain⟨n,C⟩: ∃n,f.J3[q]?=some n:=⟨_,y8 O⟩
     have v:=u.out.J3 n (B7 C);obtain⟨gn,on,rfl,-,kn⟩:=b.out.at q n C;have a:=d.out;obtain⟨gt,ot,rfl,-,kt⟩:=a.at q 1 (by rw[u.out.O6,G3,C];rfl);have P:=zh v;have m0:(0:Int)<=(q:Int):=by omega
     have m1:(q:Int)<(f.J3.length:Int):=by omega
     clear C v a
     go_wp2_with(go_at_call 95;refine(yP n P.out _).mono ?_;rintro e w7 ⟨rfl,rfl⟩)
     exact⟨⟨q+1,by omega,by go_num,trivial⟩,by simp[intOf];omega⟩
    ·have k2:(f.J3.length:Int)<=(q:Int):=by omega
     go_wp2_with fail
     refine(sw true 40 40 rfl (by omega) f.J7 z B F _ h.out u.out.J7 u.out.zfK (Y.out.to k.out)).mono ?_;rintro e w8 ⟨rfl,x⟩;have Q:=zh (k.out.trans (x.mono k.out.size));clear x D
     go_wp2_with fail
     exact⟨⟨j+1,by omega,by go_num,Q⟩,by simp[intOf];omega⟩
  ·have k1:(l.length:Int)<=(j:Int):=by omega
   go_wp2_with fail
   go_ret;exact⟨rfl,y.out⟩
theorem M2{B:Nat}{w w':World}{b:Nat}(h:Below B w w')(c:B<=b)(j:Nat)(u:Value):Below B w (w'.setCell ⟨b,j,none⟩ u):=
 ⟨h.os,h.tape,h.output,by simpa using h.size,λk a=>(G0 w' ⟨b,j,none⟩ u k (by simp;omega)).trans (h.block k a)⟩
theorem xl.O7{w w' w0:World}{base e:Nat}{K:Kc}{us:List Fn}{F:Nat->Prop}{A A':Option Addr}{c:Nat}{d:W9}{m:Nat}(h:xl w base e K us F A c d m)(a:Kq w w' e A A')(b:Below base w0 w)(g:base<=w.heap.size):Below base w0 w':=
 ⟨a.os.trans b.os,a.tape.trans b.tape,a.output.trans b.output,C4 b.size a.size,λk f=>(h.low a k f (by omega)).trans (b.block k f)⟩
theorem xl.start{w:World}{base:Nat}{K:Kc}{us:List Fn}{F:Nat->Prop}(a:R0 w F (.slice K.Au us.length K.cu) us)(b: ∀g,F g->g<base)(c:base<=w.heap.size):
 xl (w.alloc (.cells #[.slice K.Au us.length K.cu,K.nm,K.vn,K.vt,.int .i64 1,K.vb,K.ps,.slice none 0 0,.int .i64 0] 167)) base w.heap.size K us F none 0 [] 0:=
 ⟨y9 w _,a.J0 (J1 ((y7 _ _).alloc (y6 _) _)),⟨rfl,.inl ⟨rfl,rfl⟩⟩,c,by simp[Value.ownBlock],b⟩
theorem Yf(q r:Addr)(w:World):
 CallsD prog 97 #[.pointer (some q),.pointer (some r)] .returning w λe a w'=>e=.returned (.tuple #[])/\a=.returning/\w'=w:=by
 refine callsD_of_wpS func97 rfl λb d c=>?_;apply wpS_seq;apply wpS_region;simp[wpOpsS,go_sem,recoverD,c,ntmps97,Exit.thenS];apply wpS_seq;apply wpS_region;simp[wpOpsS,go_sem,Exit.thenS];refine wpS_cond (t:=false) (by simp[Act.eval,Array.replicate]) ?_;simp only[C6,if_false];refine wpS_of_wp (wp_skip ?_);cases b
 simp_all[bodyPostS,results,Tryz.results97]
theorem Jo(b c:Nat)(p e:Int)(a:Array Value)(w:World)(g:a.getD 2 undef=.pointer (some ⟨b,0,none⟩))(h:a.getD 3 undef=.pointer (some ⟨c,0,none⟩))
 (i:w.heap[b]?=some (.cells #[.int .i64 p] 3 (0,0))) (j:w.heap[c]?=some (.cells #[.int .i64 e] 27 (0,0))):
 (results Tryz.f54 a).run prog w=.ok (.tuple #[.int .i64 p,.int .i64 e]) w:=by
 have d:a[2]?.getD undef=.pointer (some ⟨b,0,none⟩):=by simpa using g
 have f:a[3]?.getD undef=.pointer (some ⟨c,0,none⟩):=by simpa using h
 have k:w.cell? ⟨b,0,none⟩=some (.int .i64 p):=y5 i 0;have l:w.cell? ⟨c,0,none⟩=some (.int .i64 e):=y5 j 0;simp[results,Tryz.results54,d,f,asAddr,go_sem,k,l]
theorem R0.take{w:World}{F:Nat->Prop}{A:Option Addr}{c:Nat}{l:List Fn}(h:R0 w F (.slice A l.length c) l)(j:Nat):R0 w F (.slice A (l.take j).length c) (l.take j):=by
 rcases h with⟨a,v,e,rfl⟩|⟨g,d,n,o,p,q,e,r,s,t⟩
 ·injection e with i u m
  subst i m;exact .inl ⟨A,c,by simp,by simp⟩
 ·injection e with i u m
  subst i m;refine .inr ⟨g,d,_,o,p,q,rfl,r,s,λk f b=>t k f ?_⟩;rw[List.getElem?_take]at b
  split at b
  ·exact b
  ·cases b
theorem JG(s:ByteArray):(s.toList==[109,97,105,110])=decide (s=yY):=by rw[<-zcw,show yY.toList=[109,97,105,110] by rw[E0];rfl]
theorem zdJ(n:Nat):((n:Int)==0)=decide (n=0):=by rw[F8];simp
theorem zfb{l:List ByteArray}(b:l.Nodup){q:Nat}{n:ByteArray}(h:l[q]?=some n):n∉(l.take q).reverse:=by
 intro c;have a:=(List.getElem?_eq_some_iff.1 h).1;rw[<-List.take_append_drop q l,List.nodup_append]at b;refine b.2.2 n (List.mem_reverse.1 c) n ?_ rfl;rw[F9 a,(List.getElem?_eq_some_iff.1 h).2];exact B2 ..
theorem zeM{us:List Fn}(b:(us.map Fn.L6).Nodup){j:Nat}{f:Fn}(hf:us[j]?=some f): ∀g∈us.take j,g.L6≠f.L6:=by
 intro g c e;have a:=(List.getElem?_eq_some_iff.1 hf).1;have d:(us.take j++us.drop j).map Fn.L6=us.map Fn.L6:=by rw[List.take_append_drop]
 rw[<-d,List.map_append,List.nodup_append]at b;refine b.2.2 g.L6 (G8 c) f.L6 (G8 ?_) e;rw[F9 a,(List.getElem?_eq_some_iff.1 hf).2];exact B2 ..
theorem zdF(us:List Fn)(A:Option Addr)(c:Nat)(F:Nat->Prop)(w:World)(hA:R0 w F (.slice A us.length c) us)(hU:Uw us)(hc:us.length<=c)(hG:U2 w):
 Calls prog 54 #[.agg #[.slice A us.length c]] w λe w'=>e=.returned (.tuple #[.int .i64 0,.int .i64 0])/\Below w.heap.size w w':=by
 have a9:=(y7 w.heap.size w).alloc (y6 _) (.cells #[.slice A us.length c] 34);have M:Below w.heap.size w (((w.alloc (.cells #[.slice A us.length c] 34)).alloc (.cells #[.int .i64 0] 3)).alloc (.cells #[.int .i64 0] 27)):=(a9.alloc (by simp) _).alloc (by simp;omega) _
 have S: ∃W bu bp Z,W=(((w.alloc (.cells #[.slice A us.length c] 34)).alloc (.cells #[.int .i64 0] 3)).alloc (.cells #[.int .i64 0] 27))/\bu=w.heap.size/\bp=w.heap.size+1/\Z=w.heap.size+2/\W.heap[bu]?=some (.cells #[.slice A us.length c] 34 (0,0))/\W.heap[bp]?=some (.cells #[.int .i64 0] 3 (0,0))/\W.heap[Z]?=some (.cells #[.int .i64 0] 27 (0,0)):=
  ⟨_,_,_,_,rfl,rfl,rfl,rfl,(D4 _ _ (by simp;omega)).trans ((D4 _ _ (by simp)).trans (y9 w _)),(D4 _ _ (by simp)).trans (by simpa using y9 (w.alloc (.cells #[.slice A us.length c] 34)) (.cells #[.int .i64 0] 3)),by simpa using y9 ((w.alloc (.cells #[.slice A us.length c] 34)).alloc (.cells #[.int .i64 0] 3)) (.cells #[.int .i64 0] 27)⟩
 obtain⟨W,bu,bp,Z,hW,O,t,h3,x1,x2,x3⟩:=S;have HB:=zh (hW▸M);have HA:=zh (hA.J0 (F':=F) (J1 HB.out));have S:=zh (And.intro x1 (And.intro x2 x3));have HU:=zh hU;have PC:=zh (zc9 us A c F W HA.out hU.fw hU.len (hG.to HB.out));have HV:=zh (And.intro O (And.intro t h3));have e7:=hU.len;have e8: ∀(fn:Go.Fn)(first b0:Array Value)(w:World),(Instr.makeFunc fn first b0).run prog w=.ok (.func fn first b0) w:=λ_ _ _ _=>rfl;have C1:=N6 x1;have c9:=zh hW;clear a9 M hA hU hG x1 x2 x3
 go_enter_defers func54,ntmps54
 go_upto_region 1 with(fail)
 rw[<-hW,<-h3,<-t,<-O];clear hW O t h3 c9;have hz:=I7 S.out.2.2
 go_wp2_with fail
 refine PC.out.mono ?_;rintro e v ⟨rfl,p⟩;have L:=zh (λ(w':World) (hb:Below v.heap.size v w')=>(⟨(hb.block bu (z6 (I7 S.out.1) p.size)).trans ((p.block bu (I7 S.out.1)).trans S.out.1),(hb.block bp (z6 (I7 S.out.2.1) p.size)).trans ((p.block bp (I7 S.out.2.1)).trans S.out.2.1),(hb.block Z (z6 hz p.size)).trans ((p.block Z hz).trans S.out.2.2)⟩:w'.heap[bu]?=_/\w'.heap[bp]?=_/\w'.heap[Z]?=_));replace HA:=zh (HA.out.J0 (F':=λg=>g<v.heap.size) (λg O t=>⟨z6 t p.size,z6 t p.size,p.block g t⟩));have b1:=zh (HB.out.trans (p.mono HB.out.size));have e9:Z<v.heap.size:=z6 hz p.size;clear p C1 PC S hz HB;have C1:=N6 (L.out v (y7 _ _)).1
 go_wp2_with fail
 go_loopw[5,22] (λu i wr=> ∃j:Nat,j<=us.length/\i=.int .i64 j/\u=.bool ((us.take j).any λf=>decide (f.L6=yY)&&decide (f.J3.length=0))/\Hid (Below v.heap.size v wr)) (λ_ i _=>us.length-(intOf i).toNat)
 case atStart=>exact⟨0,E2 _,rfl,rfl,zh (y7 _ _)⟩
 case round=>
  clear C1;obtain⟨j,hj,rfl,rfl,d⟩:=hrel
  by_cases a2:j<us.length
  ·obtain⟨f,hf⟩: ∃f,us[j]?=some f:=⟨_,y8 a2⟩
   have y:=HU.out.fw f (B7 hf);have b4:us.take (j+1)=us.take j++[f]:=by rw[List.take_add_one,hf];rfl
   have b5:=zh ((HA.out.J0 (F':=λ_=>True) (λg O t=>⟨trivial,z6 t d.out.size,d.out.block g t⟩)).take j);obtain⟨g,P,An,cn,At,ct,Ab,z,rfl,hg,-,-,-,m⟩:=(HA.out.J0 (F':=λ_=>True) (λg O t=>⟨trivial,z6 t d.out.size,d.out.block g t⟩)).at j f hf;have B:f.O6.length=f.J3.length:=by rw[y.O6,D9]
   rw[B,y.out]at m;have q0:wr.cell? ⟨g,P+j*6,none⟩=_:=m 0 _ rfl;have q1:=m 1 _ rfl;have q2:=m 2 _ rfl;have q3:=m 3 _ rfl;have q4:=m 4 _ rfl;have q5:=m 5 _ rfl;have C:=N6 (L.out wr d.out).1;have cz:=I7 (L.out wr d.out).1;have r:=(y7 wr.heap.size wr).alloc (y6 _) (.cells #[.string f.L6,.slice An f.J3.length cn,.slice At f.J3.length ct,.int .i64 1,.slice Ab f.J7.length z,.int .i64 f.pos] 91);have G:=zh (y9 wr (.cells #[.string f.L6,.slice An f.J3.length cn,.slice At f.J3.length ct,.int .i64 1,.slice Ab f.J7.length z,.int .i64 f.pos] 91));have I:=I7 G.out;have a1:(us.take j).length=j:=by rw[I5];omega
   have HH:=zh (ziY (c:=c) (s:=f.L6) (b5.out.J0 (F':=λ_=>True) (J1 r)) (zd6 (N:=99) (o:=0) (by simp) I (by rw[(N6 G.out).1];rfl)) (by omega) (zeM HU.out.Zd hf));rw[a1]at HH;have x:=zh (d.out.trans (r.mono d.out.size));have a3:=zh b4;have k0:(0:Int)<=(j:Int):=by omega
   have k1:(j:Int)<(us.length:Int):=by omega
   have k2:(j:Int)<=(c:Int):=by omega
   clear hf y b4 B m r a1 b5 hg
   go_upto_region 9 with(fail)
   clear q0 q1 q2 q3 q4 q5 C cz;generalize wr.alloc _=wa at G I HH x|-
   generalize wr.heap.size=bq at G I HH|-
   have C:=N6 (L.out wa x.out).1
   go_wp2_with fail
   refine HH.out.mono ?_;rintro e w3 ⟨rfl,M⟩;have d0:=zh ((M.block bq I).trans G.out);have d1:=zh (x.out.trans (M.mono x.out.size));have D:=N6 d0.out;generalize b6:(us.take j).any (λf=>decide (f.L6=yY)&&decide (f.J3.length=0))=bm;have d2:=zh b6;obtain⟨bn,d3⟩: ∃b,(f.L6.toList==[109,97,105,110])=b:=⟨_,rfl⟩;obtain⟨bl,d4⟩: ∃b,((f.J3.length:Int)==0)=b:=⟨_,rfl⟩;have d5:=zh ((JG _).symm.trans d3);have d6:=zh ((zdJ _).symm.trans d4);clear M C b6;cases bm<;>cases bn<;>cases bl
   all_goals
    go_wp2_with fail
    exact⟨⟨j+1,by omega,by go_num,by rw[a3.out,List.any_append,d2.out];simp only[List.any_cons,d5.out,d6.out,List.any_nil];rfl,d1⟩,by simp[intOf];omega⟩
  ·obtain rfl:j=us.length:=by omega
   have T:((us.take us.length).any λf=>decide (f.L6=yY)&&decide (f.J3.length=0))=true:=by
    obtain⟨f,O,t,h3⟩:=HU.out.main;rw[F6];exact List.any_eq_true.2 ⟨f,O,by simp[t,h3]⟩
   rw[T];clear T;have C:=N6 (L.out wr d.out).1
   go_wp2_with fail
   clear C
   go_loopw[60] (λi wr=> ∃j:Nat,j<=us.length/\i=.int .i64 j/\Hid (Below v.heap.size v wr)) (λi _=>us.length-(intOf i).toNat)
   case atStart=>exact⟨0,E2 _,rfl,d⟩
   case round=>
    clear d;obtain⟨j,hj,rfl,d⟩:=hrel
    by_cases a2:j<us.length
    ·obtain⟨f,hf⟩: ∃f,us[j]?=some f:=⟨_,y8 a2⟩
     have y:=HU.out.fw f (B7 hf);have b7:=HU.out.ty f (B7 hf);have a4:=(HA.out.J0 (F':=λg=>g<v.heap.size) (λg O t=>⟨O,z6 t d.out.size,d.out.block g t⟩));obtain⟨g,P,An,cn,At,ct,Ab,z,rfl,hg,b8,J,b9,m⟩:=a4.at j f hf;have B:f.O6.length=f.J3.length:=by rw[y.O6,D9]
     rw[B,y.out]at m;rw[B]at J;have q0:wr.cell? ⟨g,P+j*6,none⟩=_:=m 0 _ rfl;have q1:=m 1 _ rfl;have q2:=m 2 _ rfl;have q3:=m 3 _ rfl;have q4:=m 4 _ rfl;have q5:=m 5 _ rfl;have C:=N6 (L.out wr d.out).1;have cz:=I7 (L.out wr d.out).1;have r:=(y7 wr.heap.size wr).alloc (y6 _) (.cells #[.string f.L6,.slice An f.J3.length cn,.slice At f.J3.length ct,.int .i64 1,.slice Ab f.J7.length z,.int .i64 f.pos] 91);have G:=zh (y9 wr (.cells #[.string f.L6,.slice An f.J3.length cn,.slice At f.J3.length ct,.int .i64 1,.slice Ab f.J7.length z,.int .i64 f.pos] 91));have x:=zh (d.out.trans (r.mono d.out.size));have a5:=zh (a4.J0 (F':=λg=>g<v.heap.size) (λg O t=>⟨O,z6 t r.size,r.block g t⟩));have U:=zh (b8.J0 (F':=λg=>g<v.heap.size) (J1 r));have X:=zh (J.J0 (F':=λg=>g<v.heap.size) (J1 r));have Y:=zh (b9.J0 (F':=λg=>g<v.heap.size) (J1 r));have a0:=zh y;have c0:=zh b7;have h6:=y.zcj;have k0:(0:Int)<=(j:Int):=by omega
     have k1:(j:Int)<(us.length:Int):=by omega
     clear hf y b7 a4 B m r hg b8 J b9
     go_upto_region 18 with(fail)
     clear q0 q1 q2 q3 q4 q5 C cz;generalize wr.alloc _=wa at G x a5 U X Y|-
     generalize wr.heap.size=bq at G|-
     have I:=I7 G.out;have C:=N6 (L.out wa x.out).1;have D:=N6 G.out
     go_upto_region 19 with(fail)
     have Q:=(y7 wa.heap.size wa).alloc (y6 _) (.cells #[.slice (some ⟨g,P,none⟩) us.length c,.string f.L6,.slice An f.J3.length cn,.slice At f.J3.length ct,.int .i64 1,.slice Ab f.J7.length z,.int .i64 f.pos,.slice none 0 0,.int .i64 0] 167);have E:=zh (xl.start (K:=⟨some ⟨g,P,none⟩,c,.string f.L6,.slice An f.J3.length cn,.slice At f.J3.length ct,.slice Ab f.J7.length z,.int .i64 f.pos⟩) a5.out (λg h=>h) x.out.size);simp only at E;replace G:=zh ((Q.block bq I).trans G.out);replace U:=zh (U.out.J0 (F':=λg=>g<v.heap.size) (J1 Q));replace X:=zh (X.out.J0 (F':=λg=>g<v.heap.size) (J1 Q));replace Y:=zh (Y.out.J0 (F':=λg=>g<v.heap.size) (J1 Q));have c1:bq≠wa.heap.size:=by omega
     have a6:=zh (x.out.trans (Q.mono x.out.size));have c2:=zh a6.out.size;clear Q a5 I C D;generalize wa.alloc _=wb at G U X Y E a6 c2|-
     generalize wa.heap.size=cb at E c1|-
     generalize hK:(⟨some ⟨g,P,none⟩,c,.string f.L6,.slice An f.J3.length cn,.slice At f.J3.length ct,.slice Ab f.J7.length z,.int .i64 f.pos⟩:Kc)=K at E;clear hK;have D:=N6 G.out
     go_wp2_with fail
     clear D
     go_loopw[71] (λi wq=> ∃(q:Nat)(A':Option Addr)(c':Nat),q<=f.J3.length/\i=.int .i64 q/\Hid (xl wq v.heap.size cb K us (λg=>g<v.heap.size) A' c' (f.J3.take q).reverse q)/\Hid (Kq wb wq cb none A')) (λi _=>f.J3.length-(intOf i).toNat)
     case atStart=>exact⟨0,none,0,E2 _,rfl,E,zh (Kq.of cb none (y7 _ _))⟩
     case round=>
      obtain⟨q,A',c',hq,rfl,c3,R⟩:=hrel;have a7:=zh ((R.out.K3 bq (I7 G.out) c1 (λa h=>nomatch h)).trans G.out);have D:=N6 a7.out
      by_cases d7:q<f.J3.length
      ·obtain⟨n,hn⟩: ∃n,f.J3[q]?=some n:=⟨_,y8 d7⟩
       obtain⟨gn,on,rfl,f0,kn⟩:=(U.out.J0 (F':=λg=>g<v.heap.size) (E.out.JV R.out)).at q n hn;have J:=X.out.J0 (F':=λg=>g<v.heap.size) (E.out.JV R.out);obtain⟨gt,ot,rfl,f1,kt⟩:=K9.at (l:=f.O6) (by rw[a0.out.O6,D9];rw[a0.out.O6]at J;exact J) q 1 (by rw[a0.out.O6,G3,hn];rfl);have d8:=zh (zfb c0.out.1 hn);have a3:Hid ((f.J3.take (q+1)).reverse=n::(f.J3.take q).reverse):=zh (by rw[List.take_add_one,hn];simp);have B:(f.J3.take q).reverse.length=q:=by rw[List.length_reverse,I5];omega
       have d9:=zh B;have f2:=I7 a7.out;have m0:(0:Int)<=(q:Int):=by omega
       have m1:(q:Int)<(f.J3.length:Int):=by omega
       clear hn J B
       go_upto_region 22 with(fail)
       have c4:=zh (c3.out.below (J5 wr));have c5:=zh (R.out.trans (Kq.of cb A' (J5 wr)));clear a7
       go_still_tail 9,(by kernel_rfl)
       clear D kn kt;change wpList _ _ _ _ _ wr.drew;generalize wr.drew=wd at c4 c5|-
       go_wp2_with fail
       refine(zfW _ c4.out d8.out (by omega) (by rw[d9.out];omega)).mono ?_;rintro e w7 ⟨rfl,A7,c7,h7,k7⟩;have e0:=zh (a3.out▸h7);have e1:=zh (c5.out.trans k7);clear h7 k7
       go_wp2_with fail
       exact⟨⟨q+1,A7,c7,by omega,by go_num,e0,e1⟩,by simp[intOf];omega⟩
      ·obtain rfl:q=f.J3.length:=by omega
       obtain⟨e5,m9,c6⟩:=c0.out.2;have a8:=c3.out;rw[F6]at a8;have e2:=zh (zf4 ⟨HU.out.len,HU.out.Zd,HU.out.fw⟩ 40 f.J7 _ _ _ _ _ c6 (by omega) (by rw[List.length_reverse];exact y6 _) a0.out.zfK Ab z wr _ _ _ _ _ _ a8 (Y.out.J0 (F':=λg=>g<v.heap.size) (E.out.JV R.out)));clear c6 a8
       go_wp2_with fail
       refine e2.out.mono ?_;rintro e w8 ⟨rfl,A8,c8,h8,k8⟩;have e3:=zh (E.out.O7 (R.out.trans k8) a6.out c2.out);clear h8 k8 D
       go_wp2_with fail
       exact⟨⟨j+1,by omega,by go_num,e3⟩,by simp[intOf];omega⟩
    ·have C2:=N6 (L.out wr d.out).2.1
     have C3:=N6 (L.out wr d.out).2.2;have e4:Z≠bp:=by have:=HV.out;omega
     have e6:=e4.symm;have b2:=I7 (L.out wr d.out).2.1;have b3:=I7 (L.out wr d.out).2.2
     go_wp2_with fail
     refine leaves_cons (f:=97) (args:= #[.pointer (some ⟨bp,0,none⟩),.pointer (some ⟨Z,0,none⟩)]) (by simp) (by simp[go_sem]) ?_;refine(Yf _ _ _).mono ?_;rintro e u' w' ⟨rfl,rfl,rfl⟩;simp only[settle];obtain⟨O,t,h3⟩:=HV.out;have o1: ∀(V:World)(k j:Nat)(u:Value),j≠k->(V.setCell ⟨k,0,none⟩ u).heap[j]?=V.heap[j]?:=λV k j u h=>G0 V ⟨k,0,none⟩ u j (by simpa using h);exact⟨_,Jo bp Z 0 0 _ _ (by simp) (by simp) ((o1 _ _ _ _ (by omega)).trans (Z1 (u:=[.int .i64 0]) (L.out wr d.out).2.1)) (Z1 (u:=[.int .i64 0]) ((o1 _ _ _ _ (by omega)).trans (L.out wr d.out).2.2)),rfl,M2 (M2 (b1.out.trans (d.out.mono b1.out.size)) (by omega) 0 _) (by omega) 0 _⟩
end Go.Proofs.YtalgmjmibamdfaaGreatDoor
namespace Go.Proofs.YtalgmjmibamdfaaGreatDoor
open Go.RowKit Tw
def yy(o:S3):List Value:=[.int .i64 o.1,.int .i64 o.2]
def zb(l:List S3):List Value:=l.flatMap yy
def ze(vs:O5):List Value:=vs.map λq=>.string q.1
def Z9(vs:O5):List Value:=vs.map λq=>.int .i64 q.2
theorem Xs(l:List S3)(o:S3):zb (l++[o])=zb l++[.int .i64 o.1,.int .i64 o.2]:=by simp[zb,yy]
theorem YB(l:List S3): ∀(i:Nat)(d a b:Int),l[i]?=some (d,a)->zb (l.set i (d,b))=(zb l).set (i*2+1) (.int .i64 b):=by
 induction l with
 |nil=>intro i d a b h;simp at h
 |cons o l c=>
  intro i d a b h;cases i with
  |zero=>simp at h;subst h;simp[zb,yy]
  |succ i=>
   have:=c i d a b (by simpa using h);simp only[List.set_cons_succ,zb,List.flatMap_cons,yy,B6,C0]at*;rw[show(i+1)*2=i*2+1+1 by omega,List.set_cons_succ,this]
structure Mv where
 An:Option Addr
 cn:Nat
 Aa:Option Addr
 ca:Nat
 Ao:Option Addr
 co:Nat
structure Mk(w:World)(mb:Nat)(U:Value)(V:Mv)(vs:O5)(many:Nat)(ops:List S3):Prop where
 K3:w.heap[mb]?=some (.cells #[U,.slice V.An vs.length V.cn,.slice V.Aa vs.length V.ca,.int .i64 many,.slice V.Ao ops.length V.co] 127 (0,0))
 rn:w.ownsRow mb 9 1 (.slice V.An vs.length V.cn) vs.length (ze vs)
 ra:w.ownsRow mb 3 1 (.slice V.Aa vs.length V.ca) vs.length (Z9 vs)
 ro:w.ownsRow mb 74 2 (.slice V.Ao ops.length V.co) ops.length (zb ops)
theorem L9{w:World}{base e size n b t:Nat}{v:Value}{xs:List Value}{f:Array Value}{i:Nat×Nat}(h:w.ownsRow base e size v n xs)(j:w.heap[b]?=some (.cells f t i))(c:e≠t):v.ownBlock≠some b:=by
 intro d
 rcases h.2 with⟨rfl,_⟩|⟨g,k,l,rfl,_,a,_⟩
 ·cases d
 ·have:g=b:=by simpa[Value.ownBlock]using d
  subst this;rw[j]at a;injection a with a
  injection a with _ m
  exact c m.symm
theorem xN{w:World}{base e size n d a i:Nat}{v f:Value}{xs b:List Value}(h:w.ownsRow base e size v n xs)(j:w.ownsRow base d a f i b)(c:e≠d):v.ownBlock=none\/v.ownBlock≠f.ownBlock:=by
 rcases j.2 with⟨rfl,_⟩|⟨g,l,m,rfl,_,o,_⟩
 ·cases p:v.ownBlock with
  |none=>exact .inl rfl
  |some k=>exact .inr (by simp[Value.ownBlock])
 ·exact .inr (L9 h o c)
structure Kp(w w':World):Prop where
 size:w.heap.size<=w'.heap.size
 K3: ∀(k:Nat)(cs:Array Value)(t:Nat)(fr:Nat×Nat),w.heap[k]?=some (Obj.cells cs t fr)->t≠9->t≠3->t≠74->t≠127->w'.heap[k]?=w.heap[k]?
theorem Kp.refl(w:World):Kp w w:=⟨y6 _,λ_ _ _ _ _ _ _ _ _=>rfl⟩
theorem Kp.trans{w i w2:World}(h:Kp w i)(j:Kp i w2):Kp w w2:=
 ⟨C4 h.size j.size,λk a t b c d e f g=>(j.K3 k a t b ((h.K3 k a t b c d e f g).trans c) d e f g).trans (h.K3 k a t b c d e f g)⟩
theorem Kp.of{w w':World}(h:Below w.heap.size w w'):Kp w w':=⟨h.size,λk _ _ _ a _ _ _ _=>h.block k (I7 a)⟩
theorem Kp.set{w:World}{b j:Nat}{v:Value}{c:Array Value}{t:Nat}{d:Nat×Nat}(f:w.heap[b]?=some (.cells c t d))(l:t=9\/t=3\/t=74\/t=127):Kp w (w.setCell ⟨b,j,none⟩ v):=by
 refine⟨(J2 w b j v).size,λk g m h a n o p q=>(J2 w b j v).block k (I7 a) λe=>?_⟩;have:k=b:=by simpa using e
 subst this;rw[f]at a;injection a with a
 injection a with _ i
 subst i;omega
theorem Kp.W8{w w':World}{base e size n:Nat}{v:Value}{xs:List Value}(a:w.ownsRow base e size v n xs)(f:e=9\/e=3\/e=74\/e=127)(b:w.grownBy w' v.ownBlock):Kp w w':=by
 refine⟨b.size,λk g t h c i j l m=>b.block k (I7 c) λd=>?_⟩;exact L9 a c (by rintro rfl;omega) d.symm
section
variable {w w':World}{mb:Nat}{U:Value}{V:Mv}{vs:O5}{many:Nat}{ops:List S3}
theorem Mk.lt(h:Mk w mb U V vs many ops):mb<w.heap.size:=I7 h.K3
theorem Mk.below(h:Mk w mb U V vs many ops)(a:Below w.heap.size w w'):Mk w' mb U V vs many ops:=
 ⟨(a.block mb h.lt).trans h.K3,h.rn.kept (K7 a none) (by cases b:(Value.slice V.An vs.length V.cn).ownBlock<;>simp),h.ra.kept (K7 a none) (by cases b:(Value.slice V.Aa vs.length V.ca).ownBlock<;>simp),h.ro.kept (K7 a none) (by cases b:(Value.slice V.Ao ops.length V.co).ownBlock<;>simp)⟩
theorem qa(h:Mk w mb U V vs many ops):(w.cell? ⟨mb,0,none⟩=some U/\w.cell? ⟨mb,1,none⟩=some (.slice V.An vs.length V.cn)/\w.cell? ⟨mb,2,none⟩=some (.slice V.Aa vs.length V.ca)/\w.cell? ⟨mb,3,none⟩=some (.int .i64 many)/\w.cell? ⟨mb,4,none⟩=some (.slice V.Ao ops.length V.co))/\
 w.frozen? ⟨mb,1,none⟩=false/\w.frozen? ⟨mb,2,none⟩=false/\w.frozen? ⟨mb,3,none⟩=false/\w.frozen? ⟨mb,4,none⟩=false:=
 ⟨⟨y5 h.K3 0,y5 h.K3 1,y5 h.K3 2,y5 h.K3 3,y5 h.K3 4⟩,B4 h.K3 1,B4 h.K3 2,B4 h.K3 3,B4 h.K3 4⟩
theorem Mk.put(h:Mk w mb U V vs many ops){g cap:Nat}{d a:Int}(b:w'.ownsRow mb 74 2 (.slice (some ⟨g,0,none⟩) (ops.length+1) cap) (ops.length+1) (zb ops++[.int .i64 d,.int .i64 a]))(f:w.grownBy w' (Value.slice V.Ao ops.length V.co).ownBlock):
 w'.heap[mb]?=some (.cells #[U,.slice V.An vs.length V.cn,.slice V.Aa vs.length V.ca,.int .i64 many,.slice V.Ao ops.length V.co] 127 (0,0))/\
 Mk (w'.setCell ⟨mb,4,none⟩ (.slice (some ⟨g,0,none⟩) (ops.length+1) cap)) mb U {V with Ao:=some ⟨g,0,none⟩,co:=cap} vs many (ops++[(d,a)]):=by
 have c:w'.heap[mb]?=some (.cells #[U,.slice V.An vs.length V.cn,.slice V.Aa vs.length V.ca,.int .i64 many,.slice V.Ao ops.length V.co] 127 (0,0)):=(f.block mb h.lt (λe=>L9 h.ro h.K3 (by decide) e.symm)).trans h.K3;have i:w'.ownsRow mb _ _ _ _ _:=h.rn.kept f (xN h.rn h.ro (by decide));have j:w'.ownsRow mb _ _ _ _ _:=h.ra.kept f (xN h.ra h.ro (by decide));refine⟨c,by simpa using z5 w' mb 4 _ _ (.slice (some ⟨g,0,none⟩) (ops.length+1) cap) c,i.kept (J2 w' mb 4 _) (.inr (L9 i c (by decide))),j.kept (J2 w' mb 4 _) (.inr (L9 j c (by decide))),?_⟩;have k:=b.kept (J2 w' mb 4 (.slice (some ⟨g,0,none⟩) (ops.length+1) cap)) (.inr (L9 b c (by decide)));rw[Xs,z9];exact k
theorem Mk.zhX(h:Mk w mb U V vs many ops){i:Nat}{d a:Int}(hi:ops[i]?=some (d,a))(b:Int):
 ∃g,V.Ao=some ⟨g,0,none⟩/\mb<=g/\(∃o p,w.heap[g]?=some (.cells o 74 p))/\w.cell? ⟨g,i*2+1,none⟩=some (.int .i64 a)/\w.frozen? ⟨g,i*2+1,none⟩=false/\Mk (w.setCell ⟨g,i*2+1,none⟩ (.int .i64 b)) mb U V vs many (ops.set i (d,b)):=by
 have q:i<ops.length:=by rcases E5 i ops.length with h|h;exact h;rw[D6 h]at hi;cases hi
 rcases h.ro.2 with⟨_,u⟩|⟨g,r,j,s,t,k,v,x,y,z⟩
 ·omega
 ·injection s with f A B
  have c:=h.ro;rw[f]at c;have l:g≠mb:=by
   intro e;subst e;have:=L9 h.ro h.K3 (by decide);rw[f]at this;exact this rfl
  have m:=J2 w g (i*2+1) (.int .i64 b);refine⟨g,f,t,⟨j,_,k⟩,?_,c.frozenAt _,(m.block mb h.lt (by simpa using λe=>l e.symm)).trans (by simpa using h.K3),h.rn.kept m (.inr (L9 h.rn k (by decide))),h.ra.kept m (.inr (L9 h.ra k (by decide))),?_⟩
  ·rw[c.cellAt (i*2+1) (by omega)]
   exact Q6 yy 2 (λ_=>rfl) ops i (d,a) hi 1 _ rfl
  ·have n:=c.stored (i*2+1) (.int .i64 b)
   rw[<-YB ops i d a b hi]at n;simp only[List.length_set];rw[f];exact n.1
end
structure W6(w0 w:World)(mb:Nat)(U:Value)(V:Mv)(vs:O5)(many:Nat)(ops:List S3)(us:List Fn)(F:Nat->Prop):Prop where
 st:Mk w mb U V vs many ops
 yF:R0 w F U us
 O7:Below mb w0 w
 kp:Kp w0 w
 gl:U2 w
 fb: ∀g,F g->g<mb
 Jv:10<mb
section
variable {w0 w w':World}{mb:Nat}{U:Value}{V V':Mv}{vs vs':O5}{many many':Nat}{ops ops':List S3}{us:List Fn}{F:Nat->Prop}
theorem W6.lt(h:W6 w0 w mb U V vs many ops us F):mb<w.heap.size:=h.st.lt
theorem W6.JQ(h:W6 w0 w mb U V vs many ops us F)(c:Mk w' mb U V' vs' many' ops')(a:Below mb w w')(d:Kp w w'):W6 w0 w' mb U V' vs' many' ops' us F:=
 ⟨c,h.yF.J0 (λg b e=>⟨b,z6 e a.size,a.block g (h.fb g b)⟩),h.O7.trans a,h.kp.trans d,h.gl.qn a.size (λg f=>a.block g (by have:=h.Jv;omega)),h.fb,h.Jv⟩
theorem W6.below(h:W6 w0 w mb U V vs many ops us F)(a:Below w.heap.size w w'):W6 w0 w' mb U V vs many ops us F:=
 h.JQ (h.st.below a) (a.mono (I0 h.lt)) (Kp.of a)
theorem W6.qy(h:W6 w0 w mb U V vs many ops us F):W6 w w mb U V vs many ops us F:={h with O7:=y7 _ _,kp:=Kp.refl _}
theorem W6.zgb{a:World}(h:W6 a w mb U V vs many ops us F)(b:Below mb w0 a)(c:Kp w0 a):W6 w0 w mb U V vs many ops us F:={h with O7:=b.trans h.O7,kp:=c.trans h.kp}
theorem W6.next{a:World}(b:W6 w0 a mb U V vs many ops us F)(h:W6 a w mb U V' vs' many' ops' us F):W6 w0 w mb U V' vs' many' ops' us F:=h.zgb b.O7 b.kp
theorem W6.args{v:Value}{l:List Ex}(h:W6 w0 w mb U V vs many ops us F)(a:Below mb w w')(c:O2 w F v l):O2 w' F v l:=
 c.J0 (λg b d=>⟨b,z6 d a.size,a.block g (h.fb g b)⟩)
theorem W6.zid{v:Value}{l:List Sm}(h:W6 w0 w mb U V vs many ops us F)(a:Below mb w w')(c:N0 w F v l):N0 w' F v l:=
 c.J0 (λg b d=>⟨b,z6 d a.size,a.block g (h.fb g b)⟩)
theorem W6.put(h:W6 w0 w mb U V vs many ops us F){g cap:Nat}{d a:Int}(b:w'.ownsRow mb 74 2 (.slice (some ⟨g,0,none⟩) (ops.length+1) cap) (ops.length+1) (zb ops++[.int .i64 d,.int .i64 a]))(c:w.grownBy w' (Value.slice V.Ao ops.length V.co).ownBlock):
 w'.heap[mb]?=some (.cells #[U,.slice V.An vs.length V.cn,.slice V.Aa vs.length V.ca,.int .i64 many,.slice V.Ao ops.length V.co] 127 (0,0))/\
 W6 w0 (w'.setCell ⟨mb,4,none⟩ (.slice (some ⟨g,0,none⟩) (ops.length+1) cap)) mb U {V with Ao:=some ⟨g,0,none⟩,co:=cap} vs many (ops++[(d,a)]) us F:=by
 have e:=h.st.put b c;have f:=L8 (y7 mb w) h.st.ro (y6 _) (I0 h.lt) c;exact⟨e.1,h.JQ e.2 (M2 f (y6 _) 4 _) ((Kp.W8 h.st.ro (by simp) c).trans (Kp.set e.1 (by simp)))⟩
theorem W6.zhX(h:W6 w0 w mb U V vs many ops us F){i:Nat}{d a:Int}(hi:ops[i]?=some (d,a))(b:Int):
 ∃g,V.Ao=some ⟨g,0,none⟩/\w.cell? ⟨g,i*2+1,none⟩=some (.int .i64 a)/\w.frozen? ⟨g,i*2+1,none⟩=false/\W6 w0 (w.setCell ⟨g,i*2+1,none⟩ (.int .i64 b)) mb U V vs many (ops.set i (d,b)) us F:=by
 obtain⟨g,c,e,⟨m,n,f⟩,j,k,l⟩:=h.st.zhX hi b;exact⟨g,c,j,k,h.JQ l (M2 (y7 mb w) e _ _) (Kp.set f (by simp))⟩
end
end Go.Proofs.YtalgmjmibamdfaaGreatDoor
