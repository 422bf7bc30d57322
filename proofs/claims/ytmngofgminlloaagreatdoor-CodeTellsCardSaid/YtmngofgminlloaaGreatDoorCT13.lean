/- Merged. -/
import Derived.Test.YtmngofgminlloaaGreatDoorCT12
set_option linter.all false
set_option maxHeartbeats 16000000
set_option maxRecDepth 100000
namespace Go.Proofs.YtmngofgminlloaaGreatDoor
open Go.Proofs.Tryz
open Go.RowKit Tw
def zcV(w:World)(o p):((w.alloc o).alloc p).drew.heap[w.heap.size]?=some o:=(C4 _ _ (by simp)).trans (A5 w o)
def zct(w:World)(o p):((w.alloc o).alloc p).drew.heap[w.heap.size+1]?=some p:=by
 have h:(w.alloc o).heap.size=w.heap.size+1:=by simp
 rw[<-h];exact A5 (w.alloc o) p
def YG(s:ByteArray):(⟨s.data.toList.toArray⟩:ByteArray)=s:=by cases s;simp
def zom(left:Nat)(h1:1<=left)(ix:ExC (left-1))(iw:Jo (left-1))(n:Int)(t:ByteArray)(a b)(p:Int)(B:Option Addr)(d:Nat)(F:Nat->Prop)(w:World)(base cb:Nat)(K:Hd)(A:Option Addr)(c:Nat)(env:P1)(R:Nat)(us)(d2:zK (.mk 6 n t [a,b] p) left=0)(hZ:xN (.mk 6 n t [a,b] p))(b5: ∀f∈us,FnZ f)(b6:us.length<=281474976710656)(c1:env.length<=1000)(hE:U7 env)(hO:qB us)
 (h:yx w w base cb K A c env R us F) (hA:J7 w F (.slice B 2 d) [a,b]):
 Calls prog 205 #[.pointer (some ⟨cb,0,none⟩),.agg #[.int .i64 6,.int .i64 n,.string t,.slice B 2 d,.int .i64 p]] w λe w'=>jI (O2 us env (.mk 6 n t [a,b] p)) (.int .i64 ·) e/\Below w.heap.size w w':=by
 obtain⟨-,b7,N⟩:=qV d2;have c2:a∈[a,b]:=B2 ..;have c3:b∈[a,b]:=x5 _ (B2 ..);have c4:=N a c2;have d3:=N b c3;have c5:xN a:=hZ.args.2.2 a c2;have d4:xN b:=hZ.args.2.2 b c3;have c6:lv t.data.toList≠0:=by rw[ok6]at b7;simp at b7;exact b7
 obtain⟨g,o,Ba,da,rfl,-,X,c7,a0,a1,a2,a3,a4⟩:=J7.at (l:=[a,b]) hA 0 a rfl;obtain⟨g',off',Bb,db,e1,-,e0,d5,b0,b1,b2,b3,b4⟩:=J7.at (l:=[a,b]) hA 1 b rfl;obtain⟨rfl,rfl⟩:g=g'/\o=off':=by injection e1 with e1;injection e1 with e1 e2;exact⟨e1,e2⟩
 simp only[Nat.zero_mul,Nat.one_mul,Nat.add_zero]at a0 a1 a2 a3 a4 b0 b1 b2 b3 b4
 have CA:Hid (∀W,Below w.heap.size w W-> ∀ty:Int,Calls prog 167 #[.pointer (some ⟨cb,0,none⟩),.agg #[.int .i64 a.I9,.int .i64 a.n,.string a.K0,.slice Ba a.args.length da,.int .i64 a.pos],.int .i64 ty] W λe w'=>jI (N3 us env a ty) (λ_=>.tuple #[]) e/\Below W.heap.size W w'):=
  qh (λW C ty=>iw a ty Ba da F W base cb K A c env R us c4 c5 b5 b6 c1 hE hO (h.below C).Z8 (h.args (C.mono h.bs) c7))
 have CX:Hid (∀W,Below w.heap.size w W->Calls prog 165 #[.pointer (some ⟨cb,0,none⟩),.agg #[.int .i64 a.I9,.int .i64 a.n,.string a.K0,.slice Ba a.args.length da,.int .i64 a.pos]] W λe w'=>jI (O2 us env a) (.int .i64 ·) e/\Below W.heap.size W w'):=
  qh (λW C=>ix a Ba da F W base cb K A c env R us c4 c5 b5 b6 c1 hE hO (h.below C).Z8 (h.args (C.mono h.bs) c7))
 have CB:Hid (∀W,Below w.heap.size w W-> ∀ty:Int,Calls prog 167 #[.pointer (some ⟨cb,0,none⟩),.agg #[.int .i64 b.I9,.int .i64 b.n,.string b.K0,.slice Bb b.args.length db,.int .i64 b.pos],.int .i64 ty] W λe w'=>jI (N3 us env b ty) (λ_=>.tuple #[]) e/\Below W.heap.size W w'):=
  qh (λW C ty=>iw b ty Bb db F W base cb K A c env R us d3 d4 b5 b6 c1 hE hO (h.below C).Z8 (h.args (C.mono h.bs) d5))
 have C:=(x8 w.heap.size w).alloc (x7 _) (.cells #[.int .i64 6,.int .i64 n,.string t,.slice (some ⟨g,o,none⟩) 2 d,.int .i64 p] 186);have HX:=qh (A5 w (.cells #[.int .i64 6,.int .i64 n,.string t,.slice (some ⟨g,o,none⟩) 2 d,.int .i64 p] 186));have HB:=qh C;replace a0:=(C.cell (p:=⟨g,o,none⟩) X).trans a0;replace a1:=(C.cell (p:=⟨g,o+1,none⟩) X).trans a1;replace a2:=(C.cell (p:=⟨g,o+2,none⟩) X).trans a2;replace a3:=(C.cell (p:=⟨g,o+3,none⟩) X).trans a3;replace a4:=(C.cell (p:=⟨g,o+4,none⟩) X).trans a4;replace b0:=(C.cell (p:=⟨g,o+5,none⟩) X).trans b0;replace b1:=(C.cell (p:=⟨g,o+5+1,none⟩) X).trans b1;replace b2:=(C.cell (p:=⟨g,o+5+2,none⟩) X).trans b2;replace b3:=(C.cell (p:=⟨g,o+5+3,none⟩) X).trans b3;replace b4:=(C.cell (p:=⟨g,o+5+4,none⟩) X).trans b4;have b8:=I5 HX.out;have d6:g<(w.alloc (.cells #[.int .i64 6,.int .i64 n,.string t,.slice (some ⟨g,o,none⟩) 2 d,.int .i64 p] 186)).heap.size:=A7 X C.size;clear c2 c3 h C ix iw hA d2 hZ b5 b6 hE hO b7 N c4 d3 c5 d4 e1 X e0 c7 d5
 go_enter func205,ntmps205
 go_upto_region 1 with(fail)
 obtain⟨⟨z0,z1,z2,z3,z4⟩,-⟩:=K6 HX.out;generalize w.heap.size=n1 at HX b8 z0 z1 z2 z3 z4|-;generalize w.alloc _=S at HX HB b8 z0 z1 z2 z3 z4 a0 a1 a2 a3 a4 b0 b1 b2 b3 b4 d6|-
 go_cut[5,6] (λu5 u6 W=> ∃q5 q6:Nat,u5=.pointer (some ⟨q5,0,none⟩)/\u6=.pointer (some ⟨q6,0,none⟩)/\Hid (Below S.heap.size S W)/\Hid (W.heap[q5]?=some (.cells #[.int .i64 a.I9,.int .i64 a.n,.string a.K0,.slice Ba a.args.length da,.int .i64 a.pos] 186 (0,0)))/\Hid (W.heap[q6]?=some (.cells #[.int .i64 b.I9,.int .i64 b.n,.string b.K0,.slice Bb b.args.length db,.int .i64 b.pos] 186 (0,0))))
 case first=>
  go_region
  all_goals
   go_wp2_with fail
   go_meet
   case rel=>
    first
     |exact⟨S.heap.size,S.heap.size+1,rfl,rfl,qh ((((x8 S.heap.size S).alloc (x7 _) _).alloc (by simp) _).trans ((M2 _).mono (by simp;omega))),qh (zcV S _ _),qh (zct S _ _)⟩
     |exact⟨S.heap.size+1,S.heap.size,rfl,rfl,qh ((((x8 S.heap.size S).alloc (x7 _) _).alloc (by simp) _).trans ((M2 _).mono (by simp;omega))),qh (zct S _ _),qh (zcV S _ _)⟩
 case rest=>
  obtain⟨q5,q6,rfl,rfl,c8,H5,H6⟩:=hcut;obtain⟨wa,rfl⟩: ∃wo:World,wo=wc:=⟨_,rfl⟩;have G:=qh (HB.out.trans (c8.out.mono HB.out.size));have a5:=qh ((c8.out.block _ b8).trans HX.out);have e6:=I5 H5.out;have U:=I5 H6.out;clear a0 a1 a2 a3 a4 b0 b1 b2 b3 b4 z0 z1 z2 z3 z4 HX HB c8 b8 d6;obtain⟨⟨a0,a1,a2,a3,a4⟩,-⟩:=K6 H5.out;obtain⟨⟨b0,b1,b2,b3,b4⟩,-⟩:=K6 H6.out;obtain⟨⟨z0,z1,z2,z3,z4⟩,-⟩:=K6 a5.out
  by_cases H:lv t.data.toList<=2
  ·have T:=qh H
   have ht:=zpq (by omega) H;clear H c6;have hf:((t.toList==[38,38])=true)\/((t.toList==[38,38])=false/\(t.toList==[124,124])=true):=by
    rw[Jj,Jj]
    rcases ht with h|h<;>rw[h]<;>decide
   clear ht
   rcases hf with f1|⟨f1,f2⟩
   all_goals
    go_wp2_with fail
    refine(CA.out wa G.out 2).mono ?_;rintro e Y ⟨j,s⟩;have E:=qh (G.out.trans (s.mono G.out.size));obtain⟨ra,O⟩: ∃r,N3 us env a 2=r:=⟨_,rfl⟩;rw[O]at j;have I:=qh O;clear O;cases ra with
    |J9 q er=>
     have i:e=M0 q er:=j;subst i;clear j s;unfold M0
     go_wp2_with fail
     exact⟨rfl,by rw[YY T.out,I.out];rfl,E.out⟩
    |ok u=>
     have i:e=.returned (.tuple #[]):=j;subst i;clear j;have v:=qh ((s.block _ U).trans H6.out);have a6:=qh ((s.block _ (I5 a5.out)).trans a5.out);clear s a0 a1 a2 a3 a4 b0 b1 b2 b3 b4 z0 z1 z2 z3 z4;obtain⟨⟨b0,b1,b2,b3,b4⟩,-⟩:=K6 v.out;obtain⟨⟨z0,z1,z2,z3,z4⟩,-⟩:=K6 a6.out
     go_wp2_with fail
     refine(CB.out Y E.out 2).mono ?_;rintro e w4 ⟨j,P⟩;have V:=qh (E.out.trans (P.mono E.out.size));obtain⟨rb,O⟩: ∃r,N3 us env b 2=r:=⟨_,rfl⟩;rw[O]at j;have x:=qh O;clear O;cases rb with
     |J9 q er=>
      have i:e=M0 q er:=j;subst i;clear j P;unfold M0
      go_wp2_with fail
      exact⟨rfl,by rw[YY T.out,I.out];simp only[X1.bind];rw[x.out];rfl,V.out⟩
     |ok u=>
      have i:e=.returned (.tuple #[]):=j;subst i;clear j
      go_wp2_with fail
      go_ret;exact⟨by rw[YY T.out,I.out];simp only[X1.bind];rw[x.out];rfl,V.out⟩
  ·by_cases J:t=⟨#[61,61]⟩\/t=⟨#[33,61]⟩
   ·have T:=qh H;have D:=qh J
    have hf:(t.toList==[38,38])=false/\(t.toList==[124,124])=false/\((t.toList==[61,61])=true\/((t.toList==[61,61])=false/\(t.toList==[33,61])=true)):=by
     rw[Jj,Jj,Jj,Jj]
     rcases J with h|h<;>subst h<;>decide
    clear H c6 J;obtain⟨f0,e3,hf⟩:=hf
    rcases hf with f1|⟨f1,f2⟩
    all_goals
     obtain⟨rx,c9⟩: ∃r,O2 us env a=r:=⟨_,rfl⟩;have a7:=qh c9;have y:=qh (G.out.trans ((M2 wa).mono G.out.size));have a8:Hid (Calls prog 165 #[.pointer (some ⟨cb,0,none⟩),.agg #[.int .i64 a.I9,.int .i64 a.n,.string a.K0,.slice Ba a.args.length da,.int .i64 a.pos]] wa.drew λe w'=>jI rx (.int .i64 ·) e/\Below wa.drew.heap.size wa.drew w'):=qh (by rw[<-c9];exact CX.out wa.drew y.out);clear c9;cases rx with
     |J9 q er=>
      go_upto_region 10 with(fail)
      go_region_dies
      all_goals
       go_at_call 165
       refine a8.out.mono ?_;rintro e Y ⟨j,k⟩;have m:=qh (y.out.trans (k.mono y.out.size));have i:e=M0 q er:=j;subst i;clear j k;unfold M0
       go_wp2_with fail
       exact⟨rfl,by rw[Jv T.out D.out,a7.out];rfl,m.out⟩
     |ok ta=>
      obtain⟨rb,d0⟩: ∃r,N3 us env b ta=r:=⟨_,rfl⟩;have x:=qh d0;have b9:Hid (∀W,Below w.heap.size w W->Calls prog 167 #[.pointer (some ⟨cb,0,none⟩),.agg #[.int .i64 b.I9,.int .i64 b.n,.string b.K0,.slice Bb b.args.length db,.int .i64 b.pos],.int .i64 ta] W λe w'=>jI rb (λ_=>.tuple #[]) e/\Below W.heap.size W w'):=qh (λW hW=>by rw[<-d0];exact CB.out W hW ta);clear d0
      go_upto_region 10 with(fail)
      cases rb with
      |J9 q er=>
       go_region_dies
       ·rename_i K1 L
        go_at_call 165
        refine a8.out.mono ?_;rintro e Y ⟨j,k⟩;have m:=qh (y.out.trans (k.mono y.out.size));have v:=qh ((k.block _ U).trans H6.out);have i:e=.returned (.int .i64 ta):=j;subst i;clear j k;obtain⟨⟨y0,y1,y2,y3,y4⟩,-⟩:=K6 v.out;refine L _ _ ?_;clear L K1;refine wpAny_ready (rs:=[5]) (by kernel_rfl) (by simp) ?_;refine AllReady.cons rfl (λK3 a9=>?_) AllReady.nil;go_simp;clear a9
        go_at_call 167
        refine(b9.out Y m.out).mono ?_;rintro e w4 ⟨j,z⟩;have Q:=qh (m.out.trans (z.mono m.out.size));have i:e=M0 q er:=j;subst i;clear j z;unfold M0;exact⟨rfl,by rw[Jv T.out D.out,a7.out];simp only[X1.bind];rw[x.out];rfl,Q.out⟩
       ·rename_i K1 L
        go_at_call 165
        refine a8.out.mono ?_;rintro e Y ⟨j,k⟩;have m:=qh (y.out.trans (k.mono y.out.size));have v:=qh ((k.block _ U).trans H6.out);have i:e=.returned (.int .i64 ta):=j;subst i;clear j k;obtain⟨⟨y0,y1,y2,y3,y4⟩,-⟩:=K6 v.out;refine L _ _ ?_;clear L K1;refine wpAny_ready (rs:=[5]) (by kernel_rfl) (by simp) ?_;refine AllReady.cons rfl (λK3 a9=>?_) AllReady.nil;go_simp;clear a9
        go_at_call 167
        refine(b9.out Y m.out).mono ?_;rintro e w4 ⟨j,z⟩;have Q:=qh (m.out.trans (z.mono m.out.size));have i:e=M0 q er:=j;subst i;clear j z;unfold M0;exact⟨rfl,by rw[Jv T.out D.out,a7.out];simp only[X1.bind];rw[x.out];rfl,Q.out⟩
       ·rename_i K1 L
        go_at_call 165
        refine a8.out.mono ?_;rintro e Y ⟨j,k⟩;have m:=qh (y.out.trans (k.mono y.out.size));have v:=qh ((k.block _ U).trans H6.out);have i:e=.returned (.int .i64 ta):=j;subst i;clear j k;obtain⟨⟨y0,y1,y2,y3,y4⟩,-⟩:=K6 v.out;refine L _ _ ?_;clear L K1;refine wpAny_ready (rs:=[1]) (by kernel_rfl) (by simp) ?_;refine AllReady.cons rfl (λK2 d7=>?_) AllReady.nil;go_simp;refine d7 _ _ ?_;clear d7 K2;refine wpAny_ready (rs:=[5]) (by kernel_rfl) (by simp) ?_;refine AllReady.cons rfl (λK3 a9=>?_) AllReady.nil;go_simp;clear a9
        go_at_call 167
        refine(b9.out Y m.out).mono ?_;rintro e w4 ⟨j,z⟩;have Q:=qh (m.out.trans (z.mono m.out.size));have i:e=M0 q er:=j;subst i;clear j z;unfold M0;exact⟨rfl,by rw[Jv T.out D.out,a7.out];simp only[X1.bind];rw[x.out];rfl,Q.out⟩
      |ok u=>
       go_region_law(first|(go_simp;go_at_call 165;refine a8.out.mono ?_;rintro e Y ⟨j,k⟩;have m:=qh (y.out.trans (k.mono y.out.size));have v:=qh ((k.block _ U).trans H6.out);have i:e=.returned (.int .i64 ta):=j;subst i;clear j k;obtain⟨⟨y0,y1,y2,y3,y4⟩,-⟩:=K6 v.out)|(go_simp;go_at_call 167;refine(b9.out Y m.out).mono ?_;rintro e w4 ⟨j,z⟩;have i:e=.returned (.tuple #[]):=j;subst i;clear j))
       all_goals
        have Q:=qh (m.out.trans (z.mono m.out.size));clear z
        go_wp2_with fail
        go_ret;exact⟨by rw[Jv T.out D.out,a7.out];simp only[X1.bind];rw[x.out];rfl,Q.out⟩
   ·have T:=qh H;have D:=qh J
    have hf:(t.toList==[38,38])=false/\(t.toList==[124,124])=false/\(t.toList==[61,61])=false/\(t.toList==[33,61])=false:=by
     have h2: ∀l:List UInt8,lv l<=2\/l=[61,61]\/l=[33,61]->(t.toList==l)=false:=by
      intro l hl;rw[Jj];refine G1 λe=>?_
      rcases hl with hl|hl|hl
      ·exact H (by rw[e];exact hl)
      ·exact J (.inl (by rw[<-YG t,e,hl]))
      ·exact J (.inr (by rw[<-YG t,e,hl]))
     exact⟨h2 _ (.inl (by decide)),h2 _ (.inl (by decide)),h2 _ (.inr (.inl rfl)),h2 _ (.inr (.inr rfl))⟩
    have d1: ∃M r,t.data.toList=M::r/\((lv t.data.toList=3/\(M=60\/M=62))\/(lv t.data.toList≠3/\M≠60/\M≠62)):=by
     by_cases Z:lv t.data.toList=3
     ·rcases lv3 Z J with h|h|h|h
      ·exact⟨_,_,h,.inl ⟨Z,.inl rfl⟩⟩
      ·exact⟨_,_,h,.inl ⟨Z,.inl rfl⟩⟩
      ·exact⟨_,_,h,.inl ⟨Z,.inr rfl⟩⟩
      ·exact⟨_,_,h,.inl ⟨Z,.inr rfl⟩⟩
     ·obtain⟨M,h,hc⟩:=zpf (t:=t) (by omega)
      exact⟨M,[],h,.inr ⟨Z,by rcases hc with rfl|rfl|rfl|rfl|rfl<;>decide,by rcases hc with rfl|rfl|rfl|rfl|rfl<;>decide⟩⟩
    clear H c6 J;obtain⟨f0,e3,f1,f2⟩:=hf
    go_wp2_with fail
    refine(CA.out wa G.out 1).mono ?_;rintro e Y ⟨j,s⟩;have E:=qh (G.out.trans (s.mono G.out.size));obtain⟨ra,O⟩: ∃r,N3 us env a 1=r:=⟨_,rfl⟩;rw[O]at j;have I:=qh O;clear O;cases ra with
    |J9 q er=>
     have i:e=M0 q er:=j;subst i;clear j s;unfold M0
     go_wp2_with fail
     exact⟨rfl,by rw[Jh T.out D.out,I.out];rfl,E.out⟩
    |ok u=>
     have i:e=.returned (.tuple #[]):=j;subst i;clear j;have v:=qh ((s.block _ U).trans H6.out);have a6:=qh ((s.block _ (I5 a5.out)).trans a5.out);clear s a0 a1 a2 a3 a4 b0 b1 b2 b3 b4 z0 z1 z2 z3 z4;obtain⟨⟨b0,b1,b2,b3,b4⟩,-⟩:=K6 v.out;obtain⟨⟨z0,z1,z2,z3,z4⟩,-⟩:=K6 a6.out
     go_wp2_with fail
     refine(CB.out Y E.out 1).mono ?_;rintro e w4 ⟨j,P⟩;have V:=qh (E.out.trans (P.mono E.out.size));obtain⟨rb,O⟩: ∃r,N3 us env b 1=r:=⟨_,rfl⟩;rw[O]at j;have x:=qh O;clear O;cases rb with
     |J9 q er=>
      have i:e=M0 q er:=j;subst i;clear j P;unfold M0
      go_wp2_with fail
      exact⟨rfl,by rw[Jh T.out D.out,I.out];simp only[X1.bind];rw[x.out];rfl,V.out⟩
     |ok u=>
      have i:e=.returned (.tuple #[]):=j;subst i;clear j;have e4:=qh ((P.block _ (I5 a6.out)).trans a6.out);clear P b0 b1 b2 b3 b4 z0 z1 z2 z3 z4;obtain⟨⟨z0,z1,z2,z3,z4⟩,-⟩:=K6 e4.out;obtain⟨M,r0,d8,e5⟩:=d1;have et:t=⟨(M::r0).toArray⟩:=by rw[<-YG t,d8]
      have e7:(0:Int)<(t.size:Int):=by rw[et];show(0:Int)<(((M::r0).toArray.size:Nat):Int);simp
      have e8: ∀h:0<t.size,(((t[0]'h).toNat:Nat):Int)=(M.toNat:Int):=by subst et;intro h;rfl
      clear et d8
      rcases e5 with⟨Z,hc⟩|⟨Z,hc,d9⟩
      ·have H3:=qh Z
       clear Z;have g1:((M.toNat:Int)==60)=true\/(((M.toNat:Int)==60)=false/\((M.toNat:Int)==62)=true):=by rcases hc with rfl|rfl<;>decide
       clear hc
       rcases g1 with g1|⟨g1,g2⟩
       all_goals
        go_wp2_with fail
        go_ret;exact⟨by rw[Jh T.out D.out,I.out];simp only[X1.bind];rw[x.out,C8 H3.out];rfl,V.out⟩
      ·have H3:=qh Z
       have g1:((M.toNat:Int)==60)=false:=beq_eq_false_iff_ne.2 (λe=>hc (UInt8.toNat_inj.1 (by simpa using Int.ofNat_inj.1 e)));have g2:((M.toNat:Int)==62)=false:=beq_eq_false_iff_ne.2 (λe=>d9 (UInt8.toNat_inj.1 (by simpa using Int.ofNat_inj.1 e)));clear Z hc d9
       go_wp2_with fail
       go_ret;exact⟨by rw[Jh T.out D.out,I.out];simp only[X1.bind];rw[x.out,B5 H3.out];rfl,V.out⟩
def zn4(left:Nat)(V:1<=left)(N:ExC (left-1))(O:Jo (left-1))(n:Int)(t:ByteArray)(xs)(p:Int)(B:Option Addr)(d:Nat)(F:Nat->Prop)(w:World)(base x:Nat)(K:Hd)(A:Option Addr)(c:Nat)(env)(i:Nat)(us)(j:zK (.mk 6 n t xs p) left=0)(P:xN (.mk 6 n t xs p))(l: ∀f∈us,FnZ f)(m:us.length<=281474976710656)(C:env.length<=1000)(Q:U7 env)(R:qB us)
 (h:yx w w base x K A c env i us F) (S:J7 w F (.slice B xs.length d) xs):
 Calls prog 165 #[.pointer (some ⟨x,0,none⟩),.agg #[.int .i64 6,.int .i64 n,.string t,.slice B xs.length d,.int .i64 p]] w λe w'=>jI (O2 us env (.mk 6 n t xs p)) (.int .i64 ·) e/\Below w.heap.size w w':=by
 obtain⟨-,g,-⟩:=qV j;obtain⟨a,b,rfl⟩: ∃a b,xs=[a,b]:=by
  have:xs.length=2:=by rw[ok6]at g;simp at g;exact g.1
  match xs,this with
  |[a,b],_=>exact⟨a,b,rfl⟩
 have y:=(x8 w.heap.size w).alloc (x7 _) (.cells #[.int .i64 6,.int .i64 n,.string t,.slice B 2 d,.int .i64 p] 186);have D:=qh (A5 w (.cells #[.int .i64 6,.int .i64 n,.string t,.slice B 2 d,.int .i64 p] 186));have T:=qh (zom left V N O n t a b p B d F _ base x K A c env i us j P l m C Q R (h.Z8.below y).Z8 (h.args (y.mono h.bs) S));have E:=qh y;clear y h N O S j P l m Q R g;obtain⟨r,G⟩: ∃r,O2 us env (.mk 6 n t [a,b] p)=r:=⟨_,rfl⟩;have U:=qh G;have o:Hid (Calls prog 205 #[.pointer (some ⟨x,0,none⟩),.agg #[.int .i64 6,.int .i64 n,.string t,.slice B 2 d,.int .i64 p]] (w.alloc (.cells #[.int .i64 6,.int .i64 n,.string t,.slice B 2 d,.int .i64 p] 186)) λe w'=>jI r (.int .i64 ·) e/\Below (w.alloc (.cells #[.int .i64 6,.int .i64 n,.string t,.slice B 2 d,.int .i64 p] 186)).heap.size (w.alloc (.cells #[.int .i64 6,.int .i64 n,.string t,.slice B 2 d,.int .i64 p] 186)) w'):=qh (by rw[<-G];exact T.out);clear T G
 go_enter func165,ntmps165
 go_upto_region 1 with(fail)
 obtain⟨⟨H,I,J,L,M⟩,-⟩:=K6 D.out;generalize w.alloc _=W at D E o H I J L M|-;generalize w.heap.size=X at D H I J L M|-
 go_wp2_with fail
 refine o.out.mono ?_;rintro e Y ⟨z,s⟩;have v:=qh (E.out.trans (s.mono E.out.size));clear H I J L M s;cases r with
 |J9 q er=>
  have k:e=M0 q er:=z;subst k;clear z;unfold M0
  go_wp2_with fail
  exact⟨rfl,by rw[U.out];rfl,v.out⟩
 |ok u=>
  have k:e=.returned (.int .i64 u):=z;subst k;clear z
  go_wp2_with fail
  go_ret;exact⟨by rw[U.out];rfl,v.out⟩
def zht: ∀left:Nat,ExC left:=by
 intro left
 induction left with
 |zero=>
  intro x B d F w a l K A c e b m f;cases x with|mk k n t o p=>
  exact H9 (qV f).1 (by omega)
 |succ left z=>
  intro x B d F w a l K A c e b m f r g i j s u h q;cases x with|mk k n t o p=>
  obtain⟨C,v,_⟩:=qV f;have y:Jo (left+1-1):=zh4 left z;simp only[Ex.I9,Ex.n,Ex.K0,Ex.args,Ex.pos]at q|-
  by_cases D:k=1
  ·subst D;exact znZ n t o p B d F w a l K A c e b m r g i j s u h q
  by_cases E:k=2
  ·subst E;exact znU n t o p B d F w a l K A c e b m r g i j s u h q
  by_cases G:k=3
  ·subst G;exact znM n t o p B d F w a l K A c e b m r g i j s u h q
  by_cases H:k=4
  ·subst H;exact zn9 (left+1) y n t o p B d F w a l K A c e b m f r g i j s u h q
  by_cases I:k=5
  ·subst I;exact zn6 (left+1) y n t o p B d F w a l K A c e b m f r g i j s u h q
  by_cases J:k=6
  ·subst J;exact zn4 (left+1) C z y n t o p B d F w a l K A c e b m f r g i j s u h q
  by_cases L:k=7
  ·subst L;exact zoi (left+1) y n t o p B d F w a l K A c e b m f r g i j s u h q
  by_cases M:k=8
  ·subst M;exact zoD (left+1) y n t o p B d F w a l K A c e b m f r g i j s u h q
  rw[oko (by omega)]at v;cases v
def zgA(left:Nat):Jo left:=zh4 left (zht left)
def zki:qC prog 128 201 2:=⟨underlying128,by kernel_rfl,by decide⟩
structure qg(w w':World)(cb:Nat)(A A':Option Addr):Prop where
 size:w.heap.size<=w'.heap.size
 P6: ∀k,k<w.heap.size->k≠cb->(∀a,A=some a->a.block≠k)->w'.heap[k]?=w.heap[k]?
 own: ∀a,A'=some a->(∃b,A=some b/\b.block=a.block)\/w.heap.size<=a.block
def qg.trans{w i j}{c:Nat}{A l A2}(h:qg w i c A l)(d:qg i j c l A2):qg w j c A A2:=by
 refine⟨C1 h.size d.size,λk m n o=>?_,λa f=>?_⟩
 ·refine(d.P6 k (A7 m h.size) n λa f=>?_).trans (h.P6 k m n o)
  rcases h.own a f with⟨b,g,e⟩|p
  ·rw[<-e];exact o b g
  ·omega
 ·rcases d.own a f with⟨b,g,e⟩|p
  ·rw[<-e];exact h.own b g
  ·exact .inr (C1 h.size p)
def qg.of{w w':World}(b:Nat)(A)(h:Below w.heap.size w w'):qg w w' b A A:=⟨h.size,λk c _ _=>h.block k c,λa d=>.inl ⟨a,d,rfl⟩⟩
def qg.set(w)(b:Nat)(A)(j:Nat)(v):qg w (w.setCell ⟨b,j,none⟩ v) b A A:=
 ⟨(I8 w b j v).size,λk c d _=>(I8 w b j v).block k c (by simpa using d),λa e=>.inl ⟨a,e,rfl⟩⟩
def qg.qv{w w'}(h:Nat){A}{n c g:Nat}{o}(f:(w.alloc o).grownBy w' (Value.slice A n c).ownBlock)(b:(Value.slice A n c).ownBlock=some g\/g=(w.alloc o).heap.size):qg w w' h A (some ⟨g,0,none⟩):=by
 have l:(w.alloc o).heap.size=w.heap.size+1:=by simp
 refine⟨by have:=f.size;omega,λk i _ j=>?_,λa d=>?_⟩
 ·refine(f.block k (by omega) λe=>?_).trans (C4 w o i)
  cases A with
  |none=>simp[Value.ownBlock]at e
  |some a=>simp[Value.ownBlock]at e;exact j a rfl e.symm
 ·injection d with d
  subst d
  rcases b with e|e
  ·left
   cases A with
   |none=>simp[Value.ownBlock]at e
   |some a=>simp[Value.ownBlock]at e;exact⟨a,rfl,e⟩
  ·right;simp only;omega
def zlA(w:World)(base b:Nat)(K:Hd)(us:List Fn)(F:Nat->Prop)(d:Option Addr)(r:X1 (P1×Nat))(e:Ending)(w':World):Prop:=
 Below base w w'/\match r with
 |.ok (a,m)=>e=.returned (.tuple #[])/\ ∃A c,yx w w' base b K A c a m us F/\qg w w' b d A
 |.J9 p q=>e=M0 p q
def Chk.zky{w}{base b:Nat}{K A}{c:Nat}{env}{a:Nat}(h:Chk w base b K A c env a):Chk (w.setCell ⟨b,8,none⟩ (.int .i64 ((a:Int)+1))) base b K A c env (a+1):=
 ⟨by simpa using A6 w b 8 _ _ (.int .i64 ((a:Int)+1)) h.P6,h.row.kept (I8 w b 8 _) (.inr h.apart),h.b0,h.apart⟩
def Chk.qv{w w'}{base cb:Nat}{K A}{c:Nat}{env}{L0 g cap:Nat}{nm:ByteArray}{t:Int}{o}(h:Chk w base cb K A c env L0)(a:w'.ownsRow base 201 2 (.slice (some ⟨g,0,none⟩) (env.length+1) cap) (env.length+1) (zr env++[.string nm,.int .i64 t]))(j:(w.alloc o).grownBy w' (Value.slice A env.length c).ownBlock)(d:(Value.slice A env.length c).ownBlock=some g\/g=(w.alloc o).heap.size):
 w'.heap[cb]?=some (.cells #[K.U,.string K.nm,K.vn,K.vt,.int .i64 K.out,K.vb,.int .i64 K.pos,.slice A env.length c,.int .i64 L0] 130 (0,0))/\Chk (w'.setCell ⟨cb,7,none⟩ (.slice (some ⟨g,0,none⟩) (env.length+1) cap)) base cb K (some ⟨g,0,none⟩) cap ((nm,t)::env) L0:=by
 have f:=h.lt;have i:w'.heap[cb]?=some (.cells #[K.U,.string K.nm,K.vn,K.vt,.int .i64 K.out,K.vb,.int .i64 K.pos,.slice A env.length c,.int .i64 L0] 130 (0,0)):=(j.block cb (by simp;omega) (λe=>h.apart e.symm)).trans ((C4 w o f).trans h.P6);have b:g≠cb:=by
  rcases d with e|e
  ·intro k;subst k;exact h.apart e
  ·simp at e;omega
 refine⟨i,by simpa using A6 w' cb 7 _ _ (.slice (some ⟨g,0,none⟩) (env.length+1) cap) i,?_,h.b0,by simpa[Value.ownBlock]using b⟩;have l:=a.kept (I8 w' cb 7 (.slice (some ⟨g,0,none⟩) (env.length+1) cap)) (.inr (by simpa[Value.ownBlock]using b));rw[zar];exact l
def zle(p:Int)(nm:ByteArray)(t:Int)(F:Nat->Prop)(w)(base cb:Nat)(K A)(c:Nat)(env)(a:Nat)(us)(hE:U7 env)(S:env.length<=1000)(hm:a<=1000)(h:yx w w base cb K A c env a us F):
 Calls prog 64 #[.pointer (some ⟨cb,0,none⟩),.int .i64 p,.string nm,.int .i64 t] w (zlA w base cb K us F A (Y4 env a p nm t)):=by
 have T:=(x8 w.heap.size w).alloc (x7 _) (.cells #[.string nm] 9);have B:=qh (A5 w (.cells #[.string nm] 9));have E:=qh (h.Z8.below T);have U:=qh h;have s:=qh (qg.of cb A T);have a7: ∀(fn:Go.Fn)(first G:Array Value)(w:World),(Instr.makeFunc fn first G).run prog w=.ok (.func fn first G) w:=λ_ _ _ _=>rfl
 have g:=I5 B.out;have C:(w.alloc (.cells #[.string nm] 9)).cell? ⟨w.heap.size,0,none⟩=some (.string nm):=x6 B.out 0;have H:=qh (zjl ⟨w.heap.size,0,none⟩ nm A c env hE _ E.out.JL.vars (ziS w.heap.size nm _ g C) S);have I:=h.bs;have a8:base<=w.heap.size:=h.bs;have J:base<=cb:=h.JL.b0;clear T h hE
 go_enter func64,ntmps64
 go_upto_region 1 with(fail)
 generalize w.alloc _=w1 at B E H s g C|-;generalize V:w.heap.size=bx at B H g C|-;have a9:base<=bx:=by omega
 clear V;obtain⟨⟨-,-,-,-,-,-,-,L,-⟩,-⟩:=qN E.out.JL.P6;obtain⟨bd,u⟩: ∃b,decide (L5 env nm≠0)=b:=⟨_,rfl⟩;rw[u]at H;have M:=qh u;clear u
 go_wp2_with fail
 refine H.out.mono ?_;rintro e W ⟨rfl,m⟩;have i:=qh (E.out.below m);have v:=qh ((m.block _ g).trans B.out);have Xr:=I5 v.out;have X:=qh (s.out.trans (qg.of cb A m));clear m C L E B H g s;cases bd with
 |true=>
  have Q:Hid (L5 env nm≠0):=qh (of_decide_eq_true M.out)
  go_wp2_with fail
  refine⟨rfl,i.out.M1,?_⟩;unfold Y4;rw[C8 Q.out];rfl
 |false=>
  have Q:Hid (L5 env nm=0):=qh (by have:=of_decide_eq_false M.out;simpa using this);obtain⟨⟨-,-,-,-,-,-,-,L,R⟩,-,f8⟩:=qN i.out.JL.P6;have j:=qh i.out.JL.zky;have N:=qh (I8 W cb 8 (.int .i64 ((a:Int)+1)));have Y:cb≠bx:=by
   intro e;have D:=i.out.JL.P6;rw[e,v.out]at D;injection D with D
   injection D with D h2
   simp at D
  have b1:(a:Int)<=1000:=by omega
  go_upto_region 4 with(fail)
  clear L R f8;have q:=qh (X.out.trans (qg.set W cb A 8 (.int .i64 ((a:Int)+1))));have f:=qh (L6 i.out.M1 J 8 (.int .i64 ((a:Int)+1)));have x:=qh ((N.out.block bx Xr (by simpa using λe=>Y e.symm)).trans v.out);generalize W.setCell _ _=y at j N f x q|-;obtain⟨⟨-,-,-,-,-,-,-,-,R⟩,-⟩:=qN j.out.P6;have Z:y.cell? ⟨cb,8,none⟩=some (.int .i64 ((a:Int)+1)):=R;clear R
  by_cases n:64<=a
  ·have O:(64:Int)<(a:Int)+1:=by omega
   have H6:=qh n;clear n
   go_wp2_with fail
   refine⟨rfl,f.out,?_⟩;unfold Y4;rw[B5 (by rw[Q.out];simp),C8 H6.out];rfl
  ·have O:(a:Int)+1<=64:=by omega
   have H6:=qh n;clear n
   go_upto_region 6 with(fail)
   clear Z;have z:=qh (j.out.below (M2 y));have a0:=qh (q.out.trans (qg.of cb A (M2 y)));have a1:=qh (f.out.trans ((M2 y).mono (C1 I f.out.size)));obtain⟨⟨-,-,-,-,-,-,-,L,-⟩,-,-⟩:=qN j.out.P6;have C:y.cell? ⟨bx,0,none⟩=some (.string nm):=x6 x.out 0;have a4:=j.out.lt;have a5:=I5 x.out
   go_region_law(first|(refine qt zki (by rfl) _ _ (by rfl) base _ env.length (zr env) (by rfl) (z.out.row.alloc _) y.heap.size 1 #[.string nm,.int .i64 t] (by rfl) (A5 y.drew _) rfl (by simp[Value.oneCell']) (by omega) (by simp;omega) ?_;intro g9 r w9 k d l a6;have o:=z.out.qv k d l;have q1:=(qN o.1).1.2.2.2.2.2.2.2.1;have q2:=(qN o.1).2.1))
   all_goals
    have P:=qh (L6 (Q7 ((a1.out).alloc (C1 I f.out.size) (.cells #[.string nm,.int .i64 t] 201)) (z.out.row.alloc (.cells #[.string nm,.int .i64 t] 201)) (x7 _) (by have:=f.out.size;simp;omega) d) J 7 (.slice (some ⟨g9,0,none⟩) (env.length+1) r));have a2:=qh o.2;have a3:=qh ((a0.out.trans (qg.qv cb d l)).trans (qg.set w9 cb _ 7 (.slice (some ⟨g9,0,none⟩) (env.length+1) r)));clear o d l k q1 q2 C L
    go_wp2_with fail
    go_end0;refine⟨P.out,?_⟩;unfold Y4;rw[B5 (by rw[Q.out];simp),B5 H6.out];exact⟨rfl,_,_,U.out.Zf P.out a2.out,a3.out⟩
theorem Xn: ∀l(left:Nat),O0 l left=0-> ∀s∈l,xK s left=0:=by
 intro l
 induction l with
 |nil=>intro left _ s a;cases a
 |cons b l d=>
  intro left h s a;rw[O0]at h
  split at h
  ·rename_i c
   rcases List.mem_cons.1 a with rfl|a
   ·exact c
   ·exact d left h s a
  ·rename_i c;exact H9 h c
theorem Yq{s}{left:Nat}(h:xK s left=0):1<=left/\(1<=s.I9/\s.I9<=7)/\zK s.a (left-1)=0/\(s.I9=3\/s.I9=4->O0 s.J0 (left-1)=0)/\(s.I9=3->O0 s.M9 (left-1)=0):=by
 cases s with|mk k i a J0 M9 p=>
 simp only[Sm.I9,Sm.a,Sm.J0,Sm.M9];rw[xK]at h
 by_cases f:left=0
 ·rw[C8 f]at h;cases h
 rw[B5 f]at h
 by_cases g:k<1\/7<k\/(k<=2/\R2 i=false)
 ·rw[C8 g]at h;cases h
 rw[B5 g]at h
 by_cases b:zK a (left-1)=0
 ·rw[B5 (λe=>e b)]at h
  by_cases c:(k=3\/k=4)/\O0 J0 (left-1)≠0
  ·rw[C8 c]at h;exact H9 h c.2
  ·rw[B5 c]at h
   refine⟨by omega,by omega,b,λd=>?_,λd=>?_⟩
   ·by_cases e:O0 J0 (left-1)=0
    ·exact e
    ·exact H9 ⟨d,e⟩ c
   ·rw[C8 d]at h;exact h
 ·rw[C8 b]at h;exact H9 h b
section
variable {us:List Fn}{out:Int}{s:Sm}{env:P1}{m:Nat}
theorem zgK(h:s.I9=1):zC us out s env m=(O2 us env s.a).bind λt=>(Y4 env m s.pos s.J2 t).bind λz=>.ok (z.1,z.2,false):=by
 cases s with|mk k b a J0 M9 p=>
 simp only[Sm.I9,Sm.J2,Sm.a,Sm.pos]at*;subst h;rw[zC];cases O2 us env a with
 |J9 q e=>simp[X1.bind]
 |ok t=>simp[X1.bind];cases Y4 env m p b t<;>rfl
theorem zmI(h:s.I9=2)(b:L5 env s.J2=0):zC us out s env m=.J9 s.pos 16:=by
 cases s with|mk k c a J0 M9 p=>simp only[Sm.I9,Sm.J2]at*;rw[zC,C8 ⟨h,b⟩];rfl
theorem zli(h:s.I9=2)(b:L5 env s.J2≠0):zC us out s env m=(N3 us env s.a (L5 env s.J2)).bind λ_=>.ok (env,m,false):=by
 cases s with|mk k c a J0 M9 p=>
 simp only[Sm.I9,Sm.J2,Sm.a,Sm.pos]at*;subst h;rw[zC,B5 (λe=>b e.2)];unfold N3;cases O2 us env a with
 |J9 q e=>simp[X1.bind]
 |ok t=>simp only;by_cases e:t=L5 env c<;>simp[X1.bind,e]
theorem za8(h:s.I9=3):zC us out s env m=(N3 us env s.a 2).bind λ_=>(zS us out s.J0 env m).bind λz=>(zS us out s.M9 env z.1).bind λy=>.ok (env,y.1,z.2&&y.2):=by
 cases s with|mk k c a J0 M9 p=>
 simp only[Sm.I9,Sm.J2,Sm.a,Sm.pos,Sm.J0,Sm.M9]at*;subst h;rw[zC];unfold N3;cases O2 us env a with
 |J9 q e=>simp[X1.bind]
 |ok t=>
  by_cases e:t=2
  ·subst e;simp[X1.bind]
   cases zS us out J0 env m with
   |J9 q e=>rfl
   |ok z=>obtain⟨b,d⟩:=z;simp only;cases zS us out M9 env b<;>rfl
  ·simp[X1.bind,e]
theorem zhF(h:s.I9=4):zC us out s env m=(N3 us env s.a 2).bind λ_=>(zS us out s.J0 env m).bind λz=>.ok (env,z.1,false):=by
 cases s with|mk k b a J0 M9 p=>
 simp only[Sm.I9,Sm.J2,Sm.a,Sm.pos,Sm.J0,Sm.M9]at*;subst h;rw[zC];unfold N3;cases O2 us env a with
 |J9 q e=>simp[X1.bind]
 |ok t=>
  by_cases e:t=2
  ·subst e;simp[X1.bind];cases zS us out J0 env m<;>rfl
  ·simp[X1.bind,e]
theorem zlh(h:s.I9=5):zC us out s env m=(N3 us env s.a out).bind λ_=>.ok (env,m,true):=by
 cases s with|mk k b a J0 M9 p=>
 simp only[Sm.I9,Sm.J2,Sm.a,Sm.pos]at*;subst h;rw[zC];unfold N3;cases O2 us env a with
 |J9 q e=>simp[X1.bind]
 |ok t=>simp;by_cases e:t=out<;>simp[X1.bind,e]
theorem zlg(h:s.I9=6):zC us out s env m=(N3 us env s.a 1).bind λ_=>.ok (env,m,false):=by
 cases s with|mk k b a J0 M9 p=>
 simp only[Sm.I9,Sm.J2,Sm.a,Sm.pos]at*;subst h;rw[zC];unfold N3;cases O2 us env a with
 |J9 q e=>simp[X1.bind]
 |ok t=>simp;by_cases e:t=1<;>simp[X1.bind,e]
theorem zkJ(h:s.I9=7):zC us out s env m=(O2 us env s.a).bind λ_=>.ok (env,m,false):=by
 cases s with|mk k b a J0 M9 p=>
 simp only[Sm.I9,Sm.J2,Sm.a,Sm.pos]at*;subst h;rw[zC];cases O2 us env a<;>simp[X1.bind]
end
def zld(w:World)(base a:Nat)(K:Hd)(us:List Fn)(F:Nat->Prop)(d:Option Addr)(r:X1 (P1×Nat×Bool))(e:Ending)(w':World):Prop:=
 Below base w w'/\match r with
 |.ok (env,m,b)=>e=.returned (.bool b)/\ ∃A c,yx w w' base a K A c env m us F/\qg w w' a d A
 |.J9 p q=>e=M0 p q
def QS(w:World)(base a:Nat)(K:Hd)(us:List Fn)(F:Nat->Prop)(d:Option Addr)(env:P1)(r:X1 (Nat×Bool))(e:Ending)(w':World):Prop:=
 Below base w w'/\match r with
 |.ok (m,b)=>e=.returned (.bool b)/\ ∃A c,yx w w' base a K A c env m us F/\qg w w' a d A
 |.J9 p q=>e=M0 p q
structure OkC(us:List Fn)(env:P1)(L0:Nat):Prop where
 fz: ∀f∈us,FnZ f
 ul:us.length<=281474976710656
 zku:qB us
 ev:U7 env
 el:env.length<=L0
 m64:L0<=64
def zlK(left:Nat):Prop:=
 ∀(l:List Sm)(B:Option Addr)(d:Nat)(F:Nat->Prop)(w:World)(b e:Nat)(K:Hd)(A:Option Addr)(c:Nat)(env:P1)(a:Nat)(us:List Fn),O0 l left=0->(∀s∈l,SmZ s)->l.length<=281474976710656->OkC us env a->
  yx w w b e K A c env a us F->K9 w F (.slice B l.length d) l->Calls prog 65 #[.pointer (some ⟨e,0,none⟩),.slice B l.length d] w (QS w b e K us F A env (zS us K.out l env a))
def zoC(left:Nat):Prop:=
 ∀(s:Sm)(g h i:Option Addr)(j e k:Nat)(F:Nat->Prop)(w:World)(d f:Nat)(K:Hd)(A:Option Addr)(c:Nat)(env:P1)(b:Nat)(us:List Fn),xK s left=0->SmZ s->OkC us env b->
  yx w w d f K A c env b us F->J7 w F (.slice g s.a.args.length j) s.a.args->K9 w F (.slice h s.J0.length e) s.J0->K9 w F (.slice i s.M9.length k) s.M9->
  Calls prog 115 #[.pointer (some ⟨f,0,none⟩),.agg #[.int .i64 s.I9,.string s.J2,.int .i64 s.a.I9,.int .i64 s.a.n,.string s.a.K0,.slice g s.a.args.length j,.int .i64 s.a.pos,.slice h s.J0.length e,.slice i s.M9.length k,.int .i64 s.pos]] w (zld w d f K us F A (zC us K.out s env b))
theorem zgP(left:Nat)(ib:1<=left->zlK (left-1)):zoC left:=by
 intro s Aa Ab Ae ca a0 ce F w k cb K A c env C us b7 hZ X h b3 b8 b9;obtain⟨c0,e3,b4,c1,c2⟩:=Yq b7;have a9:=X.el;have a1:=X.m64;have Y:env.length<=1000:=by omega
 have CW:Hid (∀(W:World)(ty:Int),yx w W k cb K A c env C us F->Calls prog 167 #[.pointer (some ⟨cb,0,none⟩),.agg #[.int .i64 s.a.I9,.int .i64 s.a.n,.string s.a.K0,.slice Aa s.a.args.length ca,.int .i64 s.a.pos],.int .i64 ty] W λe w'=>jI (N3 us env s.a ty) (λ_=>.tuple #[]) e/\Below W.heap.size W w'):=
  qh (λW ty hW=>zgA (left-1) s.a ty Aa ca F W k cb K A c env C us b4 hZ.Z1.2.1 X.fz X.ul Y X.ev X.zku hW.Z8 (h.args hW.M1 b3))
 have CX:Hid (∀(W:World),yx w W k cb K A c env C us F->Calls prog 165 #[.pointer (some ⟨cb,0,none⟩),.agg #[.int .i64 s.a.I9,.int .i64 s.a.n,.string s.a.K0,.slice Aa s.a.args.length ca,.int .i64 s.a.pos]] W λe w'=>jI (O2 us env s.a) (.int .i64 ·) e/\Below W.heap.size W w'):=
  qh (λW hW=>zht (left-1) s.a Aa ca F W k cb K A c env C us b4 hZ.Z1.2.1 X.fz X.ul Y X.ev X.zku hW.Z8 (h.args hW.M1 b3))
 have CB:Hid ((s.I9=3\/s.I9=4)-> ∀(W:World)(N:Option Addr)(c' m:Nat),yx w W k cb K N c' env m us F->env.length<=m->m<=64->Calls prog 65 #[.pointer (some ⟨cb,0,none⟩),.slice Ab s.J0.length a0] W (QS W k cb K us F N env (zS us K.out s.J0 env m))):=
  qh (λd W N c' m hW h1 h2=>ib c0 s.J0 Ab a0 F W k cb K N c' env m us (c1 d) hZ.Z1.2.2.2.2.1 hZ.Z1.2.2.1 {X with el:=h1,m64:=h2} hW.Z8 (h.zb2 hW.M1 b8))
 have CE:Hid (s.I9=3-> ∀(W:World)(N:Option Addr)(c' m:Nat),yx w W k cb K N c' env m us F->env.length<=m->m<=64->Calls prog 65 #[.pointer (some ⟨cb,0,none⟩),.slice Ae s.M9.length ce] W (QS W k cb K us F N env (zS us K.out s.M9 env m))):=
  qh (λd W N c' m hW h1 h2=>ib c0 s.M9 Ae ce F W k cb K N c' env m us (c2 d) hZ.Z1.2.2.2.2.2 hZ.Z1.2.2.2.1 {X with el:=h1,m64:=h2} hW.Z8 (h.zb2 hW.M1 b9))
 have hb:=(x8 w.heap.size w).alloc (x7 _) (.cells #[.int .i64 s.I9,.string s.J2,.int .i64 s.a.I9,.int .i64 s.a.n,.string s.a.K0,.slice Aa s.a.args.length ca,.int .i64 s.a.pos,.slice Ab s.J0.length a0,.slice Ae s.M9.length ce,.int .i64 s.pos] 188);have HX:=qh (A5 w (.cells #[.int .i64 s.I9,.string s.J2,.int .i64 s.a.I9,.int .i64 s.a.n,.string s.a.K0,.slice Aa s.a.args.length ca,.int .i64 s.a.pos,.slice Ab s.J0.length a0,.slice Ae s.M9.length ce,.int .i64 s.pos] 188));have O:=qh (h.Z8.below hb);have L:=qh (qg.of cb A hb);have HK:=qh X;have HZ:=qh hZ;have P:=I5 HX.out;have d6:k<=w.heap.size:=h.bs;have e5:k<=cb:=h.JL.b0;have a2:w.heap.size≠cb:=by have:=h.JL.lt;omega
 have c5: ∀a,A=some a->a.block≠w.heap.size:=by
  rintro a rfl;have:=(h.JL.row.lt a.block rfl).2;omega
 have e6: ∀(fn:Go.Fn)(first c6:Array Value)(w:World),(Instr.makeFunc fn first c6).run prog w=.ok (.func fn first c6) w:=λ_ _ _ _=>rfl
 have a3:=qh c5;clear hb h X hZ b3 b8 b9 b7 b4 c1 c2 ib c5
 go_enter func115,ntmps115
 go_upto_region 1 with(fail)
 generalize w.alloc _=w1 at HX O L P|-;generalize w.heap.size=bx at HX P d6 a2 a3|-;obtain⟨⟨Z,Q,z2,z3,z4,z5,z6,z7,z8,z9⟩,-⟩:=J5 HX.out;have d7:s.I9=1\/s.I9=2\/s.I9=3\/s.I9=4\/s.I9=5\/s.I9=6\/s.I9=7:=by omega
 rcases d7 with d|d|d|d|d|d|d
 ·have m1:(s.I9==1)=true:=by simp[d]
  have m2:(s.I9==2)=false:=by simp[d]
  have m3:(s.I9==3)=false:=by simp[d]
  have m4:(s.I9==4)=false:=by simp[d]
  have m5:(s.I9==5)=false:=by simp[d]
  have m6:(s.I9==6)=false:=by simp[d]
  have m7:(s.I9==7)=false:=by simp[d]
  go_wp2_with fail
  refine(CX.out w1 O.out).mono ?_;rintro e H ⟨j,l⟩;have p:=qh (O.out.below l);have B:=qh (L.out.trans (qg.of cb A l));obtain⟨R,x⟩: ∃r,O2 us env s.a=r:=⟨_,rfl⟩;rw[x]at j;have o:=qh x;clear x;cases R with
  |J9 q er=>
   have b:e=M0 q er:=j;subst b;clear j;unfold M0
   go_wp2_with fail
   exact⟨rfl,p.out.M1,by rw[zgK d,o.out];rfl⟩
  |ok t=>
   have b:e=.returned (.int .i64 t):=j;subst b;clear j;have D:=qh ((l.block _ P).trans HX.out);have Xr:=I5 D.out;clear l;clear Z Q z2 z3 z4 z5 z6 z7 z8 z9;obtain⟨⟨Z,Q,z2,z3,z4,z5,z6,z7,z8,z9⟩,-⟩:=J5 D.out;obtain⟨r3,b5⟩: ∃r,Y4 env C s.pos s.J2 t=r:=⟨_,rfl⟩;have c8:=qh b5;have d8:Hid (Calls prog 64 #[.pointer (some ⟨cb,0,none⟩),.int .i64 s.pos,.string s.J2,.int .i64 t] H (zlA H k cb K us F A r3)):=qh (by rw[<-b5];exact zle s.pos s.J2 t F H k cb K A c env C us HK.out.ev Y (by omega) p.out.Z8);clear b5
   go_wp2_with fail
   refine d8.out.mono ?_;rintro e w3 ⟨f,x⟩;clear Z Q z2 z3 z4 z5 z6 z7 z8 z9;have S:=qh (p.out.M1.trans f);cases r3 with
   |J9 q er=>
    have b:e=M0 q er:=x;subst b;unfold M0
    go_wp2_with fail
    exact⟨rfl,S.out,by rw[zgK d,o.out];simp only[X1.bind];rw[c8.out];rfl⟩
   |ok z=>
    obtain⟨e1,m1⟩:=z;obtain⟨b,N,c',a4,a5⟩:=x;subst b;have b6:=qh (a4.Zg p.out.M1);have T:=qh (B.out.trans a5);clear a4 f a5
    go_wp2_with fail
    go_ret;exact⟨S.out,by rw[zgK d,o.out];simp only[X1.bind];rw[c8.out];exact⟨rfl,_,_,b6.out,T.out⟩⟩
 ·have m1:(s.I9==1)=false:=by simp[d]
  have m2:(s.I9==2)=true:=by simp[d]
  have m3:(s.I9==3)=false:=by simp[d]
  have m4:(s.I9==4)=false:=by simp[d]
  have m5:(s.I9==5)=false:=by simp[d]
  have m6:(s.I9==6)=false:=by simp[d]
  have m7:(s.I9==7)=false:=by simp[d]
  have HI:=qh (zjh ⟨bx,0,none⟩ s.J2 A c env w1 O.out.JL.vars (zkm bx s.J2 w1 P Q) Y);obtain⟨⟨-,-,-,-,-,-,-,c7,-⟩,-⟩:=qN O.out.JL.P6
  go_wp2_with fail
  refine HI.out.mono ?_;rintro e H ⟨z,rfl,hz,l⟩;have p:=qh (O.out.below l);have B:=qh (L.out.trans (qg.of cb A l));clear c7 HI;have D:=qh ((l.block _ P).trans HX.out);have Xr:=I5 D.out;clear l;clear Z Q z2 z3 z4 z5 z6 z7 z8 z9;obtain⟨⟨Z,Q,z2,z3,z4,z5,z6,z7,z8,z9⟩,-⟩:=J5 D.out;obtain⟨⟨-,-,-,-,-,-,-,c7,-⟩,-⟩:=qN p.out.JL.P6
  rcases hz with⟨i,ty,h1,rfl⟩|⟨h1,rfl⟩
  ·obtain⟨q1,q2,q3⟩:=zhV HK.out.ev h1
   obtain⟨g,rfl,hg,d0,d1⟩:=p.out.JL.qE i (s.J2,ty) h1;simp only at d1;have HQ:=qh q1;have c9:=qh q2;have k0:(0:Int)<=(i:Int):=by omega
   have k1:(i:Int)<(env.length:Int):=by omega
   have E:=qh (p.out.below (M2 H));obtain⟨R,x⟩: ∃r,N3 us env s.a ty=r:=⟨_,rfl⟩;have o:=qh x;have HD:Hid (Calls prog 167 #[.pointer (some ⟨cb,0,none⟩),.agg #[.int .i64 s.a.I9,.int .i64 s.a.n,.string s.a.K0,.slice Aa s.a.args.length ca,.int .i64 s.a.pos],.int .i64 ty] H.drew λe w'=>jI R (λ_=>.tuple #[]) e/\Below H.drew.heap.size H.drew w'):=qh (by rw[<-x];exact CW.out H.drew ty E.out);clear h1 q1 q2 d0 hg x
   go_upto_region 9 with(fail)
   cases R with
   |J9 q er=>
    go_region_dies
    all_goals
     go_at_call 167
     refine HD.out.mono ?_;rintro e w3 ⟨j,f⟩;have v:=qh (E.out.below f);have b:e=M0 q er:=j;subst b;clear j f;unfold M0
     go_wp2_with fail
     exact⟨rfl,v.out.M1,by rw[zli d (by rw[HQ.out];exact c9.out),HQ.out,o.out];rfl⟩
   |ok u=>
    go_region_law(first|(go_simp;go_at_call 167;refine HD.out.mono ?_;rintro e w3 ⟨j,f⟩;have b:e=.returned (.tuple #[]):=j;subst b;clear j))
    all_goals
     have v:=qh (E.out.below f);have T:=qh ((B.out.trans (qg.of cb _ (M2 H))).trans (qg.of cb _ f));clear f c7 d1;clear Z Q z2 z3 z4 z5 z6 z7 z8 z9
     go_wp2_with fail
     go_ret;exact⟨v.out.M1,by rw[zli d (by rw[HQ.out];exact c9.out),HQ.out,o.out];exact⟨rfl,_,_,v.out,T.out⟩⟩
  ·have HN:=qh (QC h1)
   clear h1
   go_wp2_with fail
   exact⟨rfl,p.out.M1,by rw[zmI d HN.out];rfl⟩
 ·have m1:(s.I9==1)=false:=by simp[d]
  have m2:(s.I9==2)=false:=by simp[d]
  have m3:(s.I9==3)=true:=by simp[d]
  have m4:(s.I9==4)=false:=by simp[d]
  have m5:(s.I9==5)=false:=by simp[d]
  have m6:(s.I9==6)=false:=by simp[d]
  have m7:(s.I9==7)=false:=by simp[d]
  go_wp2_with fail
  refine(CW.out w1 2 O.out).mono ?_;rintro e H ⟨j,l⟩;have p:=qh (O.out.below l);have B:=qh (L.out.trans (qg.of cb A l));obtain⟨R,x⟩: ∃r,N3 us env s.a 2=r:=⟨_,rfl⟩;rw[x]at j;have o:=qh x;clear x;cases R with
  |J9 q er=>
   have b:e=M0 q er:=j;subst b;clear j;unfold M0
   go_wp2_with fail
   exact⟨rfl,p.out.M1,by rw[za8 d,o.out];rfl⟩
  |ok u=>
   have b:e=.returned (.tuple #[]):=j;subst b;clear j;have D:=qh ((l.block _ P).trans HX.out);have Xr:=I5 D.out;clear l;clear Z Q z2 z3 z4 z5 z6 z7 z8 z9;obtain⟨⟨Z,Q,z2,z3,z4,z5,z6,z7,z8,z9⟩,-⟩:=J5 D.out;have E:=qh (p.out.below (M2 H));have d9:=qh (B.out.trans (qg.of cb A (M2 H)));obtain⟨rb,x⟩: ∃r,zS us K.out s.J0 env C=r:=⟨_,rfl⟩;have I:=qh x;have U:Hid (Calls prog 65 #[.pointer (some ⟨cb,0,none⟩),.slice Ab s.J0.length a0] H.drew (QS H.drew k cb K us F A env rb)):=qh (by rw[<-x];exact CB.out (.inl d) H.drew A c C E.out a9 a1);clear x
   go_upto_region 12 with(fail)
   cases rb with
   |J9 q er=>
    go_region_dies
    all_goals
     go_at_call 65
     refine U.out.mono ?_;rintro e w3 ⟨f,j⟩;have S:=qh (E.out.M1.trans f);have b:e=M0 q er:=j;subst b;clear j f;unfold M0
     go_wp2_with fail
     exact⟨rfl,S.out,by rw[za8 d,o.out];simp only[X1.bind];rw[I.out];rfl⟩
   |ok zb=>
    obtain⟨m1,b1⟩:=zb;have e7:=(qM us K.out _ _ _ _ _ I.out).1;have e4:=(qM us K.out _ _ _ _ _ I.out).2 a1;obtain⟨re,x⟩: ∃r,zS us K.out s.M9 env m1=r:=⟨_,rfl⟩;have a7:=qh x;have a8:Hid (∀(W:World)(N:Option Addr)(c':Nat),yx w W k cb K N c' env m1 us F->Calls prog 65 #[.pointer (some ⟨cb,0,none⟩),.slice Ae s.M9.length ce] W (QS W k cb K us F N env re)):=qh (λW N c' hW=>by rw[<-x];exact CE.out d W N c' m1 hW (by omega) (by omega));clear x;cases re with
    |J9 q er=>
     go_region_dies
     ·rename_i K1 M
      go_at_call 65
      refine U.out.mono ?_;rintro e w3 ⟨f,b,A3,c3,G,y⟩;subst b;have v:=qh (G.Zg E.out.M1);have V:=qh ((y.P6 bx Xr a2 a3.out).trans D.out);obtain⟨⟨y0,y1,y2,y3,y4,y5,y6,y7,y8,y9⟩,-⟩:=J5 V.out;clear f G y;refine M _ _ ?_;clear M K1;refine wpAny_ready (rs:=[6]) (by kernel_rfl) (by simp) ?_;refine AllReady.cons rfl (λK2 d2=>?_) AllReady.nil;go_simp;refine d2 _ _ ?_;clear d2 K2;refine wpAny_ready (rs:=[7]) (by kernel_rfl) (by simp) ?_;refine AllReady.cons rfl (λK3 y=>?_) AllReady.nil;go_simp;clear y
      go_at_call 65
      refine(a8.out w3 A3 c3 v.out).mono ?_;rintro e w4 ⟨J,j⟩;have a6:=qh (v.out.M1.trans J);have b:e=M0 q er:=j;subst b;clear j J;unfold M0;exact⟨rfl,a6.out,by rw[za8 d,o.out];simp only[X1.bind];rw[I.out];simp only[a7.out];rfl⟩
     ·rename_i K1 M
      go_at_call 65
      refine U.out.mono ?_;rintro e w3 ⟨f,b,A3,c3,G,y⟩;subst b;have v:=qh (G.Zg E.out.M1);have V:=qh ((y.P6 bx Xr a2 a3.out).trans D.out);obtain⟨⟨y0,y1,y2,y3,y4,y5,y6,y7,y8,y9⟩,-⟩:=J5 V.out;clear f G y;refine M _ _ ?_;clear M K1;refine wpAny_ready (rs:=[7]) (by kernel_rfl) (by simp) ?_;refine AllReady.cons rfl (λK3 y=>?_) AllReady.nil;go_simp;clear y
      go_at_call 65
      refine(a8.out w3 A3 c3 v.out).mono ?_;rintro e w4 ⟨J,j⟩;have a6:=qh (v.out.M1.trans J);have b:e=M0 q er:=j;subst b;clear j J;unfold M0;exact⟨rfl,a6.out,by rw[za8 d,o.out];simp only[X1.bind];rw[I.out];simp only[a7.out];rfl⟩
     ·rename_i K1 M
      go_at_call 65
      refine U.out.mono ?_;rintro e w3 ⟨f,b,A3,c3,G,y⟩;subst b;have v:=qh (G.Zg E.out.M1);have V:=qh ((y.P6 bx Xr a2 a3.out).trans D.out);obtain⟨⟨y0,y1,y2,y3,y4,y5,y6,y7,y8,y9⟩,-⟩:=J5 V.out;clear f G y;refine M _ _ ?_;clear M K1;refine wpAny_ready (rs:=[7]) (by kernel_rfl) (by simp) ?_;refine AllReady.cons rfl (λK3 y=>?_) AllReady.nil;go_simp;clear y
      go_at_call 65
      refine(a8.out w3 A3 c3 v.out).mono ?_;rintro e w4 ⟨J,j⟩;have a6:=qh (v.out.M1.trans J);have b:e=M0 q er:=j;subst b;clear j J;unfold M0;exact⟨rfl,a6.out,by rw[za8 d,o.out];simp only[X1.bind];rw[I.out];simp only[a7.out];rfl⟩
    |ok ze=>
     obtain⟨e8,b2⟩:=ze
     go_region_law(first|(go_simp;go_at_call 65;refine(a8.out w3 A3 c3 v.out).mono ?_;rintro e w4 ⟨J,b,A4,c4,d3,d4⟩;subst b;have d5:=qh (d3.Zg v.out.M1);have e0:=qh (e2.out.trans d4);clear J d3 d4)|(go_simp;go_at_call 65;refine U.out.mono ?_;rintro e w3 ⟨f,b,A3,c3,G,y⟩;subst b;have v:=qh (G.Zg E.out.M1);have V:=qh ((y.P6 bx Xr a2 a3.out).trans D.out);have e2:=qh (d9.out.trans y);obtain⟨⟨y0,y1,y2,y3,y4,y5,y6,y7,y8,y9⟩,-⟩:=J5 V.out;clear f G y))
     all_goals
      cases b1<;>cases b2
      all_goals
       go_wp2_with fail
       go_ret;exact⟨d5.out.M1,by rw[za8 d,o.out];simp only[X1.bind];rw[I.out];simp only[a7.out];exact⟨rfl,_,_,d5.out,e0.out⟩⟩
 ·have m1:(s.I9==1)=false:=by simp[d]
  have m2:(s.I9==2)=false:=by simp[d]
  have m3:(s.I9==3)=false:=by simp[d]
  have m4:(s.I9==4)=true:=by simp[d]
  have m5:(s.I9==5)=false:=by simp[d]
  have m6:(s.I9==6)=false:=by simp[d]
  have m7:(s.I9==7)=false:=by simp[d]
  go_wp2_with fail
  refine(CW.out w1 2 O.out).mono ?_;rintro e H ⟨j,l⟩;have p:=qh (O.out.below l);have B:=qh (L.out.trans (qg.of cb A l));obtain⟨R,x⟩: ∃r,N3 us env s.a 2=r:=⟨_,rfl⟩;rw[x]at j;have o:=qh x;clear x;cases R with
  |J9 q er=>
   have b:e=M0 q er:=j;subst b;clear j;unfold M0
   go_wp2_with fail
   exact⟨rfl,p.out.M1,by rw[zhF d,o.out];rfl⟩
  |ok u=>
   have b:e=.returned (.tuple #[]):=j;subst b;clear j;have D:=qh ((l.block _ P).trans HX.out);have Xr:=I5 D.out;clear l;clear Z Q z2 z3 z4 z5 z6 z7 z8 z9;obtain⟨⟨Z,Q,z2,z3,z4,z5,z6,z7,z8,z9⟩,-⟩:=J5 D.out;obtain⟨rb,x⟩: ∃r,zS us K.out s.J0 env C=r:=⟨_,rfl⟩;have I:=qh x;have U:Hid (Calls prog 65 #[.pointer (some ⟨cb,0,none⟩),.slice Ab s.J0.length a0] H (QS H k cb K us F A env rb)):=qh (by rw[<-x];exact CB.out (.inr d) H A c C p.out a9 a1);clear x
   go_wp2_with fail
   refine U.out.mono ?_;rintro e w3 ⟨f,j⟩;have S:=qh (p.out.M1.trans f);clear Z Q z2 z3 z4 z5 z6 z7 z8 z9;cases rb with
   |J9 q er=>
    have b:e=M0 q er:=j;subst b;clear j f;unfold M0
    go_wp2_with fail
    exact⟨rfl,S.out,by rw[zhF d,o.out];simp only[X1.bind];rw[I.out];rfl⟩
   |ok zb=>
    obtain⟨m1,b1⟩:=zb;obtain⟨b,N,c',a4,a5⟩:=j;subst b;have b6:=qh (a4.Zg p.out.M1);have T:=qh (B.out.trans a5);clear a4 f a5
    go_wp2_with fail
    go_ret;exact⟨S.out,by rw[zhF d,o.out];simp only[X1.bind];rw[I.out];exact⟨rfl,_,_,b6.out,T.out⟩⟩
 ·have m1:(s.I9==1)=false:=by simp[d]
  have m2:(s.I9==2)=false:=by simp[d]
  have m3:(s.I9==3)=false:=by simp[d]
  have m4:(s.I9==4)=false:=by simp[d]
  have m5:(s.I9==5)=true:=by simp[d]
  have m6:(s.I9==6)=false:=by simp[d]
  have m7:(s.I9==7)=false:=by simp[d]
  obtain⟨⟨-,-,-,-,c4,-⟩,-⟩:=qN O.out.JL.P6;have E:=qh (O.out.below (M2 w1));obtain⟨R,x⟩: ∃r,N3 us env s.a K.out=r:=⟨_,rfl⟩;have o:=qh x;have HD:Hid (Calls prog 167 #[.pointer (some ⟨cb,0,none⟩),.agg #[.int .i64 s.a.I9,.int .i64 s.a.n,.string s.a.K0,.slice Aa s.a.args.length ca,.int .i64 s.a.pos],.int .i64 K.out] w1.drew λe w'=>jI R (λ_=>.tuple #[]) e/\Below w1.drew.heap.size w1.drew w'):=qh (by rw[<-x];exact CW.out w1.drew K.out E.out);clear x
  go_upto_region 18 with(fail)
  cases R with
  |J9 q er=>
   go_region_dies
   all_goals
    go_at_call 167
    refine HD.out.mono ?_;rintro e w3 ⟨j,f⟩;have v:=qh (E.out.below f);have b:e=M0 q er:=j;subst b;clear j f;unfold M0
    go_wp2_with fail
    exact⟨rfl,v.out.M1,by rw[zlh d,o.out];rfl⟩
  |ok u=>
   go_region_law(first|(go_simp;go_at_call 167;refine HD.out.mono ?_;rintro e w3 ⟨j,f⟩;have b:e=.returned (.tuple #[]):=j;subst b;clear j))
   all_goals
    have v:=qh (E.out.below f);have T:=qh ((L.out.trans (qg.of cb _ (M2 w1))).trans (qg.of cb _ f));clear f c4;clear Z Q z2 z3 z4 z5 z6 z7 z8 z9
    go_wp2_with fail
    go_ret;exact⟨v.out.M1,by rw[zlh d,o.out];exact⟨rfl,_,_,v.out,T.out⟩⟩
 ·have m1:(s.I9==1)=false:=by simp[d]
  have m2:(s.I9==2)=false:=by simp[d]
  have m3:(s.I9==3)=false:=by simp[d]
  have m4:(s.I9==4)=false:=by simp[d]
  have m5:(s.I9==5)=false:=by simp[d]
  have m6:(s.I9==6)=true:=by simp[d]
  have m7:(s.I9==7)=false:=by simp[d]
  go_wp2_with fail
  refine(CW.out w1 1 O.out).mono ?_;rintro e H ⟨j,l⟩;have p:=qh (O.out.below l);have B:=qh (L.out.trans (qg.of cb A l));obtain⟨R,x⟩: ∃r,N3 us env s.a 1=r:=⟨_,rfl⟩;rw[x]at j;have o:=qh x;clear x;cases R with
  |J9 q er=>
   have b:e=M0 q er:=j;subst b;clear j;unfold M0
   go_wp2_with fail
   exact⟨rfl,p.out.M1,by rw[zlg d,o.out];rfl⟩
  |ok u=>
   have b:e=.returned (.tuple #[]):=j;subst b;clear j;clear l;clear Z Q z2 z3 z4 z5 z6 z7 z8 z9
   go_wp2_with fail
   go_ret;exact⟨p.out.M1,by rw[zlg d,o.out];exact⟨rfl,_,_,p.out,B.out⟩⟩
 ·have m1:(s.I9==1)=false:=by simp[d]
  have m2:(s.I9==2)=false:=by simp[d]
  have m3:(s.I9==3)=false:=by simp[d]
  have m4:(s.I9==4)=false:=by simp[d]
  have m5:(s.I9==5)=false:=by simp[d]
  have m6:(s.I9==6)=false:=by simp[d]
  have m7:(s.I9==7)=true:=by simp[d]
  go_wp2_with fail
  refine(CX.out w1 O.out).mono ?_;rintro e H ⟨j,l⟩;have p:=qh (O.out.below l);have B:=qh (L.out.trans (qg.of cb A l));obtain⟨R,x⟩: ∃r,O2 us env s.a=r:=⟨_,rfl⟩;rw[x]at j;have o:=qh x;clear x;cases R with
  |J9 q er=>
   have b:e=M0 q er:=j;subst b;clear j;unfold M0
   go_wp2_with fail
   exact⟨rfl,p.out.M1,by rw[zkJ d,o.out];rfl⟩
  |ok t=>
   have b:e=.returned (.int .i64 t):=j;subst b;clear j;clear l;clear Z Q z2 z3 z4 z5 z6 z7 z8 z9
   go_wp2_with fail
   go_ret;exact⟨p.out.M1,by rw[zkJ d,o.out];exact⟨rfl,_,_,p.out,B.out⟩⟩
def Chk.cap{w}{base f:Nat}{K A}{c:Nat}{env}{a:Nat}(h:Chk w base f K A c env a):env.length<=c/\(A=none\/ ∃g,A=some ⟨g,0,none⟩):=by
 rcases h.row.2 with⟨b,i⟩|⟨g,j,k,b,i,n,l,o,p,q⟩
 ·injection b with d m e;exact⟨by omega,.inl d⟩
 ·injection b with d m e;subst e;exact⟨l,.inr ⟨g,d⟩⟩
def zcJ{us:List Fn}{out:Int}{l:List Sm}{j:Nat}{s:Sm}{env a b:P1}{m c d:Nat}{r e:Bool}(hs:l[j]?=some s)(h:X6 us out (l.take j) env m false=.ok (a,c,r))(f:zC us out s a c=.ok (b,d,e)):X6 us out (l.take (j+1)) env m false=.ok (b,d,r||e):=by
 rw[P0 hs,yn,h];simp only[f]
def zfl(left:Nat)(V:zoC left):zlK left:=by
 intro l B d F w base E K A c t y H W hZ d6 hK h hA;have N:=qh h;have HA:=qh hA;have HZ:=qh hZ;have X:=qh hK;have c6:=qh W;have IS:=qh V;have Y:=hK.m64;have c8:=hK.el;obtain⟨⟨-,-,-,-,-,-,-,c7,-⟩,-⟩:=qN h.JL.P6;clear h hA hZ hK W V
 go_enter func65,ntmps65
 go_wp2_with fail
 clear c7
 go_loopw[6,16] (λu i wr=> ∃(j:Nat)(r:Bool)(o:P1)(m:Nat)(D:Option Addr)(O:Nat),j<=l.length/\i=.int .i64 j/\u=.bool r/\Hid (X6 H K.out (l.take j) t y false=.ok (o,m,r))/\Hid (yx w wr base E K D O o m H F)/\Hid (qg w wr E A D)) (λ_ i _=>l.length-(intOf i).toNat)
 case atStart=>exact⟨0,false,t,y,A,c,D0 _,rfl,rfl,qh rfl,N,qh (qg.of E A (x8 _ _))⟩
 case round=>
  obtain⟨j,r,o,m,D,O,hj,rfl,rfl,P,b,Z⟩:=hrel
  by_cases c9:j<l.length
  ·obtain⟨s,hs⟩: ∃s,l[j]?=some s:=⟨_,x9 c9⟩
   obtain⟨g,f,Q,R,S,x,T,U,rfl,a0,hg,a1,a2,a3,C⟩:=HA.out.at j s hs;have k:g<base:=N.out.fb g a0;have b0:=(b.out.M1.cell (p:=⟨g,f+j*10,none⟩) k).trans (C 0 _ rfl);have b1:=(b.out.M1.cell (p:=⟨g,f+j*10+1,none⟩) k).trans (C 1 _ rfl);have b2:=(b.out.M1.cell (p:=⟨g,f+j*10+2,none⟩) k).trans (C 2 _ rfl);have b3:=(b.out.M1.cell (p:=⟨g,f+j*10+3,none⟩) k).trans (C 3 _ rfl);have b4:=(b.out.M1.cell (p:=⟨g,f+j*10+4,none⟩) k).trans (C 4 _ rfl);have b5:=(b.out.M1.cell (p:=⟨g,f+j*10+5,none⟩) k).trans (C 5 _ rfl);have b6:=(b.out.M1.cell (p:=⟨g,f+j*10+6,none⟩) k).trans (C 6 _ rfl);have b7:=(b.out.M1.cell (p:=⟨g,f+j*10+7,none⟩) k).trans (C 7 _ rfl);have b8:=(b.out.M1.cell (p:=⟨g,f+j*10+8,none⟩) k).trans (C 8 _ rfl);have b9:=(b.out.M1.cell (p:=⟨g,f+j*10+9,none⟩) k).trans (C 9 _ rfl);have I:=B7 hs;have J:=zbC _ P.out;have d0:Hid (OkC H o m):=qh ⟨X.out.fz,X.out.ul,X.out.zku,zcz X.out.zku _ X.out.ev P.out,J.2.2 c8,J.2.1 Y⟩;have hb:=(x8 wr.heap.size wr).alloc (x7 _) (.cells #[.int .i64 s.I9,.string s.J2,.int .i64 s.a.I9,.int .i64 s.a.n,.string s.a.K0,.slice Q s.a.args.length R,.int .i64 s.a.pos,.slice S s.J0.length x,.slice T s.M9.length U,.int .i64 s.pos] 188);have v:=qh (b.out.below hb);have L:=qh (A5 wr (.cells #[.int .i64 s.I9,.string s.J2,.int .i64 s.a.I9,.int .i64 s.a.n,.string s.a.K0,.slice Q s.a.args.length R,.int .i64 s.a.pos,.slice S s.J0.length x,.slice T s.M9.length U,.int .i64 s.pos] 188));have a4:=qh (Z.out.trans (qg.of E D hb));obtain⟨rs,hr⟩: ∃r,zC H K.out s o m=r:=⟨_,rfl⟩;have a5:=qh hr;have HS:Hid (Calls prog 115 #[.pointer (some ⟨E,0,none⟩),.agg #[.int .i64 s.I9,.string s.J2,.int .i64 s.a.I9,.int .i64 s.a.n,.string s.a.K0,.slice Q s.a.args.length R,.int .i64 s.a.pos,.slice S s.J0.length x,.slice T s.M9.length U,.int .i64 s.pos]] (wr.alloc (.cells #[.int .i64 s.I9,.string s.J2,.int .i64 s.a.I9,.int .i64 s.a.n,.string s.a.K0,.slice Q s.a.args.length R,.int .i64 s.a.pos,.slice S s.J0.length x,.slice T s.M9.length U,.int .i64 s.pos] 188)) (zld (wr.alloc (.cells #[.int .i64 s.I9,.string s.J2,.int .i64 s.a.I9,.int .i64 s.a.n,.string s.a.K0,.slice Q s.a.args.length R,.int .i64 s.a.pos,.slice S s.J0.length x,.slice T s.M9.length U,.int .i64 s.pos] 188)) base E K H F D rs)):=qh (by
    rw[<-hr];exact IS.out s Q S T R x U F _ base E K D O o m H (Xn _ _ c6.out s I) (HZ.out s I) d0.out v.out.Z8 (N.out.args v.out.M1 a1) (N.out.zb2 v.out.M1 a2) (N.out.zb2 v.out.M1 a3))
   have a6:=qh hs;have k0:(0:Int)<=(j:Int):=by omega
   have k1:(j:Int)<(l.length:Int):=by omega
   clear hs a1 a2 a3 C I J hr hb a0
   go_upto_region 6 with(fail)
   clear b0 b1 b2 b3 b4 b5 b6 b7 b8 b9;obtain⟨⟨z0,z1,z2,z3,z4,z5,z6,z7,z8,z9⟩,-⟩:=J5 L.out;generalize wr.alloc _=wa at v L a4 HS z0 z1 z2 z3 z4 z5 z6 z7 z8 z9|-;generalize wr.heap.size=bx at L z0 z1 z2 z3 z4 z5 z6 z7 z8 z9|-
   go_wp2_with fail
   refine HS.out.mono ?_;rintro e w2 ⟨a7,he⟩;have d1:=qh (v.out.M1.trans a7);clear z0 z1 z2 z3 z4 z5 z6 z7 z8 z9 a7 HS;cases rs with
   |J9 q er=>
    have M:e=M0 q er:=he;subst M;clear he;unfold M0
    go_wp2_with fail
    exact⟨rfl,d1.out,by rw[xd a6.out P.out a5.out];rfl⟩
   |ok z=>
    obtain⟨G,m2,r2⟩:=z;obtain⟨M,A2,c2,a8,a9⟩:=he;subst M;have c0:=qh (a8.Zg v.out.M1);have c1:=qh (a4.out.trans a9);have c3:=qh (zcJ a6.out P.out a5.out);clear a8 a9;cases r2 with
    |false=>
     go_wp2_with fail
     go_roundw
     case rel=>exact⟨j+1,r,G,m2,A2,c2,by omega,by go_num,rfl,qh (by have:=c3.out;rwa [Bool.or_false]at this),c0,c1⟩
     case measure=>simp[intOf];omega
    |true=>
     go_wp2_with fail
     go_roundw
     case rel=>exact⟨j+1,true,G,m2,A2,c2,by omega,by go_num,rfl,qh (by have:=c3.out;rwa [Bool.or_true]at this),c0,c1⟩
     case measure=>simp[intOf];omega
  ·obtain rfl:j=l.length:=by omega
   obtain⟨d7,rfl⟩:=zhP _ P.out;obtain⟨c4,d2⟩:=b.out.JL.cap;have d8:(0:Int)<=(t.length:Int):=by omega
   have d9:(t.length:Int)<=(O:Int):=by simp at c4;omega
   obtain⟨⟨-,-,-,-,-,-,-,c7,-⟩,f7,-⟩:=qN b.out.JL.P6;have d3:=qh b.out.JL.cut;have c5:=qh (L6 b.out.M1 b.out.JL.b0 7 (.slice D t.length O));have d4:=qh (Z.out.trans (qg.set wr E D 7 (.slice D t.length O)));have d5:Hid (zS H K.out l t y=.ok (m,r)):=qh (by have:=P.out;rw[F5]at this;rw[yM,this])
   rcases d2 with rfl|⟨gA,rfl⟩
   all_goals
    go_wp2_with fail
    go_ret;exact⟨c5.out,by rw[d5.out];exact⟨rfl,_,_,N.out.Zf c5.out d3.out,d4.out⟩⟩
def znL: ∀left:Nat,zlK left:=by
 intro left
 induction left with
 |zero=>exact zfl 0 (zgP 0 λh=>H9 h (by decide))
 |succ left a=>exact zfl (left+1) (zgP (left+1) λ_=>a)
end Go.Proofs.YtmngofgminlloaaGreatDoor
