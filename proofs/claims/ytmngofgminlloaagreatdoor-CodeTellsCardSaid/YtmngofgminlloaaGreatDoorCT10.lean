/- Merged. -/
import Derived.Test.YtmngofgminlloaaGreatDoorCT09
set_option linter.all false
set_option maxHeartbeats 16000000
set_option maxRecDepth 100000
namespace Go.Proofs.YtmngofgminlloaaGreatDoor
open Go.Proofs.Tryz
open Go.RowKit Tw
section
open Go.Maps
theorem zgd{l:Bs}{k n:Nat}(h:ZL l=.Y5 k n)(a:k=1):n<=12:=by
 subst a;unfold Tw.ZL at h
 split at h
 ·cases h
 split at h
 ·cases h
 split at h
 ·split at h
  ·rename_i c
   injection h with _ h
   have d:=(Zv _ c).1;have e:M4 X8 l<=l.length:=by unfold M4;exact(List.takeWhile_sublist _).length_le
   rw[I2,Nat.min_eq_left e]at d;omega
  ·cases h
 split at h
 ·split at h
  ·injection h with h _;omega
  ·split at h
   ·cases h
   ·injection h with h _;omega
 ·split at h
  ·cases h
  ·injection h with h _;omega
theorem Tw.xG.XN{s:ByteArray}{k:Nat}{l r}(h:xG s k l r):zV l->zV r.2:=by
 induction h with
 |done e=>exact id
 |J9 _ _=>intro _ x a;simp at a
 |skip _ _ _ c=>exact c
 | @Y5 i k n l r j f _ c=>
   intro g;refine c λx a d=>?_
   rcases List.mem_append.1 a with a|a
   ·exact g x a d
   ·simp at a;subst a
    have:=zgd f d;simp;omega
theorem Zz.XN{s:ByteArray}{p e:Int}{ws}(h:Zz s p e ws):zV ws:=by
 rcases h with⟨_,_,_,rfl⟩|⟨_,r,c,_,_,rfl⟩
 ·intro x a;simp at a
 ·exact c.XN (λx a=>by simp at a)
theorem qH{P:Program}{fn p a b e}(h:fn.results= #[.cell p e,.tmp a,.tmp b])(c:Array Value)(w:World)(g:Nat)(t:TypeId)(f:Array Value)(k:Nat×Nat)(d:TypeDesc)
 (l:c.getD p undef=.pointer (some ⟨g,0,none⟩)) (m:w.heap[g]?=some (.cells f t k))
 (n:P.underlying e=some d) (o:(match d with|.struct _|.array _ _=>true|_=>false)=true) (hi:(P.info? e).map (·.size)=some f.size):
 (results fn c).run P w=.ok (.tuple #[.agg f,c.getD a undef,c.getD b undef]) w:=by
 have j:c[p]?.getD undef=.pointer (some ⟨g,0,none⟩):=by simpa using l
 simp[results,h,j,asAddr,run_loadVar_row w g t e f k d m n o hi]
theorem FrU.start{w a v ws}{en:Nat}(d:O4 w)(m:jZ a a.heap.size v ws)(n:ws.length<=4000)(e:Below w.heap.size w a)(f:a.heap[w.heap.size]?=some (.cells #[.slice none 0 0] 24 (0,0))):
 FrU w ((a.alloc (.cells #[v,.int .i64 0,.int .i64 en,.bool false] 115)).alloc (.cells #[.slice none 0 0] 24)) a.heap.size (a.heap.size+1) w.heap.size (a.heap.size+2) v ws 0 en false none 0 []:=by
 have g:=d.xM;have h:=I5 f;have j:Below a.heap.size a (a.alloc (.cells #[v,.int .i64 0,.int .i64 en,.bool false] 115)):=(x8 _ _).alloc (x7 _) _;have c:Below a.heap.size a ((a.alloc (.cells #[v,.int .i64 0,.int .i64 en,.bool false] 115)).alloc (.cells #[.slice none 0 0] 24)):=j.alloc j.size _;have l:=e.trans (c.mono e.size);refine⟨⟨?_,m.Z3 λk o=>c.block k o,n,D0 _⟩,?_,(c.block _ h).trans f,O8.nil _ _ _ _ _,l,d.to l,by omega,x7 _,h,by omega,by omega,by simp⟩
 ·exact(C4 _ _ (by simp)).trans (A5 a _)
 ·simpa using A5 (a.alloc (.cells #[v,.int .i64 0,.int .i64 en,.bool false] 115)) (.cells #[.slice none 0 0] 24)
theorem Qj.start{wr W}{rb:Nat}{v ws}{i en:Nat}{b:Bool}(d:Rd W rb v ws i en b)(e:O4 W)(f:10<rb)(j:rb<wr.heap.size)(c:wr.grownBy W (some rb))(pos:Int):
 Qj wr (W.alloc (.cells #[.string ⟨#[]⟩,.slice none 0 0,.slice none 0 0,.int .i64 0,.slice none 0 0,.int .i64 pos] 32)) rb W.heap.size (W.heap.size+1) v ws i en b ⟨#[]⟩ none 0 [] none 0 [] 0 (.slice none 0 0) pos:=by
 have a:Below W.heap.size W (W.alloc (.cells #[.string ⟨#[]⟩,.slice none 0 0,.slice none 0 0,.int .i64 0,.slice none 0 0,.int .i64 pos] 32)):=(x8 _ _).alloc (x7 _) _;exact⟨d.K7 a,A5 W _,I4 c (I7 a _),e.to a,O8.nil _ _ _ _ _,O8.nil _ _ _ _ _,λg h=>by simp[Value.ownBlock]at h,f,j,c.size,by omega,by simp⟩
theorem qt{P}{ops:Array Oper}{o}{a:Act}{K:Act->World->Prop}{Q:Exit->Act->World->Prop}{E':Prop}{w:World}{t e size:Nat}(E:qC P t e size)(l:o.guard=none)(s x:Operand)
 (r:o.op=.call {callee:=.builtin .append,args:= #[s,x],argTypes:= #[t,t]})
 (base:Nat) (v:Value) (n:Nat) (xs:List Value) (hs:a.eval s=v) (f:w.ownsRow base e size v n xs)
 (H c:Nat) (j:Array Value) (y:a.eval x=.slice (some ⟨H,0,none⟩) 1 c) (k:w.heap[H]?=some (.cells j e (0,0))) (A:j.size=size) (B: ∀u∈j.toList,u.oneCell'=true)
 (C:n+1<=500000000000) (d:base<=w.heap.size)
 (h: ∀g cap w',w'.ownsRow base e size (.slice (some ⟨g,0,none⟩) (n+1) cap) (n+1) (xs++j.toList)->w.grownBy w' v.ownBlock->(v.ownBlock=some g\/g=w.heap.size)->g<w'.heap.size->K (a.put o.dst (.slice (some ⟨g,0,none⟩) (n+1) cap)) w'):
 if Region.wanted o (yielded ops a.tmps)=true then Oper.wp P o a w K Q else E':=by
 obtain⟨i,z,D,F,m,p,q⟩:=E.get
 exact step_append_lies w l s x t r base e i z size i.bytes E.ut D F m rfl q E.pos v n xs hs f ⟨H,0,none⟩ 1 c j.toList y (by simp[A]) (World.news_of_block k) B (by omega)
  (by unfold maxLen;omega) (za4 p C) d w.heap.size rfl h
section
variable {wr W W':World}{rb bf base:Nat}{v:Value}{ws:List Wd}{i en:Nat}{b:Bool}{nm:ByteArray}{An:Option Addr}{cn:Nat}{ns:List ByteArray}{At:Option Addr}{ct:Nat}{ts:List Int}{out:Int}{vb:Value}{pos:Int}
theorem Qj.fbN(h:Qj wr W rb bf base v ws i en b nm An cn ns At ct ts out vb pos)(a:W.grownBy W' (Value.slice An ns.length cn).ownBlock):W'.heap[bf]?=some (.cells #[.string nm,.slice An ns.length cn,.slice At ts.length ct,.int .i64 out,vb,.int .i64 pos] 32 (0,0)):=by
 have c:=h.z2;have d:=h.z3;exact(a.block bf (by omega) (λe=>by have:=(h.rn.1.lt bf e.symm).1;omega)).trans h.fb
theorem Qj.fbT(h:Qj wr W rb bf base v ws i en b nm An cn ns At ct ts out vb pos)(a:W.grownBy W' (Value.slice At ts.length ct).ownBlock):W'.heap[bf]?=some (.cells #[.string nm,.slice An ns.length cn,.slice At ts.length ct,.int .i64 out,vb,.int .i64 pos] 32 (0,0)):=by
 have c:=h.z2;have d:=h.z3;exact(a.block bf (by omega) (λe=>by have:=(h.rt.1.lt bf e.symm).1;omega)).trans h.fb
end
theorem L6{B:Nat}{w w'}{b:Nat}(h:Below B w w')(c:B<=b)(j:Nat)(u):Below B w (w'.setCell ⟨b,j,none⟩ u):=
 ⟨h.os,h.tape,h.output,by simpa using h.size,λk a=>(F9 w' ⟨b,j,none⟩ u k (by simp;omega)).trans (h.block k a)⟩
theorem FrU.Xs{w W W':World}{rb a d base:Nat}{v:Value}{ws:List Wd}{i en:Nat}{b:Bool}{A:Option Addr}{c:Nat}{l:List (Fn×Value×Value×Value)}{o:Obj}
 (h:FrU w W rb a d base v ws i en b A c l) (f:(W.alloc o).grownBy W' (Value.slice A l.length c).ownBlock):W'.heap[a]?=some (.cells #[.slice A l.length c] 24 (0,0)):=by
 have g:=h.z3;have j:=h.z4;exact(f.block a (by simp;omega) (λe=>by have:=(h.row.1.lt a e.symm).1;omega)).trans ((C4 W o (by omega)).trans h.un)
theorem FrU.qv{w W W':World}{rb p r base:Nat}{v:Value}{ws:List Wd}{i en:Nat}{b:Bool}{A:Option Addr}{c:Nat}{l:List (Fn×Value×Value×Value)}{a:Fn×Value×Value×Value}{t:Nat->Prop}{o:Obj}{g cap:Nat}
 (h:FrU w W rb p r base v ws i en b A c l) (E:Y7.XD W t a) (u: ∀g,t g->base<=g/\(Value.slice A l.length c).ownBlock≠some g)
 (F:W'.ownsRow base 32 6 (.slice (some ⟨g,0,none⟩) (l.length+1) cap) (l.length+1) (l.flatMap Y7.cells++Y7.cells a)) (j:(W.alloc o).grownBy W' (Value.slice A l.length c).ownBlock) (x:(Value.slice A l.length c).ownBlock=some g\/g=(W.alloc o).heap.size):
 FrU w (W'.setCell ⟨p,0,none⟩ (.slice (some ⟨g,0,none⟩) (l.length+1) cap)) rb p r base v ws i en b (some ⟨g,0,none⟩) cap (l++[a]):=by
 have G:=h.z0;have H:=h.z1;have I:=h.z2;have J:=h.z3;have K:=h.z4;have y:Below W.heap.size W (W.alloc o):=(x8 _ _).alloc (x7 _) _;have m:=h.L9 (h.rd.K7 y) (I7 y _);have z:=h.row.1.lt;have f: ∀k,(Value.slice A l.length c).ownBlock=some k->base<=k:=λk e=>(z k e).1
 have B:Y7.XD (W.alloc o) t a:=Y7.K7 (λq L M=>⟨L,by simp;omega,C4 W o M⟩) E;have N:O8 Y7 W' base 32 6 (.slice (some ⟨g,0,none⟩) (l.length+1) cap) (l++[a]):=O8.qv m.row B u F j x;have d:=I8 W' p 0 (.slice (some ⟨g,0,none⟩) (l.length+1) cap);have D:(l++[a]).length=l.length+1:=by simp
 have O:=y.size;have n:Rd W' rb v ws i en b:=⟨(j.block rb m.rd.lt (λe=>by have:=f rb e.symm;omega)).trans m.rd.P6,m.rd.row.Z3 λq s=>j.block q (Nat.lt_trans s m.rd.lt) (λe=>by have:=f q e.symm;omega),m.rd.X5,m.rd.pos⟩;have C:Below w.heap.size w W':=⟨j.os.trans m.be.os,j.tape.trans m.be.tape,j.output.trans m.be.output,C1 m.be.size j.size,λk B=>(j.block k (by omega) (λe=>by have:=f k e.symm;omega)).trans (m.be.block k B)⟩
 refine⟨⟨(d.block rb n.lt (by simp;omega)).trans n.P6,n.row.Z3 λq s=>d.block q (Nat.lt_trans s n.lt) (by simp;omega),n.X5,n.pos⟩,by rw[D];simpa using A6 W' p 0 _ _ (.slice (some ⟨g,0,none⟩) (l.length+1) cap) (h.Xs j),
  (d.block r (by have:=j.size;simp at this;omega) (by simp;omega)).trans ((j.block r (by simp;omega) (λe=>by have:=f r e.symm;omega)).trans m.zD),
  by rw[D];exact N.kept d (λk e=>.inl (by cases e;omega)),L6 C (by omega) _ _,
  (m.gl.Z3 j.size (λq s=>j.block q (by have:=h.r0;simp;omega) (λe=>by have:=f q e.symm;have:=h.r0;omega))).Z3 d.size (λq s=>d.block q (by have:=h.r0;have:=j.size;simp at this;omega) (by simp;have:=h.r0;omega)),
  h.r0,G,H,I,J,C1 K (C1 O (C1 j.size d.size))⟩
theorem zbO:(Tryz.prog.info? 24).map (·.size)=some 1:=by kernel_rfl
def XJ(a:ByteArray)(l:List Fn)(p d:Int):Prop:=
 ∃e c ws,Zz a e c ws/\((c≠0/\l=[]/\p=e/\d=c)\/
  (c=0/\((∃j,Du ws a.size 0 (.J9 j)/\l=[]/\p=J4 ws j a.size/\d=15)\/
   (∃m,Du ws a.size 0 (.xL m)/\p=0/\d=U6 m/\l=(if U6 m=0 then m else[])))))
theorem zgR:qC prog 22 32 6:=⟨underlying22,by kernel_rfl,by decide⟩
theorem zbM:qC prog 28 9 1:=⟨underlying28,by kernel_rfl,by decide⟩
theorem zbG:qC prog 29 3 1:=⟨underlying29,by kernel_rfl,by decide⟩
theorem JT(x:ByteArray)(w)(hs:x.size<=maxLen)(hG:O4 w):
 Calls prog 15 #[.string x] w λe w'=> ∃(l:List Fn)(A:Option Addr)(c:Nat)(p er:Int),e=.returned (.tuple #[.agg #[.slice A l.length c],.int .i64 p,.int .i64 er])/\U2 w' (λg=>w.heap.size<=g) (.slice A l.length c) l/\Below w.heap.size w w'/\l.length<=c/\XJ x l p er:=by
 obtain⟨p0,e0,ws,hw⟩:=Zz.zfv x;have HW:=qh hw;have e4:=hG.xM;have HG:=qh hG;have WC:=qh (zjy x (w.alloc (.cells #[.slice none 0 0] 24)) p0 e0 ws hs (hG.to ((x8 _ _).alloc (x7 _) _)) hw);clear hw hG;unfold maxLen at hs
 go_enter func15,ntmps15
 go_wp2_with fail
 refine WC.out.mono ?_;rintro e S ⟨⟨v,rfl,hv⟩,u⟩;have a0:=qh (((x8 w.heap.size w).alloc (x7 _) (.cells #[.slice none 0 0] 24)).trans (u.mono (by simp)));have G:=qh ((u.block w.heap.size (by simp)).trans (A5 w _));have HV:=qh hv;clear u WC
 by_cases he:e0=0
 ·subst he
  obtain⟨A0,r,rfl,-⟩:=hv.jJ;clear hv
  go_upto_block 0 with(fail)
  have a1:Hid (WsZ ws):=qh HW.out.zB;have a8:Hid (zV ws):=qh HW.out.XN;have d:=qh (FrU.start (en:=x.size) HG.out HV.out a1.out.1 a0.out G.out);clear HV a0 G;generalize(S.alloc _).alloc _=W1 at d|-;generalize a9:S.heap.size+1=bu at d|-;generalize S.heap.size+2=base at d;generalize S.heap.size=rb at d a9|-;clear a9;obtain⟨b2,M⟩: ∃b2,w.heap.size=b2:=⟨_,rfl⟩;rw[M]at d;simp only[M];have c9:=qh M;clear M;generalize b0:x.size=en at d|-;have N:=qh b0;clear b0
  go_cut[] (λW=> ∃(l:List (Fn×Value×Value×Value))(A:Option Addr)(c o:Nat)(H:Bool),Hid (FrU w W rb bu b2 base (.slice A0 ws.length r) ws o en H A c l)/\Hid (InU ws en (l.map (·.1)) o H)/\Hid (H=true\/o=ws.length))
  case first=>
   go_wp2_with fail
   go_loopw[] (λwr=> ∃(l:List (Fn×Value×Value×Value))(A:Option Addr)(c o:Nat)(H:Bool),Hid (FrU w wr rb bu b2 base (.slice A0 ws.length r) ws o en H A c l)/\Hid (InU ws en (l.map (·.1)) o H)) (λwr=>yN ws wr rb)
   case atStart=>exact⟨[],none,0,0,false,d,qh (InU.start ws en)⟩
   case round=>
    obtain⟨l,A,c,o,H,d,U⟩:=hrel;have r0:=d.out.rd.c0;have r1:=d.out.rd.c1;have r3:=d.out.rd.c3;have hn:=d.out.rd.X5;have hp:=d.out.rd.pos
    by_cases d0:o<ws.length
    ·have k1:(o:Int)<(ws.length:Int):=by omega
     cases H with
     |true=>
      go_wp2_with fail
      go_meet
      case rel=>exact⟨l,A,c,o,true,d,U,qh (.inl rfl)⟩
     |false=>
      go_wp2_with fail
      clear r0 r1 r3;refine(zg6 d.out.rd).mono ?_;rintro e w2 ⟨rfl,u⟩;have a2:=qh (d.out.L9 (d.out.rd.K7 u) (I7 u _));have D:=d.out.rd.lt;have b1:=d.out.r0;have a:=qh (Qj.start a2.out.rd a2.out.gl b1 D (I7 u _) (J4 ws o en));clear u a2
      go_upto_region 8 with(fail)
      generalize w2.alloc _=W2 at a|-;generalize w2.heap.size+1=f at a;generalize w2.heap.size=bf at a|-
      go_wp2_with fail
      refine(ya Xg a.out.rd).mono ?_;rintro e w3 ⟨rfl,⟨i1,e8,n,V⟩,m⟩;have d2:=qh V;replace a:=qh (a.out.L9 n m);clear n m V
      go_wp2_with fail
      refine(Xh 2 a.out.rd).mono ?_;rintro e w4 ⟨⟨nm,i2,k2,rfl,n,X⟩,m⟩;have d3:=qh X;replace a:=qh (a.out.L9 n m);clear n m X;have c0:=(M6 a.out.fb).1.1;have f0:=(M6 a.out.fb).2.1
      go_wp2_with fail
      clear c0 f0;replace a:=qh (a.out.s0 nm);generalize w4.setCell ⟨bf,0,none⟩ _=W4 at a|-;refine(ya O6 a.out.rd).mono ?_;rintro e w5 ⟨rfl,⟨i3,k3,n,V⟩,m⟩;have d4:=qh V;replace a:=qh (a.out.L9 n m);clear n m V
      go_upto_block 2 with(fail)
      go_cut[] (λW=> ∃(An:Option Addr)(cn:Nat)(ns:List ByteArray)(At:Option Addr)(ct:Nat)(ts:List Int)(F:Nat)(O:Bool),Hid (Qj wr W rb bf f (.slice A0 ws.length r) ws F en O nm An cn ns At ct ts 0 (.slice none 0 0) (J4 ws o en))/\Hid (zjH ws en i3 k3 ns ts F O))
      case first=>
       obtain⟨P,rfl⟩: ∃P:World,P=wr:=⟨_,rfl⟩
       go_wp2_with fail
       go_loopw[11] (λk wq=> ∃(An:Option Addr)(cn:Nat)(ns:List ByteArray)(At:Option Addr)(ct:Nat)(ts:List Int)(F:Nat)(O:Bool),k=.int .i64 ns.length/\Hid (Qj P wq rb bf f (.slice A0 ws.length r) ws F en O nm An cn ns At ct ts 0 (.slice none 0 0) (J4 ws o en))/\Hid (InP ws en i3 k3 ns ts F O)) (λ_ wq=>yN ws wq rb)
       case atStart=>exact⟨none,0,[],none,0,[],i3,k3,rfl,a,qh (InP.start ws en i3 k3)⟩
       case round=>
        clear a;obtain⟨An,cn,ns,At,ct,ts,F,O,rfl,a,HP⟩:=hrel;have a3:=qh a.out.rd;obtain⟨t,ht⟩: ∃t,U8 ws F O N4=t:=⟨_,rfl⟩;have T:=qh ht
        go_wp2_with fail
        refine(zG N4 t a.out.rd ht).mono ?_;rintro e w6 ⟨rfl,n,m⟩;replace a:=qh (a.out.L9 n m);clear n m ht;cases t with
        |true=>
         obtain⟨rfl,ha⟩:=O3 T.out;have HA:=qh ha;clear ha;simp only[if_true]at a
         go_wp2_with fail
         go_meet
         case rel=>exact⟨An,cn,ns,At,ct,ts,F+1,false,a,qh (HP.out.U4 HA.out)⟩
        |false=>
         simp only[C2,if_false]at a;have c3:=a.out.rd.c3;cases O with
         |true=>
          go_wp2_with fail
          go_meet
          case rel=>exact⟨An,cn,ns,At,ct,ts,F,true,a,qh HP.out.out⟩
         |false=>
          have HA:=qh (M7 T.out);clear T
          go_upto_if 66 with(fail)
          clear c3
          go_cut[] (λW=> ∃(Y:Nat)(b5:Bool),Hid (Qj P W rb bf f (.slice A0 ws.length r) ws Y en b5 nm An cn ns At ct ts 0 (.slice none 0 0) (J4 ws o en))/\Hid (Yr ws ns.length F Y b5))
          case first=>
           by_cases hl:ns.length=0
           ·have HL:=qh hl;clear hl
            go_wp2_with fail
            ·exfalso;have:=HL.out;omega
            go_meet
            case rel=>exact⟨F,false,a,qh (.inl ⟨HL.out,rfl,rfl⟩)⟩
           ·have e0:0<ns.length:=by omega
            have HL:=qh hl;clear hl
            go_wp2_with fail
            refine(ya U0 a.out.rd).mono ?_;rintro e w7 ⟨rfl,⟨Y,k5,n,V⟩,m⟩;have d5:=qh V;replace a:=qh (a.out.L9 n m);clear n V m
            go_wp2_with fail
            go_meet
            case rel=>exact⟨Y,k5,a,qh (.inr ⟨HL.out,d5.out⟩)⟩
          case rest=>
           clear a;obtain⟨Y,b5,a,HC⟩:=hcut;have e9:ns.length<=5000:=by have:=HP.out.X5;have:=a3.out.pos;have:=a3.out.X5;simp at*;omega
           have f1:ts.length<=5000:=by have:=HP.out.eq;omega
           go_upto_region 16 with(fail)
           obtain⟨wa,rfl⟩: ∃P:World,P=wc:=⟨_,rfl⟩
           go_cut[] (λW=> ∃(i6:Nat)(k6:Bool)(Z:ByteArray)(g9 s:Nat),Hid (Qj P W rb bf f (.slice A0 ws.length r) ws i6 en k6 nm (some ⟨g9,0,none⟩) s (ns++[Z]) At ct ts 0 (.slice none 0 0) (J4 ws o en))/\Hid (yl ws 2 Y b5 Z i6 k6))
           case first=>
            have c1:=(M6 a.out.fb).1.2.1;have I:=qh (a.out.below (M2 _))
            go_region_law(first|(go_simp;go_at_call 53;refine(Xh 2 I.out.rd).mono ?_;rintro e w8 ⟨⟨Z,i6,k6,rfl,n,X⟩,m⟩;have q:=qh (I.out.L9 n m);have a4:=qh X;have d1:=(M6 q.out.fb).1.2.1;have b3:=I5 q.out.fb;clear n X m)|(refine qt zbM (by rfl) _ _ (by rfl) f _ ns.length (ns.flatMap S1.cells) (by rfl) (q.out.rn.1.alloc _) w8.heap.size 1 #[.string Z] (by rfl) (A5 w8 _) rfl (by simp[Value.oneCell']) (by omega) (by have:=q.out.z3;simp;omega) ?_;intro g9 s w9 y j J b7;have K:=qh (q.out.below ((x8 _ _).alloc (x7 _) (.cells #[.string Z] 9)));have B:=K.out.fbN j;have q1:=(M6 B).1.2.1;have q2:=(M6 B).2.2.1;clear B))
            all_goals
             go_wp2_with fail
             go_meet
             case rel=>exact⟨i6,k6,Z,g9,s,qh (K.out.J2 y j J rfl),a4⟩
           case rest=>
            clear a;obtain⟨i6,k6,Z,g9,s,a,a4⟩:=hcut;obtain⟨wa,rfl⟩: ∃P:World,P=wc:=⟨_,rfl⟩
            go_upto_region 17 with(fail)
            have c1:=(M6 a.out.fb).1.2.2.1;have I:=qh (a.out.below (M2 _))
            go_region_law(first|(go_simp;go_at_call 55;refine(zkW I.out.rd).mono ?_;rintro e w8 ⟨⟨t2,i7,k7,rfl,n,X⟩,m⟩;have q:=qh (I.out.L9 n m);have d6:=qh X;have d1:=(M6 q.out.fb).1.2.2.1;have b3:=I5 q.out.fb;clear n X m)|(refine qt zbG (by rfl) _ _ (by rfl) f _ ts.length (ts.flatMap zm.cells) (by rfl) (q.out.rt.1.alloc _) w8.heap.size 1 #[.int .i64 t2] (by rfl) (A5 w8 _) rfl (by simp[Value.oneCell']) (by omega) (by have:=q.out.z3;simp;omega) ?_;intro d7 a5 w9 y j J b7;have K:=qh (q.out.below ((x8 _ _).alloc (x7 _) (.cells #[.int .i64 t2] 3)));have B:=K.out.fbT j;have q1:=(M6 B).1.2.2.1;have q2:=(M6 B).2.2.2.1;clear B))
            all_goals
             have b8:=qh (K.out.JN y j J rfl);have HS:=qh (HP.out.L9 HA.out HC.out a4.out d6.out)
             go_wp2_with fail
             go_roundw
             case rel=>exact⟨some ⟨g9,0,none⟩,s,ns++[Z],some ⟨d7,0,none⟩,a5,ts++[t2],i7,k7,by simp,b8,qh HS.out.1⟩
             case measure=>exact a3.out.ziC b8.out.rd HS.out.2.1 HS.out.2.2
      case rest=>
       clear a;obtain⟨An,cn,ns,At,ct,ts,F,O,a,HP⟩:=hcut
       go_wp2_with fail
       refine(zkW a.out.rd).mono ?_;rintro e w6 ⟨⟨t,Y,b5,rfl,n,hT⟩,m⟩;have HT:=qh hT;replace a:=qh (a.out.L9 n m);clear n m hT;have c3:=(M6 a.out.fb).1.2.2.2.1;have f3:=(M6 a.out.fb).2.2.2.2.1
       go_wp2_with fail
       clear c3 f3;replace a:=qh (a.out.s3 t);generalize w6.setCell ⟨bf,3,none⟩ _=W6 at a|-;refine(zj8 rb _ ws en b1 a8.out Y W6 b5 a.out.rd a.out.gl).mono ?_;rintro e w7 ⟨Q,Ab,cb,i6,b6,rfl,hB,n,m,hO⟩;have HO:=qh hO;have f2:=a.out.z3;have f5:=a.out.z2;have f6:=a.out.z1;have HB:Hid (K9 w7 (λg=>f<=g) (.slice Ab Q.length cb) Q):=qh (hB.K7 λg (h1:W6.heap.size<=g) h2=>⟨by omega,h2,rfl⟩);replace a:=qh (a.out.L9 n m);clear n m hO hB;have c4:=(M6 a.out.fb).1.2.2.2.2.1;have f4:=(M6 a.out.fb).2.2.2.2.2.1
       go_upto_region 20 with(fail)
       clear c4 f4;replace HB:=qh (HB.out.later (some bf) (I8 w7 bf 4 (.slice Ab Q.length cb)) (λg h=>by simp;omega) (λg h=>h));replace a:=qh (a.out.s4 (.slice Ab Q.length cb));generalize w7.setCell ⟨bf,4,none⟩ _=W7 at a HB|-;have L:=qh (d.out.L9 a.out.rd a.out.gr);have HS:=qh (U.out.L9 d0 (zpy d2.out d3.out d4.out HP.out HT.out HO.out));have b9:=d.out.row.1.lt;have d8:Hid (Y7.XD W7 (λg=>f<=g) (⟨nm,ns,ts,t,Q,J4 ws o en⟩,.slice An ns.length cn,.slice At ts.length ct,.slice Ab Q.length cb)):=qh ⟨a.out.rn.zoH,a.out.rt.zoF,HB.out⟩;have d9:l.length<=5000:=by have:=U.out.X5;simp at this;omega
       have cu:W7.cell? ⟨bu,0,none⟩=some (.slice A l.length c):=x6 L.out.un 0;obtain⟨⟨c0,c1,c2,c3,c4,c5⟩,-⟩:=M6 a.out.fb;have f7:=d.out.z2;have e5:=d.out.z3;have e6:=d.out.z4
       go_wp2_with((at_builtin;go_must(refine N0 zgR rfl _ _ rfl base _ l.length (l.flatMap Y7.cells) rfl (L.out.row.1.alloc _) W7.heap.size 1 #[.string nm,.slice An ns.length cn,.slice At ts.length ct,.int .i64 t,.slice Ab Q.length cb,.int .i64 (J4 ws o en)] rfl (A5 W7 _) rfl (by simp[Value.oneCell']) (by omega) (by have:=L.out.z4;simp;omega) ?_);intro g8 c6 w8 a6 C c7 e7;have a7:=L.out.Xs C;have q1:=x6 a7 0;have q2:=B4 a7 0;clear a7))
       have c8:=qh (L.out.qv d8.out (λg m=>⟨by omega,λe=>by have:=(b9 g e).2;omega⟩) a6 C c7)
       go_roundw
       case rel=>exact⟨l++[(⟨nm,ns,ts,t,Q,J4 ws o en⟩,.slice An ns.length cn,.slice At ts.length ct,.slice Ab Q.length cb)],some ⟨g8,0,none⟩,c6,i6,b6,c8,by simpa using(qh HS.out.1:Hid _)⟩
       case measure=>exact d.out.rd.ziC c8.out.rd HS.out.2.1 HS.out.2.2
    ·go_wp2_with fail
     go_meet
     case rel=>exact⟨l,A,c,o,H,d,U,qh (.inr (by omega))⟩
  case rest=>
   clear d;obtain⟨l,A,c,o,H,d,U,HX⟩:=hcut;have c3:=d.out.rd.c3;cases H with
   |true=>
    go_wp2_with fail
    clear c3;refine(zg6 d.out.rd).mono ?_;rintro e E ⟨rfl,u⟩;replace d:=qh (d.out.L9 (d.out.rd.K7 u) (I7 u _));clear u;have c0:E.cell? ⟨b2,0,none⟩=some (.slice none 0 0):=x6 d.out.zD 0;have f0:E.frozen? ⟨b2,0,none⟩=false:=B4 d.out.zD 0
    go_wp2_with fail
    have HR:Hid ((E.setCell ⟨b2,0,none⟩ (.slice none 0 0)).heap[b2]?=some (.cells #[.slice none 0 0] 24 (0,0))):=qh (by simpa using A6 E b2 0 _ _ (.slice none 0 0) d.out.zD);refine E9 (qH rfl _ _ b2 _ _ _ _ rfl HR.out underlying24 rfl zbO) rfl ?_;exact⟨[],none,0,J4 ws o en,15,rfl,.inl ⟨_,_,rfl,rfl⟩,L6 d.out.be d.out.z0 _ _,x7 _,p0,0,ws,HW.out,.inr ⟨rfl,.inl ⟨o,by rw[N.out];exact U.out.J9 rfl,rfl,by rw[N.out],rfl⟩⟩⟩
   |false=>
    have hi:o=ws.length:=HX.out.resolve_left (by simp);have hD:Du ws en 0 (.xL (l.map (·.1))):=by simpa using(U.out.okk rfl).1 [] (.done (by omega))
    have d9:l.length<=5000:=by have:=U.out.X5;have:=a1.out.1;simp at*;omega
    have R:=zeP (l.map (·.1)) A c (λg=>base<=g) wc (by rw[C6];exact d.out.row.xL) ((hD.zB a1.out) _ rfl).2.2 (by rw[C6];omega) d.out.gl;rw[C6]at R;obtain⟨z,hz⟩: ∃z,U6 (l.map (·.1))=z:=⟨_,rfl⟩;rw[hz]at R;have e2:=qh R;have HD:=qh hD;have HZ:=qh hz;clear R hD hz hi;have cu:wc.cell? ⟨bu,0,none⟩=some (.slice A l.length c):=x6 d.out.un 0
    go_wp2_with fail
    clear c3 cu;refine e2.out.mono ?_;rintro e E ⟨rfl,u⟩;replace d:=qh (d.out.L9 (d.out.rd.K7 u) (I7 u _));clear u;have c0:E.cell? ⟨b2,0,none⟩=some (.slice none 0 0):=x6 d.out.zD 0;have f0:E.frozen? ⟨b2,0,none⟩=false:=B4 d.out.zD 0;have cu:E.cell? ⟨bu,0,none⟩=some (.slice A l.length c):=x6 d.out.un 0
    by_cases D:z=0
    ·subst D
     go_wp2_with fail
     have HR:Hid ((E.setCell ⟨b2,0,none⟩ (.slice A l.length c)).heap[b2]?=some (.cells #[.slice A l.length c] 24 (0,0))):=qh (by simpa using A6 E b2 0 _ _ (.slice A l.length c) d.out.zD);refine E9 (qH rfl _ _ b2 _ _ _ _ rfl HR.out underlying24 rfl zbO) rfl ?_;refine⟨l.map (·.1),A,c,0,0,by rw[C6];rfl,?_,L6 d.out.be d.out.z0 _ _,by rw[C6];exact ze2 d.out.row,p0,0,ws,HW.out,.inr ⟨rfl,.inr ⟨l.map (·.1),by rw[N.out];exact HD.out,rfl,HZ.out.symm,by rw[C8 HZ.out]⟩⟩⟩;rw[C6];have h0:=d.out.z0;have h1:=d.out.z1;have h2:=d.out.z2;have h3:=d.out.z3;exact d.out.row.xL.K7 λg q1 q2=>⟨by have:=c9.out;omega,by simpa using q2,F9 E ⟨b2,0,none⟩ _ g (by simp;omega)⟩
    ·have e1:(z !=0)=true:=by simpa using D
     have e3:=qh D;clear D
     go_wp2_with fail
     have HR:Hid ((E.setCell ⟨b2,0,none⟩ (.slice none 0 0)).heap[b2]?=some (.cells #[.slice none 0 0] 24 (0,0))):=qh (by simpa using A6 E b2 0 _ _ (.slice none 0 0) d.out.zD);refine E9 (qH rfl _ _ b2 _ _ _ _ rfl HR.out underlying24 rfl zbO) rfl ?_;exact⟨[],none,0,0,z,rfl,.inl ⟨_,_,rfl,rfl⟩,L6 d.out.be d.out.z0 _ _,x7 _,p0,0,ws,HW.out,.inr ⟨rfl,.inr ⟨l.map (·.1),by rw[N.out];exact HD.out,rfl,HZ.out.symm,by rw[B5 (by rw[HZ.out];exact e3.out)]⟩⟩⟩
 ·have e1:(e0 !=0)=true:=by simpa using he
  have HE:=qh he;clear he hv;have c0:S.cell? ⟨w.heap.size,0,none⟩=some (.slice none 0 0):=x6 G.out 0;have f0:S.frozen? ⟨w.heap.size,0,none⟩=false:=B4 G.out 0
  go_wp2_with fail
  have HR:Hid ((S.setCell ⟨w.heap.size,0,none⟩ (.slice none 0 0)).heap[w.heap.size]?=some (.cells #[.slice none 0 0] 24 (0,0))):=qh (by simpa using A6 S w.heap.size 0 _ _ (.slice none 0 0) G.out);refine E9 (qH rfl _ _ w.heap.size _ _ _ _ rfl HR.out underlying24 rfl zbO) rfl ?_;exact⟨[],none,0,p0,e0,rfl,.inl ⟨_,_,rfl,rfl⟩,L6 a0.out (x7 _) _ _,x7 _,p0,e0,ws,HW.out,.inl ⟨HE.out,rfl,rfl,rfl⟩⟩
theorem zgL(a:ByteArray)(w)(hs:a.size<=maxLen)(d:O4 w):
 Calls prog 15 #[.string a] w λe w'=> ∃(l:List Fn)(A:Option Addr)(c:Nat)(p er:Int),e=.returned (.tuple #[.agg #[.slice A l.length c],.int .i64 p,.int .i64 er])/\U2 w' (λg=>w.heap.size<=g) (.slice A l.length c) l/\Below w.heap.size w w'/\XJ a l p er:=by
 refine(JT a w hs d).mono ?_;rintro e w' ⟨l,A,c,p,er,f,h,j,-,k⟩;exact⟨l,A,c,p,er,f,h,j,k⟩
end
structure Hd where
 U:Value
 nm:ByteArray
 vn:Value
 vt:Value
 out:Int
 vb:Value
 pos:Int
def QM(q:ByteArray×Int):List Value:=[.string q.1,.int .i64 q.2]
def zr(env:P1):List Value:=env.reverse.flatMap QM
theorem XK(env):(zr env).length=env.length*2:=by
 unfold zr;rw[List.length_flatMap];have: ∀l:P1,(l.map λa=>(QM a).length).sum=l.length*2:=by
  intro l
  induction l with
  |nil=>rfl
  |cons a l b=>
   rw[List.map_cons,List.sum_cons,b,A8,show(QM a).length=2 from rfl];omega
 rw[this];simp
theorem zar(q env):zr (q::env)=zr env++QM q:=by
 simp[zr]
theorem zau(a env):(zr (a++env)).take (env.length*2)=zr env:=by
 have:zr (a++env)=zr env++a.reverse.flatMap QM:=by simp[zr]
 rw[this,<-XK env,List.take_left'];rfl
theorem ZC{w:World}{base e size n:Nat}{A}{c:Nat}{xs}(h:w.ownsRow base e size (.slice A n c) n xs)(k:Nat)(l:k<=n):w.ownsRow base e size (.slice A k c) k (xs.take (k*size)):=by
 have a:k*size<=n*size:=G5 _ l;refine⟨by rw[I2,h.1];omega,?_⟩
 rcases h.2 with⟨b,j⟩|⟨g,m,d,b,j,o,t,p,q,r⟩
 ·injection b with f s i
  subst f i;have:k=0:=by omega
  subst this;exact .inl ⟨rfl,rfl⟩
 ·injection b with f s i
  subst f i;refine .inr ⟨g,c,d,rfl,j,o,by omega,p,q,?_⟩;rw[<-r,List.take_take,Nat.min_eq_left a]
structure Chk(w:World)(base cb:Nat)(K:Hd)(A:Option Addr)(c:Nat)(env:P1)(L0:Nat):Prop where
 P6:w.heap[cb]?=some (.cells #[K.U,.string K.nm,K.vn,K.vt,.int .i64 K.out,K.vb,.int .i64 K.pos,.slice A env.length c,.int .i64 L0] 130 (0,0))
 row:w.ownsRow base 201 2 (.slice A env.length c) env.length (zr env)
 b0:base<=cb
 apart:(Value.slice A env.length c).ownBlock≠some cb
theorem qN{w:World}{b t:Nat}{a d e f g i j k l}(h:w.heap[b]?=some (.cells #[a,d,e,f,g,i,j,k,l] t (0,0))):
 (w.cell? ⟨b,0,none⟩=some a/\w.cell? ⟨b,1,none⟩=some d/\w.cell? ⟨b,2,none⟩=some e/\w.cell? ⟨b,3,none⟩=some f/\w.cell? ⟨b,4,none⟩=some g/\w.cell? ⟨b,5,none⟩=some i/\w.cell? ⟨b,6,none⟩=some j/\w.cell? ⟨b,7,none⟩=some k/\w.cell? ⟨b,8,none⟩=some l)/\
 w.frozen? ⟨b,7,none⟩=false/\w.frozen? ⟨b,8,none⟩=false:=
 ⟨⟨x6 h 0,x6 h 1,x6 h 2,x6 h 3,x6 h 4,x6 h 5,x6 h 6,x6 h 7,x6 h 8⟩,B4 h 7,B4 h 8⟩
section
variable {w w':World}{base cb:Nat}{K:Hd}{A:Option Addr}{c:Nat}{env:P1}{L0:Nat}
theorem Chk.lt(h:Chk w base cb K A c env L0):cb<w.heap.size:=I5 h.P6
theorem Chk.below(h:Chk w base cb K A c env L0)(a:Below w.heap.size w w'):Chk w' base cb K A c env L0:=
 ⟨(a.block cb h.lt).trans h.P6,h.row.kept (I7 a none) (by cases b:(Value.slice A env.length c).ownBlock<;>simp),h.b0,h.apart⟩
theorem Chk.qE(h:Chk w base cb K A c env L0)(i:Nat)(q)(a:env.reverse[i]?=some q): ∃g,A=some ⟨g,0,none⟩/\g<w.heap.size/\w.cell? ⟨g,i*2,none⟩=some (.string q.1)/\w.cell? ⟨g,i*2+1,none⟩=some (.int .i64 q.2):=by
 rcases zQ h.row with⟨b,e⟩|⟨g,f,b,o,j,d⟩
 ·have:env=[]:=I0 e
  subst this;simp at a
 ·injection b with k p l
  subst k l;have m:=d _ _ (zY QM 2 (λ_=>rfl) env.reverse i q a 0 _ rfl);have n:=d _ _ (zY QM 2 (λ_=>rfl) env.reverse i q a 1 _ rfl);exact⟨g,rfl,j,by simpa using m,n⟩
theorem Chk.cut{a}(h:Chk w base cb K A c (a++env) L0):Chk (w.setCell ⟨cb,7,none⟩ (.slice A env.length c)) base cb K A c env L0:=by
 have b:=ZC h.row env.length (by simp);rw[zau]at b;refine⟨by simpa using A6 w cb 7 _ _ (.slice A env.length c) h.P6,b.kept (I8 w cb 7 _) ?_,h.b0,?_⟩
 ·right
  have:=h.apart;cases A<;>simpa[Value.ownBlock]using this
 ·have:=h.apart
  cases A<;>simpa[Value.ownBlock]using this
end
structure yx(w0 w:World)(base cb:Nat)(K:Hd)(A:Option Addr)(c:Nat)(env:P1)(L0:Nat)(us:List Fn)(F:Nat->Prop):Prop where
 JL:Chk w base cb K A c env L0
 xL:U2 w F K.U us
 M1:Below base w0 w
 gl:O4 w
 fb: ∀g,F g->g<base
 xM:10<base
 bs:base<=w.heap.size
section
variable {w0 w w':World}{base cb:Nat}{K:Hd}{A:Option Addr}{c:Nat}{env:P1}{L0:Nat}{us:List Fn}{F:Nat->Prop}
theorem yx.below(h:yx w0 w base cb K A c env L0 us F)(a:Below w.heap.size w w'):yx w0 w' base cb K A c env L0 us F:=
 ⟨h.JL.below a,h.xL.K7 (λg d b=>⟨d,A7 b a.size,a.block g b⟩),h.M1.trans (a.mono h.bs),h.gl.to a,h.fb,h.xM,C1 h.bs a.size⟩
theorem yx.Z8(h:yx w0 w base cb K A c env L0 us F):yx w w base cb K A c env L0 us F:={h with M1:=x8 _ _}
theorem yx.Zg{a:World}(h:yx a w base cb K A c env L0 us F)(b:Below base w0 a):yx w0 w base cb K A c env L0 us F:={h with M1:=b.trans h.M1}
theorem yx.args{v l}(h:yx w0 w base cb K A c env L0 us F)(a:Below base w w')(d:J7 w F v l):J7 w' F v l:=
 d.K7 (λg b e=>⟨b,A7 e a.size,a.block g (h.fb g b)⟩)
theorem yx.zb2{v l}(h:yx w0 w base cb K A c env L0 us F)(a:Below base w w')(d:K9 w F v l):K9 w' F v l:=
 d.K7 (λg b e=>⟨b,A7 e a.size,a.block g (h.fb g b)⟩)
theorem yx.Zf{e}{f:Nat}{b}{a:Nat}(h:yx w0 w base cb K A c env L0 us F)(d:Below base w w')(j:Chk w' base cb K e f b a):yx w0 w' base cb K e f b a us F:=
 ⟨j,h.xL.K7 (λg i k=>⟨i,A7 k d.size,d.block g (h.fb g i)⟩),h.M1.trans d,h.gl.Z3 d.size (λg l=>d.block g (by have:=h.xM;omega)),h.fb,h.xM,C1 h.bs d.size⟩
end
def M0(p e:Int):Ending:=.panicked [{v:=.iface 123 (.agg #[.int .i64 p,.int .i64 e]),recovered:=false}]
def jI{α:Type}(r:X1 α)(f:α->Value)(e:Ending):Prop:=match r with|.ok a=>e=.returned (f a)|.J9 p q=>e=M0 p q
def N3(us:List Fn)(env:P1)(x:Ex)(t:Int):X1 Unit:=match O2 us env x with|.ok u=>if u=t then .ok ()else .J9 x.pos 8|.J9 q e=>.J9 q e
def ExC(left:Nat):Prop:=
 ∀(x:Ex)(B:Option Addr)(d:Nat)(F:Nat->Prop)(w:World)(base cb:Nat)(K:Hd)(A:Option Addr)(c:Nat)(env:P1)(L0:Nat)(us:List Fn),zK x left=0->xN x->(∀f∈us,FnZ f)->us.length<=281474976710656->env.length<=1000->U7 env->qB us->
  yx w w base cb K A c env L0 us F->J7 w F (.slice B x.args.length d) x.args->
  Calls prog 165 #[.pointer (some ⟨cb,0,none⟩),.agg #[.int .i64 x.I9,.int .i64 x.n,.string x.K0,.slice B x.args.length d,.int .i64 x.pos]] w λe w'=>jI (O2 us env x) (.int .i64 ·) e/\Below w.heap.size w w'
def Jo(left:Nat):Prop:=
 ∀(x:Ex)(t:Int)(B:Option Addr)(d:Nat)(F:Nat->Prop)(w:World)(base cb:Nat)(K:Hd)(A:Option Addr)(c:Nat)(env:P1)(L0:Nat)(us:List Fn),zK x left=0->xN x->(∀f∈us,FnZ f)->us.length<=281474976710656->env.length<=1000->U7 env->qB us->
  yx w w base cb K A c env L0 us F->J7 w F (.slice B x.args.length d) x.args->
  Calls prog 167 #[.pointer (some ⟨cb,0,none⟩),.agg #[.int .i64 x.I9,.int .i64 x.n,.string x.K0,.slice B x.args.length d,.int .i64 x.pos],.int .i64 t] w λe w'=>jI (N3 us env x t) (λ_=>.tuple #[]) e/\Below w.heap.size w w'
end Go.Proofs.YtmngofgminlloaaGreatDoor
namespace Go.Proofs.YtmngofgminlloaaGreatDoor
open Go.RowKit Tw
def QI(o:zv):List Value:=[.int .i64 o.1,.int .i64 o.2]
def qu(l:List zv):List Value:=l.flatMap QI
def qn(vs:P4):List Value:=vs.map λq=>.string q.1
def qo(vs:P4):List Value:=vs.map λq=>.int .i64 q.2
theorem zbz(l o):qu (l++[o])=qu l++[.int .i64 o.1,.int .i64 o.2]:=by simp[qu,QI]
theorem zcb(l): ∀(i:Nat)(d a b:Int),l[i]?=some (d,a)->qu (l.set i (d,b))=(qu l).set (i*2+1) (.int .i64 b):=by
 induction l with
 |nil=>intro i d a b h;simp at h
 |cons o l c=>
  intro i d a b h;cases i with
  |zero=>simp at h;subst h;simp[qu,QI]
  |succ i=>
   have:=c i d a b (by simpa using h);simp only[List.set_cons_succ,qu,List.flatMap_cons,QI,B6,C0]at*;rw[show(i+1)*2=i*2+1+1 by omega,List.set_cons_succ,this]
structure Mv where
 An:Option Addr
 cn:Nat
 Aa:Option Addr
 ca:Nat
 Ao:Option Addr
 co:Nat
structure Mk(w:World)(mb:Nat)(U:Value)(V:Mv)(vs:P4)(L0:Nat)(ops:List zv):Prop where
 P6:w.heap[mb]?=some (.cells #[U,.slice V.An vs.length V.cn,.slice V.Aa vs.length V.ca,.int .i64 L0,.slice V.Ao ops.length V.co] 225 (0,0))
 rn:w.ownsRow mb 9 1 (.slice V.An vs.length V.cn) vs.length (qn vs)
 ra:w.ownsRow mb 3 1 (.slice V.Aa vs.length V.ca) vs.length (qo vs)
 ro:w.ownsRow mb 166 2 (.slice V.Ao ops.length V.co) ops.length (qu ops)
theorem S5{w:World}{base e size n b t:Nat}{v xs f i}(h:w.ownsRow base e size v n xs)(j:w.heap[b]?=some (.cells f t i))(c:e≠t):v.ownBlock≠some b:=by
 intro d
 rcases h.2 with⟨rfl,_⟩|⟨g,k,l,rfl,_,a,_⟩
 ·cases d
 ·have:g=b:=by simpa[Value.ownBlock]using d
  subst this;rw[j]at a;injection a with a
  injection a with _ m
  exact c m.symm
theorem Qa{w:World}{base e size n d a i:Nat}{v f xs b}(h:w.ownsRow base e size v n xs)(j:w.ownsRow base d a f i b)(c:e≠d):v.ownBlock=none\/v.ownBlock≠f.ownBlock:=by
 rcases j.2 with⟨rfl,_⟩|⟨g,l,m,rfl,_,o,_⟩
 ·cases p:v.ownBlock with
  |none=>exact .inl rfl
  |some k=>exact .inr (by simp[Value.ownBlock])
 ·exact .inr (S5 h o c)
structure Kp(w w':World):Prop where
 size:w.heap.size<=w'.heap.size
 P6: ∀(k:Nat)(cs:Array Value)(t:Nat)(fr:Nat×Nat),w.heap[k]?=some (Obj.cells cs t fr)->t≠9->t≠3->t≠166->t≠225->w'.heap[k]?=w.heap[k]?
theorem Kp.refl(w):Kp w w:=⟨x7 _,λ_ _ _ _ _ _ _ _ _=>rfl⟩
theorem Kp.trans{w i w2}(h:Kp w i)(j:Kp i w2):Kp w w2:=
 ⟨C1 h.size j.size,λk a t b c d e f g=>(j.P6 k a t b ((h.P6 k a t b c d e f g).trans c) d e f g).trans (h.P6 k a t b c d e f g)⟩
theorem Kp.of{w w':World}(h:Below w.heap.size w w'):Kp w w':=⟨h.size,λk _ _ _ a _ _ _ _=>h.block k (I5 a)⟩
theorem Kp.set{w}{b j:Nat}{v c}{t:Nat}{d}(f:w.heap[b]?=some (.cells c t d))(l:t=9\/t=3\/t=166\/t=225):Kp w (w.setCell ⟨b,j,none⟩ v):=by
 refine⟨(I8 w b j v).size,λk g m h a n o p q=>(I8 w b j v).block k (I5 a) λe=>?_⟩;have:k=b:=by simpa using e
 subst this;rw[f]at a;injection a with a
 injection a with _ i
 subst i;omega
theorem Kp.qv{w w':World}{base e size n:Nat}{v xs}(a:w.ownsRow base e size v n xs)(f:e=9\/e=3\/e=166\/e=225)(b:w.grownBy w' v.ownBlock):Kp w w':=by
 refine⟨b.size,λk g t h c i j l m=>b.block k (I5 c) λd=>?_⟩;exact S5 a c (by rintro rfl;omega) d.symm
section
variable {w w':World}{mb:Nat}{U:Value}{V:Mv}{vs:P4}{L0:Nat}{ops:List zv}
theorem Mk.lt(h:Mk w mb U V vs L0 ops):mb<w.heap.size:=I5 h.P6
theorem Mk.below(h:Mk w mb U V vs L0 ops)(a:Below w.heap.size w w'):Mk w' mb U V vs L0 ops:=
 ⟨(a.block mb h.lt).trans h.P6,h.rn.kept (I7 a none) (by cases b:(Value.slice V.An vs.length V.cn).ownBlock<;>simp),h.ra.kept (I7 a none) (by cases b:(Value.slice V.Aa vs.length V.ca).ownBlock<;>simp),h.ro.kept (I7 a none) (by cases b:(Value.slice V.Ao ops.length V.co).ownBlock<;>simp)⟩
theorem jq(h:Mk w mb U V vs L0 ops):(w.cell? ⟨mb,0,none⟩=some U/\w.cell? ⟨mb,1,none⟩=some (.slice V.An vs.length V.cn)/\w.cell? ⟨mb,2,none⟩=some (.slice V.Aa vs.length V.ca)/\w.cell? ⟨mb,3,none⟩=some (.int .i64 L0)/\w.cell? ⟨mb,4,none⟩=some (.slice V.Ao ops.length V.co))/\
 w.frozen? ⟨mb,1,none⟩=false/\w.frozen? ⟨mb,2,none⟩=false/\w.frozen? ⟨mb,3,none⟩=false/\w.frozen? ⟨mb,4,none⟩=false:=
 ⟨⟨x6 h.P6 0,x6 h.P6 1,x6 h.P6 2,x6 h.P6 3,x6 h.P6 4⟩,B4 h.P6 1,B4 h.P6 2,B4 h.P6 3,B4 h.P6 4⟩
theorem Mk.put(h:Mk w mb U V vs L0 ops){g cap:Nat}{d a:Int}(b:w'.ownsRow mb 166 2 (.slice (some ⟨g,0,none⟩) (ops.length+1) cap) (ops.length+1) (qu ops++[.int .i64 d,.int .i64 a]))(f:w.grownBy w' (Value.slice V.Ao ops.length V.co).ownBlock):
 w'.heap[mb]?=some (.cells #[U,.slice V.An vs.length V.cn,.slice V.Aa vs.length V.ca,.int .i64 L0,.slice V.Ao ops.length V.co] 225 (0,0))/\
 Mk (w'.setCell ⟨mb,4,none⟩ (.slice (some ⟨g,0,none⟩) (ops.length+1) cap)) mb U {V with Ao:=some ⟨g,0,none⟩,co:=cap} vs L0 (ops++[(d,a)]):=by
 have c:w'.heap[mb]?=some (.cells #[U,.slice V.An vs.length V.cn,.slice V.Aa vs.length V.ca,.int .i64 L0,.slice V.Ao ops.length V.co] 225 (0,0)):=(f.block mb h.lt (λe=>S5 h.ro h.P6 (by decide) e.symm)).trans h.P6;have i:w'.ownsRow mb _ _ _ _ _:=h.rn.kept f (Qa h.rn h.ro (by decide));have j:w'.ownsRow mb _ _ _ _ _:=h.ra.kept f (Qa h.ra h.ro (by decide));refine⟨c,by simpa using A6 w' mb 4 _ _ (.slice (some ⟨g,0,none⟩) (ops.length+1) cap) c,i.kept (I8 w' mb 4 _) (.inr (S5 i c (by decide))),j.kept (I8 w' mb 4 _) (.inr (S5 j c (by decide))),?_⟩;have k:=b.kept (I8 w' mb 4 (.slice (some ⟨g,0,none⟩) (ops.length+1) cap)) (.inr (S5 b c (by decide)));rw[zbz,A9];exact k
theorem Mk.zm7(h:Mk w mb U V vs L0 ops){i:Nat}{d a:Int}(hi:ops[i]?=some (d,a))(b:Int):
 ∃g,V.Ao=some ⟨g,0,none⟩/\mb<=g/\(∃o p,w.heap[g]?=some (.cells o 166 p))/\w.cell? ⟨g,i*2+1,none⟩=some (.int .i64 a)/\w.frozen? ⟨g,i*2+1,none⟩=false/\Mk (w.setCell ⟨g,i*2+1,none⟩ (.int .i64 b)) mb U V vs L0 (ops.set i (d,b)):=by
 have q:i<ops.length:=by rcases E0 i ops.length with h|h;exact h;rw[C5 h]at hi;cases hi
 rcases h.ro.2 with⟨_,u⟩|⟨g,r,j,s,t,k,v,x,y,z⟩
 ·omega
 ·injection s with f A B
  have c:=h.ro;rw[f]at c;have l:g≠mb:=by
   intro e;subst e;have:=S5 h.ro h.P6 (by decide);rw[f]at this;exact this rfl
  have m:=I8 w g (i*2+1) (.int .i64 b);refine⟨g,f,t,⟨j,_,k⟩,?_,c.frozenAt _,(m.block mb h.lt (by simpa using λe=>l e.symm)).trans (by simpa using h.P6),h.rn.kept m (.inr (S5 h.rn k (by decide))),h.ra.kept m (.inr (S5 h.ra k (by decide))),?_⟩
  ·rw[c.cellAt (i*2+1) (by omega)]
   exact zY QI 2 (λ_=>rfl) ops i (d,a) hi 1 _ rfl
  ·have n:=c.stored (i*2+1) (.int .i64 b)
   rw[<-zcb ops i d a b hi]at n;simp only[List.length_set];rw[f];exact n.1
end
structure zu(w0 w:World)(mb:Nat)(U:Value)(V:Mv)(vs:P4)(L0:Nat)(ops:List zv)(us:List Fn)(F:Nat->Prop):Prop where
 st:Mk w mb U V vs L0 ops
 xL:U2 w F U us
 M1:Below mb w0 w
 kp:Kp w0 w
 gl:O4 w
 fb: ∀g,F g->g<mb
 xM:10<mb
section
variable {w0 w w':World}{mb:Nat}{U:Value}{V V':Mv}{vs vs':P4}{L0 many':Nat}{ops ops':List zv}{us:List Fn}{F:Nat->Prop}
theorem zu.lt(h:zu w0 w mb U V vs L0 ops us F):mb<w.heap.size:=h.st.lt
theorem zu.Zf(h:zu w0 w mb U V vs L0 ops us F)(c:Mk w' mb U V' vs' many' ops')(a:Below mb w w')(d:Kp w w'):zu w0 w' mb U V' vs' many' ops' us F:=
 ⟨c,h.xL.K7 (λg b e=>⟨b,A7 e a.size,a.block g (h.fb g b)⟩),h.M1.trans a,h.kp.trans d,h.gl.Z3 a.size (λg f=>a.block g (by have:=h.xM;omega)),h.fb,h.xM⟩
theorem zu.below(h:zu w0 w mb U V vs L0 ops us F)(a:Below w.heap.size w w'):zu w0 w' mb U V vs L0 ops us F:=
 h.Zf (h.st.below a) (a.mono (G9 h.lt)) (Kp.of a)
theorem zu.Z8(h:zu w0 w mb U V vs L0 ops us F):zu w w mb U V vs L0 ops us F:={h with M1:=x8 _ _,kp:=Kp.refl _}
theorem zu.Zg{a:World}(h:zu a w mb U V vs L0 ops us F)(b:Below mb w0 a)(c:Kp w0 a):zu w0 w mb U V vs L0 ops us F:={h with M1:=b.trans h.M1,kp:=c.trans h.kp}
theorem zu.next{a:World}(b:zu w0 a mb U V vs L0 ops us F)(h:zu a w mb U V' vs' many' ops' us F):zu w0 w mb U V' vs' many' ops' us F:=h.Zg b.M1 b.kp
theorem zu.args{v l}(h:zu w0 w mb U V vs L0 ops us F)(a:Below mb w w')(c:J7 w F v l):J7 w' F v l:=
 c.K7 (λg b d=>⟨b,A7 d a.size,a.block g (h.fb g b)⟩)
theorem zu.zb2{v l}(h:zu w0 w mb U V vs L0 ops us F)(a:Below mb w w')(c:K9 w F v l):K9 w' F v l:=
 c.K7 (λg b d=>⟨b,A7 d a.size,a.block g (h.fb g b)⟩)
theorem zu.put(h:zu w0 w mb U V vs L0 ops us F){g cap:Nat}{d a:Int}(b:w'.ownsRow mb 166 2 (.slice (some ⟨g,0,none⟩) (ops.length+1) cap) (ops.length+1) (qu ops++[.int .i64 d,.int .i64 a]))(c:w.grownBy w' (Value.slice V.Ao ops.length V.co).ownBlock):
 w'.heap[mb]?=some (.cells #[U,.slice V.An vs.length V.cn,.slice V.Aa vs.length V.ca,.int .i64 L0,.slice V.Ao ops.length V.co] 225 (0,0))/\
 zu w0 (w'.setCell ⟨mb,4,none⟩ (.slice (some ⟨g,0,none⟩) (ops.length+1) cap)) mb U {V with Ao:=some ⟨g,0,none⟩,co:=cap} vs L0 (ops++[(d,a)]) us F:=by
 have e:=h.st.put b c;have f:=Q7 (x8 mb w) h.st.ro (x7 _) (G9 h.lt) c;exact⟨e.1,h.Zf e.2 (L6 f (x7 _) 4 _) ((Kp.qv h.st.ro (by simp) c).trans (Kp.set e.1 (by simp)))⟩
theorem zu.zm7(h:zu w0 w mb U V vs L0 ops us F){i:Nat}{d a:Int}(hi:ops[i]?=some (d,a))(b:Int):
 ∃g,V.Ao=some ⟨g,0,none⟩/\w.cell? ⟨g,i*2+1,none⟩=some (.int .i64 a)/\w.frozen? ⟨g,i*2+1,none⟩=false/\zu w0 (w.setCell ⟨g,i*2+1,none⟩ (.int .i64 b)) mb U V vs L0 (ops.set i (d,b)) us F:=by
 obtain⟨g,c,e,⟨m,n,f⟩,j,k,l⟩:=h.st.zm7 hi b;exact⟨g,c,j,k,h.Zf l (L6 (x8 mb w) e _ _) (Kp.set f (by simp))⟩
end
end Go.Proofs.YtmngofgminlloaaGreatDoor
namespace Go.Proofs.YtmngofgminlloaaGreatDoor
open Go.Proofs.Tryz
open Go.RowKit Tw
def zl8:qC prog 64 166 2:=⟨underlying64,by kernel_rfl,by decide⟩
def qy(d a:Int)(F:Nat->Prop)(w)(k:Nat)(U V vs)(i:Nat)(ops us)(y:ops.length<=400000000000)(h:zu w w k U V vs i ops us F):
 Calls prog 145 #[.pointer (some ⟨k,0,none⟩),.int .i64 d,.int .i64 a] w λe w'=>e=.returned (.int .i64 ops.length)/\ ∃q,zu w w' k U q vs i (ops++[(d,a)]) us F:=by
 have l:=(x8 w.heap.size w).alloc (x7 _) (.cells #[.int .i64 d,.int .i64 a] 166);have z:=qh h;have j:=qh (h.below l);have r:=h.lt;obtain⟨⟨-,-,-,-,o⟩,-,-,-,s⟩:=jq h.st;have t:(w.alloc (.cells #[.int .i64 d,.int .i64 a] 166)).cell? ⟨k,4,none⟩=some (.slice V.Ao ops.length V.co):=(jq j.out.st).1.2.2.2.2;clear l h
 go_enter func145,ntmps145
 go_upto_region 2 with(at_builtin;go_must(refine N0 zl8 rfl _ _ rfl k (.slice V.Ao ops.length V.co) ops.length (qu ops) rfl j.out.st.ro w.heap.size 1 #[.int .i64 d,.int .i64 a] rfl (A5 w _) rfl (by simp[Value.oneCell']) (by omega) (by simp;omega) ?_);intro g u A c b m n;have f:=j.out.put c b;have v:=(x6 f.1 4);have x:=B4 f.1 4)
 have p:=qh f.2;clear f c b m n v x o s t;generalize World.setCell _ _ _=B at p|-;have o:=(jq p.out.st).1.2.2.2.2;rw[A9]at o;simp only[A8,B1,Nat.zero_add]at o
 go_wp2_with fail
 go_ret;exact⟨by simp,_,p.out⟩
def JZ(i:Nat)(d a:Int)(F:Nat->Prop)(w)(c:Nat)(U V vs)(b:Nat)(ops us)(hi:ops[i]?=some (d,a))(n:ops.length<=400000000000)(h:zu w w c U V vs b ops us F):
 Calls prog 226 #[.pointer (some ⟨c,0,none⟩),.int .i64 i] w λe w'=>e=.returned (.tuple #[])/\zu w w' c U V vs b (ops.set i (d,(ops.length:Int))) us F:=by
 obtain⟨g,j,o,p,f⟩:=h.zm7 hi (ops.length:Int);have k:=qh (f.below (M2 _));obtain⟨⟨-,-,-,-,l⟩,-,-,-,-⟩:=jq h.st;have m:i<ops.length:=by rcases E0 i ops.length with h|h;exact h;rw[C5 h]at hi;cases hi
 rw[j]at l;have q:(0:Int)<=(i:Int):=by omega
 have r:(i:Int)<(ops.length:Int):=by omega
 clear h f hi
 go_enter func226,ntmps226
 go_region_law(fail)
 all_goals
  go_end0;exact⟨rfl,k.out⟩
structure Rq(w:World)(rb:Nat)(v:Value)(ws:List Wd)(i en:Nat):Prop where
 P6:w.heap[rb]?=some (.cells #[v,.int .i64 i,.int .i64 en] 157 (0,0))
 row:jZ w rb v ws
 X5:ws.length<=4000
 pos:i<=ws.length
section
variable {w w':World}{rb:Nat}{v:Value}{ws:List Wd}{i en:Nat}
theorem Rq.lt(h:Rq w rb v ws i en):rb<w.heap.size:=(Array.getElem?_eq_some_iff.1 h.P6).1
theorem Rq.c0(h:Rq w rb v ws i en):w.cell? ⟨rb,0,none⟩=some v:=x6 h.P6 0
theorem Rq.c1(h:Rq w rb v ws i en):w.cell? ⟨rb,1,none⟩=some (.int .i64 i):=x6 h.P6 1
theorem Rq.c2(h:Rq w rb v ws i en):w.cell? ⟨rb,2,none⟩=some (.int .i64 en):=x6 h.P6 2
theorem Rq.fz(h:Rq w rb v ws i en)(j:Nat):w.frozen? ⟨rb,j,none⟩=false:=B4 h.P6 j
theorem Rq.K7(h:Rq w rb v ws i en)(a:Below w.heap.size w w'):Rq w' rb v ws i en:=
 ⟨(a.block rb h.lt).trans h.P6,h.row.Z3 λk b=>a.block k (Nat.lt_trans b h.lt),h.X5,h.pos⟩
theorem Rq.grown{k:Nat}(h:Rq w rb v ws i en)(a:w.grownBy w' (some k))(c:rb<k):Rq w' rb v ws i en:=
 ⟨(a.block rb h.lt (by simp;omega)).trans h.P6,h.row.Z3 λj b=>a.block j (Nat.lt_trans b h.lt) (by simp;omega),h.X5,h.pos⟩
theorem Rq.zb4(h:Rq w rb v ws i en)(j:Nat)(a:j<=ws.length):Rq (w.setCell ⟨rb,1,none⟩ (.int .i64 j)) rb v ws j en:=by
 refine⟨?_,h.row.Z3 λk b=>F9 w ⟨rb,1,none⟩ _ k (by simp;omega),h.X5,a⟩;have:=A6 w rb 1 _ _ (.int .i64 j) h.P6;simpa using this
end
def Y3(ws:List Wd)(en j:Nat):Ending:=.panicked [{v:=.iface 159 (.agg #[.int .i64 (J4 ws j en)]),recovered:=false}]
theorem zam{w}{rb:Nat}{v ws}{i en:Nat}(h:Rq w rb v ws i en):
 Calls prog 136 #[.pointer (some ⟨rb,0,none⟩)] w λe w'=>e=.returned (.int .i64 (J4 ws i en))/\Below w.heap.size w w':=by
 obtain⟨A,f,rfl,a⟩:=h.row.jJ;have m:=h.c0;have n:=h.c1;have j:=h.c2;have o:=h.X5;have p:=h.pos
 by_cases c:i<ws.length
 ·obtain⟨x,d⟩: ∃x,ws[i]?=some x:=⟨_,x9 c⟩
  obtain⟨g,rfl,q,k,l,r⟩:=a i x d;have b:J4 ws i en=x.pos:=by unfold J4;rw[d]
  rw[b];have s:(0:Int)<=(i:Int):=by omega
  have t:(i:Int)<(ws.length:Int):=by omega
  clear d b a h k l j
  go_enter func136,ntmps136
  go_wp2_with fail
  go_quiet (fail)
  go_wp2_with fail
  go_quiet (fail)
  go_wp2_with fail
  go_ret;exact⟨rfl,J6 (J6 (x8 _ _) _) _⟩
 ·have b:J4 ws i en=en:=by unfold J4;rw[C5 (by omega)]
  rw[b];have u:i=ws.length:=by omega
  clear b a h
  go_enter func136,ntmps136
  go_wp2_with fail
  go_quiet (fail)
  go_wp2_with fail
  go_ret;exact⟨rfl,J6 (x8 _ _) _⟩
theorem zd3{w}{rb:Nat}{v ws}{i en:Nat}(h:Rq w rb v ws i en):
 Calls prog 190 #[.pointer (some ⟨rb,0,none⟩)] w λe w'=>e=.returned (.string (L8 ws i))/\Below w.heap.size w w':=by
 obtain⟨A,f,rfl,a⟩:=h.row.jJ;have l:=h.c0;have m:=h.c1;have n:=h.X5;have o:=h.pos
 by_cases c:i<ws.length
 ·obtain⟨x,d⟩: ∃x,ws[i]?=some x:=⟨_,x9 c⟩
  obtain⟨g,rfl,p,j,q,k⟩:=a i x d;have b:L8 ws i=x.K0:=by unfold L8;rw[d]
  rw[b];have r:(0:Int)<=(i:Int):=by omega
  have s:(i:Int)<(ws.length:Int):=by omega
  clear d b a h j k
  go_enter func190,ntmps190
  go_wp2_with fail
  go_quiet (fail)
  go_wp2_with fail
  go_quiet (fail)
  go_wp2_with fail
  go_ret;exact⟨rfl,J6 (J6 (x8 _ _) _) _⟩
 ·have b:L8 ws i=⟨#[]⟩:=by unfold L8;rw[C5 (by omega)]
  rw[b];have t:i=ws.length:=by omega
  clear b a h
  go_enter func190,ntmps190
  go_wp2_with fail
  go_quiet (fail)
  go_wp2_with fail
  go_ret;exact⟨rfl,J6 (x8 _ _) _⟩
theorem zfB{ws}{i:Nat}{s:ByteArray}(hs:s.toList≠[]):J3 ws i s=((L8 ws i).toList==s.toList):=by
 unfold J3 L8;cases ws[i]? with
 |some x=>rfl
 |none=>
  symm
  rw[B0];intro h;apply hs;rw[<-h];simp[C7]<;>rfl
def Z5{w}{b:Nat}{v ws}{i en:Nat}(s:ByteArray)(hs:s.toList≠[])(t:Bool)(h:Rq w b v ws i en)(d:J3 ws i s=t):
 Calls prog 139 #[.pointer (some ⟨b,0,none⟩),.string s] w λe w'=>e=.returned (.bool t)/\Rq w' b v ws (if t then i+1 else i) en/\w.grownBy w' (some b):=by
 have c:t=true->i<ws.length:=λe=>by subst e;exact zeV d
 rw[zfB hs]at d;have g:=qh (zd3 h);have k:=qh h;have l:=qh c;clear h c hs;generalize L8 ws i=n at d g
 go_enter func139,ntmps139
 go_wp2_with fail
 refine g.out.mono ?_;rintro e o ⟨rfl,f⟩;have a:=qh (k.out.K7 f);have j:=qh (I7 f (some b));clear f;have p:=a.out.c1;have q:=a.out.fz 1;cases t with
 |true=>
  have r:=a.out.X5;have m:=l.out rfl
  go_wp2_with fail
  go_ret;exact⟨rfl,a.out.zb4 (i+1) m,I4 j.out (I8 _ _ _ _)⟩
 |false=>
  go_wp2_with fail
  go_ret;exact⟨rfl,a.out,j.out⟩
def jH{w}{a:Nat}{v ws}{i en:Nat}(s:ByteArray)(hs:s.toList≠[])(h:Rq w a v ws i en)(c:J3 ws i s=true):
 Calls prog 137 #[.pointer (some ⟨a,0,none⟩),.string s] w λe w'=>e=.returned (.tuple #[])/\Rq w' a v ws (i+1) en/\w.grownBy w' (some a):=by
 have g:=qh (Z5 s hs true h c);clear h c hs
 go_enter func137,ntmps137
 go_wp2_with fail
 refine g.out.mono ?_;rintro e k ⟨rfl,d,f⟩;have b:=qh d;have j:=qh f;clear d f
 go_wp2_with fail
 go_end0;exact⟨rfl,by simpa using b.out,j.out⟩
def jl{w}{a:Nat}{v ws}{i en:Nat}(s:ByteArray)(hs:s.toList≠[])(h:Rq w a v ws i en)(d:J3 ws i s=false):
 Calls prog 137 #[.pointer (some ⟨a,0,none⟩),.string s] w λe w'=>e=Y3 ws en i/\w.grownBy w' (some a):=by
 have k:=qh (Z5 s hs false h d);clear h d hs
 go_enter func137,ntmps137
 go_wp2_with fail
 refine k.out.mono ?_;rintro e l ⟨rfl,f,g⟩;have b:Hid (Rq l a v ws i en):=qh (by simpa using f);have m:=qh g;clear f g
 go_wp2_with fail
 refine(zam b.out).mono ?_;rintro e n ⟨rfl,j⟩;have c:=qh (I4 m.out (I7 j _));clear j
 go_wp2_with fail
 exact⟨rfl,rfl,c.out⟩
def yU{w}{rb:Nat}{v ws}{i en:Nat}(k:Nat)(c:k≠0)(h:Rq w rb v ws i en)(b:L3 ws i=k):
 Calls prog 138 #[.pointer (some ⟨rb,0,none⟩),.int .i64 k] w λe w'=>e=.returned (.string (L8 ws i))/\Rq w' rb v ws (i+1) en/\w.grownBy w' (some rb):=by
 obtain⟨A,o,rfl,a⟩:=h.row.jJ;have u:=h.c0;have y:=h.c1;have z:=h.X5;have B:=h.pos;have p:=h.fz 1;have q:=qh h;have d:i<ws.length:=by
  rcases E0 i ws.length with j|j
  ·exact j
  ·unfold L3 at b;rw[C5 j]at b;exact H9 b.symm c
 obtain⟨x,f⟩: ∃x,ws[i]?=some x:=⟨_,x9 d⟩;obtain⟨g,rfl,C,D,E,r⟩:=a i x f;have m:L8 ws i=x.K0:=by unfold L8;rw[f]
 rw[m];have l:x.I9=k:=by unfold L3 at b;rw[f]at b;exact b
 subst l;have F:(((x.I9:Nat):Int) !=((x.I9:Nat):Int))=false:=by simp
 have G:((i:Int)==(ws.length:Int))=false:=beq_eq_false_iff_ne.2 (by omega);have H:(0:Int)<=(i:Int):=by omega
 have I:(i:Int)<(ws.length:Int):=by omega
 have s:=qh d;clear h b a f m c r
 go_enter func138,ntmps138
 go_wp2_with fail
 go_quiet (fail)
 go_wp2_with fail
 have t:g≠rb:=by omega
 have n:rb≠g:=by omega
 have J:(0:Int)<=(i:Int)+1-1:=by omega
 have K:(i:Int)+1-1<(ws.length:Int):=by omega
 have L:((i:Int)+1-1)=(i:Int):=by omega
 go_quiet (fail)
 go_wp2_with fail
 go_ret;exact⟨rfl,((q.out.K7 (J6 (x8 _ _) _)).zb4 (i+1) s.out).K7 (J6 (x8 _ _) _),I4 (I4 (I7 (J6 (x8 _ _) _) _) (I8 _ rb 1 _)) (I7 (J6 (x8 _ _) _) _)⟩
def ZX{w}{c:Nat}{v ws}{i en:Nat}(k:Nat)(h:Rq w c v ws i en)(d:L3 ws i≠k):
 Calls prog 138 #[.pointer (some ⟨c,0,none⟩),.int .i64 k] w λe w'=>e=Y3 ws en i/\w.grownBy w' (some c):=by
 obtain⟨A,p,rfl,a⟩:=h.row.jJ;have u:=h.c0;have y:=h.c1;have z:=h.X5;have B:=h.pos;have n:=qh h
 by_cases j:i<ws.length
 ·obtain⟨x,l⟩: ∃x,ws[i]?=some x:=⟨_,x9 j⟩
  obtain⟨g,rfl,C,D,q,r⟩:=a i x l;have m:x.I9≠k:=by unfold L3 at d;rw[l]at d;exact d
  have E:(((x.I9:Nat):Int) !=((k:Nat):Int))=true:=by rw[bne_iff_ne];omega
  have s:((i:Int)==(ws.length:Int))=false:=beq_eq_false_iff_ne.2 (by omega);have F:(0:Int)<=(i:Int):=by omega
  have G:(i:Int)<(ws.length:Int):=by omega
  clear h d a l q r m
  go_enter func138,ntmps138
  go_wp2_with fail
  go_quiet (fail)
  go_wp2_with fail
  refine(zam (n.out.K7 (J6 (x8 _ _) _))).mono ?_;rintro e t ⟨rfl,f⟩;have b:=qh (I7 ((J6 (x8 w.heap.size w) _).trans f) (some c));clear f
  go_wp2_with fail
  exact⟨rfl,rfl,b.out⟩
 ·have o:i=ws.length:=by omega
  have s:((i:Int)==(ws.length:Int))=true:=beq_iff_eq.2 (by omega);have H:=qh o;clear h d a o
  go_enter func138,ntmps138
  go_wp2_with fail
  go_quiet (fail)
  go_wp2_with fail
  refine(zam (n.out.K7 (J6 (x8 _ _) _))).mono ?_;rintro e t ⟨rfl,f⟩;have b:=qh (I7 ((J6 (x8 w.heap.size w) _).trans f) (some c));clear f
  go_wp2_with fail
  exact⟨rfl,rfl,b.out⟩
end Go.Proofs.YtmngofgminlloaaGreatDoor
namespace Go.Proofs.YtmngofgminlloaaGreatDoor
open Go.RowKit Tw
inductive Dc(ws:List Wd)(en:Nat):Qe->Re->Prop
 |ex {m i j:Nat} {a:Ex} {r:Re}:Dc ws en (.zk i) (.ex a j)->Dc ws en (.rest m a j) r->Dc ws en (.lvl m i) r
 |exB {m i j:Nat}:Dc ws en (.zk i) (.J9 j)->Dc ws en (.lvl m i) (.J9 j)
 |stop {m j:Nat} {a:Ex}:O5 ws j<=m->Dc ws en (.rest m a j) (.ex a j)
 |go {m j j':Nat} {a b:Ex} {r:Re}:m<O5 ws j->Dc ws en (.lvl (O5 ws j) (j+1)) (.ex b j')-> ¬(O5 ws j=3/\O5 ws j'=3)->Dc ws en (.rest m (Y9 ws en j a b) j') r->Dc ws en (.rest m a j) r
 |goB {m j j':Nat} {a:Ex}:m<O5 ws j->Dc ws en (.lvl (O5 ws j) (j+1)) (.J9 j')->Dc ws en (.rest m a j) (.J9 j')
 |JG {m j j':Nat} {a b:Ex}:m<O5 ws j->O5 ws j=3->Dc ws en (.lvl (O5 ws j) (j+1)) (.ex b j')->O5 ws j'=3->Dc ws en (.rest m a j) (.J9 j')
 |neg {i j:Nat} {y:Ex}:K8 ws i=1->Dc ws en (.zk (i+1)) (.ex y j)->Dc ws en (.zk i) (.ex (.mk 4 0 L1 [y] (J4 ws i en)) j)
 |zgm {i j:Nat}:K8 ws i=1->Dc ws en (.zk (i+1)) (.J9 j)->Dc ws en (.zk i) (.J9 j)
 |not {i j:Nat} {y:Ex}:K8 ws i=2->Dc ws en (.zk (i+1)) (.ex y j)->Dc ws en (.zk i) (.ex (.mk 5 0 L1 [y] (J4 ws i en)) j)
 |zgo {i j:Nat}:K8 ws i=2->Dc ws en (.zk (i+1)) (.J9 j)->Dc ws en (.zk i) (.J9 j)
 |par {i j:Nat} {x:Ex}:K8 ws i=3->Dc ws en (.lvl 0 (i+1)) (.ex x j)->J3 ws j N4=true->Dc ws en (.zk i) (.ex x (j+1))
 |zep {i j:Nat}:K8 ws i=3->Dc ws en (.lvl 0 (i+1)) (.J9 j)->Dc ws en (.zk i) (.J9 j)
 |zeo {i j:Nat} {x:Ex}:K8 ws i=3->Dc ws en (.lvl 0 (i+1)) (.ex x j)->J3 ws j N4=false->Dc ws en (.zk i) (.J9 j)
 |tru {i:Nat}:K8 ws i=4->Dc ws en (.zk i) (.ex (.mk 2 1 L1 [] (J4 ws i en)) (i+1))
 |fls {i:Nat}:K8 ws i=5->Dc ws en (.zk i) (.ex (.mk 2 0 L1 [] (J4 ws i en)) (i+1))
 |X0 {i j:Nat} {l:List Ex}:K8 ws i=6->L3 ws (i+1)=1->J3 ws (i+2) O6=true->Dc ws en (.args 0 (i+3)) (.xH l j)->Dc ws en (.zk i) (.ex (.mk 8 (jv (L8 ws (i+1))) L1 l (J4 ws i en)) j)
 |XB {i j:Nat}:K8 ws i=6->L3 ws (i+1)=1->J3 ws (i+2) O6=true->Dc ws en (.args 0 (i+3)) (.J9 j)->Dc ws en (.zk i) (.J9 j)
 |Xz {i:Nat}:K8 ws i=6->L3 ws (i+1)=1->J3 ws (i+2) O6=false->Dc ws en (.zk i) (.J9 (i+2))
 |XA {i:Nat}:K8 ws i=6->L3 ws (i+1)≠1->Dc ws en (.zk i) (.J9 (i+1))
 |num {i:Nat}:K8 ws i=7->Dc ws en (.zk i) (.ex (.mk 1 (jv (L8 ws i)) L1 [] (J4 ws i en)) (i+1))
 |qE {i:Nat}:K8 ws i=8->J3 ws (i+1) O6=false->Dc ws en (.zk i) (.ex (.mk 3 0 (L8 ws i) [] (J4 ws i en)) (i+1))
 |call {i j:Nat} {l:List Ex}:K8 ws i=8->J3 ws (i+1) O6=true->Dc ws en (.args 0 (i+2)) (.xH l j)->Dc ws en (.zk i) (.ex (.mk 7 0 (L8 ws i) l (J4 ws i en)) j)
 |JH {i j:Nat}:K8 ws i=8->J3 ws (i+1) O6=true->Dc ws en (.args 0 (i+2)) (.J9 j)->Dc ws en (.zk i) (.J9 j)
 |QX {i:Nat}:K8 ws i=0->Dc ws en (.zk i) (.J9 i)
 |U4 {k i:Nat}:J3 ws i N4=true->Dc ws en (.args k i) (.xH [] (i+1))
 |first{i j j':Nat} {x:Ex} {l:List Ex}:J3 ws i N4=false->Dc ws en (.lvl 0 i) (.ex x j)->Dc ws en (.args 1 j) (.xH l j')->Dc ws en (.args 0 i) (.xH (x::l) j')
 |yY {i j j':Nat} {x:Ex}:J3 ws i N4=false->Dc ws en (.lvl 0 i) (.ex x j)->Dc ws en (.args 1 j) (.J9 j')->Dc ws en (.args 0 i) (.J9 j')
 |yZ {i j:Nat}:J3 ws i N4=false->Dc ws en (.lvl 0 i) (.J9 j)->Dc ws en (.args 0 i) (.J9 j)
 |next {k i j j':Nat} {x:Ex} {l:List Ex}:J3 ws i N4=false->J3 ws i U0=true->Dc ws en (.lvl 0 (i+1)) (.ex x j)->Dc ws en (.args (k+2) j) (.xH l j')->Dc ws en (.args (k+1) i) (.xH (x::l) j')
 |qY {k i j j':Nat} {x:Ex}:J3 ws i N4=false->J3 ws i U0=true->Dc ws en (.lvl 0 (i+1)) (.ex x j)->Dc ws en (.args (k+2) j) (.J9 j')->Dc ws en (.args (k+1) i) (.J9 j')
 |Qz {k i j:Nat}:J3 ws i N4=false->J3 ws i U0=true->Dc ws en (.lvl 0 (i+1)) (.J9 j)->Dc ws en (.args (k+1) i) (.J9 j)
 |QA {k i:Nat}:J3 ws i N4=false->J3 ws i U0=false->Dc ws en (.args (k+1) i) (.J9 i)
def zoz(s:Bs):lv s<=5:=by unfold lv;repeat' (first|omega|split)
def zbF(ws)(i:Nat):O5 ws i<=5:=by unfold O5;split<;>first|exact zoz _|omega
def zie(ws:List Wd):Qe->Re->Prop
 |.lvl n _,.ex _ j=>1<=n->n<=6->O5 ws j<n
 |.rest n _ a,.ex _ j=>O5 ws a<=n->O5 ws j<n
 |_,_=>True
def De.zix{ws}{en:Nat}{q r}(h:De ws en q r):zie ws q r:=by
 induction h with
 | @lvl6 i r _ f=>cases r<;>first|trivial|(intro _ _;have:=zbF ws ‹Nat›;omega)
 | @lvl n i j a r m _ _ d e=>
   cases r with
   |ex b k=>intro o p;exact e (by have:=d (by omega) (by omega);omega)
   |xH=>trivial
   |J9=>trivial
 |stop l=>intro g;omega
 | @go n j s a b r t l _ _ d e=>
   cases r with
   |ex c k=>intro g;exact e (by have:=zbF ws j;have:=d (by omega) (by omega);omega)
   |xH=>trivial
   |J9=>trivial
 |jx l _ u f=>intro g;have:=f (by omega) (by omega);omega
 |_=>trivial
def Dc.zoT{ws}{en:Nat}{q i}(h:Dc ws en q i): ∀n d e a j,q=.rest n d e->i=.ex a j-> ∀m,m<=n-> ∀r,Dc ws en (.rest m a j) r->Dc ws en (.rest m d e) r:=by
 induction h with
 |stop l=>rintro n d e a j b c m k r f;cases b;cases c;exact f
 |go l o p _ _ g=>rintro n d e a j b c m k r f;cases b;subst c;exact .go (by omega) o p (g _ _ _ _ _ rfl rfl m k r f)
 |goB=>rintro n d e a j b c;cases c
 |JG=>rintro n d e a j b c;cases c
 |_=>intros;rename_i b _ _ _ _ _;cases b
def Dc.zm1{ws}{en:Nat}{q l}(h:Dc ws en q l): ∀n c d j,q=.rest n c d->l=.J9 j-> ∀m,m<=n->Dc ws en (.rest m c d) (.J9 j):=by
 induction h with
 |stop g=>rintro n c d j a b m f;cases b
 |go g e i _ _ k=>rintro n c d j a b m f;cases a;subst b;exact .go (by omega) e i (k _ _ _ _ rfl rfl m f)
 |goB g e=>rintro n c d j a b m f;cases a;cases b;exact .goB (by omega) e
 |JG g o e i=>rintro n c d j a b m f;cases a;cases b;exact .JG (by omega) o e i
 |_=>intros;rename_i a _ _ _;cases a
def Dc.zp2{ws}{en n i j m:Nat}{a r}(h:Dc ws en (.lvl n i) (.ex a j))(b:m<=n)(c:Dc ws en (.rest m a j) r):Dc ws en (.lvl m i) r:=by
 cases h with
 |ex d e=>exact .ex d (e.zoT _ _ _ _ _ rfl rfl m b r c)
def Dc.zoO{ws}{en n i j m:Nat}(h:Dc ws en (.lvl n i) (.J9 j))(b:m<=n):Dc ws en (.lvl m i) (.J9 j):=by
 cases h with
 |ex a c=>exact .ex a (c.zm1 _ _ _ _ rfl rfl m b)
 |exB a=>exact .exB a
def zmQ(ws:List Wd)(en:Nat):Qe->Re->Prop
 |.lvl n i,r=>1<=n->n<=6->Dc ws en (.lvl (n-1) i) r
 |.rest n a j,r=>1<=n->n<=5->O5 ws j<=n->Dc ws en (.rest (n-1) a j) r
 |.zk i,r=>Dc ws en (.zk i) r
 |.args k i,r=>Dc ws en (.args k i) r
def De.zag{ws}{en:Nat}{q r}(h:De ws en q r):zmQ ws en q r:=by
 induction h with
 | @lvl6 i r _ e=>
   intro _ _;cases r with
   |ex a j=>exact .ex e (.stop (zbF ws j))
   |xH l j=>exact(by have v:Dc ws en (.zk i) (.xH l j):=e;cases v)
   |J9 j=>exact .exB e
 | @lvl n i j a r z g _ c f=>
   intro m o;have x:=g.zix (by omega) (by omega);exact(c (by omega) (by omega)).zp2 (by omega) (f m (by omega) (by omega))
 |ziI z _ c=>intro m o;exact(c (by omega) (by omega)).zoO (by omega)
 |stop d=>intro m o u;exact .stop (by omega)
 | @go n j w a b r A d g _ c f=>
   intro m o u;have x:=g.zix (by omega) (by omega);have p:=c (by omega) (by omega);exact .go (by omega) (by rw[d];exact p) (by omega) (f m o (by omega))
 | @goB n j w a d g c=>
   intro m o u;have p:=c (by omega) (by omega);exact .goB (by omega) (by rw[d];exact p)
 | @jx j w a b d g y c=>
   intro m o u;have x:=g.zix (by omega) (by omega);have p:=c (by omega) (by omega);exact .go (by omega) (by rw[d];exact p) (by omega) (.stop (by omega))
 | @JG j w a b d g y c=>
   intro m o u;have p:=c (by omega) (by omega);exact .JG (by omega) d (by rw[d];exact p) y
 |neg d _ e=>exact .neg d e
 |zgm d _ e=>exact .zgm d e
 |not d _ e=>exact .not d e
 |zgo d _ e=>exact .zgo d e
 |par d _ k e=>exact .par d (e (by omega) (by omega)) k
 |zep d _ e=>exact .zep d (e (by omega) (by omega))
 |zeo d _ k e=>exact .zeo d (e (by omega) (by omega)) k
 |tru d=>exact .tru d
 |fls d=>exact .fls d
 |X0 d g t _ e=>exact .X0 d g t e
 |XB d g t _ e=>exact .XB d g t e
 |Xz d g t=>exact .Xz d g t
 |XA d g=>exact .XA d g
 |num d=>exact .num d
 |qE d g=>exact .qE d g
 |call d g _ e=>exact .call d g e
 |JH d g _ e=>exact .JH d g e
 |QX d=>exact .QX d
 |U4 k=>exact .U4 k
 |first k _ _ c f=>exact .first k (c (by omega) (by omega)) f
 |yY k _ _ c f=>exact .yY k (c (by omega) (by omega)) f
 |yZ k _ c=>exact .yZ k (c (by omega) (by omega))
 |next k s _ _ c f=>exact .next k s (c (by omega) (by omega)) f
 |qY k s _ _ c f=>exact .qY k s (c (by omega) (by omega)) f
 |Qz k s _ c=>exact .Qz k s (c (by omega) (by omega))
 |QA k s=>exact .QA k s
end Go.Proofs.YtmngofgminlloaaGreatDoor
