/- Merged. -/
import Derived.Test.YtalgmjmibamdfaaGreatDoorCO28
set_option linter.all false
set_option maxRecDepth 100000
namespace Go.Proofs.YtalgmjmibamdfaaGreatDoor.coTells
open Go.Proofs.Tryz
open Go Go.ChangeShapes Go.WideShapes Go.ChangeAt Go.RowKit
open Go.ChangeMaps (open_string shut_string)
theorem zg4{H:Type}{enc:TypeId×Value->H}{W:World}{fuel:Nat}{x:DataW H×List MemPlace}{a0:Option Addr}{len cap:Nat}(h:DataW.trod enc prog W 0 (λ_=>true) true fuel 22 (Value.slice a0 len cap).cells.toList=some x)(C: ∀y∈x.1.weights prog 22,y<=reachBytes):
 ∃l:List Int,l.length=len/\len<=281474976710656/\K9 W (λ_=>True) (.slice a0 len cap) l:=by
 have q:=K.ZI h;have c:len<=281474976710656:=by
  rcases open_ints underlying22 underlying3 (by kernel_rfl) h with⟨b,_⟩|⟨a,r,t,u,b,_,N,O,D,E,_,_⟩
  ·simp[Value.cells]at b
   omega
  ·simp[Value.cells]at b
   obtain⟨rfl,rfl,rfl⟩:=b;simp only[if_true]at D;have v:=C (((lits .i64 (u.take len)).length+(lits .i64 (u.drop len)).length)*Tryz.prog.bytesOf 3) (by rw[E];unfold DataW.weights;rw[underlying22];exact B2 ..);rw[show Tryz.prog.bytesOf 3=8 by kernel_rfl,show reachBytes=140737488351232 from rfl]at v;simp[lits]at v;omega
 rcases Nat.eq_zero_or_pos len with o|o
 ·subst o
  exact⟨[],rfl,c,.inl ⟨_,_,rfl,rfl⟩⟩
 ·obtain⟨g,d,_,w,F,_⟩:=q.2 0 o
  have m: ∀i,i<len-> ∃s:Int,W.cell? ⟨g,d+i,none⟩=some (.int .i64 s):=λi j=>by
   obtain⟨P,A,z,e,-,G⟩:=q.2 i j;rw[w]at e;injection e with e
   injection e with I J
   subst I J;exact⟨z,G⟩
  obtain⟨f,L⟩: ∃f:Nat->Int,∀i,i<len->W.cell? ⟨g,d+i,none⟩=some (.int .i64 (f i)):=
   ⟨λi=>if j:i<len then(m i j).choose else 0,λi j=>by simp only[dif_pos j];exact(m i j).choose_spec⟩
  refine⟨(List.range len).map f,by simp,c,.inr ⟨g,d,cap,by simp[w],trivial,F,λk s B=>?_⟩⟩;rw[G3,Option.map_eq_some_iff]at B;obtain⟨Q,M,rfl⟩:=B;obtain⟨p,n⟩:=List.getElem?_eq_some_iff.1 M;rw[List.getElem_range]at n;subst n;exact L k (by simpa using p)
theorem zdo{H:Type}{enc:TypeId×Value->H}{W:World}{fuel:Nat}{x:DataW H×List MemPlace}{a0:Option Addr}{len cap:Nat}(h:DataW.trod enc prog W 0 (λ_=>true) true fuel 55 (Value.slice a0 len cap).cells.toList=some x)(O: ∀y∈x.1.weights prog 55,y<=reachBytes):
 len<=cap/\len<=281474976710656/\ ∀i,i<len-> ∃g d A n c,a0=some ⟨g,d,none⟩/\g<W.heap.size/\W.cell? ⟨g,d+i,none⟩=some (.slice A n c)/\YE W A n c:=by
 have r:Tryz.prog.cellsOf 22=1:=by kernel_rfl
 rcases DataW.trod_slice underlying55 h with⟨f,_⟩|⟨a,C,D,b,l,n,_,f,P,_,Q,V,E,k,_,_⟩
 ·simp[Value.cells]at f
  obtain⟨rfl,rfl,rfl⟩:=f;exact⟨y6 _,by omega,λj X=>by omega⟩
 ·simp[Value.cells]at f
  obtain⟨rfl,rfl,rfl⟩:=f;rw[r]at k;refine⟨Q,?_,λi R=>?_⟩
  ·have p:=O (((b.map (·.1)).length+(l.map (·.1)).length)*Tryz.prog.bytesOf 22) (by rw[P];unfold DataW.weights;rw[underlying55];exact B2 ..)
   rw[show Tryz.prog.bytesOf 22=24 by kernel_rfl,show reachBytes=140737488351232 from rfl]at p;simp only[D9]at p;omega
  obtain⟨y,S⟩: ∃y,b[i]?=some y:=⟨_,y8 (by omega)⟩;have m:=k i R;rw[S,Nat.mul_one]at m;obtain⟨s,p,F⟩:=Option.bind_eq_some_iff.1 m;have t: ∃A q c,s=[.slice A q c]:=by
   rcases DataW.trod_slice underlying22 F with⟨rfl,_⟩|⟨G,I,J,_,_,_,_,rfl,_⟩
   ·exact⟨none,0,0,rfl⟩
   ·exact⟨some G,I,J,rfl⟩
  obtain⟨A,q,c,rfl⟩:=t;have u:=Go.ChangeShapes.cell_of_cells?_one p;have L:=K.ZI (a0:=A) (len:=q) (cap:=c) F;have M:a.spot=none:=by
   obtain⟨Y,w⟩: ∃y,b[0]?=some y:=⟨_,y8 (by omega)⟩;have o:=k 0 (by omega);rw[w,Nat.zero_mul]at o;obtain⟨z,T,U⟩:=Option.bind_eq_some_iff.1 o;have B: ∃v,z=[v]:=by
    rcases DataW.trod_slice underlying22 U with⟨rfl,_⟩|⟨G,I,J,_,_,_,_,rfl,_⟩
    ·exact⟨_,rfl⟩
    ·exact⟨_,rfl⟩
   obtain⟨v,rfl⟩:=B;have:=World.cell?_spot (Go.ChangeShapes.cell_of_cells?_one T);simpa[Addr.add]using this
  obtain⟨g,d,N⟩:=a;simp only at M;subst M;have e:(⟨g,d,none⟩:Addr).add i=⟨g,d+i,none⟩:=by unfold Addr.add;split<;>simp_all
  rw[e]at u;exact⟨g,d,A,q,c,rfl,World.block_lt_of_cell? W _ u,u,L.1,L.2⟩
theorem zhW(os:Os)(c:os.Started)(H:Type)(enc:TypeId×Value->H):
 ReturnsInHanded {} Tryz.checked os 4 .any (λw args=>(Rows.coTellsSpec.pre enc prog Tryz.f4 [] false w args/\laidMetH prog Rows.coTellsRow.laid w)/\sizedMet enc prog Tryz.f4 (OpenSpec.ofChange Rows.coTellsSpec) false w args)
  (Rows.coTellsSpec.post enc prog Tryz.f4 false true false false):=by
 refine K.yB (C:=Tryz.checked) (X:=λw _=>laidMetH prog Rows.coTellsRow.laid w) (λ_ _ _ hh h=>h.of_heap hh) K.yD c (by kernel_rfl) func4
  (ChangeSpec.witness_shaped (enc:=enc) (C:=Tryz.checked) (os:=os) (X:=λw _=>laidMetH prog Rows.coTellsRow.laid w) false (World.laidAll prog os Rows.coTellsRow.laid) #[.slice none 0 0,.int .i64 0,.int .i64 0,.slice none 0 0] 8 (World.laidAll_os _ _ _)
   (World.shaped_of_ZipB (by kernel_rfl) (by kernel_rfl)) (by kernel_rfl) (by kernel_rfl) (by kernel_rfl)
   (by rw[MakeChecks.laidMetH_plain _ _ _ (by kernel_rfl)];exact laidMet_laidAll _ (by kernel_rfl) (by kernel_rfl))) ?_
 intro W l args ds gs B d T _ f U D;have a: ∀(j:Nat) t v,Tryz.f4.params[j]?=some t->args[j]?=some v->Value.okWide prog W .any l t v:=d;have g:=T;obtain⟨p,q,m,hV,rfl,_,_⟩:=T;have V:DataW.TrodAll enc prog W 0 (λ_=>true) true Tryz.f4.params.toList args.toList ds p:=m;rw[Tryz.params4]at V a f;obtain⟨Y,a4,d0,a5,Z,q0,E,rfl,rfl,h0,r0⟩:=trodAll_cons V;obtain⟨v1,a6,d1,a7,p1,q1,rfl,rfl,rfl,h1,r1⟩:=trodAll_cons r0;obtain⟨v2,a8,d2,a9,p2,q2,rfl,rfl,rfl,h2,r2⟩:=trodAll_cons r1;obtain⟨v3,b0,d3,b1,p3,q3,rfl,rfl,rfl,h3,r3⟩:=trodAll_cons r2;obtain⟨rfl,rfl,rfl⟩:=trodAll_nil r3;obtain rfl:args= #[Y,v1,v2,v3]:=by cases args;simp_all
 obtain⟨rfl,rfl⟩:=trodVars_none hV;have n: ∀y∈d3.weights prog 22,y<=reachBytes:=λy F=>by
  have:=List.all_eq_true.1 f y (List.mem_append_right _ (List.mem_append_right _ (List.mem_append_right _ (List.mem_append_left _ F))));simpa using this
 have i: ∀y∈d0.weights prog 55,y<=reachBytes:=λy F=>by
  have:=List.all_eq_true.1 f y (List.mem_append_left _ F);simpa using this
 obtain⟨a0,G,I,rfl⟩:=okWide_slice underlying55 (a 0 55 Y rfl rfl);obtain⟨z1,rfl,rfl,rfl,w1⟩:=open_int (k:=.i64) underlying3 (a 1 3 v1 rfl rfl) h1;obtain⟨z2,rfl,rfl,rfl,w2⟩:=open_int (k:=.i64) underlying3 (a 2 3 v2 rfl rfl) h2;obtain⟨a3,a1,o,rfl⟩:=okWide_slice underlying22 (a 3 22 v3 rfl rfl);have J:=h0;obtain⟨a2,hf⟩:=h0;obtain⟨L,r,M⟩:=zdo hf i;have N:=h3;obtain⟨O,P⟩:=h3;obtain⟨Q,rfl,b2,s⟩:=zg4 P n;clear m d
 try simp only[List.append_nil,C0]at g
 have u: ∀x∈Z++p3,x.block<W.heap.size:=λx z=>by simpa using g.lt x z
 rw[MakeChecks.laidMetH_plain _ _ _ (by kernel_rfl)]at U;refine(Yy a0 G I a3 o Q z1 z2 W (K.zfF U D) L r M s (by omega)).mono λe W' ⟨he,R⟩=>?_;subst he;have hT:=Below.trod K.zbD (by kernel_rfl) (of_decide_eq_true (by kernel_rfl)) J R (λx z=>u x (List.mem_append_left _ z));have S:=Below.trod K.zbD (by kernel_rfl) (of_decide_eq_true (by kernel_rfl)) N R (λx z=>u x (List.mem_append_right _ z));have A:DataW.TrodAll enc prog W' 0 (λb=>decide (b<W.heap.size)) true _ _ _ _:=trodAll_mk4 hT (shut_int underlying3 w1) (shut_int underlying3 w2) S
 try simp only[List.append_nil,C0]at A
 exact⟨_,rfl,_,_,_,[],Z++p3,[],g,trodAll_mk1 (shut_bool underlying4 _),A,rfl,R.frame _,λh=>by cases h⟩
theorem holds:Rows.coTellsRow.holds Tryz.pinned (OpenSpec.ofChange Rows.coTellsSpec):=
 OpenClaim.holds_of_wide 4 Tryz.f4 rfl rfl rfl rfl rfl rfl rfl ⟨rfl,rfl,rfl,rfl,rfl⟩ rfl rfl rfl rfl rfl (by kernel_rfl) func4 (by kernel_rfl)
  (of_decide_eq_true (by kernel_rfl)) (by unfold Func.isWrapper;first|(rw[E1 (by decide+kernel)];kernel_rfl)|(rw[B5 (by decide+kernel)];exact⟨rfl,rfl⟩))
  (λc a H b _=>zhW c a H b)
theorem proved:Rows.CoTellsCardSaid:=
 Claim7.holds_tied_plain_at .later [] [.data,.data,.data,.data,.sentinel,.sentinel,.listed,.data,.pinned] true (true, "97467d2fc1b1bf0edfc2121ed9b97cc05e80f64c74793adc5f4605d6fc165053") true holds (λ_ h=>by cases h) (by kernel_rfl) (λ_ h=>by cases h) coTells_row_tie rfl ⟨rfl,rfl⟩ (by kernel_rfl) rfl
  (λf fn d b=>by
   obtain rfl:f=4:=F7 ((show Tryz.prog.funcNamed "tourney/tourlaw5.CoTells" =some 4 by kernel_rfl).symm.trans d)|>.symm
   obtain rfl:fn=Tryz.f4:=(F7 (Tryz.func4.symm.trans b)).symm;exact⟨by kernel_rfl,λj t c=>by
    rw[Tryz.params4]at c;have e:t∈[55,3,3,22]:=by simpa using Array.mem_of_getElem? c
    have a:([55,3,3,22].all λu=>!Tryz.prog.wantsStandIn u)=true:=by kernel_rfl
    exact(show Tryz.prog.wantsStandIn t=false by simpa using List.all_eq_true.1 a t e)⟩)
  (by kernel_rfl)
#print axioms proved
end Go.Proofs.YtalgmjmibamdfaaGreatDoor.coTells
