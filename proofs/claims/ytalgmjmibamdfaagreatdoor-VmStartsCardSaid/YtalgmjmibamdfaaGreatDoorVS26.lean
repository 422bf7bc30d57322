/- Merged. -/
import Derived.Test.YtalgmjmibamdfaaGreatDoorVS25
set_option linter.all false
set_option maxRecDepth 100000
namespace Go.Proofs.YtalgmjmibamdfaaGreatDoor.vmStarts
open Go.Proofs.Tryz
open Go Go.ChangeShapes Go.WideShapes Go.ChangeAt Go.RowKit
open Go.ChangeMaps (open_string shut_string)
theorem zgr{H:Type}{enc:TypeId×Value->H}{W:World}{o:Nat}{x:DataW H×List MemPlace}{u:Option Addr}{b j:Nat}(h:DataW.trod enc prog W 0 (λ_=>true) true o 22 (Value.slice u b j).cells.toList=some x)(G: ∀y∈x.1.weights prog 22,y<=reachBytes):
 ∃l:List Int,l.length=b/\b<=281474976710656/\J8 W (λ_=>True) (.slice u b j) l:=by
 have v:=K.yP h;have d:b<=281474976710656:=by
  rcases open_ints underlying22 underlying3 (by kernel_rfl) h with⟨c,_⟩|⟨a,w,A,B,c,_,R,S,I,J,_,_⟩
  ·simp[Value.cells]at c
   omega
  ·simp[Value.cells]at c
   obtain⟨rfl,rfl,rfl⟩:=c;simp only[if_true]at I;have C:=G (((lits .i64 (B.take b)).length+(lits .i64 (B.drop b)).length)*Tryz.prog.bytesOf 3) (by rw[J];unfold DataW.weights;rw[underlying22];exact z5 ..);rw[show Tryz.prog.bytesOf 3=8 by kernel_rfl,show reachBytes=140737488351232 from rfl]at C;simp[lits]at C;omega
 rcases Nat.eq_zero_or_pos b with r|r
 ·subst r
  exact⟨[],rfl,d,.inl ⟨_,_,rfl,rfl⟩⟩
 ·obtain⟨g,m,_,D,L,_⟩:=v.2 0 r
  have p: ∀i,i<b-> ∃s:Int,W.cell? ⟨g,m+i,none⟩=some (.int .i64 s):=λi n=>by
   obtain⟨T,E,z,e,-,M⟩:=v.2 i n;rw[D]at e;injection e with e
   injection e with N O
   subst N O;exact⟨z,M⟩
  obtain⟨f,P⟩: ∃f:Nat->Int,∀i,i<b->W.cell? ⟨g,m+i,none⟩=some (.int .i64 (f i)):=
   ⟨λi=>if n:i<b then(p i n).choose else 0,λi n=>by simp only[dif_pos n];exact(p i n).choose_spec⟩
  refine⟨(List.range b).map f,by simp,d,.inr ⟨g,m,j,by simp[D],trivial,L,λk s F=>?_⟩⟩;rw[F6,Option.map_eq_some_iff]at F;obtain⟨U,Q,rfl⟩:=F;obtain⟨t,q⟩:=List.getElem?_eq_some_iff.1 Q;rw[List.getElem_range]at q;subst q;exact P k (by simpa using t)
theorem zgL(os:Os)(c:os.Started)(H:Type)(enc:TypeId×Value->H):
 ReturnsInHanded {} Tryz.checked os 3 .any (λw args=>(Rows.vmStartsSpec.pre enc prog Tryz.f3 [] false w args/\laidMetH prog Rows.vmStartsRow.laid w)/\sizedMet enc prog Tryz.f3 (OpenSpec.ofChange Rows.vmStartsSpec) false w args)
  (Rows.vmStartsSpec.post enc prog Tryz.f3 false true false false):=by
 refine K.xP (C:=Tryz.checked) (X:=λw _=>laidMetH prog Rows.vmStartsRow.laid w) (λ_ _ _ hh h=>h.of_heap hh) K.yR c (by kernel_rfl) func3
  (ChangeSpec.witness_shaped (enc:=enc) (C:=Tryz.checked) (os:=os) (X:=λw _=>laidMetH prog Rows.vmStartsRow.laid w) false (World.laidAll prog os Rows.vmStartsRow.laid) #[.slice none 0 0,.slice none 0 0,.int .i64 0] 8 (World.laidAll_os _ _ _)
   (World.shaped_of_ZipB (by kernel_rfl) (by kernel_rfl)) (by kernel_rfl) (by kernel_rfl) (by kernel_rfl)
   (by rw[MakeChecks.laidMetH_plain _ _ _ (by kernel_rfl)];exact laidMet_laidAll _ (by kernel_rfl) (by kernel_rfl))) ?_
 intro W i args ds gs A d Q _ l R B;have a: ∀(j:Nat) t v,Tryz.f3.params[j]?=some t->args[j]?=some v->Value.okWide prog W .any i t v:=d;have f:=Q;obtain⟨p,q,m,hV,rfl,_,_⟩:=Q;have S:DataW.TrodAll enc prog W 0 (λ_=>true) true Tryz.f3.params.toList args.toList ds p:=m;rw[Tryz.params3]at S a l;obtain⟨T,a4,d0,a5,U,q0,D,rfl,rfl,V,r0⟩:=trodAll_cons S;obtain⟨Y,a6,d1,a7,Z,q1,rfl,rfl,rfl,h1,r1⟩:=trodAll_cons r0;obtain⟨v2,a8,d2,a9,p2,q2,rfl,rfl,rfl,h2,r2⟩:=trodAll_cons r1;obtain⟨rfl,rfl,rfl⟩:=trodAll_nil r2;obtain rfl:args= #[T,Y,v2]:=by cases args;simp_all
 obtain⟨rfl,rfl⟩:=trodVars_none hV;have n: ∀y∈d1.weights prog 22,y<=reachBytes:=λy hy=>by
  have:=List.all_eq_true.1 l y (List.mem_append_right _ (List.mem_append_left _ hy));simpa using this
 obtain⟨a0,E,F,rfl⟩:=okWide_slice underlying22 (a 0 22 T rfl rfl);obtain⟨a1,a2,o,rfl⟩:=okWide_slice underlying22 (a 1 22 Y rfl rfl);obtain⟨z2,rfl,rfl,rfl,w2⟩:=open_int (k:=.i64) underlying3 (a 2 3 v2 rfl rfl) h2;have G:=V;obtain⟨a3,hf⟩:=V;obtain⟨I,g⟩:=K.yP hf;have J:=h1;obtain⟨L,M⟩:=h1;obtain⟨N,rfl,b0,r⟩:=zgr M n;clear m d
 try simp only[List.append_nil]at f
 have s: ∀x∈U++Z,x.block<W.heap.size:=λx u=>by simpa using f.lt x u
 rw[MakeChecks.laidMetH_plain _ _ _ (by kernel_rfl)]at R;refine(JD a0 E F a1 o N z2 W (K.zep R B) I g r (by omega)).mono λe W' ⟨he,O⟩=>?_;subst he;have hT:=Below.trod K.zaH (by kernel_rfl) (of_decide_eq_true (by kernel_rfl)) G O (λx u=>s x (List.mem_append_left _ u));have P:=Below.trod K.zaH (by kernel_rfl) (of_decide_eq_true (by kernel_rfl)) J O (λx u=>s x (List.mem_append_right _ u));have z:DataW.TrodAll enc prog W' 0 (λb=>decide (b<W.heap.size)) true _ _ _ _:=trodAll_mk3 hT P (shut_int underlying3 w2)
 try simp only[List.append_nil]at z
 exact⟨_,rfl,_,_,_,[],U++Z,[],f,trodAll_mk1 (shut_bool underlying4 _),z,rfl,O.frame _,λh=>by cases h⟩
theorem holds:Rows.vmStartsRow.holds Tryz.pinned (OpenSpec.ofChange Rows.vmStartsSpec):=
 OpenClaim.holds_of_wide 3 Tryz.f3 rfl rfl rfl rfl rfl rfl rfl ⟨rfl,rfl,rfl,rfl,rfl⟩ rfl rfl rfl rfl rfl (by kernel_rfl) func3 (by kernel_rfl)
  (of_decide_eq_true (by kernel_rfl)) (by unfold Func.isWrapper;first|(rw[C5 (by decide+kernel)];kernel_rfl)|(rw[z7 (by decide+kernel)];exact⟨rfl,rfl⟩))
  (λc a H b _=>zgL c a H b)
theorem proved:Rows.VmStartsCardSaid:=
 Claim7.holds_tied_plain_at .later [] [.data,.data,.data,.data,.sentinel,.sentinel,.listed,.data,.pinned] true (true, "97467d2fc1b1bf0edfc2121ed9b97cc05e80f64c74793adc5f4605d6fc165053") true holds (λ_ h=>by cases h) (by kernel_rfl) (λ_ h=>by cases h) vmStarts_row_tie rfl ⟨rfl,rfl⟩ (by kernel_rfl) rfl
  (λf fn d b=>by
   obtain rfl:f=3:=E9 ((show Tryz.prog.funcNamed "tourney/tourlaw5.VmStarts" =some 3 by kernel_rfl).symm.trans d)|>.symm
   obtain rfl:fn=Tryz.f3:=(E9 (Tryz.func3.symm.trans b)).symm;exact⟨by kernel_rfl,λj t c=>by
    rw[Tryz.params3]at c;have e:t∈[22,22,3]:=by simpa using Array.mem_of_getElem? c
    have a:([22,22,3].all λu=>!Tryz.prog.wantsStandIn u)=true:=by kernel_rfl
    exact(show Tryz.prog.wantsStandIn t=false by simpa using List.all_eq_true.1 a t e)⟩)
  (by kernel_rfl)
#print axioms proved
end Go.Proofs.YtalgmjmibamdfaaGreatDoor.vmStarts
