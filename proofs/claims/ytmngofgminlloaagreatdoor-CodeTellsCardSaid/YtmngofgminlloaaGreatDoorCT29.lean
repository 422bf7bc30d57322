/- CodeTells, proved: for every text and all numbers the law returns true. No condition beyond the row's own. -/
import Derived.Test.YtmngofgminlloaaGreatDoorCT28
set_option linter.all false
set_option maxRecDepth 100000
namespace Go.Proofs.YtmngofgminlloaaGreatDoor.codeTells
open Go.Proofs.Tryz
open Go Go.ChangeShapes Go.WideShapes Go.ChangeAt Go.RowKit
open Go.ChangeMaps (open_string shut_string)
theorem zna(os)(a:os.Started)(H)(enc:TypeId×Value->H):
 ReturnsInHanded {} Tryz.checked os 9 .any (λw args=>(Rows.codeTellsSpec.pre enc prog Tryz.f9 [] false w args/\laidMetH prog Rows.codeTellsRow.laid w)/\sizedMet enc prog Tryz.f9 (OpenSpec.ofChange Rows.codeTellsSpec) false w args)
  (Rows.codeTellsSpec.post enc prog Tryz.f9 false true false false):=by
 refine K.QW (C:=Tryz.checked) (X:=λw _=>laidMetH prog Rows.codeTellsRow.laid w) (λ_ _ _ N h=>h.of_heap N) K.own a (by kernel_rfl) func9
  (ChangeSpec.witness_shaped (enc:=enc) (C:=Tryz.checked) (os:=os) (X:=λw _=>laidMetH prog Rows.codeTellsRow.laid w) false (World.laidAll prog os Rows.codeTellsRow.laid) #[.string ByteArray.empty,.slice none 0 0] 8 (World.laidAll_os _ _ _)
   (World.shaped_of_ZipB (by kernel_rfl) (by kernel_rfl)) (by kernel_rfl) (by kernel_rfl) (by kernel_rfl)
   (by rw[MakeChecks.laidMetH_plain _ _ _ (by kernel_rfl)];exact laidMet_laidAll _ (by kernel_rfl) (by kernel_rfl))) ?_
 intro W i args O gs m c A _ _ B n;have d: ∀(j:Nat) t v,Tryz.f9.params[j]?=some t->args[j]?=some v->Value.okWide prog W .any i t v:=c;have f:=A;obtain⟨p,q,k,P,rfl,_,_⟩:=A;have D:DataW.TrodAll enc prog W 0 (λ_=>true) true Tryz.f9.params.toList args.toList O p:=k;rw[Tryz.params9]at D d;obtain⟨E,Q,d0,R,p0,q0,o,rfl,rfl,S,T⟩:=trodAll_cons D;obtain⟨F,U,d1,V,G,q1,rfl,rfl,rfl,I,Y⟩:=trodAll_cons T;obtain⟨rfl,rfl,rfl⟩:=trodAll_nil Y;obtain rfl:args= #[E,F]:=by cases args;simp_all
 obtain⟨rfl,rfl⟩:=trodVars_none P;obtain⟨Z,rfl,rfl,rfl,J⟩:=open_string underlying9 (d 0 9 E rfl rfl) S;obtain⟨a0,r,s,rfl⟩:=okWide_slice underlying29 (d 1 29 F rfl rfl);have u:=I;obtain⟨L,hf⟩:=I;obtain⟨y,g⟩:=K.XN hf;clear k c
 try simp only[List.append_nil,C0]at f
 have z: ∀x∈G,x.block<W.heap.size:=λx hx=>by simpa using f.lt x hx
 rw[MakeChecks.laidMetH_plain _ _ _ (by kernel_rfl)]at B;refine(zaB Z a0 r s W J (K.zkr B n) y g).mono λe W' ⟨he,M⟩=>?_
 subst he;have hT:=Below.trod K.zkv (by kernel_rfl) (of_decide_eq_true (by kernel_rfl)) u M z;have l:DataW.TrodAll enc prog W' 0 (λb=>decide (b<W.heap.size)) true _ _ _ _:=trodAll_mk2 (shut_string underlying9 J) hT
 try simp only[List.append_nil,C0]at l
 exact⟨_,rfl,_,_,_,[],G,[],f,trodAll_mk1 (shut_bool underlying4 _),l,rfl,M.frame _,λh=>by cases h⟩
theorem ziy:Tryz.prog.funcNamed "tourney/tourlaw5.CodeTells" =some 9:=by kernel_rfl
theorem zm6:joinedFacts prog 9 Tryz.f9 Rows.codeTellsSpec Rows.codeTellsRow=true:=by kernel_rfl
theorem zpJ:Tryz.f9.isInstance prog Rows.codeTellsRow.origin Rows.codeTellsRow.targs:=of_decide_eq_true (by kernel_rfl)
theorem wrap:Tryz.f9.isWrapper prog Rows.codeTellsRow.wrapper Rows.codeTellsRow.mainSum:=by unfold Func.isWrapper;first|(rw[C8 (by decide+kernel)];kernel_rfl)|(rw[B5 (by decide+kernel)];exact⟨rfl,rfl⟩)
theorem zkE(os)(a:os.Started)(H)(enc:TypeId×Value->H):
 ReturnsInHanded Rows.codeTellsRow.assume Tryz.checked os 9 .any (Rows.codeTellsRow.pre enc prog Tryz.f9 (OpenSpec.ofChange Rows.codeTellsSpec)) (Rows.codeTellsSpec.post enc prog Tryz.f9 Rows.codeTellsRow.apart Rows.codeTellsRow.fresh Rows.codeTellsRow.handsOn Rows.codeTellsRow.again):=zna os a H enc
theorem holds:Rows.codeTellsRow.holds Tryz.pinned (OpenSpec.ofChange Rows.codeTellsSpec):=
 OpenClaim.holds_of_wide (p:=Tryz.pinned) (s:=Rows.codeTellsSpec) (c:=Rows.codeTellsRow) 9 Tryz.f9 rfl rfl rfl rfl rfl rfl rfl ⟨rfl,rfl,rfl,rfl,rfl⟩ rfl rfl rfl rfl rfl ziy func9 zm6 zpJ wrap
  (λd a H b _=>zkE d a H b)
theorem proved:Rows.CodeTellsCardSaid:=
 Claim7.holds_tied_plain_at .later [] [.data,.data,.data,.data,.sentinel,.sentinel,.listed,.data,.pinned] true (true, "927d6b63b338232549856b2600b207b8f35beedab55975acef0c13d03cee21d6") true holds (λ_ h=>by cases h) (by kernel_rfl) (λ_ h=>by cases h) codeTells_row_tie rfl ⟨rfl,rfl⟩ (by kernel_rfl) rfl
  (λf fn d b=>by
   obtain rfl:f=9:=F6 ((show Tryz.prog.funcNamed "tourney/tourlaw5.CodeTells" =some 9 by kernel_rfl).symm.trans d)|>.symm
   obtain rfl:fn=Tryz.f9:=(F6 (Tryz.func9.symm.trans b)).symm;exact⟨by kernel_rfl,λj t c=>by
    rw[Tryz.params9]at c;have e:t∈[9,29]:=by simpa using Array.mem_of_getElem? c
    have a:([9,29].all λu=>!Tryz.prog.wantsStandIn u)=true:=by kernel_rfl
    exact(show Tryz.prog.wantsStandIn t=false by simpa using List.all_eq_true.1 a t e)⟩)
  (by kernel_rfl)
#print axioms proved
end Go.Proofs.YtmngofgminlloaaGreatDoor.codeTells
