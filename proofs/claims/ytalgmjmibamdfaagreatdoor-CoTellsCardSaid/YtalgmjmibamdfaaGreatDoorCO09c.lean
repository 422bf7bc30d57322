/- Merged. -/
import Derived.Test.YtalgmjmibamdfaaGreatDoorCO09b
set_option linter.all false
set_option maxHeartbeats 16000000
set_option maxRecDepth 100000
namespace Go.Proofs.YtalgmjmibamdfaaGreatDoor
open Go.Proofs.Tryz
open Go.RowKit Tw
theorem zfp{α:Type}(a b:α){n k m:Nat}(h:k+m<=n):(List.replicate k a++List.replicate (n-k) b).take k++List.replicate m a++(List.replicate k a++List.replicate (n-k) b).drop (k+m)=List.replicate (k+m) a++List.replicate (n-(k+m)) b:=by
 rw[List.take_left' (by simp),List.replicate_append_replicate,List.drop_append,List.length_replicate,List.drop_eq_nil_of_le (by simp),C0,List.drop_replicate,show n-k-(k+m-k)=n-(k+m) by omega]
abbrev qu:Value:=.int .i64 (-1)
def S7(k n:Nat):Array Value:=(List.replicate k qu++List.replicate (n-k) (Value.int .i64 0)).toArray
theorem ZW:(Tryz.prog.info? 3).map (λi=>(i.zero,i.size,i.bytes))=some (some (Value.int .i64 0),1,8):=by kernel_rfl
theorem YL(k n:Nat)(h:k<=n):(S7 k n).size=n:=by simp[S7];omega
theorem zbp{w:World}{g:Nat}{sp:Addr}{k n m sl dl dc sc:Nat}(b c d:TypeId)(i:Tryz.prog.underlying b=some (.slice 3))(l:w.heap[g]?=some (.cells (S7 k n) 3 (0,0)))(o:m=Nat.min sl dl)(f:k+m<=n)(hs: ∀j,j<m->w.cell? (sp.add j)=some qu):
 (Builtin.copy_ #[b,c] d #[.slice (some ⟨g,k,none⟩) dl dc,.slice (some sp) sl sc]).run prog w=.ok (.int .i64 m) (w.setRow g (S7 (k+m) n)):=by
 have h:=run_copy_row (P:=prog) w b c d 3 g k dl dc sp sl sc (S7 k n) 3 (List.replicate m qu) i (by kernel_rfl) l (by simpa using o) (λj v a=>by
  rw[List.getElem?_replicate]at a
  split at a
  ·rename_i p;rw[<-a];exact hs j p
  ·cases a) (by rw[List.length_replicate,YL k n (by omega)];exact f) (λv a=>by rw[List.mem_replicate]at a;rw[a.2];rfl)
 rw[List.length_replicate]at h;have e:((S7 k n).toList.take k++List.replicate m qu++(S7 k n).toList.drop (k+m)).toArray=S7 (k+m) n:=by
  simp only[S7,List.toList_toArray];rw[zfp qu (Value.int .i64 0) f]
 rw[e]at h;exact h
theorem zcb{w:World}{g k n:Nat}(a:w.heap[g]?=some (.cells (S7 k n) 3 (0,0))){j:Nat}(b:j<k):w.cell? ⟨g,j,none⟩=some qu:=by
 refine(y5 a j).trans ?_;simp[S7,List.getElem?_append,b]
theorem ziy(B J n:Nat)(w:World)(N:1<=n)(hn:n<=4000)(hx:w.heap[B]?=some (.cells #[qu] 3 (0,0))):
 Calls prog 106 #[.slice (some ⟨B,0,none⟩) 1 J,.int .i64 n] w λe w'=>e=.returned (.slice (some ⟨w.heap.size,0,none⟩) n n)/\w'.heap[w.heap.size]?=some (.cells (S7 n n) 3 (0,0))/\Below w.heap.size w w':=by
 have c:=Tryz.bits_Mul 1 n (by decide) (by omega) w;rw[show 1*n/18446744073709551616=0 by omega,show 1*n%18446744073709551616=n by omega]at c;obtain⟨i,K,L,M,s⟩:=info_parts ZW;obtain⟨C,h,l,a⟩:=run_make_full (P:=prog) (w:=w) w.heap.size 22 3 i (.int .i64 0) 1 underlying22 K L M .i64 .i64 n (by rw[s];omega) (by unfold maxLen;omega) (y6 _);have o:C.heap[w.heap.size]?=some (.cells (S7 0 n) 3 (0,0)):=by
  rcases l.2 with⟨D,_⟩|⟨g,O,t,p,_,Q,_,_,R,S⟩
  ·cases D
  ·injection p with p _ T
   injection p with p;injection p with p
   subst p T;rw[Q];have U:t.toList=(madeCells (Value.int .i64 0).cells (n*1)).toList:=by rw[<-S,List.take_of_length_le (by simp[R])]
   have:t=S7 0 n:=by
    apply Array.toList_inj.1;rw[U];apply List.ext_getElem?;intro j;simp[madeCells,S7,Value.cells,List.getElem?_replicate]
    by_cases u:j<n
    ·rw[List.getElem?_range u,E1 u];simp[Nat.mod_one]
    ·simp[u]
   rw[this]
 have G:Hid (Below w.heap.size w C):=zh ⟨a.os,a.tape,a.output,a.size,λk V=>a.block k V (by simp)⟩;have v:C.cell? ⟨B,0,none⟩=some qu:=y5 ((G.out.block _ (I7 hx)).trans hx) 0;have x:=zbp (n:=n) (k:=0) (m:=1) (sp:=⟨B,0,none⟩) (sl:=1) (dl:=n) (dc:=n) (sc:=J) 22 22 3 underlying22 o (show 1=min 1 n by omega) (by omega) (λj u=>by
  obtain rfl:j=0:=by omega
  exact v)
 have y:=setRow_heap C w.heap.size (S7 0 n) (S7 (0+1) n) 3 _ o;have d:=zh (below_setRow G.out (y6 _) (S7 (0+1) n));have f:=zh y;obtain⟨E,q⟩: ∃b,w.heap.size=b:=⟨_,rfl⟩;simp only[q]at h x G d f|-
 have H:=zh q;clear l a o v y K L M s hx q
 go_enter func106,ntmps106
 go_wp2_with fail
 refine c.mono ?_;rintro e w' ⟨rfl,rfl⟩;clear c
 go_wp2_with fail
 clear h x;generalize World.setRow _ _ _=w2 at f d|-
 go_loopw[8] (λI wr=> ∃k:Nat,1<=k/\k<=n/\I=.int .i64 k/\Hid (wr.heap[E]?=some (.cells (S7 k n) 3 (0,0)))/\Hid (Below E w' wr)) (λI _=>n-(intOf I).toNat)
 case atStart=>exact⟨1,y6 _,N,rfl,f,d⟩
 case round=>
  clear f d;obtain⟨k,a0,a1,rfl,F,r⟩:=hrel
  by_cases a2:k<n
  ·have hc:=zbp (w:=wr.drew) (n:=n) (k:=k) (m:=min k (n-k)) (sp:=⟨E,0,none⟩) (sl:=k) (dl:=n-k) (dc:=n-k) (sc:=n) 22 22 3 underlying22 F.out rfl (by omega) (λj u=>by
    have:=zcb (w:=wr.drew) F.out (j:=j) (by omega)
    by_cases D:j=0
    ·subst D;simpa[Addr.add]using this
    ·simpa[Addr.add,D]using this)
   have a3: ¬n=k:=by omega
   have i0:(0:Int)<=(k:Int):=by omega
   have i1:(k:Int)<=(n:Int):=by omega
   have i2:(k:Int)<(n:Int):=by omega
   go_upto_region 9 with(fail)
   go_region_law(fail)
   all_goals
    have z:=zh (setRow_heap wr.drew E (S7 k n) (S7 (k+min k (n-k)) n) 3 _ F.out);have A:=zh (below_setRow (r.out.trans ((J5 wr).mono (by have:=H.out;have:=r.out.size;omega))) (y6 _) (S7 (k+min k (n-k)) n));clear hc;generalize World.setRow _ _ _=wn at z A|-
    have hw:IntKind.i64.wrap ((k:Int)+((min k (n-k):Nat):Int))=((k:Int)+((min k (n-k):Nat):Int)):=IntWalk.i64_in _ (by omega);rw[hw];go_simp
    go_roundw
    case rel=>
     exact⟨_,_,_,_,_,_,_,_,_,_,_,_,_,_,⟨k+min k (n-k),by omega,by omega,by simp,z,A⟩,rfl⟩
    case measure=>simp[intOf];omega
  ·obtain rfl:k=n:=by omega
   go_wp2_with fail
   go_ret;exact⟨rfl,F.out,r.out⟩
end Go.Proofs.YtalgmjmibamdfaaGreatDoor
