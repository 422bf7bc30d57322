/- Merged. -/
import Derived.Test.YtalgmjmibamdfaaGreatDoorCO02
set_option linter.all false
set_option maxHeartbeats 32000000
set_option maxRecDepth 100000
namespace Go.Proofs.YtalgmjmibamdfaaGreatDoor
open Go.Proofs.Tryz
open Go.RowKit Tw
section
open Go.Shelf Go.Sort
theorem Qw(w:World)(k:Nat)(os:Array Obj):Below w.heap.size w (grow (w.drewN k) os):=by
 refine⟨rfl,rfl,rfl,by simp[grow,World.drewN],λi a=>?_⟩;simp only[grow];rw[Array.getElem?_append_left (by simpa using a)];simp[World.drewN]
theorem ziA(u:Nat)(a:u<18446744073709551616)(w:World)(f:Lib.TabIs prog w "internal/strconv.uint64pow10" .u64 Lib.pow10Tab):
 Calls prog 146 #[.int .u64 u,.int .i64 10] w λe w'=>e=.returned (.string ⟨(Lib.decDigits u).toArray⟩)/\Below w.heap.size w w':=by
 by_cases s:u<100
 ·go_enter func146,ntmps146
  go_wp2_with(go_at_call 133;refine(Tryz.internal_strconv_small u s _).mono ?_;rintro e w' ⟨rfl,rfl⟩)
  go_ret;exact⟨rfl,y7 _ _⟩
 ·have g:1<=u:=by omega
  have m:Lib.nDigits u<=20:=by have:=Lib.numDigits_eq u g a;split at this<;>omega
  have i:Tryz.prog.arrayLen 206=24:=by kernel_rfl
  have r: ∀W,(Instr.sliceAt 206 (.pointer (some ⟨w.heap.size,0,none⟩)) none (some (.int .i64 (Lib.nDigits u:Int))) none).run prog W=.ok (.slice (some ⟨w.heap.size,0,none⟩) (Lib.nDigits u) 24) W:=λW=>by
   rw[run_sliceAt_array_h W 206 ⟨w.heap.size,0,none⟩ (by simp[Program.arrayLen,Program.elem,underlying206]) .i64 (Lib.nDigits u:Int) (by omega) (by rw[i];omega)];go_simp
  have d:=Lib.holds_zero0 w 206 (Lib.nDigits u) (by omega);have c:=Tryz.internal_strconv_formatBase10 w.heap.size 0 24 u (Array.replicate (Lib.nDigits u) 0) (w.alloc (.cells Lib.zeros24 206)) d (by rw[Array.size_replicate];exact Lib.lt_pow_nDigits u) a (by rw[Array.size_replicate];omega);rw[Array.size_replicate]at c;have n:=zh d;clear d i
  go_enter func146,ntmps146
  go_wp2_with(go_at_call 134;refine(Tryz.internal_strconv_numDigits u g a _ (Lib.tabIs_alloc f _)).mono ?_;rintro e w' ⟨rfl,rfl⟩)
  go_at_call 135
  refine c.mono ?_;rintro e w' ⟨rfl,k,v,l,rfl,o⟩;have t:(convert 209 9 (.slice (some ⟨w.heap.size,0,none⟩) (Lib.nDigits u) 24)).run prog ((putRow (λ(b:UInt8)=>Value.int .u8 (b.toNat:Int)) (w.alloc (.cells Lib.zeros24 206)) w.heap.size 0 l).drewN k)=.ok (.string ⟨(Lib.decDigits u).toArray⟩) ((putRow (λ(b:UInt8)=>Value.int .u8 (b.toNat:Int)) (w.alloc (.cells Lib.zeros24 206)) w.heap.size 0 l).drewN k):=by
   have h:=run_convert_bytes_back (P:=prog) ((putRow (λ(b:UInt8)=>Value.int .u8 (b.toNat:Int)) (w.alloc (.cells Lib.zeros24 206)) w.heap.size 0 l).drewN k) 209 9 5 ⟨w.heap.size,0,none⟩ 24 (Lib.decDigits u) underlying209 underlying5 underlying9 (λj p=>by
    rw[Lib.row_is_numeral o j p,Lib.add_plain,World.cell?_drewN];exact cell?_putRow (λ(b:UInt8)=>Value.int .u8 (b.toNat:Int)) _ w.heap.size 0 _ l n.out (by rw[o.size,Array.size_replicate]) j (by rw[o.size];rw[Lib.decDigits_length]at p;exact p))
   rw[Lib.decDigits_length]at h;exact h
  go_wp2
  go_ret;refine⟨rfl,?_⟩;rw[alloc_eq_grow];obtain⟨q,_,e⟩:=putRow_grow_new (λ(b:UInt8)=>Value.int .u8 (b.toNat:Int)) w #[.cells Lib.zeros24 206] w.heap.size 0 l (y6 _);rw[e];exact Qw w k q
theorem zj5(u:Nat)(a:u<18446744073709551616)(w:World)(b:Lib.TabIs prog w "internal/strconv.uint64pow10" .u64 Lib.pow10Tab):
 Calls prog 112 #[.int .u64 u,.int .i64 10] w λe w'=>e=.returned (.string ⟨(Lib.decDigits u).toArray⟩)/\Below w.heap.size w w':=by
 have H:=zh (ziA u a w b)
 go_enter func112,ntmps112
 go_wp2_with fail
 refine H.out.mono ?_;rintro e w' ⟨rfl,c⟩
 go_wp2_with fail
 go_ret;exact⟨rfl,c⟩
theorem zbZ(M:Nat)(l:Bs): ∀(a u:Nat),Lib.parseUintM M a l=.ok u->a<=M->u<=M:=by
 induction l with
 |nil=>intro a u h b;simp only[Lib.parseUintM]at h;cases h;exact b
 |cons c l d=>
  intro a u h b;simp only[Lib.parseUintM]at h
  repeat' (split at h)
  all_goals first|(cases h;done)|exact d _ _ h (by omega)
def zc3(v:Value):Prop:=v=.nilIface\/ ∃a b,v=.iface a b
def zbz(w:World):Prop:=(∃v,w.cell? ⟨4,0,none⟩=some v/\zc3 v)/\(∃v,w.cell? ⟨5,0,none⟩=some v/\zc3 v)
theorem ze9(s:ByteArray)(x:s.size≠0)(l:s.size<=4000)(w:World)(D:zbz w)(H:5<w.heap.size):
 Calls prog 111 #[.string s,.int .i64 10,.int .i64 62] w λe w'=>(∃(u:Nat)(y:Value),e=.returned (.tuple #[.int .u64 u,y])/\u<18446744073709551616/\
  ((Lib.parseUintM 4611686018427387903 0 s.data.toList=.ok u/\y=.nilIface)\/((∀n,Lib.parseUintM 4611686018427387903 0 s.data.toList≠.ok n)/\ ∃te E,y=.iface te (.pointer E))))/\Below w.heap.size w w':=by
 obtain⟨⟨ev1,d,m⟩,⟨ev2,f,o⟩⟩:=D;have a:=zcJ s x l w;have c:=Lib.bytesWorld_below w 5 s;cases i:Lib.parseUintM 4611686018427387903 0 s.data.toList with
 |ok u=>
  have C:u<18446744073709551616:=by
   have:=zbZ _ _ _ _ i (E2 _);omega
  rw[i]at a;have a:Calls prog 144 #[.string s,.int .i64 10,.int .i64 62] w λe w'=>e=.returned (.tuple #[.int .u64 u,.nilIface])/\w'=Lib.bytesWorld w 5 s:=a;have q:=zh a;have F:=zh C;have r:=zh c;clear a i C c d f m o
  go_enter func111,ntmps111
  go_wp2_with fail
  refine q.out.mono ?_;rintro e v ⟨rfl,g⟩;have G:=zh g;clear g
  go_wp2
  go_ret2;exact⟨⟨u,_,rfl,F.out,.inl ⟨rfl,rfl⟩⟩,by rw[G.out];exact r.out⟩
 |range=>
  rw[i]at a;have a:Calls prog 144 #[.string s,.int .i64 10,.int .i64 62] w λe w'=>e=.returned (.tuple #[.int .u64 4611686018427387903,.iface 245 (.int .i64 1)])/\w'=Lib.bytesWorld w 5 s:=a;have q:=zh a;have r:=zh c;have j: ∀W,Below w.heap.size w W->W.cell? ⟨5,0,none⟩=some ev2:=λW h=>(h.cell (p:=⟨5,0,none⟩) (by show 5<_;omega)).trans f;have j:=zh j;clear a i c d f
  go_enter func111,ntmps111
  go_wp2_with fail
  refine q.out.mono ?_;rintro e v ⟨rfl,g⟩;have b:Hid (Below w.heap.size w v):=zh (by rw[g];exact r.out);clear g
  go_wp2_with fail
  refine(Tryz.strconv_toError_range ⟨#[80,97,114,115,101,85,105,110,116]⟩ s 10 62 ev2 _ (by omega) (j.out _ b.out) o).mono ?_;rintro e z ⟨N,rfl,A,B,t⟩;have k:Hid (Below w.heap.size w z):=zh (b.out.trans (t.mono b.out.size));clear A B t
  go_wp2
  go_ret2;exact⟨⟨4611686018427387903,_,rfl,by omega,.inr ⟨(λn h=>by cases h),_,_,rfl⟩⟩,k.out⟩
 |_=>
  rw[i]at a;have a:Calls prog 144 #[.string s,.int .i64 10,.int .i64 62] w λe w'=>e=.returned (.tuple #[.int .u64 0,.iface 245 (.int .i64 2)])/\w'=Lib.bytesWorld w 5 s:=a;have q:=zh a;have r:=zh c;have j: ∀W,Below w.heap.size w W->W.cell? ⟨4,0,none⟩=some ev1:=λW h=>(h.cell (p:=⟨4,0,none⟩) (by show 4<_;omega)).trans d;have j:=zh j;clear a i c d f
  go_enter func111,ntmps111
  go_wp2_with fail
  refine q.out.mono ?_;rintro e v ⟨rfl,g⟩;have b:Hid (Below w.heap.size w v):=zh (by rw[g];exact r.out);clear g
  go_wp2_with fail
  refine(Tryz.strconv_toError_syntax ⟨#[80,97,114,115,101,85,105,110,116]⟩ s 10 62 ev1 _ (by omega) (j.out _ b.out) m).mono ?_;rintro e z ⟨N,rfl,A,B,t⟩;have k:Hid (Below w.heap.size w z):=zh (b.out.trans (t.mono b.out.size));clear A B t
  go_wp2
  go_ret2;exact⟨⟨0,_,rfl,by omega,.inr ⟨(λn h=>by cases h),_,_,rfl⟩⟩,k.out⟩
end
section
open Go.Shelf
def ziQ:Bs:=[97,98,99,100,101,102,103,104,105,106,107,108,109,110,111,112,113,114,115,116,117,118,119,120,121,122,95,48,49,50,51,52,53,54,55,56,57]
def zkq:Bs:=[97,98,99,100,101,102,103,104,105,106,107,108,109,110,111,112,113,114,115,116,117,118,119,120,121,122,95]
def zkj:Bs:=[48,49,50,51,52,53,54,55,56,57]
def zkl:Bs:=[32,10,9]
theorem ZJ(l:Bs)(p:UInt8->Bool)(h: ∀n:Fin 256,l.contains (UInt8.ofFin n)=p (UInt8.ofFin n))(c:UInt8):l.contains c=p c:=by
 have:=h c.toFin;simpa using this
theorem zbr(c:UInt8):ziQ.contains c=T0 c:=ZJ _ _ (by decide+kernel) c
theorem ze6(c:UInt8):zkq.contains c=xY c:=ZJ _ _ (by decide+kernel) c
theorem zeO(c:UInt8):zkj.contains c=qm c:=ZJ _ _ (by decide+kernel) c
theorem zff(c:UInt8):zkl.contains c=qD c:=ZJ _ _ (by decide+kernel) c
theorem qj(p:UInt8->Bool)(l:Bs):l.dropWhile p=[]↔l.all p=true:=by
 induction l with
 |nil=>simp
 |cons c l a=>
  cases h:p c
  ·simp[h]
  ·simp[h,a]
theorem zca(l b:Bs):(Lib.trimS l b).isEmpty=l.all (b.contains ·):=by
 rw[F8,List.isEmpty_iff];unfold Lib.trimS Lib.trimLeftS Lib.trimRightS;rw[qj];constructor
 ·intro h
  rw[List.all_reverse]at h
  by_cases d:l.reverse.dropWhile (b.contains ·)=[]
  ·rw[qj,List.all_reverse]at d;exact d
  ·exfalso
   rcases c:l.reverse.dropWhile (b.contains ·)with _|⟨a,r⟩
   ·exact d c
   ·have e:=List.head_dropWhile_not (λx=>b.contains x) (l:=l.reverse) (by rw[c];simp)
    simp only[c,List.head_cons]at e;rw[c]at h;simp only[List.all_cons,F4]at h;rw[h.1]at e;simp at e
 ·intro h
  have:l.reverse.dropWhile (b.contains ·)=[]:=by rw[qj,List.all_reverse];exact h
  rw[this];rfl
theorem zg6(s a:ByteArray)(w:World)(hs:s.size<=9223372036854775807)(c:a.size<4294967281)(d: ∀(j:Nat) b,a.data.toList[j]?=some b->b.toNat<128):
 Calls prog 142 #[.string s,.string a] w λe w'=>e=.returned (.string ⟨(Lib.trimS s.data.toList a.data.toList).toArray⟩)/\Below w.heap.size w w':=
 Any.strings_Trim_laid Tryz.lays160 (by kernel_rfl) s a w hs c d
theorem zaB(s a:ByteArray)(w:World)(c:a.size<4294967281)(d: ∀(j:Nat) b,a.data.toList[j]?=some b->b.toNat<128):
 Calls prog 108 #[.string s,.string a] w λe w'=>e=.returned (.string ⟨(Lib.trimLeftS s.data.toList a.data.toList).toArray⟩)/\Below w.heap.size w w':=
 Any.strings_TrimLeft_laid Tryz.lays161 (by kernel_rfl) s a w c d
theorem zhu(s a:ByteArray)(t:Bool)(w:World)(hs:s.size<=9223372036854775807)(c:a.size<4294967281)(f: ∀(j:Nat) b,a.data.toList[j]?=some b->b.toNat<128)
 (d:s.data.toList.all (a.data.toList.contains ·)=t):
 Calls prog 109 #[.string s,.string a] w λe w'=>e=.returned (.bool t)/\Below w.heap.size w w':=by
 have H:=zh (zg6 s a w hs c f);have g:Hid ((Lib.trimS s.data.toList a.data.toList).isEmpty=t):=zh (by rw[zca];exact d);clear f d c
 go_enter func109,ntmps109
 go_wp2_with fail
 refine H.out.mono ?_;rintro e w' ⟨rfl,h⟩;have d:=g.out;generalize Lib.trimS s.data.toList a.data.toList=y at d|-
 go_wp2_with fail
 go_ret;exact⟨rfl,h⟩
theorem jp(s:ByteArray)(k:Nat):(s.extract k s.size).data.toList=s.data.toList.drop k:=by
 rw[qc,List.take_of_length_le (by simp)]
theorem ze3(s:ByteArray)(k:Nat)(h:k<s.size):((s.extract k s.size).extract 0 1).data.toList=[s[k]]:=by
 rw[qc,jp,List.drop_zero,jI s k h];rfl
theorem XN(s:ByteArray)(k m:Nat):((s.extract k s.size).extract 0 m).data.toList=(s.data.toList.drop k).take m:=by
 rw[qc,jp,List.drop_zero];rfl
theorem Xj(s:ByteArray)(k m:Nat):(s.extract k s.size).extract 0 m=s.extract k (k+m):=by
 apply ByteArray.ext;apply Array.ext';rw[XN,qc];congr 1;omega
theorem zc4(s:ByteArray)(k:Nat)(h:k<s.size)(a:ByteArray)(p:UInt8->Bool)(t:Bool)(w:World)(d:a.size<4294967281)(f: ∀(j:Nat) b,a.data.toList[j]?=some b->b.toNat<128)
 (g: ∀c,a.data.toList.contains c=p c) (i:p s[k]=t):
 Calls prog 109 #[.string ((s.extract k s.size).extract 0 1),.string a] w λe w'=>e=.returned (.bool t)/\Below w.heap.size w w':=
 zhu _ a t w (by simp;omega) d f (by rw[ze3 s k h];simp only[List.all_cons,List.all_nil,Bool.and_true];exact(g _).trans i)
theorem ziW(s:ByteArray)(k:Nat)(h:k<s.size)(t:Bool)(w:World)(a:qD s[k]=t):
 Calls prog 109 #[.string ((s.extract k s.size).extract 0 1),.string ⟨#[32,10,9]⟩] w λe w'=>e=.returned (.bool t)/\Below w.heap.size w w':=
 zc4 s k h _ qD t w (by decide) (ascii_of_all (by decide)) zff a
theorem zjg(s:ByteArray)(k:Nat)(h:k<s.size)(t:Bool)(w:World)(a:qm s[k]=t):
 Calls prog 109 #[.string ((s.extract k s.size).extract 0 1),.string ⟨#[48,49,50,51,52,53,54,55,56,57]⟩] w λe w'=>e=.returned (.bool t)/\Below w.heap.size w w':=
 zc4 s k h _ qm t w (by decide) (ascii_of_all (by decide)) zeO a
theorem zdM(p:UInt8->Bool)(l:Bs):(l.dropWhile p).length+L1 p l=l.length:=by
 unfold L1
 induction l with
 |nil=>rfl
 |cons c l a=>cases h:p c<;>simp[h];omega
theorem zat(p q:UInt8->Bool)(h: ∀c,p c=q c)(l:Bs):l.dropWhile p=l.dropWhile q:=by
 have:p=q:=funext h;rw[this]
theorem ziZ(s:ByteArray)(k:Nat)(w:World):
 Calls prog 108 #[.string (s.extract k s.size),.string ⟨#[97,98,99,100,101,102,103,104,105,106,107,108,109,110,111,112,113,114,115,116,117,118,119,120,121,122,95,48,49,50,51,52,53,54,55,56,57]⟩] w λe w'=>(∃y:ByteArray,e=.returned (.string y)/\y.size+L1 T0 (s.data.toList.drop k)=s.size-k)/\Below w.heap.size w w':=by
 refine(zaB _ _ w (by decide) (ascii_of_all (by decide))).mono ?_;rintro e w' ⟨rfl,b⟩;refine⟨⟨_,rfl,?_⟩,b⟩;have c:(Lib.trimLeftS (s.extract k s.size).data.toList ziQ)=(s.data.toList.drop k).dropWhile T0:=by
  rw[jp];exact zat _ _ zbr _
 have a:=zdM T0 (s.data.toList.drop k);rw[<-c,I6,P7]at a;exact a
theorem zaY(x:ByteArray)(t:Bool)(w:World)(hx:x.data.toList.all T0=true)(a:zX x.data.toList=t)(b:U8 w):
 Calls prog 113 #[.string ⟨#[32,102,117,110,32,108,101,116,32,105,102,32,101,108,115,101,32,119,104,105,108,101,32,114,101,116,117,114,110,32,121,105,101,108,100,32,116,114,117,101,32,102,97,108,115,101,32,105,110,116,32,98,111,111,108,32]⟩,.string (⟨#[32]⟩++x++⟨#[32]⟩)] w λe w'=>e=.returned (.bool t)/\w=w':=by
 refine(Zy _ x w (by decide) b).mono ?_;rintro e w' ⟨rfl,rfl⟩;refine⟨?_,rfl⟩;rw[<-a,<-Ji _ hx];rfl
end
end Go.Proofs.YtalgmjmibamdfaaGreatDoor
namespace Go.Proofs.YtalgmjmibamdfaaGreatDoor
namespace Tw
def dv(a:Nat)(c:UInt8):Nat:=a*10+(c.toNat-48)
theorem XL(c:UInt8)(h:qm c=true):48<=c.toNat/\c.toNat<=57:=by simpa[qm]using h
theorem zdL(l:Bs): ∀a,l.all qm=true->(a+1)*10^l.length<=10^12->Lib.parseUintM 4611686018427387903 a l=.ok (l.foldl dv a):=by
 induction l with
 |nil=>intro a _ _;rfl
 |cons c l g=>
  intro a h f;simp only[List.all_cons,F4]at h;obtain⟨i,j⟩:=XL c h.1;have k:1<=10^l.length:=Nat.pos_of_ne_zero (by simp);have b:(a+1)*10*10^l.length<=10^12:=by
   rw[z7,Nat.pow_succ]at f
   calc(a+1)*10*10^l.length=(a+1)*(10^l.length*10):=by rw[Nat.mul_assoc,Nat.mul_comm 10]
    _<=_:=f
  have d:(a+1)*10<=10^12:=C4 (Nat.le_mul_of_pos_right _ k) b;have e:(10:Nat)^12=1000000000000:=by decide
  rw[e]at d;have m: ¬1844674407370955162<=a:=by omega
  have n: ¬4611686018427387903<a*10+(c.toNat-48):=by omega
  simp only[Lib.parseUintM,i,j,and_self,if_true,m,n,if_false,List.foldl_cons];refine g _ h.2 (C4 (G6 _ ?_) b);omega
theorem zeR(l:Bs): ∀a,a<=l.foldl dv a:=by
 induction l with
 |nil=>intro a;exact y6 _
 |cons c l b=>intro a;exact C4 (by unfold dv;omega) (b (dv a c))
theorem zcX(l:Bs)(h:l≠[])(a:l.all qm=true)(b:l.headD 0≠48):1<=l.foldl dv 0:=by
 cases l with
 |nil=>exact I2 rfl h
 |cons c l=>
  simp only[List.all_cons,F4]at a;obtain⟨d,f⟩:=XL c a.1;have g:c.toNat≠48:=λe=>b (UInt8.toNat_inj.1 e);refine C4 ?_ (zeR l (dv 0 c));unfold dv;omega
theorem JH(c:UInt8)(h:qm c=true):UInt8.ofNat (48+(c.toNat-48))=c:=by
 obtain⟨a,b⟩:=XL c h;rw[show 48+(c.toNat-48)=c.toNat by omega];simp
theorem zdN: ∀(n:Nat)(l:Bs),l.length=n->l≠[]->l.all qm=true->(l.length=1\/l.headD 0≠48)->Lib.decDigits (l.foldl dv 0)=l:=by
 intro n
 induction n with
 |zero=>intro l k o;exact I2 (I3 k) o
 |succ n p=>
  intro l q e d f;obtain⟨b,c,rfl⟩: ∃b c,l=b++[c]:=⟨l.dropLast,l.getLast e,(List.dropLast_concat_getLast e).symm⟩;rw[List.all_append]at d;simp only[List.all_cons,List.all_nil,Bool.and_true,F4]at d;obtain⟨t,k⟩:=XL c d.2;rw[List.foldl_append];simp only[List.foldl_cons,List.foldl_nil]
  by_cases g:b=[]
  ·subst g
   simp only[List.foldl_nil,C0,dv];rw[Lib.decDigits_one (by omega),Nat.zero_mul,Nat.zero_add,JH c d.2]
  ·have j:b.length=n:=by simpa using q
   have m:0<b.length:=List.length_pos_iff.2 g;have h:b.headD 0≠48:=by
    rcases f with f|f
    ·rw[z9,List.length_singleton]at f;omega
    ·cases b with
     |nil=>exact I2 rfl g
     |cons a r=>simpa using f
   have s:=zcX b g d.1 h;have i:=p b j g d.1 (.inr h);generalize b.foldl dv 0=v at s i;unfold dv;rw[Lib.decDigits,dif_neg (by omega),show(v*10+(c.toNat-48))/10=v by omega,show(v*10+(c.toNat-48))%10=c.toNat-48 by omega,i,JH c d.2]
theorem zeE: ∀(n u:Nat),u<=n->(Lib.decDigits u).all qm=true/\Lib.decDigits u≠[]/\(1<=u->(Lib.decDigits u).headD 0≠48):=by
 intro n
 induction n with
 |zero=>
  intro u g;obtain rfl:u=0:=by omega
  rw[Lib.decDigits_one (by omega)];exact⟨by decide,by simp,λh=>by omega⟩
 |succ n i=>
  intro u g
  by_cases b:u<10
  ·rw[Lib.decDigits_one b]
   have e:(UInt8.ofNat (48+u)).toNat=48+u:=by simp;omega
   refine⟨?_,by simp,λh=>?_⟩
   ·simp[qm];omega
   ·intro c
    have:(UInt8.ofNat (48+u)).toNat=48:=by simpa using I1 UInt8.toNat c
    omega
  ·rw[Lib.decDigits,dif_neg b]
   obtain⟨j,c,k⟩:=i (u/10) (by omega);have e:(UInt8.ofNat (48+u%10)).toNat=48+u%10:=by simp;omega
   refine⟨?_,by simp,λ_=>?_⟩
   ·rw[List.all_append,j];simp[qm];omega
   ·have d:=k (by omega)
    cases f:Lib.decDigits (u/10)with
    |nil=>exact I2 f c
    |cons a r=>rw[f]at d;simpa using d
theorem xB(l:Bs)(h:U4 l=true):l.length<=12/\(l.length<=1\/l.headD 0≠48)/\l.all qm=true:=by
 simp only[U4,F4,F2,Bool.not_eq_true',Bool.and_eq_false_iff,decide_eq_false_iff_not]at h;obtain⟨⟨b,a⟩,c⟩:=h;refine⟨b,?_,c⟩
 rcases a with a|a
 ·exact .inl (by omega)
 ·exact .inr (by simpa using a)
theorem zdY(l:Bs)(a:l≠[])(h:U4 l=true): ∃u,Lib.parseUintM 4611686018427387903 0 l=.ok u/\Lib.decDigits u=l:=by
 obtain⟨e,b,c⟩:=xB l h;have d:0<l.length:=List.length_pos_iff.2 a;refine⟨_,zdL l 0 c (by rw[Nat.zero_add,Nat.one_mul];exact Nat.pow_le_pow_right (by omega) e),zdN _ l rfl a c ?_⟩
 rcases b with b|b
 ·exact .inl (by omega)
 ·exact .inr b
theorem zhJ(u:Nat)(h:(Lib.decDigits u).length<=12):U4 (Lib.decDigits u)=true:=by
 obtain⟨a,e,b⟩:=zeE u u (y6 _);have c:(decide (1<(Lib.decDigits u).length)&&(Lib.decDigits u).headD 0==48)=false:=by
  by_cases d:1<=u
  ·have:((Lib.decDigits u).headD 0==48)=false:=by rw[B0];exact b d
   rw[this,Bool.and_false]
  ·obtain rfl:u=0:=by omega
   rw[Lib.decDigits_one (by omega)];rfl
 simp only[U4,a,c,Bool.not_false,Bool.and_true,F2];exact h
end Tw
end Go.Proofs.YtalgmjmibamdfaaGreatDoor
