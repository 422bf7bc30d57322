/- Merged. -/
import Derived.Test.YtalgmjmibamdfaaGreatDoorVS21b
set_option linter.all false
set_option maxHeartbeats 16000000
set_option maxRecDepth 100000
namespace Go.Proofs.YtalgmjmibamdfaaGreatDoor
open Go.RowKit Tw
def nW:List Pc->Nat
 |[]=>0
 |.sp _::l=>nW l
 |.w _ _::l=>nW l+1
theorem X0: ∀(a b:List Pc),nW (a++b)=nW a+nW b
 |[],b=>by simp[nW]
 |.sp _::l,b=>by simp only[z9,nW];exact X0 l b
 |.w _ _::l,b=>by simp only[z9,nW,X0 l b];omega
section
variable {ws:List Wd}{en i:Nat}{l:List Pc}{c:Nat}{t:Bs}
theorem qx.sp{b:UInt8}(h:qx ws i (.sp b::l)):qx ws i l:=h
theorem qx.w(h:qx ws i (.w c t::l)):(∃k,ws[i]?=some ⟨c,⟨t.toArray⟩,k⟩)/\qx ws (i+1) l:=by
 unfold qx at h|-
 simp only[ktP]at h;cases a:ws.drop i with
 |nil=>rw[a]at h;cases h
 |cons x r=>
  rw[a]at h;simp only[ktW,List.map_cons]at h;injection h with b d
  injection b with b e
  refine⟨⟨x.pos,?_⟩,?_⟩
  ·have:=G4 List.head? a
   rw[List.head?_drop]at this;rw[this,<-b,<-e];rfl
  ·rw[<-List.drop_drop,a];exact d
theorem qx.start(l:List Pc)(k:Nat):qx (Qx l k) 0 l:=JB l k
theorem qz{k:Nat}(h:ws[i]?=some ⟨c,⟨t.toArray⟩,k⟩):N3 ws i=c:=by unfold N3;rw[h]
theorem V9{k:Nat}(h:ws[i]?=some ⟨c,⟨t.toArray⟩,k⟩):K4 ws i=⟨t.toArray⟩:=by unfold K4;rw[h]
theorem Xi{k:Nat}(h:ws[i]?=some ⟨c,⟨t.toArray⟩,k⟩):W5 ws i=lv t:=by unfold W5;rw[h]
theorem zas{k:Nat}(s:Bs)(h:ws[i]?=some ⟨c,⟨t.toArray⟩,k⟩):K6 ws i ⟨s.toArray⟩=(t==s):=by
 unfold K6;rw[h];simp only[C4]
theorem De.yI{x:Ex}{j L:Nat}(h:De ws en (.jG L i) (.ex x j))(g:L<=6): ∀(n:Nat),n<=L->(∀m,n<=m->m<L->W5 ws j≠m)->De ws en (.jG n i) (.ex x j):=by
 have b: ∀q n,n+q=L->(∀m,n<=m->m<L->W5 ws j≠m)->De ws en (.jG n i) (.ex x j):=by
  intro q
  induction q with
  |zero=>
   intro n d _;obtain rfl:n=L:=by omega
   exact h
  |succ q e=>intro n d a;exact .up (by omega) (e (n+1) (by omega) (λm o f=>a m (by omega) f)) (a n (x6 _) (by omega))
 exact λn d a=>b (L-n) n (by omega) a
theorem qA{k:Nat}{s:Bs}(h:ws[i]?=some ⟨c,⟨t.toArray⟩,k⟩)(a:(t==s)=false):K6 ws i ⟨s.toArray⟩=false:=by rw[zas _ h,a]
theorem N8{k:Nat}(h:ws[i]?=some ⟨c,⟨t.toArray⟩,k⟩):K6 ws i ⟨t.toArray⟩=true:=by rw[zas _ h];simp
end
section
variable {ws:List Wd}
theorem qx.skip: ∀(a:List Pc){b:List Pc}{i:Nat},qx ws i (a++b)->qx ws (i+nW a) b
 |[],b,i,h=>h
 |.sp _::l,b,i,h=>qx.skip l h.sp
 |.w _ _::l,b,i,h=>by
  have:=qx.skip l h.w.2;rw[show i+1+nW l=i+(nW l+1) by omega]at this;exact this
end
theorem zb9(s:ByteArray):(⟨s.data.toList.toArray⟩:ByteArray)=s:=by cases s;simp
def hqT(c:Nat)(t:Bs):Nat:=
 if t==[45]then 1 else if t==[33]then 2 else if t==[40]then 3 else if t==[116,114,117,101]then 4 else if t==[102,97,108,115,101]then 5 else if t==[64]then 6
 else if c=1 then 7 else if c=2 then 8 else 0
def hsT(c:Nat)(t:Bs)(e:Bool):Nat:=
 if t==[108,101,116]then 1 else if t==[105,102]then 3 else if t==[119,104,105,108,101]then 4 else if t==[114,101,116,117,114,110]then 5 else if t==[121,105,101,108,100]then 6
 else if c=2/\e=true then 2 else 7
section
variable {ws:List Wd}{i c k:Nat}{t:Bs}
theorem qg(h:ws[i]?=some ⟨c,⟨t.toArray⟩,k⟩):Q9 ws i=hqT c t:=by
 unfold Q9 hqT;rw[show Ju=⟨([45]:Bs).toArray⟩ from rfl,show zau=⟨([33]:Bs).toArray⟩ from rfl,show qZ=⟨([40]:Bs).toArray⟩ from rfl,show zcy=⟨([116,114,117,101]:Bs).toArray⟩ from rfl,show YB=⟨([102,97,108,115,101]:Bs).toArray⟩ from rfl,show zcX=⟨([64]:Bs).toArray⟩ from rfl];simp only[zas _ h,qz h]
theorem ZR(h:ws[i]?=some ⟨c,⟨t.toArray⟩,k⟩):P9 ws i=hsT c t (K6 ws (i+1) XZ):=by
 unfold P9 hsT;rw[show zfo=⟨([108,101,116]:Bs).toArray⟩ from rfl,show sIf=⟨([105,102]:Bs).toArray⟩ from rfl,show Yu=⟨([119,104,105,108,101]:Bs).toArray⟩ from rfl,show Ji=⟨([114,101,116,117,114,110]:Bs).toArray⟩ from rfl,show Yj=⟨([121,105,101,108,100]:Bs).toArray⟩ from rfl];simp only[zas _ h,qz h]
theorem ya{s:Bs}(h:L9 t=true)(hs:L9 s=false):(t==s)=false:=by
 rw[y8];rintro rfl;rw[h]at hs;cases hs
theorem zaF(h:L9 t=true):hqT 2 t=8:=by simp(disch:=decide) [hqT,ya h]
theorem YP(h:L9 t=true)(e:Bool):hsT 2 t e=if e=true then 2 else 7:=by simp(disch:=decide) [hsT,ya h]
end
def pq:List ByteArray:=[⟨#[112]⟩,⟨#[113]⟩]
def zbA(j:Nat)(g:GL)(x:GE):ByteArray:=⟨#[102,117,110,32,102]⟩++jo j++⟨#[40,112,58,32,105,110,116,44,32,113,58,32,105,110,116,41,58,32,105,110,116,32,123,32]⟩++g.O4++⟨#[114,101,116,117,114,110,32]⟩++x.O4++⟨#[59,32,125,10]⟩
def jM:Nat->List (GL×GE)->ByteArray
 |_,[]=>⟨#[]⟩
 |j,(g,x)::r=>zbA j g x++jM (j+1) r
theorem ZD(g:GL)(x:GE): ∀(fs:List (GL×GE))(j:Nat),jM j (fs++[(g,x)])=jM j fs++zbA (j+fs.length) g x:=by
 intro fs
 induction fs with
 |nil=>intro j;simp only[B4,jM,zV,Xf,y9,Nat.add_zero]
 |cons a fs b=>
  obtain⟨c,d⟩:=a;intro j;simp only[z9,jM,b,ByteArray.append_assoc,y6];rw[show j+1+fs.length=j+(fs.length+1) by omega]
inductive jR(N:Nat):Nat->Nat->List (GL×GE)->Nat->Nat->Prop
 |nil {i:Nat}:jR N 0 i [] 0 i
 |jB {j i m1 i1 m2 i2 i3:Nat} {fs:List (GL×GE)} {g:GL} {x:GE}:jR N j i fs m1 i1->QB N j 2 ⟨pq,m1,i1⟩ g ⟨pq,m2,i2⟩->ze N pq j 2 i2 x i3->jR N (j+1) i (fs++[(g,x)]) m2 i3
theorem jR.xy{N j i m a:Nat}{fs:List (GL×GE)}(h:jR N j i fs m a):fs.length=j:=by
 induction h with
 |nil=>rfl
 |jB _ _ _ b=>simp[b]
def yT(fs:List (GL×GE))(g:GL)(x:GE):ByteArray:=jM 0 fs++⟨#[102,117,110,32,109,97,105,110,40,41,58,32,105,110,116,32,123,32]⟩++g.O4++⟨#[114,101,116,117,114,110,32]⟩++x.O4++⟨#[59,32,125]⟩
def qV(k N:Nat)(t:ByteArray):Prop:= ∃(a:List (GL×GE))(g:GL)(x:GE)(b c d f e h:Nat),N<=60/\Nx N 3 0 k b/\jR N k b a c d/\QB N k 3 ⟨[],c,d⟩ g ⟨[],f,e⟩/\ze N [] k 2 e x h/\t=yT a g x
def Jt(N:Nat)(t:ByteArray):Prop:= ∃k:Nat,qV k N t
theorem zeC:xq pq:=by intro s a;simp only[pq,D9,List.mem_nil_iff,or_false]at a;rcases a with rfl|rfl<;>decide
end Go.Proofs.YtalgmjmibamdfaaGreatDoor
