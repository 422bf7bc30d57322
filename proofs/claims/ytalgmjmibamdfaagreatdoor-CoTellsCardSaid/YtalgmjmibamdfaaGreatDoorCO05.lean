/- Merged. -/
import Derived.Test.YtalgmjmibamdfaaGreatDoorCO04
set_option linter.all false
set_option maxHeartbeats 16000000
set_option maxRecDepth 100000
namespace Go.Proofs.YtalgmjmibamdfaaGreatDoor
open Go.Proofs.Tryz
open Go.RowKit Tw
def zhP(p:Bool)(c:Cx)(f:Nat)(a:Array Value)(s:Sm)(i j:Nat):Prop:=
 ∀w,Rd p c w i->U2 w->Calls prog f a w λe b=> ∃d h k l m o,e=.returned (.agg #[.int .i64 s.N4,.string s.L6,.int .i64 s.a.N4,.int .i64 s.a.n,.string s.a.O9,.slice d s.a.args.length h,.int .i64 s.a.pos,.slice k s.J7.length l,.slice m s.Q7.length o,.int .i64 s.pos])/\
  (∀t∈jv.qE (s,.slice d s.a.args.length h,.slice k s.J7.length l,.slice m s.Q7.length o),t.At b λg=>w.heap.size<=g)/\Rd p c b j/\w.grownBy b (some c.rb)
def zee(p:Bool)(c:Cx)(i:Nat):Prop:= ∀s j,Ds c.ws c.en (.XW i) (.st s j)->zhP p c (bif p then 125 else 117) #[.pointer (some ⟨c.rb,0,none⟩)] s i j
def zbS(p:Bool)(c:Cx)(i:Nat):Prop:= ∀l j,Ds c.ws c.en (.block i) (.Jf l j)->zdh p c (bif p then 94 else 70) #[.pointer (some ⟨c.rb,0,none⟩)] (λv=>v) (.s l) l.length i j
section
variable {p:Bool}{c:Cx}{w w0:World}{i j:Nat}{os:List Ob}{ps:List zU}
theorem Fr.zjA{ts:List zU}{w':World}(h:Fr p c w0 w i os ps)(d:Rd p c w' j)(e:w.grownBy w' (some c.rb))(b: ∀t∈ts,t.At w' λg=>w.heap.size<=g):Fr p c w0 w' j os (ts++ps):=by
 induction ts with
 |nil=>exact h.jN d e
 |cons t ts f=>
  refine{f λs a=>b s (y4 _ a)with pt:=λs a=>?_}
  rcases List.mem_cons.1 a with rfl|a
  ·exact(h.add d e (b _ (B2 ..))).pt _ (B2 ..)
  ·exact(f λs a=>b s (y4 _ a)).pt s a
theorem Fr.cs{f:Nat}{a:Array Value}{s:Sm}{Q:Ending->World->Prop}(h:Fr p c w0 w i os ps)(g:zhP p c f a s i j)
 (k: ∀Aa b d l m o w',Hid (Fr p c w0 w' j os (jv.qE (s,.slice Aa s.a.args.length b,.slice d s.J7.length l,.slice m s.Q7.length o)++ps))->Q (.returned (.agg #[.int .i64 s.N4,.string s.L6,.int .i64 s.a.N4,.int .i64 s.a.n,.string s.a.O9,.slice Aa s.a.args.length b,.int .i64 s.a.pos,.slice d s.J7.length l,.slice m s.Q7.length o,.int .i64 s.pos])) w'):Calls prog f a w Q:=
 (g w h.rd h.gl).mono λ_ w' ⟨Aa,b,d,l,m,o,e,q,r,t⟩=>e▸k Aa b d l m o w' (h.zjA r t q)
end
def onS:Qs->Rs->Prop
 |.XW i,.st _ j=>i<j
 |.block i,.Jf _ j=>i<j
 |.Zg i,.Jf _ j=>i<j
 |_,_=>True
theorem Ds.on{ws:List Wd}{en:Nat}{q:Qs}{r:Rs}(h:Ds ws en q r):onS q r:=by
 induction h with
 | @simp i j x _ _ _ h _=>
   have:=h.on;simp only[onS,JW]at*;unfold jF at this;repeat' split at this
   all_goals omega
 |zhY _ h _ d=>have:=h.on;simp only[onS,JW]at*;omega
 |ifE _ h _ _ _ _ a b=>have:=h.on;simp only[onS,JW]at*;omega
 | @block i r _ _ d=>cases r<;>simp only[onS]at* <;>omega
 |done _=>simp only[onS];omega
 |Zf _ _ _ a b=>simp only[onS]at*;omega
theorem yo:(Tryz.prog.info? 174).map (·.size)=some 10:=by kernel_rfl
def kwL:List ByteArray:=[zhi,T3,sIf,zav,JX,zaM]
def nk:Nat->Nat
 |1=>0|3=>2|4=>3|5=>4|6=>5|_=>6
theorem xE{ws:List Wd}{i k:Nat}(h:R7 ws i=k):(∀s:ByteArray,s.data∈(kwL.take (nk k)).map (·.data)->s.data≠ #[]->M0 ws i s=false)/\(∀s,kwL[nk k]?=some s->M0 ws i s=true)/\(k=2->O8 ws i=2/\M0 ws (i+1) sEq=true)/\(k=7->O8 ws i=2->M0 ws (i+1) sEq=false)/\(k=1\/k=2\/k=3\/k=4\/k=5\/k=6\/k=7):=by
 have b: ∀{s:ByteArray}{l:List ByteArray},s.data∈l.map (·.data)->s∈l:=λh=>by obtain⟨t,d,f⟩:=List.mem_map.1 h;cases t;cases f;exact d
 have a:(∀s∈kwL.take (nk k),s≠T3->M0 ws i s=false)/\(∀s,kwL[nk k]?=some s->M0 ws i s=true)/\(k=2->O8 ws i=2/\M0 ws (i+1) sEq=true)/\(k=7->O8 ws i=2->M0 ws (i+1) sEq=false)/\(k=1\/k=2\/k=3\/k=4\/k=5\/k=6\/k=7):=by
  clear b;unfold R7 at h
  repeat' split at h
  all_goals(subst h;simp_all[kwL,nk])
 exact⟨λs g m=>a.1 s (b g) λe=>m (e▸rfl),a.2⟩
def exK(k i:Nat):Nat:=match k with|1=>i+3|2=>i+2|7=>i|_=>i+1
def nmK(ws:List Wd)(k i:Nat):ByteArray:=match k with|1=>L7 ws (i+1)|2=>L7 ws i|_=>T3
theorem Ds.kd{ws:List Wd}{en i j k:Nat}{s:Sm}(h:Ds ws en (.XW i) (.st s j))(g:R7 ws i=k): ∃x e,De ws en (.xg 1 (exK k i)) (.ex x e)/\i+1<ws.length/\(k=1->O8 ws (i+1)=2/\M0 ws (i+2) sEq=true)/\
 ((k≠3/\k≠4/\M0 ws e zcL=true/\j=e+1/\s=.mk k (nmK ws k i) x [] [] (N2 ws i en))\/(k=4/\ ∃l,Ds ws en (.block e) (.Jf l j)/\s=.mk 4 T3 x l [] (N2 ws i en))\/
   (k=3/\ ∃l m f,Ds ws en (.block e) (.Jf l f)/\M0 ws f zdD=true/\M0 ws (f+1) sIf=false/\Ds ws en (.block (f+1)) (.Jf m j)/\s=.mk 3 T3 x l m (N2 ws i en))):=by
 have n:=(xE g).2.2.2.2;have q:jF ws i=exK k i/\xe ws i=nmK ws k i/\i<=exK k i:=by
  subst g;unfold jF xe exK nmK;generalize R7 ws i=k at*
  rcases n with rfl|rfl|rfl|rfl|rfl|rfl|rfl
  all_goals simp
 have t: ∀{e r},Ds ws en (.block e) r->e<ws.length:=λh=>by cases h with|block h _=>exact JY h
 cases h with
 |simp v y z h u=>
  have:=h.on;simp only[JW]at this;have:=JY u;subst g;rw[q.1]at h;exact⟨_,_,h,by omega,z,.inl ⟨v,y,u,rfl,by rw[q.2.1]⟩⟩
 |zhY A h d=>
  obtain rfl:k=4:=by omega
  have:=h.on;simp only[JW]at this;have:=t d;exact⟨_,_,h,by omega,by simp,.inr (.inl ⟨rfl,_,d,rfl⟩)⟩
 |ifE A h d a b o=>
  obtain rfl:k=3:=by omega
  have:=h.on;simp only[JW]at this;have:=t d;exact⟨_,_,h,by omega,by simp,.inr (.inr ⟨rfl,_,_,_,d,a,b,o,rfl⟩)⟩
theorem hs7{ws:List Wd}{i k:Nat}(h:R7 ws i=k):((k=2\/k=7)/\(((O8 ws i:Nat):Int)==2)=true/\((L7 ws (i+1)).toList==[61])=(k==2))\/(k=7/\(((O8 ws i:Nat):Int)==2)=false)\/k≠2/\k≠7:=by
 have e:M0 ws (i+1) sEq=((L7 ws (i+1)).toList==[61]):=by
  rw[Jz (by decide),show sEq.toList=[61] from by simp[sEq,E0]<;>rfl]
 rw[<-e];obtain⟨-,-,d,g,-⟩:=xE h
 by_cases b:k=2
 ·obtain⟨l,d⟩:=d b
  exact .inl ⟨.inl b,by simp[l],by simp[d,b]⟩
 by_cases a:k=7
 ·by_cases f:O8 ws i=2
  ·exact .inl ⟨.inr a,by simp[f],by simp[g a f,a]⟩
  ·exact .inr (.inl ⟨a,by simp;omega⟩)
 exact .inr (.inr ⟨b,a⟩)
theorem JB{w:World}{F:Nat->Prop}{s:Sm}{b d e:Value}(g:O2 w F b s.a.args)(h:N0 w F d s.J7)(k:N0 w F e s.Q7): ∀t∈jv.qE (s,b,d,e),t.At w F:=by
 intro t f;simp only[jv,E7,List.mem_nil_iff,or_false]at f
 rcases f with rfl|rfl|rfl<;>assumption
theorem zgO:R1 prog 89 174 10:=⟨underlying89,by kernel_rfl,by decide⟩
theorem zfy(p:Bool)(c:Cx)(i:Nat)(y:10<c.rb)(d: ∀j,i<j->zee p c j):zbS p c i:=by
 intro L j e w h z;obtain⟨B,e⟩:M0 c.ws i zjl=true/\Ds c.ws c.en (.Zg (i+1)) (.Jf L j):=by cases e with|block d s=>exact⟨d,s⟩
 have b:=zh ((Fr.start h z y).nil 174 10);have E:=zh d;have G:=zh e;have H:=zh B;clear d h z y e B;cases p
 all_goals
  simp only[cond]
  go_in
  go_wp2_with fail
  refine b.out.ca (V9 H.out) ?_;intro M b
  go_wp2_with fail
  go_loopw[3] (λo wr=> ∃(l:List (Sm×Value×Value×Value))(A:Option Addr)(n f:Nat),o=.slice A l.length n/\Hid (Fr _ c w wr f [.r 174 10 (.slice A l.length n) l.length (l.flatMap jv.cells)] (l.flatMap jv.qE))/\Hid (∃m,Ds c.ws c.en (.Zg f) (.Jf m j)/\L=l.map (·.1)++m/\l.length<=f/\i<f))
   (λ_ wr=>c.ws.length-X1 wr c.rb)
  case atStart=>exact⟨[],none,0,i+1,rfl,b,zh ⟨L,G.out,rfl,by simp,by omega⟩⟩
  case round=>
   obtain⟨l,A,n,f,rfl,b,I⟩:=hrel;have u:=b.out.qk;have N:=b.out.rd.pos;have O:=b.out.rd.len;obtain⟨m,e,C,P,v⟩:=I.out;have D:=zh C;clear C
   go_wp2_with fail
   cases e with
   |done k=>
    refine b.out.ca (zm k) ?_;intro w b
    go_wp2_with fail
    go_ret;obtain rfl:L=l.map (·.1):=by simpa using D.out
    have S:=b.out.XY jv λa k t J=>List.mem_flatMap.2 ⟨a,k,J⟩;exact⟨A,n,by simp,by simpa[jv]using S.pp (B2 ..),S.rd,S.gr⟩
   |Zf k d s=>
    have x:=d.on;have q:=s.on;simp only[onS]at x q;refine b.out.ca (zL k) ?_;intro w b;have F:=N6 b.out.rd.K3
    go_wp2_with fail
    refine b.out.cs (E.out _ v _ _ d) ?_;intro Q R T U V W X b
    go_wp2_with((at_builtin;go_must(refine b.out.apl jv (_,_,_,_) zgO rfl _ _ rfl rfl rfl rfl (by simp[jv,XC,Value.oneCell']) (by omega) ?_);intro g K w b))
    go_roundw
    case rel=>exact⟨_,_,_,_,by simp,b,zh ⟨_,s,by simp[D.out],by simp;omega,by omega⟩⟩
    case measure=>have:=b.out.rd.pos;rw[b.out.qk,u];omega
theorem zgR(c:Cx)(i:Nat)(M:10<c.rb)(z: ∀j,QJ c 1 j)(B: ∀j,i<j->zbS false c j):zee false c i:=by
 intro s j N w0 h O;obtain⟨kd,p⟩: ∃kd,R7 c.ws i=kd:=⟨_,rfl⟩;have a:=zh (Fr.start h O M);have H1:=zh z;have Q:=zh B;have t:=zh (xE p);have HD:=zh N;have d:=zh p;clear z B h O M N p;simp only[cond]
 go_in
 go_wp2_with fail
 refine a.out.jt.ca XO ?_;intro F a;generalize w0.heap.size=R at a|-
 go_upto_block 0 with(fail)
 replace a:=zh ((a.out.jt (u:=[.int .i64 7,.string ⟨#[]⟩,.int .i64 0,.int .i64 0,.string ⟨#[]⟩,.slice none 0 0,.int .i64 0,.slice none 0 0,.slice none 0 0,.int .i64 (N2 c.ws i c.en)]) (T:=174)).jt (n:=F.heap.size+1) (u:=[.string ⟨#[108,101,116]⟩,.string ⟨#[]⟩,.string ⟨#[105,102]⟩,.string ⟨#[119,104,105,108,101]⟩,.string ⟨#[114,101,116,117,114,110]⟩,.string ⟨#[121,105,101,108,100]⟩]) (T:=9) (by simp));generalize(World.alloc _ _)=W at a|-
 generalize o:F.heap.size+1=b2 at a|-
 generalize F.heap.size=S at a o|-
 clear o
 rcases t.out.2.2.2.2 with rfl|rfl|rfl|rfl|rfl|rfl|rfl
 all_goals
  go_cut[] (λW=> ∃(k:Int)(G:Nat),Hid (Fr false c w0 W G [.b S [.int .i64 k,.string ⟨#[]⟩,.int .i64 0,.int .i64 0,.string ⟨#[]⟩,.slice none 0 0,.int .i64 0,.slice none 0 0,.slice none 0 0,.int .i64 (N2 c.ws i c.en)] 174,.b R [.int .i64 0,.string ⟨#[]⟩,.int .i64 0,.int .i64 0,.string ⟨#[]⟩,.slice none 0 0,.int .i64 0,.slice none 0 0,.slice none 0 0,.int .i64 0] 174] [])/\k=(if R7 c.ws i=2 then 7 else R7 c.ws i:Nat)/\G=(if nk (R7 c.ws i)=6 then i else i+1))
  case first=>
   go_wp2_with fail
   go_loopw[11] (λk wr=> ∃m:Nat,m<=nk (R7 c.ws i)/\k=.int .i64 m/\Hid (Fr false c w0 wr i [.b b2 [.string ⟨#[108,101,116]⟩,.string ⟨#[]⟩,.string ⟨#[105,102]⟩,.string ⟨#[119,104,105,108,101]⟩,.string ⟨#[114,101,116,117,114,110]⟩,.string ⟨#[121,105,101,108,100]⟩] 9,.b S [.int .i64 7,.string ⟨#[]⟩,.int .i64 0,.int .i64 0,.string ⟨#[]⟩,.slice none 0 0,.int .i64 0,.slice none 0 0,.slice none 0 0,.int .i64 (N2 c.ws i c.en)] 174,.b R [.int .i64 0,.string ⟨#[]⟩,.int .i64 0,.int .i64 0,.string ⟨#[]⟩,.slice none 0 0,.int .i64 0,.slice none 0 0,.slice none 0 0,.int .i64 0] 174] [])) (λk _=>6-(intOf k).toNat)
   case atStart=>exact⟨0,by omega,rfl,a⟩
   case round=>
    obtain⟨m,U,rfl,a⟩:=hrel;rw[d.out]at U;simp only[nk]at U;have C:=a.out.f2;have H:m=0\/m=1\/m=2\/m=3\/m=4\/m=5\/m=6:=by omega
    rcases H with h|h|h|h|h|h|h
    all_goals first
     |(exfalso;omega)
     |go_wp2_with fail
      first
       |refine a.out.ca (zL (t.out.1 _ (by decide) (by decide))) ?_
        intro w a
        go_wp2_with fail
        go_roundw
        case rel=>exact⟨m+1,by rw[d.out,h];decide,by rw[h];rfl,a⟩
        case measure=>simp[intOf,h]
       |refine a.out.ca (zm (t.out.2.1 _ rfl)) ?_
        intro w a;have C:=a.out.f2;have D:=a.out.f 1;have E:=a.out.lt 1
        go_wp2_with fail
        go_meet
        case rel=>exact⟨_,_,zh a.out.drop.st,by rw[d.out];rfl,by rw[d.out];rfl⟩
       |go_roundw
        case rel=>exact⟨m+1,by rw[d.out,h];decide,by rw[h];rfl,a⟩
        case measure=>simp[intOf,h]
       |go_meet
        case rel=>exact⟨_,_,zh a.out.drop,by rw[d.out];rfl,by rw[d.out];rfl⟩
  case rest=>
   obtain⟨k,G,a,p,r⟩:=hcut;rw[d.out]at p r;simp[nk]at p r;rw[p,r]at a;clear p r;obtain⟨x,e,V,I,X,Y⟩:=HD.out.kd d.out;have J:=zh V;have Z:=zh X;have HT:=zh Y;clear V X Y;have C:=a.out.f2
   rcases hs7 d.out with⟨K,z,B⟩|⟨K,z⟩|K
   all_goals first
    |(exfalso;omega)
    |clear K
     first
      |have P:=a.out.zem I
       obtain⟨g,a0,P⟩:=P
       go_wp2_with fail
       go_quiet (fail)
      |go_wp2_with fail
       go_quiet (fail)
     go_wp2_with fail
     replace a:=zh (a.out.drewN (n:=nq))
     first
      |refine a.out.ca (zW 2 (Z.out (by simp)).1) ?_
       intro w a;have C:=a.out.f2
       go_wp2_with fail
       refine a.out.st.ca (V9 (Z.out (by simp)).2) ?_;intro w a
       go_wp2_with fail
      |refine a.out.st.ca (zW 2 (t.out.2.2.1 (by simp)).1) ?_
       intro w a;have C:=a.out.f2
       go_wp2_with fail
       refine a.out.st.ca (V9 (t.out.2.2.1 (by simp)).2) ?_;intro w a
       go_wp2_with fail
      |skip
     refine a.out.cx (H1.out _ _ _ J.out) ?_;intro A n w a;have C:=a.out.f2
     go_wp2_with fail
     rcases HT.out with⟨h3,h4,hs,rfl,rfl⟩|⟨h4,l,L,rfl⟩|⟨h3,l,m,e2,L,ha,r,o,rfl⟩
     all_goals first
      |(exfalso;omega)
      |refine a.out.st.st.st.st.st.ca (V9 hs) ?_
       intro w a;have C:=a.out.f2
       go_wp2_with fail
       (try simp only[Exit.inBlock,Exit.then])
       exact a.out.XU 1 0 rfl rfl rfl rfl rfl underlying174 yo rfl rfl λv y q=>⟨_,_,none,0,none,0,rfl,JB (q _ (.head _)) (.nil _ _) (.nil _ _),v,y⟩
      |refine a.out.st.st.st.st.st.cx (Q.out _ (by have:=J.out.on;simp[JW,exK]at this;omega) _ _ L) ?_
       intro Ab mb w a;have C:=a.out.f2
       go_wp2_with fail
       first
        |(try simp only[Exit.inBlock,Exit.then])
         exact(a.out.st (n:=7) (x:=.slice Ab _ mb)).XU 1 0 rfl rfl rfl rfl rfl underlying174 yo rfl rfl λv y q=>⟨_,_,_,_,none,0,rfl,JB (q _ (.tail _ (.head _))) (q _ (.head _)) (.nil _ _),v,y⟩
        |refine a.out.st.ca (zm ha) ?_
         intro w a
         go_wp2_with fail
         refine a.out.ca (zf9 _ false r) ?_;intro w a
         go_wp2_with fail
         refine a.out.cx (Q.out _ (by have:=J.out.on;have:=L.on;simp[JW,onS,exK]at*;omega) _ _ o) ?_;intro Ae me w a;have C:=a.out.f2
         go_wp2_with fail
         (try simp only[Exit.inBlock,Exit.then])
         exact(a.out.st (n:=8) (x:=.slice Ae _ me)).XU 1 0 rfl rfl rfl rfl rfl underlying174 yo rfl rfl λv y q=>⟨_,_,_,_,_,_,rfl,JB (q _ (.tail _ (.tail _ (.head _)))) (q _ (.tail _ (.head _))) (q _ (.head _)),v,y⟩
theorem zhk(c:Cx)(i:Nat)(d:10<c.rb)(e:zcW c i):QJ c 6 i:=by
 intro x j b w h g;have b:De c.ws c.en (.Y0 i) (.ex x j):=by
  cases b with
  |lvl6 h=>exact h
  |up h=>exact I2 rfl h
  |two h=>exact I2 rfl h
 have a:=zh (Fr.start h g d);have k:=zh (e _ _ b);clear e h g d b
 go_in
 go_wp2_with fail
 refine a.out.jt.cx k.out ?_;intro A m p a;generalize w.heap.size=q at a|-
 have C:=a.out.f 0
 go_wp2_with fail
 (try simp only[Exit.inBlock,Exit.then])
 exact a.out.st.st.st.st.st.zef 0 rfl rfl rfl underlying172 zE rfl λl n o=>⟨_,_,rfl,o _ (B2 ..),l,n⟩
def zcg:List Bs:=[[124,124],[38,38],[60],[60,61],[62],[62,61],[61,61],[33,61],[43],[45],[42],[47],[37]]
theorem Xn(s:ByteArray)(w:World):Calls prog 156 #[.string s] w λe w'=>e=.returned (.int .i64 (lv s.data.toList))/\w=w':=by
 by_cases a:s.data.toList∈zcg
 ·obtain⟨l,b,rfl⟩: ∃l∈zcg,s=⟨l.toArray⟩:=⟨_,a,by cases s;simp⟩
  clear a;simp only[zcg,E7,List.mem_nil_iff,or_false]at b
  rcases b with rfl|rfl|rfl|rfl|rfl|rfl|rfl|rfl|rfl|rfl|rfl|rfl|rfl
  all_goals
   go_in
   go_wp2_with fail
   go_ret;exact⟨rfl,rfl⟩
 ·have b:lv s.data.toList=0:=by
   simp only[zcg,E7,List.mem_nil_iff,or_false,not_or]at a;unfold lv;simp[a]
  have E: ∀l∈zcg,(s.toList==l)=false:=λl h=>by rw[B0,E0];rintro rfl;exact a h
  simp only[zcg,List.forall_mem_cons]at E;have c:=zh b;clear b a
  go_in
  go_wp2_with fail
  go_ret;exact⟨by rw[c.out];rfl,rfl⟩
theorem zgD(c:Cx)(m i:Nat)(p:10<c.rb)(s:UnC c i)(t: ∀n j,i<j->XA c n j):XA c m i:=by
 intro x j f w0 h D;obtain⟨a,k,f,E⟩: ∃a k,Dc c.ws c.en (.Y0 i) (.ex a k)/\Dc c.ws c.en (.rest m a k) (.ex x j):=by
  cases f with
  |ex s t=>exact⟨_,_,s,t⟩
 have l:i<k:=f.on;have d:=zh (Fr.start h D p);have G:=zh (s _ _ f);have Q:=zh t;have q:=zh E;clear s t h D p f E
 go_in
 go_wp2_with fail
 refine d.out.jt.cx G.out ?_;intro A n H d;generalize w0.heap.size=I at d|-
 go_upto_block 0 with(fail)
 replace d:=zh (d.out.jt (u:=[.int .i64 a.N4,.int .i64 a.n,.string a.O9,.slice A a.args.length n,.int .i64 a.pos]) (T:=172));generalize H.alloc _=W1 at d|-
 generalize H.heap.size=J at d|-
 go_wp2_with fail
 go_loopw[] (λwr=> ∃(a:Ex)(A:Option Addr)(n k:Nat),i<k/\Hid (Fr true c w0 wr k [.b J [.int .i64 a.N4,.int .i64 a.n,.string a.O9,.slice A a.args.length n,.int .i64 a.pos] 172,.b I [.int .i64 0,.int .i64 0,.string ⟨#[]⟩,.slice none 0 0,.int .i64 0] 172] [.a a.args (.slice A a.args.length n)])/\Hid (Dc c.ws c.en (.rest m a k) (.ex x j))) (λwr=>c.ws.length-X1 wr c.rb)
 case atStart=>exact⟨a,A,n,k,l,d,q⟩
 case round=>
  clear q G;obtain⟨a,A,n,k,l,d,q⟩:=hrel;have r:=d.out.qk;have K:=d.out.rd.pos;have hn:=d.out.rd.len;have HD:=zh q.out.on
  go_wp2_with fail
  refine d.out.ca zaJ ?_;intro w d
  go_wp2_with fail
  refine d.out.ca XO ?_;intro w d
  go_wp2_with fail
  refine(Xn _ _).mono ?_;rintro e R ⟨rfl,rfl⟩;rw[<-xM];have h:=q.out;cases h with
  |stop S=>
   have L:(Y7 c.ws j:Int)<=(m:Int):=by omega
   have C:=d.out.f2
   go_wp2_with fail
   (try simp only[Exit.inBlock,Exit.then])
   exact d.out.XU 1 0 rfl rfl rfl rfl rfl underlying172 zE rfl rfl λU V K=>⟨_,_,rfl,K _ (B2 ..),U,V⟩
  | @go _ _ j' _ b _ g f o p=>
    have v:k<c.ws.length:=by
     rcases E5 k c.ws.length with h|h
     ·exact h
     ·unfold Y7 at g;rw[D6 h]at g;simp at g
    have M: ¬(Y7 c.ws k:Int)<=(m:Int):=by omega
    have y:=zh f;have N:=zh p;have X:=zh o;have Y:k+1<j':=f.on;have F:=N6 d.out.rd.K3;clear f p o g
    go_wp2_with fail
    refine(d.out.inc v).cx (Q.out _ _ (Nat.lt_succ_of_lt l) _ _ y.out) ?_;intro Z n7 O d
    go_upto_region 8 with(fail)
    replace d:=zh (d.out.jt (u:=[.int .i64 b.N4,.int .i64 b.n,.string b.O9,.slice Z b.args.length n7,.int .i64 b.pos]) (T:=172));generalize O.alloc _=z at d|-
    generalize O.heap.size=b7 at d|-
    have C:=d.out.f2
    go_upto_region 9 with(fail)
    clear C;generalize P:World.alloc _ _=W;replace d:Hid (Fr true c w0 W j' [.b J [.int .i64 6,.int .i64 0,.string (L7 c.ws k),.slice (some ⟨z.heap.size,0,none⟩) 2 2,.int .i64 (N2 c.ws k c.en)] 172,.b I [.int .i64 0,.int .i64 0,.string ⟨#[]⟩,.slice none 0 0,.int .i64 0] 172] [.a [a,b] (.slice (some ⟨z.heap.size,0,none⟩) 2 2)]):=zh (P▸d.out.jL.jL.jL.jL.jL.zgj.drop);clear P;generalize z.heap.size=b8 at d|-
    by_cases o:Y7 c.ws k=3
    ·have h4: ¬Y7 c.ws j'=3:=λe=>X.out ⟨o,e⟩
     have B:(Y7 c.ws k:Int)=3:=by omega
     have a0: ¬(Y7 c.ws j':Int)=3:=by omega
     clear o h4
     go_wp2_with fail
     refine d.out.ca zaJ ?_;intro w d
     go_wp2_with fail
     refine(Xn _ _).mono ?_;rintro e R ⟨rfl,rfl⟩;rw[<-xM]
     go_wp2_with fail
     go_roundw
     case rel=>exact⟨yX c.ws c.en k a b,_,_,j',by omega,d,N⟩
     case measure=>have:=d.out.rd.pos;rw[d.out.qk,r];omega
    ·have B: ¬(Y7 c.ws k:Int)=3:=by omega
     clear o
     go_wp2_with fail
     go_roundw
     case rel=>exact⟨yX c.ws c.en k a b,_,_,j',by omega,d,N⟩
     case measure=>have:=d.out.rd.pos;rw[d.out.qk,r];omega
theorem zit(c:Cx)(i:Nat)(l:qd c.ws)(m:10<c.rb)(o:zcW c (i+1))(p:QJ c 1 (i+1))(q: ∀j,i<j->zgr c j):zcW c i:=by
 intro x j r w h s;have d:=zh (Fr.start h s m);have z:=zh o;have B:=zh p;have t:=zh q;have v:=zh l;have D:=zh r;clear o p q h s m l r
 go_in
 go_wp2_with fail
 refine d.out.jt.ca XO ?_;intro y d
 go_upto_block 0 with(fail)
 replace d:=zh (d.out.jt (u:=[.int .i64 0,.int .i64 0,.string ⟨#[]⟩,.slice none 0 0,.int .i64 (N2 c.ws i c.en)]) (T:=172));generalize w.heap.size=E at d|-
 generalize y.alloc _=K at d|-
 generalize y.heap.size=F at d|-
 go_cut[] (λW=> ∃A n,Hid (Fr false c w W j [.b F [.int .i64 x.N4,.int .i64 x.n,.string x.O9,.slice A x.args.length n,.int .i64 x.pos] 172,.b E [.int .i64 0,.int .i64 0,.string ⟨#[]⟩,.slice none 0 0,.int .i64 0] 172] [.a x.args (.slice A x.args.length n)]))
 case rest=>
  obtain⟨A,n,d⟩:=hcut;have C:=d.out.f2
  go_wp2_with fail
  (try simp only[Exit.inBlock,Exit.then])
  exact d.out.XU 1 0 rfl rfl rfl rfl rfl underlying172 zE rfl rfl λG H I=>⟨A,n,rfl,I _ (B2 ..),G,H⟩
 case first=>
  have h:=D.out;cases h
  all_goals
   have f:=zh (hqs (ws:=c.ws) (i:=i) (by assumption))
   repeat
    go_wp2_with fail
    refine d.out.ca (zL (f.out.1 _ (by decide))) ?_;intro w d
   try
    go_wp2_with fail
    refine d.out.ca (zm (f.out.2.1 _ rfl (by decide))) ?_;intro w d
  iterate 2
   focus
    go_wp2_with fail
    refine d.out.cx (z.out _ _ (by assumption)) ?_;intro A n w d;have C:=d.out.f2
    go_wp2_with fail
    go_meet
    case rel=>
     exact⟨_,_,zh d.out.st.st.zgd⟩
  ·go_wp2_with fail
   refine d.out.cx (B.out _ _ (by assumption)) ?_;intro A n w d;have C:=d.out.f2
   go_wp2_with fail
   refine d.out.st.st.st.st.st.ca (V9 (by assumption)) ?_;intro w d
   go_wp2_with fail
   go_meet
   case rel=>exact⟨_,_,d⟩
  iterate 2
   focus
    have C:=d.out.f2
    go_wp2_with fail
    go_meet
    case rel=>exact⟨none,0,zh (by first|exact d.out.st.st.Zz|exact d.out.st.Zz)⟩
  ·have C:=d.out.f2
   go_wp2_with fail
   refine d.out.st.ca (zW 1 (by assumption)) ?_;intro w d
   go_wp2_with fail
   refine d.out.num (yT v.out (by assumption)) ?_;intro J w d;have C:=d.out.f2
   go_wp2_with fail
   refine d.out.st.ca (V9 (by assumption)) ?_;intro w d
   go_wp2_with fail
   refine d.out.cx (t.out _ (by omega) _ _ (by assumption)) ?_;intro A n w d;have C:=d.out.f2
   go_wp2_with fail
   go_meet
   case rel=>exact⟨_,_,zh d.out.st⟩
  ·have e:=f.out.2.2.1 (by simp)
   obtain⟨g,k,P⟩:=d.out.zck (yK e (by decide));have C:=d.out.f2
   go_wp2_with fail
   go_quiet (fail)
   go_wp2_with fail
   refine d.out.drewN.st.ca (zW 1 e) ?_;intro w d
   go_wp2_with fail
   refine d.out.num (yT v.out e) ?_;intro J w d;have C:=d.out.f2
   go_wp2_with fail
   go_meet
   case rel=>exact⟨none,0,zh d.out.st.Zz⟩
  all_goals
   have e:=f.out.2.2.2 (by simp);obtain⟨g,k,P⟩:=d.out.zck (yK e (by decide))
   go_wp2_with fail
   go_quiet (fail)
   go_wp2_with fail
   refine d.out.drewN.ca (zW 2 e) ?_;intro w d;have C:=d.out.f2
   go_wp2_with fail
   first|refine d.out.st.st.ca (zL (by assumption)) ?_|refine d.out.st.st.ca (zm (by assumption)) ?_
   intro w d
   go_wp2_with fail
  ·go_meet
   case rel=>exact⟨none,0,zh d.out.Zz⟩
  ·refine d.out.cx (t.out _ (by omega) _ _ (by assumption)) ?_
   intro A n w d;have C:=d.out.f2
   go_wp2_with fail
   go_meet
   case rel=>exact⟨_,_,zh d.out.st.st⟩
theorem Yo{p:Bool}{c:Cx}{w w0:World}{i:Nat}{os:List Ob}{ps:List zU}{s:ByteArray}{Q:Ending->World->Prop}(h:Fr p c w0 w i os ps)(hs:s.size<=18)(k: ∀w',Hid (Fr p c w0 w' i os ps)->Q (.returned (.int .i64 (Zu s))) w'):Calls prog 213 #[.string s] w Q:=by
 have a:=zh h;have b:=zh k;have d:=zh hs;clear h k hs
 go_in
 go_wp2_with fail
 refine a.out.num d.out ?_;intro e w a
 go_wp2_with fail
 exact b.out _ a
theorem zjk{ws:List Wd}{i:Nat}(b:T1 ws i≠1)(a:T1 ws i≠2):M0 ws i Xp=false/\M0 ws i zbC=false:=by
 unfold T1 at*
 repeat' split at a
 all_goals simp_all
theorem zkc(c:Cx)(i:Nat)(r:10<c.rb)(s:UnC c (i+1))(t:AtC c i):UnC c i:=by
 intro x j d w h u;have a:=zh (Fr.start h u r);have B:=zh s;have D:=zh t;clear s t h u r
 go_in
 go_wp2_with fail
 refine a.out.jt.ca XO ?_;intro H a;generalize w.heap.size=I at a|-
 obtain⟨k,e⟩: ∃k,T1 c.ws i=k:=⟨_,rfl⟩;have g:=zh (hqs e)
 by_cases b:k=1\/k=2
 ·obtain⟨y,rfl,v⟩: ∃y,x=.mk (k+3) 0 T3 [y] (N2 c.ws i c.en)/\Dc c.ws c.en (.Y0 (i+1)) (.ex y j):=by
   cases d with
   |neg E h=>
    obtain rfl:k=1:=by omega
    exact⟨_,rfl,h⟩
   |not E h=>
    obtain rfl:k=2:=by omega
    exact⟨_,rfl,h⟩
   |_=>exfalso;omega
  have F:=zh v;clear d v e
  rcases b with rfl|rfl
  case' inr=>
   go_wp2_with fail
   refine a.out.ca (zL (g.out.1 _ (by decide))) ?_;intro w a
  all_goals
   go_wp2_with fail
   refine a.out.ca (zm (g.out.2.1 _ rfl (by decide))) ?_;intro w a
   go_wp2_with fail
   refine a.out.cx (B.out _ _ F.out) ?_;intro A n w a;have C:=a.out.f 0;have J:=a.out.lt 0
   go_wp2_with fail
   (try simp only[Exit.inBlock,Exit.then])
   exact a.out.st.st.st.st.st.zgd.zef 0 rfl rfl rfl underlying172 zE rfl λl m o=>⟨_,_,rfl,o _ (B2 ..),l,m⟩
 ·have p:T1 c.ws i≠1:=by omega
  have q:T1 c.ws i≠2:=by omega
  have G:=zh (D.out _ _ d p q);have z:=zh (zjk p q);clear d p q e b g
  go_wp2_with fail
  refine a.out.ca (zL z.out.1) ?_;intro w a
  go_wp2_with fail
  refine a.out.ca (zL z.out.2) ?_;intro w a
  go_wp2_with fail
  refine a.out.cx G.out ?_;intro A n w a;have C:=a.out.f 0
  go_wp2_with fail
  (try simp only[Exit.inBlock,Exit.then])
  exact a.out.st.st.st.st.st.zef 0 rfl rfl rfl underlying172 zE rfl λl m o=>⟨_,_,rfl,o _ (B2 ..),l,m⟩
theorem zht(c:Cx)(i:Nat)(m:qd c.ws)(o:10<c.rb)(p:XA c 0 (i+1))(q: ∀j,i<j->zhg c j):AtC c i:=by
 intro x j r s t w h v;have a:=zh (Fr.start h v o);have D:=zh p;have y:=zh q;have z:=zh m;have E:=zh r;have F:=zh (And.intro s t);clear p q h v o m r s t
 go_in
 go_wp2_with fail
 refine a.out.jt.ca XO ?_;intro B a
 go_upto_block 0 with(fail)
 replace a:=zh (a.out.jt (u:=[.int .i64 0,.int .i64 0,.string ⟨#[]⟩,.slice none 0 0,.int .i64 (N2 c.ws i c.en)]) (T:=172));generalize w.heap.size=G at a|-
 generalize B.alloc _=H at a|-
 generalize B.heap.size=I at a|-
 have h:=E.out;cases h
 case' neg|not=>exfalso;have:=F.out;omega
 all_goals
  have k:=zh (hqs (ws:=c.ws) (i:=i) (by assumption))
  repeat
   go_wp2_with fail
   refine a.out.ca (zL (k.out.1 _ (by decide))) ?_;intro w a
  try
   go_wp2_with fail
   refine a.out.ca (zm (k.out.2.1 _ rfl (by decide))) ?_;intro w a
 ·go_wp2_with fail
  refine a.out.cx (D.out _ _ (by assumption)) ?_;intro A n w a;have C:=a.out.f2
  go_wp2_with fail
  refine a.out.st.st.st.st.st.ca (V9 (by assumption)) ?_;intro w a;have C:=a.out.f2
  go_wp2_with fail
  (try simp only[Exit.inBlock,Exit.then])
  exact a.out.XU 1 0 rfl rfl rfl rfl rfl underlying172 zE rfl rfl λb d e=>⟨_,_,rfl,e _ (B2 ..),b,d⟩
 ·have C:=a.out.f2
  go_wp2_with fail
  (try simp only[Exit.inBlock,Exit.then])
  exact(a.out.st (n:=0) (x:=.int .i64 2)).st (n:=1) (x:=.int .i64 1)|>.Zz.XU 1 0 rfl rfl rfl rfl rfl underlying172 zE rfl rfl λb d e=>⟨_,_,rfl,e _ (B2 ..),b,d⟩
 ·have C:=a.out.f2
  go_wp2_with fail
  (try simp only[Exit.inBlock,Exit.then])
  exact(a.out.st (n:=0) (x:=.int .i64 2)).Zz.XU 1 0 rfl rfl rfl rfl rfl underlying172 zE rfl rfl λb d e=>⟨_,_,rfl,e _ (B2 ..),b,d⟩
 ·go_wp2_with fail
  refine a.out.ca (zW 1 (by assumption)) ?_;intro w a
  go_wp2_with fail
  refine Yo a.out (yT z.out (by assumption)) ?_;intro w a;have C:=a.out.f2
  go_wp2_with fail
  refine a.out.st.st.ca (V9 (by assumption)) ?_;intro w a
  go_wp2_with fail
  refine a.out.cx (y.out _ (by omega) _ _ (by assumption)) ?_;intro A n w a;have C:=a.out.f2
  go_wp2_with fail
  (try simp only[Exit.inBlock,Exit.then])
  exact(a.out.st (n:=3) (x:=.slice A _ n)).XU 1 0 rfl rfl rfl rfl rfl underlying172 zE rfl rfl λb d e=>⟨_,_,rfl,e _ (B2 ..),b,d⟩
 ·have f:=k.out.2.2.1 (by simp)
  obtain⟨g,l,P⟩:=a.out.zck (yK f (by decide))
  go_wp2_with fail
  go_quiet (fail)
  go_wp2_with fail
  refine a.out.drewN.ca (zW 1 f) ?_;intro w a
  go_wp2_with fail
  refine Yo a.out (yT z.out f) ?_;intro w a;have C:=a.out.f2
  go_wp2_with fail
  (try simp only[Exit.inBlock,Exit.then])
  exact(a.out.st (n:=0) (x:=.int .i64 1)).st (n:=1) (x:=.int .i64 _)|>.Zz.XU 1 0 rfl rfl rfl rfl rfl underlying172 zE rfl rfl λb d e=>⟨_,_,rfl,e _ (B2 ..),b,d⟩
 all_goals
  have f:=k.out.2.2.2 (by simp);obtain⟨g,l,P⟩:=a.out.zck (yK f (by decide))
  go_wp2_with fail
  go_quiet (fail)
  go_wp2_with fail
  refine a.out.drewN.ca (zW 2 f) ?_;intro w a;have C:=a.out.f2
  go_wp2_with fail
  first|refine a.out.st.st.ca (zL (by assumption)) ?_|refine a.out.st.st.ca (zm (by assumption)) ?_
  intro w a
 ·have C:=a.out.f2
  go_wp2_with fail
  (try simp only[Exit.inBlock,Exit.then])
  exact a.out.Zz.XU 1 0 rfl rfl rfl rfl rfl underlying172 zE rfl rfl λb d e=>⟨_,_,rfl,e _ (B2 ..),b,d⟩
 ·go_wp2_with fail
  refine a.out.cx (y.out _ (by omega) _ _ (by assumption)) ?_;intro A n w a;have C:=a.out.f2
  go_wp2_with fail
  (try simp only[Exit.inBlock,Exit.then])
  exact(a.out.st (n:=0) (x:=.int .i64 7)).st (n:=3) (x:=.slice A _ n)|>.XU 1 0 rfl rfl rfl rfl rfl underlying172 zE rfl rfl λb d e=>⟨_,_,rfl,e _ (B2 ..),b,d⟩
end Go.Proofs.YtalgmjmibamdfaaGreatDoor
namespace Go.Proofs.YtalgmjmibamdfaaGreatDoor
open Go.RowKit Tw
theorem ziN(c:Cx)(l:10<c.rb)(r:qd c.ws)(i:Nat):QJ c 1 i:=by
 have m: ∀k i,c.ws.length<i+k->zcW c i/\(∀n,1<=n->n<=6->QJ c n i)/\zgr c i:=by
  intro k
  induction k with
  |zero=>exact λi s=>⟨λ_ _ _ w h=>I2 h.pos (by omega),λ_ _ _ _ _ _ w h=>I2 h.pos (by omega),λ_ _ _ w h=>I2 h.pos (by omega)⟩
  |succ k t=>
   intro i s;have L:=λj (f:i<j)=>t j (by omega);have q:zcW c i:=zit c i r l (L _ (by omega)).1 ((L _ (by omega)).2.1 1 (by decide) (by decide)) λj f=>(L j f).2.2;have u: ∀d n,n+d=6->1<=n->QJ c n i:=by
    intro d
    induction d with
    |zero=>
     intro n v _;obtain rfl:n=6:=by omega
     exact zhk c i l q
    |succ d o=>exact λn v p=>ze2 c i n p (by omega) l (o (n+1) (by omega) (by omega)) λj f=>(L j f).2.1 (n+1) (by omega) (by omega)
   have g: ∀n,1<=n->n<=6->QJ c n i:=λn a b=>u (6-n) n (by omega) a;exact⟨q,g,zhp c i l λj f=>(Nat.eq_or_lt_of_le f).elim (λe=>e▸g 1 (by decide) (by decide)) λh=>(L j h).2.1 1 (by decide) (by decide)⟩
 exact(m (c.ws.length+1) i (by omega)).2.1 1 (by decide) (by decide)
theorem zje(c:Cx)(b:10<c.rb)(l:qd c.ws)(i:Nat):XA c 0 i:=by
 have d: ∀k i,c.ws.length<i+k->UnC c i/\(∀n,XA c n i)/\zhg c i:=by
  intro k
  induction k with
  |zero=>exact λi m=>⟨λ_ _ _ w h=>I2 h.pos (by omega),λ_ _ _ _ w h=>I2 h.pos (by omega),λ_ _ _ w h=>I2 h.pos (by omega)⟩
  |succ k o=>
   intro i m;have L:=λj (a:i<j)=>o j (by omega);have f:UnC c i:=zkc c i b (L _ (by omega)).1 (zht c i l b ((L _ (by omega)).2.1 0) λj a=>(L j a).2.2);have g: ∀n,XA c n i:=λn=>zgD c n i b f λn j a=>(L j a).2.1 n;exact⟨f,g,zhw c i b λj a=>(Nat.eq_or_lt_of_le a).elim (λe=>e▸g 0) λh=>(L j h).2.1 0⟩
 exact(d (c.ws.length+1) i (by omega)).2.1 0
end Go.Proofs.YtalgmjmibamdfaaGreatDoor
namespace Go.Proofs.YtalgmjmibamdfaaGreatDoor
open Go.Proofs.Tryz
open Go.RowKit Tw
theorem zgH(c:Cx)(i j e g:Nat)(pos:Int)(x:Ex)(l m:List Sm)(r:10<c.rb)(s:XA c 0 i)(k: ∀j,i<j->zbS true c j)(hx:Dc c.ws c.en (.xg 0 i) (.ex x e))(o:Ds c.ws c.en (.block e) (.Jf l g))(t:M0 c.ws g zdD=true)(hi:M0 c.ws (g+1) sIf=false)(b:Ds c.ws c.en (.block (g+1)) (.Jf m j)):
 zhP true c 154 #[.pointer (some ⟨c.rb,0,none⟩),.agg #[.int .i64 0,.string ⟨#[]⟩,.int .i64 0,.int .i64 0,.string ⟨#[]⟩,.slice none 0 0,.int .i64 0,.slice none 0 0,.slice none 0 0,.int .i64 pos]] (.mk 3 T3 x l m pos) i j:=by
 intro w0 h u;have d:=hx.on;have p:=o.on;simp only[JW,onS]at d p;have a:=zh (Fr.start h u r);have v:=zh (s _ _ hx);have y:=zh (k _ d _ _ o);have z:=zh (k _ (by omega) _ _ b);have B:=zh t;have D:=zh hi;clear s k h u r hx o t hi b
 go_in
 go_wp2_with fail
 refine(a.out.jt.jt (n:=w0.heap.size+1) (by simp)).cx v.out ?_;intro A n w a;generalize f:w0.heap.size+1=I at a|-
 generalize w0.heap.size=J at a f|-
 clear f;have C:=a.out.f2
 go_wp2_with fail
 refine a.out.jL.jL.jL.jL.jL.jL.cx y.out ?_;intro K L w a;have C:=a.out.f2
 go_wp2_with fail
 refine a.out.jL.ca (zm B.out) ?_;intro w a
 go_wp2_with fail
 refine a.out.ca XO ?_;intro w a
 go_wp2_with fail
 refine a.out.ca (zL D.out) ?_;intro w a
 go_wp2_with fail
 refine a.out.cx z.out ?_;intro E F w a;have C:=a.out.f2
 go_wp2_with fail
 (try simp only[Exit.inBlock,Exit.then])
 exact(a.out.jL (n:=8) (x:=.slice E _ F)).XU 0 1 rfl rfl rfl rfl rfl underlying174 yo rfl rfl λG H q=>⟨_,_,_,_,_,_,rfl,JB (q _ (.tail _ (.tail _ (.head _)))) (q _ (.tail _ (.head _))) (q _ (.head _)),G,H⟩
theorem zhC(c:Cx)(i:Nat)(E:10<c.rb)(d: ∀j,XA c 0 j)(y: ∀j,i<j->zbS true c j):zee true c i:=by
 intro s j J w0 h K;obtain⟨kd,z⟩: ∃kd,R7 c.ws i=kd:=⟨_,rfl⟩;obtain⟨x,e,f,k,L,M⟩:=J.kd z;have f:=(f.zjH (by decide) (by decide)).2;have N:=hs7 z;have o:=f.on;simp only[JW]at o;have a:=zh (Fr.start h K E);have B:=zh d;have O:=zh y;have D:=zh (xE z);have p:=zh f;have Q:=zh L;have F:=zh M;have R:=zh N;have V:=zh E;clear d y h K E J z f L M N;simp only[cond]
 go_in
 go_wp2_with fail
 refine a.out.jt.ca XO ?_;intro X a;generalize w0.heap.size=b0 at a|-
 go_upto_block 0 with(fail)
 replace a:=zh (a.out.jt (u:=[.int .i64 0,.string ⟨#[]⟩,.int .i64 0,.int .i64 0,.string ⟨#[]⟩,.slice none 0 0,.int .i64 0,.slice none 0 0,.slice none 0 0,.int .i64 (N2 c.ws i c.en)]) (T:=174));generalize(World.alloc _ _)=W at a|-
 generalize X.heap.size=b1 at a|-
 rcases D.out.2.2.2.2 with rfl|rfl|rfl|rfl|rfl|rfl|rfl
 all_goals
  repeat
   go_wp2_with fail
   refine a.out.ca (zL (D.out.1 _ (by decide) (by decide))) ?_;intro w a
  try
   go_wp2_with fail
   refine a.out.ca (zm (D.out.2.1 _ rfl)) ?_;intro w a
 all_goals first
  |have q:=(Q.out (by simp)).1
   go_wp2_with fail
   refine a.out.ca (zW 2 q) ?_;intro w a;have C:=a.out.f2
   go_wp2_with fail
   refine a.out.st.st.ca (V9 (Q.out (by simp)).2) ?_;intro w a
  |have q:=D.out.2.2.1 (by simp)
   obtain⟨-,d,y⟩:=R.out.resolve_right (by simp);obtain⟨g,G,P⟩:=a.out.zem k
   go_wp2_with fail
   go_quiet (fail)
   go_wp2_with fail
   refine a.out.drewN.ca (zW 2 q.1) ?_;intro w a;have C:=a.out.f2
   go_wp2_with fail
   refine a.out.st.st.ca (V9 q.2) ?_;intro w a
  |have T:=(F.out.resolve_left (by simp)).resolve_left (by simp)
   obtain⟨-,l,m,Y,H,Z,hi,I,rfl⟩:=T;have C:=a.out.f2
   go_wp2_with fail
   refine a.out.cs (zgH c (i+1) j e Y _ x l m V.out (B.out _) (λj hj=>O.out j (by omega)) p.out H Z hi I) ?_;intro Aa ma S U Ae me w a;have C:=a.out.f2
   go_wp2_with fail
   (try simp only[Exit.inBlock,Exit.then])
   exact a.out.jL.jL.jL.jL.jL.jL.jL.jL.jL.jL.zef 1 rfl rfl rfl underlying174 yo rfl λr v b=>⟨_,_,_,_,_,_,rfl,λt ht=>b t (List.mem_append.2 (.inl ht)),r,v⟩
  |have T:=(F.out.resolve_left (by simp)).resolve_right (by simp)
   obtain⟨-,l,H,rfl⟩:=T
   go_wp2_with fail
   refine a.out.cx (B.out _ _ _ p.out) ?_;intro A n w a;have C:=a.out.f2
   go_wp2_with fail
   refine a.out.st.st.st.st.st.st.cx (O.out _ (by simp only[exK]at o;omega) _ _ H) ?_;intro S U w a;have C:=a.out.f2
   go_wp2_with fail
   (try simp only[Exit.inBlock,Exit.then])
   exact(a.out.st (n:=7) (x:=.slice S _ U)).XU 1 0 rfl rfl rfl rfl rfl underlying174 yo rfl rfl λr v b=>⟨_,_,_,_,none,0,rfl,JB (b _ (.tail _ (.head _))) (b _ (.head _)) (.nil _ _),r,v⟩
  |have q:Dc c.ws c.en (.xg 0 i) (.ex x e):=p.out
   obtain⟨g,G,P⟩:=a.out.zem k
   rcases R.out with⟨-,d,y⟩|⟨-,d⟩|h0
   all_goals first
    |(exfalso;omega)
    |go_wp2_with fail
     go_quiet (fail)
     replace a:=zh (a.out.drewN (n:=nq))
  |skip
 all_goals
  have C:=a.out.f2
  go_wp2_with fail
  first|refine a.out.cx (B.out _ _ _ p.out) ?_|refine a.out.st.cx (B.out _ _ _ p.out) ?_
  intro A n w a;have C:=a.out.f2
  go_wp2_with fail
  rcases F.out with⟨h3,h4,hs,rfl,rfl⟩|⟨h4,-⟩|⟨h3,-⟩
  all_goals first
   |(exfalso;omega)
   |refine a.out.st.st.st.st.st.ca (V9 hs) ?_
    intro w a;have C:=a.out.f2
    go_wp2_with fail
    (try simp only[Exit.inBlock,Exit.then])
    exact a.out.XU 1 0 rfl rfl rfl rfl rfl underlying174 yo rfl rfl λr v b=>⟨_,_,none,0,none,0,rfl,JB (b _ (.head _)) (.nil _ _) (.nil _ _),r,v⟩
end Go.Proofs.YtalgmjmibamdfaaGreatDoor
namespace Go.Proofs.YtalgmjmibamdfaaGreatDoor
open Go.RowKit Tw
theorem K3(p:Bool)(c:Cx)(b:10<c.rb)(e:qd c.ws)(i:Nat):zbS p c i:=by
 have d: ∀k i,c.ws.length<i+k->zee p c i/\zbS p c i:=by
  intro k
  induction k with
  |zero=>exact λi f=>⟨λ_ _ _ w h=>I2 h.pos (by omega),λ_ _ _ w h=>I2 h.pos (by omega)⟩
  |succ k g=>
   intro i f;have L:=λj (a:i<j)=>g j (by omega);have l:zee p c i:=by
    cases p
    ·exact zgR c i b (ziN c b e) λj a=>(L j a).2
    ·exact zhC c i b (zje c b e) λj a=>(L j a).2
   exact⟨l,zfy p c i b λj a=>(L j a).1⟩
 exact(d (c.ws.length+1) i (by omega)).2
end Go.Proofs.YtalgmjmibamdfaaGreatDoor
namespace Go.Proofs.YtalgmjmibamdfaaGreatDoor
open Go.Proofs.Tryz
open Go.RowKit Tw
section
variable {p:Bool}{c:Cx}{w w0:World}{i j:Nat}{os:List Ob}{ps:List zU}
theorem Fr.swap{a b:Ob}(h:Fr p c w0 w i (a::b::os) ps):Fr p c w0 w i (b::a::os) ps:=by
 have d: ∀(m:Nat) o,(b::a::os)[m]?=some o->(a::b::os)[if m=0 then 1 else if m=1 then 0 else m]?=some o:=by
  intro m o e
  match m,e with
  |0,e=>exact e
  |1,e=>exact e
  |m+2,e=>rw[B5 (by omega),B5 (by omega)];exact e
 refine{h with ob:=λm o e=>h.ob _ o (d m o e),nd:=λm l o f g n q r s=>?_,pt:=λt u=>(h.pt t u).J0 λg k v=>⟨⟨k.1,λm o e=>k.2 _ o (d m o e)⟩,v,rfl⟩};have:=h.nd _ _ o f g (d m o n) (d l f q) r s
 split at this<;>split at this<;>(try split at this)<;>(try split at this)<;>omega
theorem jz{P:Program}{ops:Array Oper}{o:Oper}{a:Act}{K:Act->World->Prop}{Q:Exit->Act->World->Prop}{E':Prop}{w:World}{t e size:Nat}(E:R1 P t e size)(l:o.guard=none)(s x:Operand)
 (y:o.op=.call {callee:=.builtin .append,args:= #[s,x],argTypes:= #[t,t]})
 (base:Nat) (v:Value) (n:Nat) (xs:List Value) (hs:a.eval s=v) (d:w.ownsRow base e size v n xs)
 (H c:Nat) (f:Array Value) (hx:a.eval x=.slice (some ⟨H,0,none⟩) 1 c) (k:w.heap[H]?=some (.cells f e (0,0))) (A:f.size=size) (B: ∀u∈f.toList,u.oneCell'=true)
 (C:n+1<=500000000000) (b:base<=w.heap.size)
 (h: ∀g cap w',w'.ownsRow base e size (.slice (some ⟨g,0,none⟩) (n+1) cap) (n+1) (xs++f.toList)->w.grownBy w' v.ownBlock->(v.ownBlock=some g\/g=w.heap.size)->g<w'.heap.size->K (a.put o.dst (.slice (some ⟨g,0,none⟩) (n+1) cap)) w'):
 if Region.wanted o (yielded ops a.tmps)=true then Oper.wp P o a w K Q else E':=by
 obtain⟨i,z,D,F,m,q,r⟩:=E.get
 exact step_append_lies w l s x t y base e i z size i.bytes E.ut D F m rfl r E.pos v n xs hs d ⟨H,0,none⟩ 1 c f.toList hx (by simp[A]) (World.news_of_block k) B (by omega)
  (by unfold maxLen;omega) (qV q C) b w.heap.size rfl h
theorem Fr.aps{α:Type}(E:yz α)(a:α){t T d n m:Nat}{A:Option Addr}{l:List α}(q:R1 prog t T d)(h:Fr p c w0 w i (.r T d (.slice A l.length n) l.length (l.flatMap E.cells)::os) ps)
 {ops:Array Oper} {o:Oper} {b:Act} {K:Act->World->Prop} {Q:Exit->Act->World->Prop} {E':Prop} (e:o.guard=none) (s x:Operand) (v:o.op=.call {callee:=.builtin .append,args:= #[s,x],argTypes:= #[t,t]})
 (hs:b.eval s=.slice A l.length n) (hx:b.eval x=.slice (some ⟨w.heap.size,0,none⟩) 1 m) (y:(E.cells a).length=d) (f: ∀u∈E.cells a,u.oneCell'=true) (z:l.length+1<=500000000000)
 (k: ∀g cap w',Hid (Fr p c w0 w' i (.r T d (.slice (some ⟨g,0,none⟩) (l++[a]).length cap) (l++[a]).length ((l++[a]).flatMap E.cells)::os) ps)->K (b.put o.dst (.slice (some ⟨g,0,none⟩) (l.length+1) cap)) w'):
 if Region.wanted o (yielded ops b.tmps)=true then Oper.wp prog o b (w.alloc (.cells ⟨E.cells a⟩ T)) K Q else E':=by
 have H:=h.below ((y7 w.heap.size w).alloc (y6 _) (.cells ⟨E.cells a⟩ T));refine jz q e s x v w0.heap.size _ l.length (l.flatMap E.cells) hs (H.ob 0 _ rfl) w.heap.size m ⟨E.cells a⟩ hx (y9 w _) y f z (by have:=h.gr.size;simp;omega) λg cap w' f B C _=>k g cap w' ?_;have D:=H.W8 0 f B C;exact zh (by simpa using D)
def zka(p:Bool)(c:Cx)(f:Nat)(a:Array Value)(F:Fn)(i j:Nat):Prop:=
 ∀w,Rd p c w i->U2 w->Calls prog f a w λe b=> ∃d h k l m n,e=.returned (.agg #[.string F.L6,.slice d F.J3.length h,.slice k F.O6.length l,.int .i64 F.out,.slice m F.J7.length n,.int .i64 F.pos])/\
  (∀t∈V0.qE (F,.slice d F.J3.length h,.slice k F.O6.length l,.slice m F.J7.length n),t.At b λg=>w.heap.size<=g)/\Rd p c b j/\w.grownBy b (some c.rb)
end
theorem Xx:R1 prog 82 9 1:=⟨underlying82,by kernel_rfl,by decide⟩
theorem ZQ:R1 prog 22 3 1:=⟨underlying22,by kernel_rfl,by decide⟩
theorem zdb:R1 prog 32 91 6:=⟨underlying32,by kernel_rfl,by decide⟩
theorem zgx:(Tryz.prog.info? 91).map (·.size)=some 6:=by kernel_rfl
theorem ziE{w:World}{F:Nat->Prop}{f:Fn}{a b d:Value}(g:qJ w F a f.J3)(h:K9 w F b f.O6)(k:N0 w F d f.J7): ∀t∈V0.qE (f,a,b,d),t.At w F:=by
 intro t e;simp only[V0,E7,List.mem_nil_iff,or_false]at e
 rcases e with rfl|rfl|rfl<;>assumption
theorem Dp.on{ws:List Wd}{en k i j:Nat}{l:List ByteArray}(h:Dp ws en k i l j):i<j:=by
 induction h with
 |jP=>omega
 | @next k i j _ _ _ _ _ _ a=>
   have:i<=qK k i:=by unfold qK;split<;>omega
   omega
theorem ziF(c:Cx)(i j:Nat)(F:Fn)(Z:10<c.rb)(I:qd c.ws)(v:Df c.ws c.en i F j):zka true c 52 #[.pointer (some ⟨c.rb,0,none⟩)] F i j:=by
 intro w0 h hG;have hB:=K3 true c Z I;have a:=zh (Fr.start h hG Z);have HB:=zh hB;clear h hG hB Z I;obtain⟨k,N,L,rfl,D,J,ho,G,K,X⟩: ∃k N L,F={L6:=L7 c.ws (i+1),J3:=N,O6:=N.map λ_=>1,out:=1,J7:=L,pos:=N2 c.ws i c.en}/\M0 c.ws i zgV=true/\O8 c.ws (i+1)=2/\M0 c.ws (i+2) jG=true/\Dp c.ws c.en 0 (i+3) N k/\zb7 c.ws k/\Ds c.ws c.en (.block (k+2)) (.Jf L j):=by
  cases v with
  |fn h1 h2 h3 h4 h5 h6=>exact⟨_,_,_,rfl,h1,h2,h3,h4,h5,h6⟩
 clear v;generalize M:(N.map λ_=>(1:Int))=TS;have HS:=zh M;clear M;have HA:=zh D;have HK:=zh J;have HO:=zh ho;have HP:=zh G;have HT:=zh K;have HD:=zh X;clear D J ho G K X
 go_in
 go_wp2_with fail
 refine a.out.jt.ca XO ?_;intro w1 a;generalize w0.heap.size=b0 at a|-
 go_upto_region 2 with(fail)
 replace a:=zh (((a.out.jt (u:=[.string ⟨#[]⟩,.slice none 0 0,.slice none 0 0,.int .i64 0,.slice none 0 0,.int .i64 (N2 c.ws i c.en)]) (T:=91)).nil 3 1).nil 9 1);generalize(World.alloc _ _)=W at a|-
 generalize w1.heap.size=bf at a|-
 go_wp2_with fail
 refine a.out.ca (V9 HA.out) ?_;intro w a
 go_wp2_with fail
 refine a.out.ca (zW 2 HK.out) ?_;intro w a;have C:=a.out.f 2
 go_wp2_with fail
 refine a.out.st2.ca (V9 HO.out) ?_;intro w a
 go_wp2_with fail
 go_loopw[] (λwr=> ∃(ns:List ByteArray)(O:Option Addr)(P:Nat)(g:List Int)(Q:Option Addr)(R i':Nat),Hid (Fr true c w0 wr i' [.r 9 1 (.slice O ns.length P) ns.length (ns.flatMap R8.cells),.r 3 1 (.slice Q g.length R) g.length (g.flatMap zy.cells),.b bf [.string (L7 c.ws (i+1)),.slice O ns.length P,.slice Q g.length R,.int .i64 0,.slice none 0 0,.int .i64 (N2 c.ws i c.en)] 91,.b b0 [.string ⟨#[]⟩,.slice none 0 0,.slice none 0 0,.int .i64 0,.slice none 0 0,.int .i64 0] 91] [])/\Hid (∃q m,Dp c.ws c.en q i' m k/\q=ns.length/\N=ns++m/\g=ns.map (λ_=>1)/\q<=i'/\i<i'))
  (λwr=>c.ws.length-X1 wr c.rb)
 case atStart=>exact⟨[],none,0,[],none,0,i+3,a,zh ⟨0,N,HP.out,rfl,rfl,rfl,by omega,by omega⟩⟩
 case round=>
  obtain⟨ns,O,P,g,Q,R,i',a,HI⟩:=hrel;have a0:=a.out.qk;have a5:=a.out.rd.pos;have hl:=a.out.rd.len;obtain⟨q,m,v,H,I,z,hi,a6⟩:=HI.out;have S:g.length=q:=by rw[z,H,D9]
  have HN:=zh I;have U:=zh z;have HQ:=zh H;have a1:=zh S;clear H I z S
  go_wp2_with fail
  cases v with
  |jP D=>
   obtain rfl:N=ns:=by simpa using HN.out
   obtain rfl:g=TS:=U.out.trans HS.out;refine a.out.ca (zm D) ?_;intro w a
   go_wp2_with fail
   refine a.out.ca (zbl HT.out) ?_;intro w a;have C:=a.out.f 2
   go_wp2_with fail
   refine a.out.st2.cx (HB.out _ _ _ HD.out) ?_;intro Ab mb w a;replace a:=zh ((a.out.XY R8 (by simp[R8])).XY zy (by simp[zy]));have C:=a.out.f2
   go_wp2_with fail
   (try simp only[Exit.inBlock,Exit.then])
   exact(a.out.st (n:=4) (x:=.slice Ab _ mb)).XU 1 0 rfl rfl rfl rfl rfl underlying91 zgx rfl rfl λA B G=>⟨_,_,_,_,_,_,rfl,ziE (G _ (.tail _ (.head _))) (G _ (.head _)) (G _ (.tail _ (.tail _ (.head _)))),A,B⟩
  |next D X J K v=>
   have a7:=v.on;refine a.out.ca (zL D) ?_;intro w a;have H:=HQ.out;have o:qK q i'=(if q=0 then i' else i'+1):=rfl;have a2:=zh J;have a3:=zh K;have a4:=zh v;clear J K v;have C:=a.out.f 2
   go_upto_if 20 with(fail)
   clear C
   go_cut[] (λW=>Hid (Fr true c w0 W (qK q i') [.r 9 1 (.slice O ns.length P) ns.length (ns.flatMap R8.cells),.r 3 1 (.slice Q g.length R) g.length (g.flatMap zy.cells),.b bf [.string (L7 c.ws (i+1)),.slice O ns.length P,.slice Q g.length R,.int .i64 0,.slice none 0 0,.int .i64 (N2 c.ws i c.en)] 91,.b b0 [.string ⟨#[]⟩,.slice none 0 0,.slice none 0 0,.int .i64 0,.slice none 0 0,.int .i64 0] 91] []))
   case first=>
    by_cases h0:q=0
    ·subst h0
     obtain rfl:=I3 H.symm;clear H o
     go_wp2_with fail
     go_meet
     case rel=>exact a
    ·have e0:0<ns.length:=by omega
     rw[B5 h0]at o
     go_wp2_with fail
     refine a.out.ca (V9 (X h0)) ?_;intro w a
     go_wp2_with fail
     go_meet
     case rel=>rw[o];exact a
   case rest=>
    replace a:=hcut;have a8:i'<=qK q i':=by rw[o];split<;>omega
    clear hcut o;generalize qK q i'=Y at*
    go_upto_region 8 with(fail)
    have d:=zh (a.out.below ⟨rfl,rfl,rfl,y6 _,λ_ _=>rfl⟩:Fr true c w0 wc.drew Y _ _);have C:=d.out.f 2;have E:=d.out.lt 2
    go_region_law(first|(go_simp;go_at_call 91;refine(zW 2 a2.out (by decide) _ d.out.rd).mono ?_;rintro e w8 ⟨rfl,A,B⟩;have l:=zh (d.out.jN A B);have C8:=l.out.f 2;have E8:=l.out.lt 2;clear A B)|(refine l.out.aps R8 _ Xx (by rfl) _ _ (by rfl) (by rfl) (by rfl) (by rfl) (by simp[R8,Value.oneCell']) (by omega) ?_;intro g9 y w9 V;have C9:=V.out.f 2))
    all_goals
     replace a:=zh (V.out.st2 (n:=1) (x:=.slice (some ⟨g9,0,none⟩) (ns.length+1) y)).swap;generalize(World.setCell _ _ _)=w3 at a|-
     clear C E
     go_upto_region 9 with(fail)
     have d:=zh (a.out.below ⟨rfl,rfl,rfl,y6 _,λ_ _=>rfl⟩:Fr true c w0 w3.drew (Y+1) _ _);have C:=d.out.f 2;have E:=d.out.lt 2
     go_region_law(first|(go_simp;go_at_call 93;refine(zbl a3.out _ d.out.rd).mono ?_;rintro e w8 ⟨rfl,A,B⟩;have l:=zh (d.out.jN A B);have C8:=l.out.f 2;have E8:=l.out.lt 2;clear A B)|(refine l.out.aps zy _ ZQ (by rfl) _ _ (by rfl) (by rfl) (by rfl) (by rfl) (by simp[zy,Value.oneCell']) (by have:=a1.out;omega) ?_;intro g7 s w7 t;have C7:=t.out.f 2))
     all_goals
      go_wp2_with fail
      go_roundw
      case rel=>exact⟨ns++[L7 c.ws Y],some ⟨g9,0,none⟩,y,g++[1],some ⟨g7,0,none⟩,s,Y+1+2,zh (by simpa using(t.out.st2 (n:=2) (x:=.slice (some ⟨g7,0,none⟩) (g.length+1) s)).swap),zh ⟨q+1,_,a4.out,by simp;exact HQ.out,by simp[HN.out],by simp[U.out],by omega,by omega⟩⟩
      case measure=>have hh:=t.out.rd.pos;have:=t.out.st2 (n:=2) (x:=.slice (some ⟨g7,0,none⟩) (g.length+1) s);rw[this.qk,a0];omega
theorem ZE{P:Program}{fn:Func}{p a b:Tmp}{e:TypeId}(h:fn.results= #[.cell p e,.tmp a,.tmp b])(c:Array Value)(w:World)(g:Nat)(t:TypeId)(f:Array Value)(j:Nat×Nat)(d:TypeDesc)
 (k:c.getD p undef=.pointer (some ⟨g,0,none⟩)) (l:w.heap[g]?=some (.cells f t j))
 (m:P.underlying e=some d) (n:(match d with|.struct _|.array _ _=>true|_=>false)=true) (hi:(P.info? e).map (·.size)=some f.size):
 (results fn c).run P w=.ok (.tuple #[.agg f,c.getD a undef,c.getD b undef]) w:=by
 have i:c[p]?.getD undef=.pointer (some ⟨g,0,none⟩):=by simpa using k
 simp[results,h,i,asAddr,run_loadVar_row w g t e f j d l m n hi]
theorem zbm{w:World}{base T a n c:Nat}{A:Option Addr}{xs:List Value}(h:w.ownsRow base T a (.slice A n c) n xs):n<=c:=by
 obtain⟨-,b⟩:=h
 rcases b with⟨e,j⟩|⟨g,d,f,e,-,-,i,-⟩
 ·omega
 ·cases e;exact i
theorem zdg:(Tryz.prog.info? 34).map (·.size)=some 1:=by kernel_rfl
theorem zb9(i:ByteArray)(w:World)(ws:List Wd)(us:List Fn)(hs:i.size<=maxLen)(hG:U2 w)(hw:Qp i 0 0 ws)(hl:ws.length<=4000)(hN:qd ws)(G:Du ws i.size 0 us)
 (hu: ∀A n W,(∃F,R0 W F (.slice A us.length n) us)->U2 W->Calls prog 71 #[.agg #[.slice A us.length n]] W λe W'=>e=.returned (.int .i64 0)/\Below W.heap.size W W'):
 Calls prog 34 #[.string i] w λe w'=> ∃A n,e=.returned (.tuple #[.agg #[.slice A us.length n],.int .i64 0,.int .i64 0])/\R0 w' (λg=>w.heap.size<=g) (.slice A us.length n) us/\Below w.heap.size w w'/\us.length<=n:=by
 have c7:=hG.Jv;have HG:=zh hG;have HU:=zh hu;have HN:=zh hN;have HD:=zh G;have a2:=zh hl;have WC:=zh (zeQ i (w.alloc (.cells #[.slice none 0 0] 34)) 0 0 ws hs (hG.to ((y7 _ _).alloc (y6 _) _)) hw);clear hw hG hu hN G hl;unfold maxLen at hs
 go_in
 go_wp2_with fail
 refine WC.out.mono ?_;rintro e I ⟨⟨v,rfl,hv⟩,H⟩;obtain⟨A0,y,rfl,-⟩:=hv.zM;have P:Below I.heap.size I (I.alloc (.cells #[.slice A0 ws.length y,.int .i64 0,.int .i64 i.size,.bool false] 138)):=(y7 _ _).alloc (y6 _) _;have hB:=((y7 w.heap.size w).alloc (y6 _) (.cells #[.slice none 0 0] 34)).trans (H.mono (by simp));have hz:w.heap.size<I.heap.size:=by have:=H.size;simp at this;omega
 have Z:=hB.trans (P.mono (I0 hz));have H0:=zh ((P.block _ hz).trans ((H.block w.heap.size (by simp)).trans (y9 w _)));have d:=zh (Fr.start (p:=false) (c:=⟨I.heap.size,.slice A0 ws.length y,ws,i.size⟩) ⟨y9 I _,hv.qn λk Q=>P.block k Q,a2.out,E2 _⟩ (HG.out.to Z) (by simp only;omega));have HB:=zh Z;clear H hv P hB Z WC
 go_upto_block 0 with(fail)
 simp only[cond]at d;replace d:=zh ((d.out.jt (n:=I.heap.size+1) (u:=[.slice none 0 0]) (T:=34) (by simp)).nil 91 6);generalize a3:I.alloc _=W0 at d HB H0|-
 generalize W0.alloc _=W1 at d|-
 generalize b2:I.heap.size+1=bu at d|-
 have b3:I.heap.size<W0.heap.size:=by rw[<-a3];simp
 generalize I.heap.size=R at d hz b3|-
 clear b2 a3;have b4:=zh (λh=>K3 false ⟨R,.slice A0 ws.length y,ws,i.size⟩ h HN.out)
 go_wp2_with fail
 go_loopw[] (λwr=> ∃(l:List (Fn×Value×Value×Value))(A:Option Addr)(n o:Nat),Hid (Fr false ⟨R,.slice A0 ws.length y,ws,i.size⟩ W0 wr o [.r 91 6 (.slice A l.length n) l.length (l.flatMap V0.cells),.b bu [.slice A l.length n] 34] (l.flatMap V0.qE))/\Hid (∃m,Du ws i.size o m/\us=l.map (·.1)++m/\l.length<=o))
  (λwr=>ws.length-X1 wr R)
 case atStart=>exact⟨[],none,0,0,d,zh ⟨us,HD.out,rfl,by simp⟩⟩
 case round=>
  obtain⟨l,A,n,o,d,HI⟩:=hrel;obtain⟨m,G,hL,hi⟩:=HI.out;have HL:=zh hL;clear hL;have F:=N6 d.out.rd.K3;have b5:o<=ws.length:=d.out.rd.pos;have a4:=d.out.qk;have C:=d.out.f 1;cases G with
  |done b6=>
   obtain rfl:o=ws.length:=by omega
   obtain rfl:us=l.map (·.1):=by simpa using HL.out
   have S:=d.out.XY V0 λa V t O=>List.mem_flatMap.2 ⟨a,V,O⟩;have X:=zbm (d.out.ob 0 _ rfl);have hp:R0 wr _ (.slice A l.length n) (l.map (·.1)):=S.pp (B2 ..);have hU:=HU.out A n wr ⟨_,by rw[D9];exact hp⟩ S.gl;rw[D9]at hU;replace d:=zh S;have b7:=zh hU;have b8:=zh X;clear S hp hU X hi b5 b6 a4
   go_wp2_with fail
   refine b7.out.mono ?_;rintro e w9 ⟨rfl,H⟩;replace d:=zh (d.out.below H);have h9:=(d.out.gr.block w.heap.size (by omega) (by simp;omega)).trans H0.out;have H9:=zh h9;have D:=N6 h9;have E:=I7 h9;have C:=d.out.f 0;clear H h9
   go_wp2_with fail
   refine F1 (ZE rfl _ _ w.heap.size _ _ _ _ rfl (Z1 H9.out) underlying34 rfl zdg) rfl ?_;have U:=J2 w9 w.heap.size 0 (.slice A l.length n);refine⟨A,n,by simp,?_,⟨(d.out.gr.os.trans HB.out.os),d.out.gr.tape.trans HB.out.tape,d.out.gr.output.trans HB.out.output,by have:=d.out.gr.size;have:=HB.out.size;simp;omega,λk Q=>(U.block k (by omega) (by simp;omega)).trans ((d.out.gr.block k (by omega) (by simp;omega)).trans (HB.out.block k Q))⟩,by simpa using b8.out⟩;rw[D9];exact(d.out.pp (B2 ..)).J0 λg h1 h2=>⟨by omega,z6 h2 U.size,U.block g h2 (by simp;omega)⟩
  | @Zf _ j F m c9 hf G=>
    have k1:(o:Int)<(ws.length:Int):=by omega
    obtain⟨k,N,L,rfl,V,Q,ho,hp,O,H⟩: ∃k N L,F={L6:=L7 ws (o+1),J3:=N,O6:=N.map λ_=>1,out:=1,J7:=L,pos:=N2 ws o i.size}/\M0 ws o zgV=true/\O8 ws (o+1)=2/\M0 ws (o+2) jG=true/\Dp ws i.size 0 (o+3) N k/\zb7 ws k/\Ds ws i.size (.block (k+2)) (.Jf L j):=by
     cases hf with
     |fn h1 h2 h3 h4 h5 h6=>exact⟨_,_,_,rfl,h1,h2,h3,h4,h5,h6⟩
    clear hf;have HA:=zh V;have HK:=zh Q;have HO:=zh ho;have HP:=zh hp;have HT:=zh O;have b9:=zh H;have c0:=zh G;have d0:o<j:=by have:=hp.on;have:=H.on;simp only[onS]at this;omega
    clear V Q ho hp O H G;generalize a5:(N.map λ_=>(1:Int))=TS at HL;have HS:=zh a5;clear a5
    go_wp2_with fail
    refine d.out.ca XO ?_;intro w2 d
    go_upto_region 8 with(fail)
    replace d:=zh (((d.out.jt (u:=[.string ⟨#[]⟩,.slice none 0 0,.slice none 0 0,.int .i64 0,.slice none 0 0,.int .i64 (N2 ws o i.size)]) (T:=91)).nil 3 1).nil 9 1);generalize(World.alloc _ _)=W at d|-
    generalize w2.heap.size=bf at d|-
    go_wp2_with fail
    refine d.out.ca (V9 HA.out) ?_;intro w3 d
    go_wp2_with fail
    refine d.out.ca (zW 2 HK.out) ?_;intro w3 d;have C:=d.out.f 2
    go_wp2_with fail
    refine d.out.st2.ca (V9 HO.out) ?_;intro w3 d
    go_wp2_with fail
    go_loopw[11] (λkk wq=> ∃(ns:List ByteArray)(An:Option Addr)(mn:Nat)(z:List Int)(At:Option Addr)(mt i4:Nat),kk=.int .i64 ns.length/\Hid (Fr false ⟨R,.slice A0 ws.length y,ws,i.size⟩ W0 wq i4 [.r 9 1 (.slice An ns.length mn) ns.length (ns.flatMap R8.cells),.r 3 1 (.slice At z.length mt) z.length (z.flatMap zy.cells),.b bf [.string (L7 ws (o+1)),.slice An ns.length mn,.slice At z.length mt,.int .i64 0,.slice none 0 0,.int .i64 (N2 ws o i.size)] 91,.r 91 6 (.slice A l.length n) l.length (l.flatMap V0.cells),.b bu [.slice A l.length n] 34] (l.flatMap V0.qE))/\Hid (∃q m,Dp ws i.size q i4 m k/\q=ns.length/\N=ns++m/\z=ns.map (λ_=>1)/\q<=i4/\o<i4))
     (λ_ wq=>ws.length-X1 wq R)
    case atStart=>exact⟨[],none,0,[],none,0,o+3,rfl,d,zh ⟨0,N,HP.out,rfl,rfl,rfl,by omega,by omega⟩⟩
    case round=>
     obtain⟨ns,An,mn,z,At,mt,i4,rfl,d,c1⟩:=hrel;have a6:=d.out.qk;have c8:i4<=ws.length:=d.out.rd.pos;obtain⟨q,m2,G,hq,a7,a0,d1,d2⟩:=c1.out;have a8:z.length=q:=by rw[a0,hq,D9]
     have a9:=zh a7;have b0:=zh a0;have HQ:=zh hq;have c2:=zh a8;have h4:=a2.out;clear hq a7 a0 a8
     go_wp2_with fail
     cases G with
     |jP V=>
      obtain rfl:N=ns:=by simpa using a9.out
      obtain rfl:z=TS:=b0.out.trans HS.out;refine d.out.ca (zm V) ?_;intro w4 d
      go_wp2_with fail
      refine d.out.ca (zbl HT.out) ?_;intro w4 d;have C:=d.out.f 2
      go_wp2_with fail
      refine d.out.st2.cx (b4.out (by omega) _ _ _ b9.out) ?_;intro Ab mb w4 d;replace d:=zh ((d.out.XY R8 (by simp[R8])).XY zy (by simp[zy]));have C:=d.out.f 0
      go_upto_region 20 with(fail)
      replace d:=zh (d.out.st (n:=4) (x:=.slice Ab L.length mb));generalize World.setCell _ _ _=w5 at d|-
      have C:=d.out.f 0;have D:=d.out.f 2;have c3:=zh (d.out.drop.sub (ps':=V0.qE (⟨L7 ws (o+1),N,z,1,L,N2 ws o i.size⟩,.slice An N.length mn,.slice At z.length mt,.slice Ab L.length mb)++l.flatMap V0.qE) (λt O=>by
       simp only[V0,B6,C0,E7]at O
       rcases O with rfl|rfl|rfl|h
       ·exact .tail _ (.head _)
       ·exact .head _
       ·exact .tail _ (.tail _ (.head _))
       ·exact .tail _ (.tail _ (.tail _ h))))
      go_wp2_with((at_builtin;go_must(refine c3.out.apl V0 _ zdb rfl _ _ rfl rfl rfl rfl (by simp[V0,ZM,Value.oneCell']) (by omega) ?_);intro g8 J w8 s;have C8:=s.out.f 1))
      go_roundw
      case rel=>exact⟨l++[(⟨L7 ws (o+1),N,z,1,L,N2 ws o i.size⟩,.slice An N.length mn,.slice At z.length mt,.slice Ab L.length mb)],some ⟨g8,0,none⟩,J,j,zh (by simpa using s.out.jL (n:=0) (x:=.slice (some ⟨g8,0,none⟩) (l.length+1) J)),zh ⟨m,c0.out,by simp[HL.out],by simp;omega⟩⟩
      case measure=>have h:=s.out.jL (n:=0) (x:=.slice (some ⟨g8,0,none⟩) (l.length+1) J);have hj:j<=ws.length:=h.rd.pos;rw[show X1 _ R=j from h.qk,a4];omega
     |next V H Q O G=>
      have d4:=G.on;have hq:=HQ.out;have K:qK q i4=(if q=0 then i4 else i4+1):=rfl;have c4:=zh Q;have c5:=zh O;have c6:=zh G;clear Q O G;refine d.out.ca (zL V) ?_;intro w4 d;have F:=N6 d.out.rd.K3
      go_upto_if 66 with(fail)
      go_cut[] (λW=>Hid (Fr false ⟨R,.slice A0 ws.length y,ws,i.size⟩ W0 W (qK q i4) [.r 9 1 (.slice An ns.length mn) ns.length (ns.flatMap R8.cells),.r 3 1 (.slice At z.length mt) z.length (z.flatMap zy.cells),.b bf [.string (L7 ws (o+1)),.slice An ns.length mn,.slice At z.length mt,.int .i64 0,.slice none 0 0,.int .i64 (N2 ws o i.size)] 91,.r 91 6 (.slice A l.length n) l.length (l.flatMap V0.cells),.b bu [.slice A l.length n] 34] (l.flatMap V0.qE)))
      case first=>
       by_cases h0:q=0
       ·subst h0
        obtain rfl:=I3 hq.symm;clear hq K
        go_wp2_with fail
        go_meet
        case rel=>exact d
       ·have e0:0<ns.length:=by omega
        rw[B5 h0]at K
        go_wp2_with fail
        refine d.out.ca (V9 (H h0)) ?_;intro w d
        go_wp2_with fail
        go_meet
        case rel=>rw[K];exact d
      case rest=>
       replace d:=hcut;have d5:i4<=qK q i4:=by rw[K];split<;>omega
       clear hcut K F;generalize qK q i4=ip at*
       go_upto_region 16 with(fail)
       have B:=zh (d.out.below ⟨rfl,rfl,rfl,y6 _,λ_ _=>rfl⟩:Fr false _ W0 wc.drew ip _ _);have C:=B.out.f 2;have E:=B.out.lt 2
       go_region_law(first|(go_simp;go_at_call 67;refine(zW 2 c4.out (by decide) _ B.out.rd).mono ?_;rintro e w8 ⟨rfl,hR,U⟩;have s:=zh (B.out.jN hR U);have C8:=s.out.f 2;have E8:=s.out.lt 2;clear hR U)|(refine s.out.aps R8 _ Xx (by rfl) _ _ (by rfl) (by rfl) (by rfl) (by rfl) (by simp[R8,Value.oneCell']) (by omega) ?_;intro g9 Y w9 b1;have C9:=b1.out.f 2))
       all_goals
        replace d:=zh (b1.out.st2 (n:=1) (x:=.slice (some ⟨g9,0,none⟩) (ns.length+1) Y)).swap;generalize(World.setCell _ _ _)=w3 at d|-
        clear C E
        go_upto_region 17 with(fail)
        have B:=zh (d.out.below ⟨rfl,rfl,rfl,y6 _,λ_ _=>rfl⟩:Fr false _ W0 w3.drew (ip+1) _ _);have C:=B.out.f 2;have E:=B.out.lt 2
        go_region_law(first|(go_simp;go_at_call 69;refine(zbl c5.out _ B.out.rd).mono ?_;rintro e w8 ⟨rfl,hR,U⟩;have s:=zh (B.out.jN hR U);have C8:=s.out.f 2;have E8:=s.out.lt 2;clear hR U)|(refine s.out.aps zy _ ZQ (by rfl) _ _ (by rfl) (by rfl) (by rfl) (by rfl) (by simp[zy,Value.oneCell']) (by have:=c2.out;omega) ?_;intro g7 M w7 a1;have C7:=a1.out.f 2))
        all_goals
         go_wp2_with fail
         go_roundw
         case rel=>exact⟨ns++[L7 ws ip],some ⟨g9,0,none⟩,Y,z++[1],some ⟨g7,0,none⟩,M,ip+1+2,by simp,zh (by simpa using(a1.out.st2 (n:=2) (x:=.slice (some ⟨g7,0,none⟩) (z.length+1) M)).swap),zh ⟨q+1,_,c6.out,by simp;exact HQ.out,by simp[a9.out],by simp[b0.out],by omega,by omega⟩⟩
         case measure=>have h:=a1.out.st2 (n:=2) (x:=.slice (some ⟨g7,0,none⟩) (z.length+1) M);have:ip+1+2<=ws.length:=h.rd.pos;rw[show X1 _ R=ip+1+2 from h.qk,show X1 _ R=i4 from a6];omega
end Go.Proofs.YtalgmjmibamdfaaGreatDoor
