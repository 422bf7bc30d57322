/- Merged. -/
import Derived.Test.YtalgmjmibamdfaaGreatDoorCO17
set_option linter.all false
set_option maxHeartbeats 16000000
set_option maxRecDepth 100000
namespace Go.Proofs.YtalgmjmibamdfaaGreatDoor
open Go.Proofs.Tryz
open Go.RowKit Tw
def zB(N:Nat)(ns:List ByteArray)(low d i:Nat)(s:ByteArray)(a:Nat):Prop:= ∃g:GE,s=g.P8/\zJ N ns low d i g a
theorem zB.size{N:Nat}{ns:List ByteArray}{low d i:Nat}{s:ByteArray}{b:Nat}(c:d<=4)(a:yc ns)(e:low<=2)(h:zB N ns low d i s b):s.size<=6000:=by
 obtain⟨g,rfl,f⟩:=h;have:=f.T4 a e;have j:2^d<=2^4:=Nat.pow_le_pow_right (by decide) c;simp only[show 2^4=16 from rfl]at j;omega
section
variable {N:Nat}{ns:List ByteArray}{low d i i1 i2 i3 i4:Nat}{s t u:ByteArray}
theorem zB.Zw{k j:Nat}(a:Nx N 9 i k i1)(b:Nx N ns.length i1 j i2)(c:ns[j]?=some s):zB N ns low d i s i2:=⟨_,rfl,.Zw a b c⟩
theorem zB.lit{k n:Nat}(a:Nx N 9 i k i1)(b:Nx N 20 i1 n i2)(c:s=jV n):zB N ns low d i s i2:=⟨.lit n,c,.lit a b⟩
theorem Nx.got{n k:Nat}(h:Nx N n i k i1)(a:0<k):i<N/\i1=i+1:=by
 rcases h.2 with h|⟨_,_,h⟩
 ·exact h
 ·omega
theorem zB.neg{k:Nat}(a:Nx N 9 i k i1)(b:0<k)(h:zB N ns low (d-1) i1 s i2)(j:1<=d):zB N ns low d i (⟨#[45,40]⟩++s++⟨#[41]⟩) i2:=by
 obtain⟨c,rfl⟩:=a.got b;obtain⟨d,rfl⟩: ∃e,d=e+1:=⟨d-1,by omega⟩;obtain⟨g,rfl,f⟩:=h;exact⟨_,rfl,.neg c f⟩
theorem zB.call{k f:Nat}(b:Nx N 9 i k i1)(c:0<k)(hf:Nx N low i1 f i2)(j:u=jV f)(h:zB N ns low (d-1) i2 s i3)(l:zB N ns low (d-1) i3 t i4)(o:1<=d):zB N ns low d i (⟨#[102]⟩++u++⟨#[40]⟩++s++⟨#[44,32]⟩++t++⟨#[41]⟩) i4:=by
 obtain⟨m,rfl⟩:=b.got c;obtain⟨d,rfl⟩: ∃e,d=e+1:=⟨d-1,by omega⟩;obtain⟨g,rfl,n⟩:=h;obtain⟨p,rfl,a⟩:=l;subst j;exact⟨_,rfl,.call m hf n a⟩
theorem zB.host{k f:Nat}(a:Nx N 9 i k i1)(b:0<k)(hf:Nx N 4 i1 f i2)(c:u=jV f)(h:zB N ns low (d-1) i2 s i3)(m:1<=d):zB N ns low d i (⟨#[64]⟩++u++⟨#[40]⟩++s++⟨#[41]⟩) i3:=by
 obtain⟨j,rfl⟩:=a.got b;obtain⟨d,rfl⟩: ∃e,d=e+1:=⟨d-1,by omega⟩;obtain⟨g,rfl,l⟩:=h;subst c;exact⟨_,rfl,.host j hf l⟩
theorem zB.Je{k o:Nat}(b:Nx N 9 i k i1)(c:0<k)(h:zB N ns low (d-1) i1 s i2)(f:Nx N 5 i2 o i3)(j:u=Zt o)(l:zB N ns low (d-1) i3 t i4)(p:1<=d):zB N ns low d i (⟨#[40]⟩++s++⟨#[32]⟩++u++⟨#[32]⟩++t++⟨#[41]⟩) i4:=by
 obtain⟨m,rfl⟩:=b.got c;obtain⟨d,rfl⟩: ∃e,d=e+1:=⟨d-1,by omega⟩;obtain⟨g,rfl,n⟩:=h;obtain⟨q,rfl,a⟩:=l;subst j;exact⟨_,rfl,.Je m n f a⟩
end
def zam(w0 c:World)(sb f:Nat)(g:Option Addr)(n0 c0:Nat)(h:Option Addr)(cn:Nat)(ns:List ByteArray)(a low d i:Nat)(e:Ending)(w':World):Prop:=
 ∃(s:ByteArray)(b:Nat),e=.returned (.string s)/\s.size<=6000/\Hid (zB n0 ns low d i s b)/\Sc w0 c w' sb f g n0 c0 b h cn ns a low
def zhM(d:Nat):Prop:=
 ∀{w0 b w:World}{sb c:Nat}{e:Option Addr}{f g i:Nat}{h:Option Addr}{j:Nat}{ns:List ByteArray}{a low:Nat},Sc w0 b w sb c e f g i h j ns a low->Calls prog 32 #[.pointer (some ⟨sb,0,none⟩),.int .i64 d] w (zam w0 b sb c e f g h j ns a low d i)
theorem qN{w0 e w':World}{sb f:Nat}{g:Option Addr}{n0 c0 i:Nat}{h:Option Addr}{cn:Nat}{ns:List ByteArray}{a low:Nat}{d b:Nat}{s:ByteArray}(k:d<=4)(j:zB n0 ns low d i s b)(c:Sc w0 e w' sb f g n0 c0 b h cn ns a low):zam w0 e sb f g n0 c0 h cn ns a low d i (.returned (.string s)) w':=
 ⟨s,b,rfl,j.size k c.sz c.l1,zh j,c⟩
theorem Sc.c3{w0 e w:World}{sb b:Nat}{f:Option Addr}{n0 c0 i:Nat}{c:Option Addr}{cn:Nat}{ns:List ByteArray}{a low:Nat}(h:Sc w0 e w sb b f n0 c0 i c cn ns a low):w.cell? ⟨sb,0,none⟩=some (.pointer (some ⟨b,0,none⟩))/\w.cell? ⟨sb,1,none⟩=some (.slice c ns.length cn)/\w.cell? ⟨sb,3,none⟩=some (.int .i64 low):=⟨h.c0.1,h.c0.2.1,h.c0.2.2.2⟩
theorem Sc.dr{w0 b w:World}{sb c:Nat}{e:Option Addr}{n0 c0 i:Nat}{f:Option Addr}{cn:Nat}{ns:List ByteArray}{a low:Nat}(h:Sc w0 b w sb c e n0 c0 i f cn ns a low):Sc w0 b w.drew sb c e n0 c0 i f cn ns a low:=h.below (J5 _)
theorem zcB(k:Nat)(h:(k:Int)<5): ∃t:ByteArray,(∀a,Utf8.encode ((⟨#[43,45,42,47,37]⟩:ByteArray)[k]'a).toNat=t)/\t.size=1/\Hid (t=Zt k):=by
 have b:k=0\/k=1\/k=2\/k=3\/k=4:=by omega
 rcases b with rfl|rfl|rfl|rfl|rfl
 ·exact⟨Zt 0,λ_=>by kernel_rfl,by kernel_rfl,zh rfl⟩
 ·exact⟨Zt 1,λ_=>by kernel_rfl,by kernel_rfl,zh rfl⟩
 ·exact⟨Zt 2,λ_=>by kernel_rfl,by kernel_rfl,zh rfl⟩
 ·exact⟨Zt 3,λ_=>by kernel_rfl,by kernel_rfl,zh rfl⟩
 ·exact⟨Zt 4,λ_=>by kernel_rfl,by kernel_rfl,zh rfl⟩
theorem nn(k:Nat):(0:Int)<=(k:Int):=Int.natCast_nonneg k
theorem zhA{k low:Nat}(h:(k:Int)<(low:Int))(a:low<=2):k<=2000000:=by omega
theorem zko{a:Nat}(h:a<=21): ¬9223372036854775807<1+a/\ ¬9223372036854775807<1+a+1:=by omega
theorem zj0{a b:Nat}(h:a<=21)(c:b<=6000): ¬9223372036854775807<1+a+1+b/\ ¬9223372036854775807<1+a+1+b+2:=by omega
theorem zjY{a b c:Nat}(h:a<=21)(e:b<=6000)(f:c<=6000): ¬9223372036854775807<1+a+1+b+2+c/\ ¬9223372036854775807<1+a+1+b+2+c+1:=by omega
theorem zip{a:Nat}(h:a<=6000): ¬9223372036854775807<1+a/\ ¬9223372036854775807<1+a+1:=by omega
theorem zi9{a:Nat}(h:a<=6000): ¬9223372036854775807<1+a+1+1/\ ¬9223372036854775807<1+a+1+1+1:=by omega
theorem zjc{a b:Nat}(h:a<=6000)(c:b<=6000): ¬9223372036854775807<1+a+1+1+1+b/\ ¬9223372036854775807<1+a+1+1+1+b+1:=by omega
theorem zbg{α:Type}(l:List α)(k:Nat)(h:(k:Int)<(l.length:Int)): ∃s,l[k]?=some s:=⟨_,y8 (by omega)⟩
theorem YW(d:Nat)(H:d<=4)(ih:1<=d->zhM (d-1)):zhM d:=by
 intro w0 wv w sb K A0 n0 c0 i L M ns v low h;have IH:1<=d-> ∀{w0 wv w:World}{sb K:Nat}{A0:Option Addr}{n0 c0 i:Nat}{L:Option Addr}{M:Nat}{ns:List ByteArray}{v low:Nat},Sc w0 wv w sb K A0 n0 c0 i L M ns v low->Calls prog 32 #[.pointer (some ⟨sb,0,none⟩),.int .i64 ((d:Int)-1)] w (zam w0 wv sb K A0 n0 c0 L M ns v low (d-1) i):=by
  intro h1 w0 wv w sb K A0 n0 c0 i L M ns v low h;have:=ih h1 h;rw[show((d-1:Nat):Int)=(d:Int)-1 by omega]at this;exact this
 have m:=zh IH;have c:=zh h;clear IH ih;obtain⟨Z,c1,c2,c3⟩:=h.c0;have a8:=h.l1;clear h
 go_enter func32,ntmps32
 go_wp2_with fail
 refine(XV 9 (by decide) (by decide) c.out).mono ?_;rintro e w1 ⟨k,i1,rfl,c8,A,f⟩;replace A:=zh A;replace c:=zh f;clear f Z c1 c2 c3;obtain⟨Z,c1,c2,c3⟩:=c.out.c0
 by_cases hv:k<2/\0<ns.length
 ·obtain⟨n,hn⟩:=hv
  have J:decide ((k:Int)<2)=true:=by simp;omega
  obtain⟨g,rfl⟩:=c.out.arr hn;have a9:(0:Int)<(ns.length:Int):=by omega
  have c9:=c.out.nl;have b0:(1:Int)<=(ns.length:Int):=by omega
  have b1:(ns.length:Int)<=4000000000:=by omega
  go_upto_region 3 with(fail)
  have b2:=c.out.dr
  go_region_law(first|(go_simp;go_at_call 29;refine(XV _ b0 b1 b2).mono ?_;rintro e w8 ⟨y,i2,rfl,a0,p,a⟩;obtain⟨s8,O⟩:=zbg ns y a0;have d8:=a.L6 y s8 O;have a1:=zh a;have b3:=zh O;replace p:=zh p;obtain⟨e0,e1,e2,e3⟩:=a.c0;have d0:=nn y;clear O a))
  all_goals
   go_wp2_with fail
   go_ret;exact qN H (.Zw A.out p.out b3.out) (by first|exact a1.out|exact a1.out.dr)
 by_cases n:k<2
 ·have a9:(ns.length:Int)<=0:=by omega
  clear hv
  go_wp2_with fail
  refine(XV 20 (by omega) (by omega) c.out).mono ?_;rintro e P ⟨y,i2,rfl,n,b,f⟩;replace c:=zh f;clear f;replace b:=zh b
  go_wp2_with fail
  refine(jx y (by omega) c.out).mono ?_;rintro e X ⟨Y,rfl,l,x,f⟩;replace c:=zh f;clear f
  go_wp2_with fail
  go_ret;exact qN H (.lit A.out b.out l.out) c.out
 have J:(2:Int)<=k:=by omega
 clear hv n
 by_cases b4:k<4
 ·have a2:(k:Int)<4:=by omega
  go_wp2_with fail
  refine(XV 20 (by omega) (by omega) c.out).mono ?_;rintro e P ⟨y,i2,rfl,n,b,f⟩;replace c:=zh f;clear f;replace b:=zh b
  go_wp2_with fail
  refine(jx y (by omega) c.out).mono ?_;rintro e X ⟨Y,rfl,l,x,f⟩;replace c:=zh f;clear f
  go_wp2_with fail
  go_ret;exact qN H (.lit A.out b.out l.out) c.out
 have a2:(4:Int)<=k:=by omega
 clear b4 J
 by_cases a3:d=0
 ·subst a3
  go_wp2_with fail
  refine(XV 20 (by omega) (by omega) c.out).mono ?_;rintro e P ⟨y,i2,rfl,n,b,f⟩;replace c:=zh f;clear f;replace b:=zh b
  go_wp2_with fail
  refine(jx y (by omega) c.out).mono ?_;rintro e X ⟨Y,rfl,l,x,f⟩;replace c:=zh f;clear f
  go_wp2_with fail
  go_ret;exact qN H (.lit A.out b.out l.out) c.out
 have j:1<=d:=by omega
 have c4:(1:Int)<=(d:Int):=by omega
 have c5:((d:Int)==0)=false:=beq_eq_false_iff_ne.2 (by omega);clear a3
 by_cases hk:k=4
 ·subst hk
  go_wp2_with fail
  refine(m.out j c.out).mono ?_;rintro e P ⟨Y,i2,rfl,x,a4,f⟩;replace c:=zh f;clear f
  go_wp2_with fail
  go_ret;exact qN H (.neg A.out (by decide) a4.out j) c.out
 by_cases Q:k=6
 ·subst Q
  clear hk
  go_wp2_with fail
  refine(XV 4 (by omega) (by omega) c.out).mono ?_;rintro e P ⟨y,i2,rfl,n,b,f⟩;replace c:=zh f;clear f;replace b:=zh b
  go_wp2_with fail
  refine(jx y (by omega) c.out).mono ?_;rintro e X ⟨Y,rfl,l,x,f⟩;replace c:=zh f;clear f
  go_wp2_with fail
  refine(m.out j c.out).mono ?_;rintro e w4 ⟨s3,i3,rfl,c6,a5,f⟩;replace c:=zh f;clear f
  go_wp2_with fail
  go_ret;exact qN H (.host A.out (by decide) b.out l.out a5.out j) c.out
 by_cases R:k=5/\0<low
 ·obtain⟨rfl,c7⟩:=R
  have S:(1:Int)<=(low:Int):=by omega
  have T:(low:Int)<=4000000000:=by omega
  have b5:(0:Int)<(low:Int):=by omega
  clear hk Q
  go_upto_region 9 with(fail)
  have o:=zh c.out.dr;clear c;have a6:IntKind.i64.wrap ((d:Int)-1)=(d:Int)-1:=IntWalk.i64_in _ (by omega)
  go_region_held3 (λW=>W.cell? ⟨sb,0,none⟩=some (.pointer (some ⟨K,0,none⟩))/\W.cell? ⟨sb,1,none⟩=some (.slice L ns.length M)/\W.cell? ⟨sb,3,none⟩=some (.int .i64 low))
   (first|(with_reducible exact o.out.c3)|(with_reducible assumption))
   (first
    |(go_at_call 29;refine(XV _ S T o.out).mono ?_;rintro e P ⟨y,i2,rfl,n,p,a⟩;have I:=a.c3;have B:=zh a;replace p:=zh p;clear a)
    |(go_at_call 30;refine(jx y (zhA n a8) B.out).mono ?_;rintro e X ⟨s3,rfl,C,D,a⟩;have I:=a.c3;have E:=zh a;clear a;have f1:=zko D)
    |(go_at_call 32;refine(m.out j F.out).mono ?_;rintro e w5 ⟨s5,i5,rfl,b6,b7,a⟩;have I:=a.c3;have b8:=zh a;clear a;have f5:=zjY D z b6)
    |(go_at_call 32;refine(m.out j E.out).mono ?_;rintro e w4 ⟨s4,i4,rfl,z,G,a⟩;have I:=a.c3;have F:=zh a;clear a;have f3:=zj0 D z))
  go_wp2_with fail
  go_ret;exact qN H (.call A.out (by decide) p.out C.out G.out b7.out j) b8.out
 ·have e4:((k:Int)==4)=false:=beq_eq_false_iff_ne.2 (by omega)
  have e6:((k:Int)==6)=false:=beq_eq_false_iff_ne.2 (by omega);have a7:0<k:=by omega
  have hx:((k:Int)==5)=false\/(k=5/\(low:Int)<=0):=by
   rcases E5 0 low with h|h
   ·exact .inl (beq_eq_false_iff_ne.2 (by intro e;exact R ⟨by omega,h⟩))
   ·by_cases h5:k=5
    ·exact .inr ⟨h5,by omega⟩
    ·exact .inl (beq_eq_false_iff_ne.2 (by omega))
  clear R Q hk
  rcases hx with e5|⟨e5,d1⟩
  ·skip
   go_upto_region 12 with(fail)
   have o:=zh c.out.dr;clear c;have a6:IntKind.i64.wrap ((d:Int)-1)=(d:Int)-1:=IntWalk.i64_in _ (by omega)
   go_region_held3 (λW=>W.cell? ⟨sb,0,none⟩=some (.pointer (some ⟨K,0,none⟩))/\W.cell? ⟨sb,1,none⟩=some (.slice L ns.length M)/\W.cell? ⟨sb,3,none⟩=some (.int .i64 low))
    (first|(with_reducible exact o.out.c3)|(with_reducible assumption))
    (first
     |(go_at_call 29;refine(XV _ (by omega) (by omega) B.out).mono ?_;rintro e X ⟨k3,i3,rfl,U,q,a⟩;have I:=a.c3;have E:=zh a;replace q:=zh q;clear a;have j0:=nn k3;obtain⟨t3,b9,D,C⟩:=zcB k3 U;have f3:=zi9 r)
     |(go_at_call 32;refine(m.out j E.out).mono ?_;rintro e w4 ⟨s4,i4,rfl,z,G,a⟩;have I:=a.c3;have F:=zh a;clear a;have f4:=zjc r z)
     |(go_at_call 32;refine(m.out j o.out).mono ?_;rintro e P ⟨Y,i2,rfl,r,V,a⟩;have I:=a.c3;have B:=zh a;clear a;have f1:=zip r))
   all_goals
    go_wp2_with fail
    go_ret;exact qN H (.Je A.out a7 V.out q.out C.out G.out j) F.out
  ·subst e5
   go_upto_region 12 with(fail)
   have o:=zh c.out.dr;clear c;have a6:IntKind.i64.wrap ((d:Int)-1)=(d:Int)-1:=IntWalk.i64_in _ (by omega)
   go_region_held3 (λW=>W.cell? ⟨sb,0,none⟩=some (.pointer (some ⟨K,0,none⟩))/\W.cell? ⟨sb,1,none⟩=some (.slice L ns.length M)/\W.cell? ⟨sb,3,none⟩=some (.int .i64 low))
    (first|(with_reducible exact o.out.c3)|(with_reducible assumption))
    (first
     |(go_at_call 29;refine(XV _ (by omega) (by omega) B.out).mono ?_;rintro e X ⟨k3,i3,rfl,U,q,a⟩;have I:=a.c3;have E:=zh a;replace q:=zh q;clear a;have j0:=nn k3;obtain⟨t3,b9,D,C⟩:=zcB k3 U;have f3:=zi9 r)
     |(go_at_call 32;refine(m.out j E.out).mono ?_;rintro e w4 ⟨s4,i4,rfl,z,G,a⟩;have I:=a.c3;have F:=zh a;clear a;have f4:=zjc r z)
     |(go_at_call 32;refine(m.out j o.out).mono ?_;rintro e P ⟨Y,i2,rfl,r,V,a⟩;have I:=a.c3;have B:=zh a;clear a;have f1:=zip r))
   all_goals
    go_wp2_with fail
    go_ret;exact qN H (.Je A.out a7 V.out q.out C.out G.out j) F.out
def zR(N:Nat)(ns:List ByteArray)(low d i:Nat)(s:ByteArray)(a:Nat):Prop:= ∃g:GE,s=g.P8/\zS N ns low d i g a
theorem zR.size{N:Nat}{ns:List ByteArray}{low d i:Nat}{s:ByteArray}{b:Nat}(c:d<=2)(a:yc ns)(e:low<=2)(h:zR N ns low d i s b):s.size<=4000:=by
 obtain⟨g,rfl,f⟩:=h;have:=f.T4 a e;have j:2^d<=2^2:=Nat.pow_le_pow_right (by decide) c;simp only[show 2^2=4 from rfl]at j;omega
section
variable {N:Nat}{ns:List ByteArray}{low d i i1 i2 i3 i4:Nat}{s t u:ByteArray}
theorem zR.not{k:Nat}(a:Nx N 6 i k i1)(h:zR N ns low (d-1) i1 s i2)(c:1<=d):zR N ns low d i (⟨#[33,40]⟩++s++⟨#[41]⟩) i2:=by
 obtain⟨d,rfl⟩: ∃e,d=e+1:=⟨d-1,by omega⟩;obtain⟨g,rfl,b⟩:=h;exact⟨_,rfl,.not a b⟩
theorem zR.and{k:Nat}(b:Nx N 6 i k i1)(c:0<k)(h:zR N ns low (d-1) i1 s i2)(f:zR N ns low (d-1) i2 t i3)(m:1<=d):zR N ns low d i (⟨#[40]⟩++s++⟨#[32,38,38,32]⟩++t++⟨#[41]⟩) i3:=by
 obtain⟨j,rfl⟩:=b.got c;obtain⟨d,rfl⟩: ∃e,d=e+1:=⟨d-1,by omega⟩;obtain⟨g,rfl,l⟩:=h;obtain⟨n,rfl,a⟩:=f;exact⟨_,rfl,.and j l a⟩
theorem zR.or{k:Nat}(b:Nx N 6 i k i1)(c:0<k)(h:zR N ns low (d-1) i1 s i2)(f:zR N ns low (d-1) i2 t i3)(m:1<=d):zR N ns low d i (⟨#[40]⟩++s++⟨#[32,124,124,32]⟩++t++⟨#[41]⟩) i3:=by
 obtain⟨j,rfl⟩:=b.got c;obtain⟨d,rfl⟩: ∃e,d=e+1:=⟨d-1,by omega⟩;obtain⟨g,rfl,l⟩:=h;obtain⟨n,rfl,a⟩:=f;exact⟨_,rfl,.or j l a⟩
theorem zR.tf{k j:Nat}(a:Nx N 6 i k i1)(b:0<k)(h:Nx N 2 i1 j i2)(hs:s=tfT j):zR N ns low d i s i2:=by
 obtain⟨c,rfl⟩:=a.got b;exact⟨.tf j,hs,.tf c h⟩
theorem zR.cmp{k o:Nat}(b:Nx N 6 i k i1)(h:zB N ns low 1 i1 s i2)(c:Nx N 6 i2 o i3)(e:u=Qd o)(f:zB N ns low 1 i3 t i4):zR N ns low d i (s++u++t) i4:=by
 obtain⟨g,rfl,j⟩:=h;obtain⟨l,rfl,a⟩:=f;subst e;exact⟨_,rfl,.cmp b j c a⟩
end
def zaZ(w0 c:World)(sb f:Nat)(g:Option Addr)(n0 c0:Nat)(h:Option Addr)(cn:Nat)(ns:List ByteArray)(a low d i:Nat)(e:Ending)(w':World):Prop:=
 ∃(s:ByteArray)(b:Nat),e=.returned (.string s)/\s.size<=4000/\Hid (zR n0 ns low d i s b)/\Sc w0 c w' sb f g n0 c0 b h cn ns a low
def zdv(d:Nat):Prop:=
 ∀{w0 b w:World}{sb c:Nat}{e:Option Addr}{f g i:Nat}{h:Option Addr}{j:Nat}{ns:List ByteArray}{a low:Nat},Sc w0 b w sb c e f g i h j ns a low->Calls prog 104 #[.pointer (some ⟨sb,0,none⟩),.int .i64 d] w (zaZ w0 b sb c e f g h j ns a low d i)
theorem xt{w0 e w':World}{sb f:Nat}{g:Option Addr}{n0 c0 i:Nat}{h:Option Addr}{cn:Nat}{ns:List ByteArray}{a low:Nat}{d b:Nat}{s:ByteArray}(k:d<=2)(j:zR n0 ns low d i s b)(c:Sc w0 e w' sb f g n0 c0 b h cn ns a low):zaZ w0 e sb f g n0 c0 h cn ns a low d i (.returned (.string s)) w':=
 ⟨s,b,rfl,j.size k c.sz c.l1,zh j,c⟩
theorem yJ: ∀d:Nat,d<=4->zhM d
 |0,_=>YW 0 (by decide) (by omega)
 |d+1,h=>YW (d+1) h (λ_=>yJ d (by omega))
theorem Sc.al{w0 b w:World}{sb c:Nat}{e:Option Addr}{n0 c0 i:Nat}{f:Option Addr}{cn:Nat}{ns:List ByteArray}{a low:Nat}(h:Sc w0 b w sb c e n0 c0 i f cn ns a low)(o:Obj):Sc w0 b (w.alloc o) sb c e n0 c0 i f cn ns a low:=h.below ((y7 _ _).alloc (y6 _) o)
theorem Sc.jt{w0 e w:World}{sb b:Nat}{f:Option Addr}{n0 c0 i:Nat}{g:Option Addr}{cn:Nat}{ns:List ByteArray}{a low:Nat}{w':World}{c:Array Value}{t:TypeId}(h:Sc w0 e w sb b f n0 c0 i g cn ns a low)(q:Unit)(j:(w.alloc (.cells c t)).grownBy w' (some b)):w'.heap[w.heap.size]?=some (.cells c t (0,0)):=
 (j.block _ (by simp) (by have:=h.q;have:=h.s;simp;omega)).trans (y9 w _)
theorem Sc.old{w0 e w:World}{sb c:Nat}{f:Option Addr}{n0 c0 i:Nat}{j:Option Addr}{cn:Nat}{ns:List ByteArray}{b low:Nat}{w':World}{g:Nat}{o:Obj}(h:Sc w0 e w sb c f n0 c0 i j cn ns b low)(k:w.grownBy w' (some c))(a:w.heap[g]?=some o/\g≠c):w'.heap[g]?=some o:=
 (k.block _ (I7 a.1) (by simpa using a.2)).trans a.1
theorem Sc.ne{w0 b w:World}{sb qb:Nat}{c:Option Addr}{n0 c0 i:Nat}{e:Option Addr}{cn:Nat}{ns:List ByteArray}{a low:Nat}(h:Sc w0 b w sb qb c n0 c0 i e cn ns a low):w.heap.size≠qb:=by have:=h.q;have:=h.s;omega
theorem Sc.zkQ{w0 e w:World}{sb b:Nat}{f:Option Addr}{n0 c0 i:Nat}{g:Option Addr}{cn:Nat}{ns:List ByteArray}{a low:Nat}{w':World}{c:Array Value}{t:TypeId}(h:Sc w0 e w sb b f n0 c0 i g cn ns a low)(j:(w.alloc (.cells c t)).drew.grownBy w' (some b)):w'.heap[w.heap.size]?=some (.cells c t (0,0)):=Sc.jt h () (K8 (K7 (J5 _) _) j)
theorem Sc.ald{w0 b w:World}{sb c:Nat}{e:Option Addr}{n0 c0 i:Nat}{f:Option Addr}{cn:Nat}{ns:List ByteArray}{a low:Nat}(h:Sc w0 b w sb c e n0 c0 i f cn ns a low)(o:Obj):Sc w0 b (w.alloc o).drew sb c e n0 c0 i f cn ns a low:=(h.al o).dr
theorem zgW:(1:Int)<=6:=by decide
theorem zgz:(6:Int)<=4000000000:=by decide
theorem zhO{a b:Nat}(h:a<=6000)(c:b<=4): ¬9223372036854775807<a+b:=by omega
theorem zg9{a b c:Nat}(h:a<=6000)(e:b<=4)(f:c<=6000): ¬9223372036854775807<a+b+c:=by omega
theorem zdw(k:Nat): ∃t:ByteArray,t.size<=4/\t=Qd k:=⟨Qd k,by unfold Qd;split<;>decide,rfl⟩
theorem Zj{k:Nat}{t:ByteArray}(h:(k:Int)<6)(b:t=Qd k)(w:World)(g:Nat)(a:w.heap[g]?=some (.cells #[.string ⟨#[32,60,32]⟩,.string ⟨#[32,60,61,32]⟩,.string ⟨#[32,62,32]⟩,.string ⟨#[32,62,61,32]⟩,.string ⟨#[32,61,61,32]⟩,.string ⟨#[32,33,61,32]⟩] 9 (0,0))):w.cell? ⟨g,k,none⟩=some (.string t):=by
 subst b;have c:k=0\/k=1\/k=2\/k=3\/k=4\/k=5:=by omega
 rcases c with rfl|rfl|rfl|rfl|rfl|rfl
 ·exact y5 a 0
 ·exact y5 a 1
 ·exact y5 a 2
 ·exact y5 a 3
 ·exact y5 a 4
 ·exact y5 a 5
theorem ziI(k:Nat)(h:(k:Int)<2)(w:World)(g:Nat)(a:w.heap[g]?=some (.cells #[.string ⟨#[116,114,117,101]⟩,.string ⟨#[102,97,108,115,101]⟩] 9 (0,0))): ∃t:ByteArray,w.cell? ⟨g,k,none⟩=some (.string t)/\t=tfT k:=by
 have b:k=0\/k=1:=by omega
 rcases b with rfl|rfl
 ·exact⟨tfT 0,y5 a 0,rfl⟩
 ·exact⟨tfT 1,y5 a 1,rfl⟩
theorem Jx(d:Nat)(Z:d<=2)(ih:1<=d->zdv (d-1)):zdv d:=by
 intro w0 L w sb M O P Q i R S ns c low h;have IH:1<=d-> ∀{w0 L w:World}{sb M:Nat}{O:Option Addr}{P Q i:Nat}{R:Option Addr}{S:Nat}{ns:List ByteArray}{c low:Nat},Sc w0 L w sb M O P Q i R S ns c low->Calls prog 104 #[.pointer (some ⟨sb,0,none⟩),.int .i64 ((d:Int)-1)] w (zaZ w0 L sb M O P Q R S ns c low (d-1) i):=by
  intro h1 w0 L w sb M O P Q i R S ns c low h;have:=ih h1 h;rw[show((d-1:Nat):Int)=(d:Int)-1 by omega]at this;exact this
 have v:=zh IH;have b:=zh h;have HN:Hid (∀{w0 L w:World}{sb M:Nat}{O:Option Addr}{P Q i:Nat}{R:Option Addr}{S:Nat}{ns:List ByteArray}{c low:Nat},Sc w0 L w sb M O P Q i R S ns c low->Calls prog 32 #[.pointer (some ⟨sb,0,none⟩),.int .i64 1] w (zam w0 L sb M O P Q R S ns c low 1 i)):=zh (yJ 1 (by decide));clear IH ih;obtain⟨x,c1,c2,c3⟩:=h.c0;have a8:=h.l1;clear h
 go_enter func104,ntmps104
 go_wp2_with fail
 refine(XV 6 (by decide) (by decide) b.out).mono ?_;rintro e w1 ⟨k,i1,rfl,a9,T,g⟩;replace T:=zh T;replace b:=zh g;clear g x c1 c2 c3
 by_cases h0:k=0/\1<=d
 ·obtain⟨rfl,j⟩:=h0
  have F:(1:Int)<=(d:Int):=by omega
  have G:(0:Int)<(d:Int):=by omega
  go_wp2_with fail
  refine(v.out j b.out).mono ?_;rintro e X ⟨s2,i2,rfl,H,n,g⟩;replace b:=zh g;clear g
  go_wp2_with fail
  go_ret;exact xt Z (.not T.out n.out j) b.out
 by_cases h1:k=1/\1<=d
 ·obtain⟨rfl,j⟩:=h1
  have F:(1:Int)<=(d:Int):=by omega
  have G:(0:Int)<(d:Int):=by omega
  clear h0
  go_wp2_with fail
  refine(v.out j b.out).mono ?_;rintro e X ⟨s2,i2,rfl,H,n,g⟩;replace b:=zh g;clear g
  go_wp2_with fail
  refine(v.out j b.out).mono ?_;rintro e I ⟨s3,i3,rfl,a0,y,g⟩;replace b:=zh g;clear g
  go_wp2_with fail
  go_ret;exact xt Z (.and T.out (by decide) n.out y.out j) b.out
 by_cases h2:k=2/\1<=d
 ·obtain⟨rfl,j⟩:=h2
  have F:(1:Int)<=(d:Int):=by omega
  have G:(0:Int)<(d:Int):=by omega
  clear h0 h1
  go_wp2_with fail
  refine(v.out j b.out).mono ?_;rintro e X ⟨s2,i2,rfl,H,n,g⟩;replace b:=zh g;clear g
  go_wp2_with fail
  refine(v.out j b.out).mono ?_;rintro e I ⟨s3,i3,rfl,a0,y,g⟩;replace b:=zh g;clear g
  go_wp2_with fail
  go_ret;exact xt Z (.or T.out (by decide) n.out y.out j) b.out
 have hq:k=3\/(k=0/\d=0)\/(k=1/\d=0)\/(k=2/\d=0)\/(((k:Int)==0)=false/\((k:Int)==1)=false/\((k:Int)==2)=false/\((k:Int)==3)=false):=by
  by_cases h3:k<4
  ·omega
  ·exact .inr (.inr (.inr (.inr ⟨beq_eq_false_iff_ne.2 (by omega),beq_eq_false_iff_ne.2 (by omega),beq_eq_false_iff_ne.2 (by omega),beq_eq_false_iff_ne.2 (by omega)⟩)))
 clear h0 h1 h2
 rcases hq with rfl|hq
 ·obtain⟨x,c1,c2,c3⟩:=b.out.c0
  have a6:=b.out.s
  go_wp2_with fail
  have a1:=zh (b.out.al (.cells #[.string ⟨#[116,114,117,101]⟩,.string ⟨#[102,97,108,115,101]⟩] 9));refine(XV 2 (by decide) (by decide) a1.out.qy).mono ?_;rintro e X ⟨k2,i2,rfl,a7,U,g⟩;obtain⟨t,ht,hT⟩:=ziI k2 a7 X w1.heap.size (Sc.jt b.out () g.gr);have HT:=zh hT;replace U:=zh U;replace b:=zh (a1.out.tr g);have j0:=nn k2;clear g x c1 c2 c3 hT
  go_wp2_with fail
  go_ret;exact xt Z (.tf T.out (by decide) U.out HT.out) b.out
 ·rcases hq with⟨rfl,rfl⟩|⟨rfl,rfl⟩|⟨rfl,rfl⟩|⟨q0,q1,q2,q3⟩
  all_goals
   obtain⟨x,c1,c2,c3⟩:=b.out.c0
   go_upto_region 10 with(fail)
   have a2:=zh b.out.dr;have J:=a2.out.c3;have q7:=b.out.c3;have a6:=b.out.s;have C:=zh b.out;clear b x c1 c2 c3
   go_region_law(first|(go_simp;first
    |(go_at_call 29;refine(XV _ zgW zgz z.out.1.qy).mono ?_;rintro e I ⟨K,i3,rfl,o,l,a⟩;have J:=a.c3;have V:=a.s;have j0:=nn K;replace l:=zh l;have D:=zh (And.intro (Sc.old z.out.1 a.gr z.out.2) z.out.2.2);obtain⟨t3,p,f⟩:=zdw K;have a3:=Zj o f I _ D.out.1;have r:=zh f;have m:=zh (z.out.1.tr a);have f3:=zhO q p;clear a f)
    |(go_at_call 29;refine(XV _ zgW zgz (A.out.al _).qy).mono ?_;rintro e I ⟨K,i3,rfl,o,l,a⟩;have J:=a.c3;have V:=a.s;have j0:=nn K;replace l:=zh l;have D:=zh (And.intro (Sc.jt A.out () a.gr) (Sc.ne A.out));obtain⟨t3,p,f⟩:=zdw K;have a3:=Zj o f I _ D.out.1;have r:=zh f;have m:=zh ((A.out.al _).tr a);have f3:=zhO q p;clear a f)
    |(go_at_call 29;refine(XV _ zgW zgz A.out).mono ?_;rintro e I ⟨K,i3,rfl,o,l,a⟩;have J:=a.c3;have V:=a.s;have j0:=nn K;replace l:=zh l;obtain⟨t3,p,f⟩:=zdw K;have a3:=Zj o f (I.alloc (.cells #[.string ⟨#[32,60,32]⟩,.string ⟨#[32,60,61,32]⟩,.string ⟨#[32,62,32]⟩,.string ⟨#[32,62,61,32]⟩,.string ⟨#[32,61,61,32]⟩,.string ⟨#[32,33,61,32]⟩] 9)) _ (y9 I _);have r:=zh f;have m:=zh a;have f3:=zhO q p;clear a f)
    |(go_at_call 32;refine(HN.out m.out.qy).mono ?_;rintro e Y ⟨s4,i4,rfl,B,W,a⟩;have J:=a.c3;have V:=a.s;have E:=zh (m.out.tr a);have a4:=Zj o r.out Y _ (Sc.old m.out a.gr D.out);clear a;have f4:=zg9 q p B)
    |(go_at_call 32;refine(HN.out (m.out.al _).qy).mono ?_;rintro e Y ⟨s4,i4,rfl,B,W,a⟩;have J:=a.c3;have V:=a.s;have E:=zh ((m.out.al _).tr a);have a4:=Zj o r.out Y _ (Sc.jt m.out () a.gr);clear a;have f4:=zg9 q p B)
    |(go_at_call 32;refine(HN.out m.out).mono ?_;rintro e Y ⟨s4,i4,rfl,B,W,a⟩;have J:=a.c3;have V:=a.s;have E:=zh a;have a4:=Zj o r.out (Y.alloc (.cells #[.string ⟨#[32,60,32]⟩,.string ⟨#[32,60,61,32]⟩,.string ⟨#[32,62,32]⟩,.string ⟨#[32,62,61,32]⟩,.string ⟨#[32,61,61,32]⟩,.string ⟨#[32,33,61,32]⟩] 9)) _ (y9 Y _);clear a;have f4:=zg9 q p B)
    |(go_at_call 32;refine(HN.out a2.out).mono ?_;rintro e X ⟨s2,i2,rfl,q,a5,a⟩;have J:=a.c3;have V:=a.s;have A:=zh a;clear a)
    |(go_at_call 32;refine(HN.out (C.out.ald _).qy).mono ?_;rintro e X ⟨s2,i2,rfl,q,a5,a⟩;have J:=a.c3;have V:=a.s;have z:=zh (And.intro ((C.out.ald _).tr a) (And.intro (Sc.zkQ C.out a.gr) (Sc.ne C.out)));clear a)))
   all_goals
    go_wp2_with fail
    go_ret;exact xt Z (.cmp T.out a5.out l.out r.out W.out) (by first|exact E.out|exact E.out.al _)
end Go.Proofs.YtalgmjmibamdfaaGreatDoor
namespace Go.Proofs.YtalgmjmibamdfaaGreatDoor
open Go.RowKit Tw
theorem yG.pre{N low:Nat}{B:Ms->GL->Ms->Prop}(a: ∀s g s',B s g s'->s'.ns=s.ns){s:Ms}{g:GL}{s':Ms}(h:yG N low B s g s'): ∃l,s'.ns=s.ns++l:=by
 cases h with
 |QZ _ _ b c=>exact⟨[],by rw[a _ _ _ c,a _ _ _ b];simp⟩
 |jf _ _ e=>exact⟨[],by rw[a _ _ _ e];simp⟩
 |bind _ _=>exact⟨_,rfl⟩
 |set _ _ _ _=>exact⟨[],by simp⟩
 |js _ _=>exact⟨[],by simp⟩
 |run _ _=>exact⟨[],by simp⟩
 |ret _ _ _=>exact⟨[],by simp⟩
theorem zhb{N low:Nat}{d:Nat}{s:Ms}{g:GL}{s':Ms}(h:Jt N low d s g s'):s'.ns=s.ns:=by
 rw[zdK]at h;obtain⟨j,i1,a,_,_,rfl⟩:=h;rfl
theorem Jl.pre{N low d:Nat}{s:Ms}{g:GL}{s':Ms}(h:Jl N low d s g s'): ∃l,s'.ns=s.ns++l:=by
 cases d with
 |zero=>exact yG.pre (λ_ _ _ h=>h.elim) h
 |succ d=>exact yG.pre (λ_ _ _ h=>zhb h) h
theorem Run.pre{N low d j:Nat}{s:Ms}{g:GL}{s':Ms}(h:Run (Jl N low d) j s g s'): ∃l,s'.ns=s.ns++l:=by
 induction h with
 |nil=>exact⟨[],by simp⟩
 |xb _ b c=>
  obtain⟨l,e⟩:=c;obtain⟨f,a⟩:=b.pre;exact⟨l++f,by rw[a,e,B9]⟩
theorem zaD{d:Nat}(h:d<=3):Ju d<=777/\mkS d<=259:=by
 have a:d=0\/d=1\/d=2\/d=3:=by omega
 rcases a with rfl|rfl|rfl|rfl<;>decide
theorem zaH{d:Nat}(h:d<=3):szB d<=3885000/\szS d<=1295000:=by
 have a:d=0\/d=1\/d=2\/d=3:=by omega
 rcases a with rfl|rfl|rfl|rfl<;>decide
def zg(N low d:Nat)(s:Ms)(t:ByteArray)(s':Ms):Prop:= ∃g:GL,t=g.P8/\Jl N low d s g s'
def QQ(N low d j:Nat)(s:Ms)(t:ByteArray)(s':Ms):Prop:= ∃g:GL,t=g.P8/\Run (Jl N low d) j s g s'
def Xb(N low d:Nat)(s:Ms)(t:ByteArray)(s':Ms):Prop:= ∃g:GL,t=g.P8/\Jt N low d s g s'
theorem zg.bd{N low d:Nat}{s:Ms}{t:ByteArray}{s':Ms}(h:zg N low d s t s')(a:d<=3)(b:low<=2)(c:yc s.ns)(o:s.m<=900000):s.m<=s'.m/\s'.m<=s.m+mkS d/\t.size<=1295000/\yc s'.ns/\s'.ns.length<=s.ns.length+1:=by
 obtain⟨g,rfl,e⟩:=h;have p:=zaD a;have q:=zaH a;obtain⟨f,j,r,l,n⟩:=Jl.T4 b d _ _ _ e c (by omega);exact⟨f,j,by omega,l,n⟩
theorem Xb.bd{N low d:Nat}{s:Ms}{t:ByteArray}{s':Ms}(h:Xb N low d s t s')(a:d<=3)(b:low<=2)(c:yc s.ns)(o:s.m<=900000):s.m<=s'.m/\s'.m<=s.m+Ju d/\t.size<=3885000/\s'.ns=s.ns:=by
 obtain⟨g,rfl,e⟩:=h;have p:=zaD a;have q:=zaH a;obtain⟨f,j⟩:=Jt.T4 b d _ _ _ e;obtain⟨l,n,r,v,w⟩:=f c (by omega);exact⟨l,n,by omega,j⟩
theorem QQ.bd{N low d j:Nat}{s:Ms}{t:ByteArray}{s':Ms}(h:QQ N low d j s t s')(a:j<=3)(b:d<=3)(e:low<=2)(f:yc s.ns)(r:s.m<=900000):s.m<=s'.m/\s'.m<=s.m+j*mkS d/\t.size<=3885000/\yc s'.ns/\s'.ns.length<=s.ns.length+j/\ ∃l,s'.ns=s.ns++l:=by
 obtain⟨g,rfl,c⟩:=h;have v:=zaD b;have w:=zaH b;have y:=G6 (mkS d) a;have z:=G6 (szS d) a;obtain⟨n,o,A,p,q⟩:=c.T4 (Jl.T4 e d) f (by omega);exact⟨n,o,by omega,p,q,c.pre⟩
theorem QQ.nil{N low d:Nat}(s:Ms):QQ N low d 0 s ⟨#[]⟩ s:=⟨.nil,rfl,.nil⟩
theorem QQ.xb{N low d j:Nat}{s a s2:Ms}{t u:ByteArray}(h:QQ N low d j s t a)(b:zg N low d a u s2):QQ N low d (j+1) s (t++u) s2:=by
 obtain⟨g,rfl,c⟩:=h;obtain⟨x,rfl,e⟩:=b;exact⟨_,(GL.XZ g x).symm,.xb c e⟩
theorem QQ.K3{N low d j i1:Nat}{s a:Ms}{t:ByteArray}(b:Nx N 4 s.i j i1)(h:QQ N low d j ⟨s.ns,s.m,i1⟩ t a):Xb N low d s t ⟨s.ns,a.m,a.i⟩:=by
 obtain⟨g,rfl,c⟩:=h;exact⟨_,rfl,by rw[zdK];exact⟨j,i1,a,b,c,rfl⟩⟩
section
variable {N low d:Nat}{ns:List ByteArray}{m i i1 i2 i3 k:Nat}{s t u x:ByteArray}
theorem zg.mk0{g:GL}{s':Ms}{t:ByteArray}(a:t=g.P8)(h: ∀B,yG N low B ⟨ns,m,i⟩ g s'):zg N low d ⟨ns,m,i⟩ t s':=⟨g,a,by cases d<;>exact h _⟩
theorem zg.set{j:Nat}(a:Nx N 8 i 0 i1)(b:Nx N ns.length i1 j i2)(hs:ns[j]?=some s)(hx:zB N ns low 2 i2 x i3):zg N low d ⟨ns,m,i⟩ (s++⟨#[32,61,32]⟩++x++⟨#[59,32]⟩) ⟨ns,m,i3⟩:=by
 obtain⟨g,rfl,c⟩:=hx;exact .mk0 (g:=.set s g .nil) (by simp only[GL.P8,qC]) λB=>.set a b hs c
theorem zg.js(a:Nx N 8 i k i1)(b:0<k)(hx:zB N ns low 2 i1 x i2):zg N low d ⟨ns,m,i⟩ (⟨#[121,105,101,108,100,32]⟩++x++⟨#[59,32]⟩) ⟨ns,m,i2⟩:=by
 obtain⟨c,rfl⟩:=a.got b;obtain⟨g,rfl,e⟩:=hx;exact .mk0 (g:=.js g .nil) (by simp only[GL.P8,qC]) λB=>.js c e
theorem zg.run(a:Nx N 8 i k i1)(b:0<k)(hx:zB N ns low 2 i1 x i2):zg N low d ⟨ns,m,i⟩ (x++⟨#[59,32]⟩) ⟨ns,m,i2⟩:=by
 obtain⟨c,rfl⟩:=a.got b;obtain⟨g,rfl,e⟩:=hx;exact .mk0 (g:=.run g .nil) (by simp only[GL.P8,qC]) λB=>.run c e
theorem zg.ret{j:Nat}(a:Nx N 8 i k i1)(b:0<k)(c:Nx N 8 i1 j i2)(hx:zB N ns low 1 i2 x i3):zg N low d ⟨ns,m,i⟩ (⟨#[114,101,116,117,114,110,32]⟩++x++⟨#[59,32]⟩) ⟨ns,m,i3⟩:=by
 obtain⟨e,rfl⟩:=a.got b;obtain⟨g,rfl,f⟩:=hx;exact .mk0 (g:=.ret g .nil) (by simp only[GL.P8,qC]) λB=>.ret e c f
theorem zg.QZ{c a b:ByteArray}{j s2:Ms}(l:Nx N 8 i k i1)(n:0<k)(z:1<=d)(o:zR N ns low 2 i1 c i2)(p:Xb N low (d-1) ⟨ns,m,i2⟩ a j)(q:Xb N low (d-1) j b s2):
 zg N low d ⟨ns,m,i⟩ (⟨#[105,102,32]⟩++c++⟨#[32,123,32]⟩++a++⟨#[125,32,101,108,115,101,32,123,32]⟩++b++⟨#[125,32]⟩) s2:=by
 obtain⟨r,rfl⟩:=l.got n;obtain⟨d,rfl⟩: ∃e,d=e+1:=⟨d-1,by omega⟩;obtain⟨v,rfl,f⟩:=o;obtain⟨w,rfl,g⟩:=p;obtain⟨y,rfl,h⟩:=q;exact⟨.QZ v w y .nil,by simp only[GL.P8,qC],.QZ r f g h⟩
theorem zg.jf{v z l:ByteArray}{n:Nat}{s2:Ms}(b:Nx N 8 i k i1)(c:0<k)(q:1<=d)(f:Nx N 4 i1 n i2)(g:v=iT (m+1))(h:z=jV n)(j:Xb N low (d-1) ⟨ns,m+1,i2⟩ l s2):
 zg N low d ⟨ns,m,i⟩ (⟨#[108,101,116,32]⟩++v++⟨#[32,61,32,48,59,32,119,104,105,108,101,32]⟩++v++⟨#[32,60,32]⟩++z++⟨#[32,123,32]⟩++l++v++⟨#[32,61,32]⟩++v++⟨#[32,43,32,49,59,32,125,32]⟩) s2:=by
 obtain⟨o,rfl⟩:=b.got c;obtain⟨d,rfl⟩: ∃e,d=e+1:=⟨d-1,by omega⟩;obtain⟨p,rfl,a⟩:=j;subst g h;exact⟨.jf (m+1) n p .nil,by simp only[GL.P8,qC],.jf o f a⟩
theorem zg.bind{v:ByteArray}(a:i<i1/\i1<=N\/i=N/\i1=N)(hx:zB N ns low 2 i1 x i2)(b:v=vT (m+1)):zg N low d ⟨ns,m,i⟩ (⟨#[108,101,116,32]⟩++v++⟨#[32,61,32]⟩++x++⟨#[59,32]⟩) ⟨ns++[v],m+1,i2⟩:=by
 obtain⟨g,rfl,c⟩:=hx;subst b;exact .mk0 (g:=.bind (m+1) g .nil) (by simp only[GL.P8,qC]) λB=>.bind a c
theorem Nx.mv{n:Nat}(h:Nx N n i k i1):i<i1/\i1<=N\/i=N/\i1=N:=by
 rcases h.2 with h|h<;>omega
theorem Nx.mv2{n b c:Nat}(h:Nx N n i k i1)(a:Nx N b i1 c i2):i<i2/\i2<=N\/i=N/\i2=N:=by
 rcases h.2 with h|h<;>rcases a.2 with a|a<;>omega
end
end Go.Proofs.YtalgmjmibamdfaaGreatDoor
namespace Go.Proofs.YtalgmjmibamdfaaGreatDoor
open Go.Proofs.Tryz
open Go.RowKit Tw
theorem Sc.qU{w0 u w:World}{sb p:Nat}{t:Option Addr}{n0 c0 i:Nat}{x:Option Addr}{cn:Nat}{ns:List ByteArray}{m low:Nat}(h:Sc w0 u w sb p t n0 c0 i x cn ns m low){W:World}{e:Option Addr}{f:Nat}{c:List ByteArray}{b low':Nat}
 (y:W.heap[sb]?=some (.cells #[.pointer (some ⟨p,0,none⟩),.slice e c.length f,.int .i64 b,.int .i64 low'] 84 (0,0)))
 (d: ∀k,k<sb->W.heap[k]?=w.heap[k]?) (l:w.heap.size<=W.heap.size) (r:W.os=w.os) (z:W.tape=w.tape) (A:W.output=w.output)
 (B:xj R8 W (sb+1) 9 1 (.slice e c.length f) c) (C:yc c) (D:c.length<=100) (E:b<=1000000) (n:low'<=2):Sc w0 W W sb p t n0 c0 i e f c b low':=by
 have F:=h.q;have G:=h.s;have M:=h.b0;exact⟨y,(d p (by omega)).trans h.zad,λj H=>by
  obtain⟨g,o,v,I,J,K⟩:=h.ZI j H;exact⟨g,o,v,I,J,(E9 (a:=⟨g,o+j,none⟩) (d g (by omega))).trans K⟩,B,C,D,h.i0,h.n60,E,n,h.b0,F,z6 G l,h.gl.qn l (λg N=>d g (by omega)),
  ⟨r.trans h.O7.os,z.trans h.O7.tape,A.trans h.O7.output,C4 h.O7.size l,λk L=>(d k (by omega)).trans (h.O7.block k L)⟩,K7 (y7 _ _) _⟩
theorem Sc.zh0{w0 g w:World}{sb c:Nat}{d:Option Addr}{n0 c0 i:Nat}{f:Option Addr}{cn:Nat}{ns:List ByteArray}{a low:Nat}(h:Sc w0 g w sb c d n0 c0 i f cn ns a low)(j:a+1<=1000000):Sc w0 (w.setCell ⟨sb,2,none⟩ (.int .i64 ((a:Int)+1))) (w.setCell ⟨sb,2,none⟩ (.int .i64 ((a:Int)+1))) sb c d n0 c0 i f cn ns (a+1) low:=by
 have b:=J2 w sb 2 (.int .i64 ((a:Int)+1));refine h.qU (by simpa using z5 w sb 2 _ _ (.int .i64 ((a:Int)+1)) h.Zh) (λk l=>b.block k (by have:=h.s;omega) (by simp;omega)) b.size b.os b.tape b.output (h.row.kept b (λk e=>.inl (by cases e;omega))) h.sz h.nl j h.l1
theorem xj.take{E:yz ByteArray}{w:World}{base T:Nat}{A:Option Addr}{c:Nat}{l:List ByteArray}(o: ∀a,(E.cells a).length=1)(h:xj E w base T 1 (.slice A l.length c) l){n:Nat}(B:n<=l.length):xj E w base T 1 (.slice A (l.take n).length c) (l.take n):=by
 have b:(l.take n).length=n:=by simp;omega
 have d: ∀l:List ByteArray,(l.flatMap E.cells).length=l.length:=by
  intro l;induction l with
  |nil=>rfl
  |cons a l f=>simp[f,o];omega
 have i: ∀(l:List ByteArray)(n:Nat),(l.take n).flatMap E.cells=(l.flatMap E.cells).take n:=by
  intro l;induction l with
  |nil=>intro n;simp
  |cons a l f=>
   intro n;cases n with
   |zero=>simp
   |succ n=>
    obtain⟨x,q⟩: ∃x,E.cells a=[x]:=List.length_eq_one_iff.1 (o a);simp[f,q]
 refine⟨⟨by simp[d],?_⟩,λa r=>by cases A<;>exact h.2 a (List.mem_of_mem_take r)⟩;rw[b]
 rcases h.1.2 with⟨e,p⟩|⟨g,s,j,e,t,u,C,v,y,z⟩
 ·injection e with k p m
  subst k m;have:n=0:=by omega
  subst this;exact .inl ⟨rfl,rfl⟩
 ·injection e with k p m
  subst k m;refine .inr ⟨g,c,j,rfl,t,u,by omega,v,y,?_⟩;rw[i,<-z,List.take_take]
  congr 1
  omega
theorem Sc.zkI{w0 m w:World}{sb f:Nat}{g:Option Addr}{n0 c0 i:Nat}{c:Option Addr}{cn:Nat}{ns:List ByteArray}{b low:Nat}(h:Sc w0 m w sb f g n0 c0 i c cn ns b low)(n:Nat)(l:List ByteArray)(o:ns.take n=l)(p:n<=ns.length):Sc w0 (w.setCell ⟨sb,1,none⟩ (.slice c n cn)) (w.setCell ⟨sb,1,none⟩ (.slice c n cn)) sb f g n0 c0 i c cn l b low:=by
 have d:=J2 w sb 1 (.slice c n cn);subst o;have a:(ns.take n).length=n:=by simp;omega
 have j:=(h.row.take (λ_=>rfl) p).kept d (λk e=>.inl (by cases e;omega));rw[a]at j;refine h.qU (by rw[a];simpa using z5 w sb 1 _ _ (.slice c n cn) h.Zh) (λk r=>d.block k (by have:=h.s;omega) (by simp;omega)) d.size d.os d.tape d.output (by rw[a];exact j) (λs q=>h.sz s (List.mem_of_mem_take q)) (by have:=h.nl;omega) h.m1 h.l1
theorem Sc.W8{w0 x w:World}{sb u:Nat}{v:Option Addr}{n0 c0 i:Nat}{o:Option Addr}{cn:Nat}{ns:List ByteArray}{d low:Nat}(h:Sc w0 x w sb u v n0 c0 i o cn ns d low){q c:World}{g cap:Nat}{s:ByteArray}(f:Below w.heap.size w q)(yD:c.ownsRow (sb+1) 9 1 (.slice (some ⟨g,0,none⟩) (ns.length+1) cap) (ns.length+1) (ns.flatMap R8.cells++[.string s]))
 (j:q.grownBy c (Value.slice o ns.length cn).ownBlock) (y:(Value.slice o ns.length cn).ownBlock=some g\/g=q.heap.size) (hs:s.size<=22) (z:ns.length+1<=100):
 Sc w0 (c.setCell ⟨sb,1,none⟩ (.slice (some ⟨g,0,none⟩) (ns.length+1) cap)) (c.setCell ⟨sb,1,none⟩ (.slice (some ⟨g,0,none⟩) (ns.length+1) cap)) sb u v n0 c0 i (some ⟨g,0,none⟩) cap (ns++[s]) d low:=by
 have xE:=h.s;have l:=h.row.below f;have m: ∀k,(Value.slice o ns.length cn).ownBlock=some k->sb<k:=λk e=>by have:=(l.1.lt k e).1;omega
 have n: ∀k,k<=sb->c.heap[k]?=w.heap[k]?:=λk A=>(j.block k (by have:=f.size;omega) (λe=>by have:=m k e.symm;omega)).trans (f.block k (by omega));have a:=J2 c sb 1 (.slice (some ⟨g,0,none⟩) (ns.length+1) cap);have b:(ns++[s]).length=ns.length+1:=by simp
 have B:xj R8 c (sb+1) 9 1 (.slice (some ⟨g,0,none⟩) (ns.length+1) cap) (ns++[s]):=
  ⟨by simpa[R8]using yD,λ_ _=>trivial⟩
 have r:w.heap.size<=c.heap.size:=C4 f.size j.size
 refine h.qU (by rw[b];simpa using z5 c sb 1 _ _ (.slice (some ⟨g,0,none⟩) (ns.length+1) cap) ((n sb (y6 _)).trans h.Zh)) (λk A=>(a.block k (by omega) (by simp;omega)).trans (n k (by omega))) (C4 r a.size)
  (a.os.trans (j.os.trans f.os)) (a.tape.trans (j.tape.trans f.tape)) (a.output.trans (j.output.trans f.output)) (by rw[b];exact B.kept a (λk e=>.inl (by cases e;omega))) (λt C=>by
   rcases List.mem_append.1 C with p|p
   ·exact h.sz t p
   ·simp at p;subst p;exact hs) (by rw[b];exact z) h.m1 h.l1
theorem Sc.frz{w0 b w:World}{sb c:Nat}{d:Option Addr}{n0 c0 i:Nat}{e:Option Addr}{cn:Nat}{ns:List ByteArray}{a low:Nat}(h:Sc w0 b w sb c d n0 c0 i e cn ns a low):w.frozen? ⟨sb,1,none⟩=false/\w.frozen? ⟨sb,2,none⟩=false:=⟨B4 h.Zh 1,B4 h.Zh 2⟩
theorem zcP:R1 prog 82 9 1:=⟨underlying82,by kernel_rfl,by decide⟩
def Xa(w0:World)(sb j:Nat)(k:Option Addr)(n0 c0:Nat)(ns:List ByteArray)(a low d i:Nat)(e:Ending)(w':World):Prop:=
 ∃(t:ByteArray)(b:List ByteArray)(c h:Nat)(f:Option Addr)(g:Nat),e=.returned (.string t)/\t.size<=1295000/\c<=a+mkS d/\b.length<=ns.length+1/\Hid (zg n0 low d ⟨ns,a,i⟩ t ⟨b,c,h⟩)/\Sc w0 w' w' sb j k n0 c0 h f g b c low
def Qy(d:Nat):Prop:=
 ∀{w0 j w:World}{sb e:Nat}{f:Option Addr}{g h i:Nat}{k:Option Addr}{l:Nat}{c:List ByteArray}{a b:Nat},Sc w0 j w sb e f g h i k l c a b->a+mkS d<=900000->c.length+1+3*d<=90->Calls prog 61 #[.pointer (some ⟨sb,0,none⟩),.int .i64 d] w (Xa w0 sb e f g h c a b d i)
theorem zcv{w0 k w':World}{sb g:Nat}{h:Option Addr}{n0 c0 i:Nat}{ns:List ByteArray}{a low:Nat}{d f m':Nat}{t:ByteArray}{b:List ByteArray}{c:Option Addr}{e:Nat}(l:d<=3)(m:low<=2)(n:yc ns)(s:a+mkS d<=900000)(j:zg n0 low d ⟨ns,a,i⟩ t ⟨b,m',f⟩)(o:Sc w0 k w' sb g h n0 c0 f c e b m' low):
 Xa w0 sb g h n0 c0 ns a low d i (.returned (.string t)) w':=by
 obtain⟨u,p,q,v,r⟩:=j.bd l m n (by simp only;omega);exact⟨t,b,m',f,c,e,rfl,q,p,r,zh j,o.qy⟩
def xI(w0:World)(sb h:Nat)(j:Option Addr)(n0 c0:Nat)(ns:List ByteArray)(a low d i:Nat)(e:Ending)(w':World):Prop:=
 ∃(t:ByteArray)(b g:Nat)(c:Option Addr)(f:Nat),e=.returned (.string t)/\t.size<=3885000/\b<=a+Ju d/\Hid (Xb n0 low d ⟨ns,a,i⟩ t ⟨ns,b,g⟩)/\Sc w0 w' w' sb h j n0 c0 g c f ns b low
def ZX(d:Nat):Prop:=
 ∀{w0 j w:World}{sb e:Nat}{f:Option Addr}{g h i:Nat}{k:Option Addr}{l:Nat}{c:List ByteArray}{a b:Nat},Sc w0 j w sb e f g h i k l c a b->a+Ju d<=900000->c.length+3*(d+1)<=90->Calls prog 31 #[.pointer (some ⟨sb,0,none⟩),.int .i64 d] w (xI w0 sb e f g h c a b d i)
theorem zkd{a:Nat}(h:a<=22): ¬9223372036854775807<a+3:=by omega
theorem zj2{a b:Nat}(h:a<=22)(c:b<=6000): ¬9223372036854775807<a+3+b/\ ¬9223372036854775807<a+3+b+2:=by omega
theorem Yv: ∀d:Nat,d<=2->zdv d
 |0,_=>Jx 0 (by decide) (by omega)
 |d+1,h=>Jx (d+1) h (λ_=>Yv d (by omega))
theorem zdr{d:Nat}(h:1<=d):mkS d=1+2*Ju (d-1):=by
 obtain⟨d,rfl⟩: ∃e,d=e+1:=⟨d-1,by omega⟩;rfl
theorem zcK{w0 j w:World}{sb l:Nat}{m:Option Addr}{n0 c0 i:Nat}{d:Option Addr}{cn:Nat}{ns:List ByteArray}{b low:Nat}{f:World}{n:Obj}(h:Sc w0 j w sb l m n0 c0 i d cn ns b low)(o:(w.alloc n).grownBy f (Value.slice d ns.length cn).ownBlock):f.cell? ⟨sb,1,none⟩=some (.slice d ns.length cn)/\f.frozen? ⟨sb,1,none⟩=false:=by
 have p:=h.s;have c: ∀k,(Value.slice d ns.length cn).ownBlock=some k->sb<k:=λk e=>by have:=(h.row.1.lt k e).1;omega
 have g:f.heap[sb]?=w.heap[sb]?:=(o.block sb (by simp;omega) (λe=>by have:=c sb e.symm;omega)).trans (D4 w _ p);exact⟨(E9 (a:=⟨sb,1,none⟩) g).trans h.c0.2.1,(World.frozen?_of_block (a:=⟨sb,1,none⟩) g).trans h.frz.1⟩
theorem zd3(v:ByteArray)(x:Int){w0 w:World}{sb g:Nat}{j:Option Addr}{n0 c0:Nat}{ns:List ByteArray}{a low d i:Nat}(h:Calls prog 31 #[.pointer (some ⟨sb,0,none⟩),.int .i64 x] w (xI w0 sb g j n0 c0 ns a low d i)):Calls prog 105 #[.pointer (some ⟨sb,0,none⟩),.string v,.int .i64 x] w (xI w0 sb g j n0 c0 ns a low d i):=by
 have H:=zh h;clear h
 go_enter func105,ntmps105
 go_wp2_with fail
 refine H.out.mono ?_;rintro e q ⟨t,n,o,b,c,rfl,p,k,l,m⟩;have f:=zh (And.intro k (And.intro l m));clear k l m
 go_wp2_with fail
 go_ret;exact⟨t,n,o,b,c,rfl,p,f.out.1,f.out.2.1,f.out.2.2⟩
theorem JM(d:Nat)(hd:d<=3)(ih:1<=d->ZX (d-1)):Qy d:=by
 intro w0 I w sb F G u H i J K q j p h hm b1;have IH:1<=d-> ∀{w0 I w:World}{sb F:Nat}{G:Option Addr}{u H i:Nat}{J:Option Addr}{K:Nat}{q:List ByteArray}{j p:Nat},Sc w0 I w sb F G u H i J K q j p->j+Ju (d-1)<=900000->q.length+3*d<=90->Calls prog 31 #[.pointer (some ⟨sb,0,none⟩),.int .i64 ((d:Int)-1)] w (xI w0 sb F G u H q j p (d-1) i):=by
  intro h1 w0 I w sb F G u H i J K q j p h h2 h3;have:=ih h1 h h2 (by omega);rw[show((d-1:Nat):Int)=(d:Int)-1 by omega]at this;exact this
 have a7:=zh IH;have l:=zh h;have HN:Hid (∀{w0 I w:World}{sb F:Nat}{G:Option Addr}{u H i:Nat}{J:Option Addr}{K:Nat}{q:List ByteArray}{j p:Nat},Sc w0 I w sb F G u H i J K q j p->Calls prog 32 #[.pointer (some ⟨sb,0,none⟩),.int .i64 2] w (zam w0 I sb F G u H J K q j p 2 i)):=zh (yJ 2 (by decide));have d3:Hid (∀{w0 I w:World}{sb F:Nat}{G:Option Addr}{u H i:Nat}{J:Option Addr}{K:Nat}{q:List ByteArray}{j p:Nat},Sc w0 I w sb F G u H i J K q j p->Calls prog 32 #[.pointer (some ⟨sb,0,none⟩),.int .i64 1] w (zam w0 I sb F G u H J K q j p 1 i)):=zh (yJ 1 (by decide));have d4:Hid (∀{w0 I w:World}{sb F:Nat}{G:Option Addr}{u H i:Nat}{J:Option Addr}{K:Nat}{q:List ByteArray}{j p:Nat},Sc w0 I w sb F G u H i J K q j p->Calls prog 104 #[.pointer (some ⟨sb,0,none⟩),.int .i64 2] w (zaZ w0 I sb F G u H J K q j p 2 i)):=zh (Yv 2 (by decide));have HR:Hid (∀{d5 w':World}{i' m':Nat}{t:ByteArray}{b2:List ByteArray}{d6:Option Addr}{d7:Nat},zg u p d ⟨q,j,i⟩ t ⟨b2,m',i'⟩->Sc w0 d5 w' sb F G u H i' d6 d7 b2 m' p->Xa w0 sb F G u H q j p d i (.returned (.string t)) w'):=zh (λhA m=>zcv hd m.l1 h.sz hm hA m);clear IH ih;obtain⟨n,z,r,A⟩:=h.c0;have g3:=h.l1;have HM:=zh hm;have HL:=zh b1;clear h hm b1
 go_enter func61,ntmps61
 go_wp2_with fail
 refine(XV 8 (by decide) (by decide) l.out).mono ?_;rintro e w1 ⟨k,i1,rfl,g4,T,m⟩;replace T:=zh T;replace l:=zh m;clear m n z r A;obtain⟨n,z,r,A⟩:=l.out.c0
 by_cases hv:k=0/\0<q.length
 ·obtain⟨rfl,hn⟩:=hv
  obtain⟨g,rfl⟩:=l.out.arr hn;have g5:(0:Int)<(q.length:Int):=by omega
  have g6:=l.out.nl;have e4:(1:Int)<=(q.length:Int):=by omega
  have e5:(q.length:Int)<=4000000000:=by omega
  have e6:=zh l.out.sz
  go_upto_region 3 with(fail)
  have e7:=l.out.dr
  go_region_law(first|(go_simp;first
   |(go_at_call 29;refine(XV _ e4 e5 e7).mono ?_;rintro e w8 ⟨k2,i2,rfl,b3,a8,U⟩;obtain⟨s8,V⟩:=zbg q k2 b3;have d8:=U.L6 k2 s8 V;have e8:=zh U;have b4:=zh V;replace a8:=zh a8;obtain⟨e0,e1,e2,e3⟩:=U.c0;have g7:=nn k2;have z8:=e6.out s8 (B7 V);have f8:=zkd z8;clear V U)
   |(go_at_call 32;refine(HN.out e8.out).mono ?_;rintro e w9 ⟨s9,i9,rfl,e9,f0,X⟩;have d9:=X.L6 k2 s8 b4.out;obtain⟨y0,y1,y2,y3⟩:=X.c0;have b5:=zh X;have f9:=zj2 z8 e9;clear X)))
  all_goals
   go_wp2_with fail
   go_ret;exact HR.out (.set T.out a8.out b4.out f0.out) (by first|exact b5.out|exact b5.out.dr)
 by_cases hk:k=1
 ·subst hk
  clear hv
  go_wp2_with fail
  refine(HN.out l.out).mono ?_;rintro e Y ⟨s2,i2,rfl,B,o,m⟩;replace l:=zh m;clear m
  go_wp2_with fail
  go_ret;exact HR.out (.js T.out (by decide) o.out) l.out
 have HV:=zh hv;clear hv
 by_cases L:k=2/\1<=d
 ·obtain⟨rfl,C⟩:=L
  clear hk HV;have b6:(1:Int)<=(d:Int):=by omega
  have b7:(0:Int)<(d:Int):=by omega
  have b8:=zdr C;have Z:=zh b8;clear b8
  go_wp2_with fail
  refine(d4.out l.out).mono ?_;rintro e Y ⟨s2,i2,rfl,B,o,m⟩;replace l:=zh m;clear m
  go_wp2_with fail
  refine(a7.out C l.out (by have:=HM.out;have:=Z.out;omega) (by have:=HL.out;omega)).mono ?_;rintro e w3 ⟨s3,m3,i3,g8,g9,rfl,b9,c4,c5,m⟩;replace l:=zh m;clear m;have f1:=zh c4;clear c4
  go_wp2_with fail
  refine(a7.out C l.out (by have:=HM.out;have:=Z.out;have:=f1.out;omega) (by have:=HL.out;omega)).mono ?_;rintro e w4 ⟨s4,m4,i4,h0,h4,rfl,a5,f2,c6,m⟩;replace l:=zh m;clear m f2
  go_wp2_with fail
  go_ret;exact HR.out (.QZ T.out (by decide) C o.out c5.out c6.out) l.out
 by_cases a0:k=3/\1<=d
 ·obtain⟨rfl,C⟩:=a0
  clear hk HV L;have b6:(1:Int)<=(d:Int):=by omega
  have b7:(0:Int)<(d:Int):=by omega
  have Z:=zh (zdr C);have c7:j<=900000:=by have:=HM.out;omega
  have a6:(j:Int)<=900000:=by omega
  obtain⟨q1,q2⟩:=l.out.frz
  go_upto_region 10 with(fail)
  replace l:=zh (l.out.zh0 (by omega));clear n z r A q1 q2;generalize w1.setCell _ _=Y at l|-
  obtain⟨n,z,r,A⟩:=l.out.c0;have M:Y.cell? ⟨sb,2,none⟩=some (.int .i64 ((j:Int)+1)):=r;clear r
  go_wp2_with fail
  refine(jx (j+1) (by omega) l.out).mono ?_;rintro e w3 ⟨s3,rfl,c8,b9,m⟩;replace l:=zh m;clear m n z M A;obtain⟨n,z,r,A⟩:=l.out.c0
  go_upto_region 11 with(fail)
  obtain⟨v3,a1⟩: ∃v:ByteArray,(⟨#[105]⟩:ByteArray)++s3=v:=⟨_,rfl⟩;have a2:v3.size<=22:=by rw[<-a1];simp only[D0,Q3,E4,z7,B1];omega
  have f3:Hid (v3=iT (j+1)):=zh (by rw[<-a1,c8.out];rfl);simp only[a1];clear a1
  go_wp2_with fail
  refine(XV 4 (by decide) (by decide) l.out).mono ?_;rintro e w4 ⟨k4,i4,rfl,a3,a9,m⟩;replace l:=zh m;replace a9:=zh a9;clear m
  go_wp2_with fail
  refine(jx k4 (by omega) l.out).mono ?_;rintro e w5 ⟨s5,rfl,c9,g1,m⟩;replace l:=zh m;clear m
  go_wp2_with fail
  refine(zd3 v3 ((d:Int)-1) (a7.out C l.out (by have:=HM.out;have:=Z.out;omega) (by have:=HL.out;omega))).mono ?_;rintro e w6 ⟨s6,m6,i6,h7,h8,rfl,g2,f4,d0,m⟩;replace l:=zh m;clear m f4
  go_wp2_with fail
  go_ret;exact HR.out (.jf T.out (by decide) C a9.out f3.out c9.out d0.out) l.out
 by_cases a3:k=4
 ·subst a3
  clear hk HV L a0
  go_wp2_with fail
  refine(HN.out l.out).mono ?_;rintro e Y ⟨s2,i2,rfl,B,o,m⟩;replace l:=zh m;clear m
  go_wp2_with fail
  go_ret;exact HR.out (.run T.out (by decide) o.out) l.out
 by_cases d1:k=5
 ·subst d1
  clear hk HV L a0 a3
  go_wp2_with fail
  refine(XV 8 (by decide) (by decide) l.out).mono ?_;rintro e w9 ⟨k9,i9,rfl,i0,a4,m⟩;replace l:=zh m;replace a4:=zh a4;clear m n z r A
  by_cases h9:k9=0
  ·subst h9
   go_wp2_with fail
   refine(d3.out l.out).mono ?_;rintro e Y ⟨s2,i2,rfl,B,o,m⟩;replace l:=zh m;clear m
   go_wp2_with fail
   go_ret;exact HR.out (.ret T.out (by decide) a4.out o.out) l.out
  have i5:((k9:Int)==0)=false:=beq_eq_false_iff_ne.2 (by omega)
  skip
  ·skip
   replace l:=zh l.out.qy;have c7:j<=900000:=by have:=HM.out;omega
   have a6:(j:Int)<=900000:=by omega
   go_wp2_with fail
   refine(HN.out l.out).mono ?_;rintro e Y ⟨s2,i2,rfl,B,o,m⟩;replace l:=zh m;clear m;obtain⟨n,z,r,A⟩:=l.out.c0;obtain⟨q1,q2⟩:=l.out.frz
   go_upto_region 18 with(fail)
   replace l:=zh (l.out.zh0 (by omega));clear n z r A q1 q2;generalize Y.setCell _ _=w3 at l|-
   obtain⟨n,z,r,A⟩:=l.out.c0;have M:w3.cell? ⟨sb,2,none⟩=some (.int .i64 ((j:Int)+1)):=r;clear r
   go_wp2_with fail
   refine(jx (j+1) (by omega) l.out).mono ?_;rintro e w4 ⟨s4,rfl,N,a5,m⟩;replace l:=zh m;clear m n z M A;obtain⟨n,z,r,A⟩:=l.out.c0
   go_upto_region 19 with(fail)
   obtain⟨O,x⟩: ∃v:ByteArray,(⟨#[118]⟩:ByteArray)++s4=v:=⟨_,rfl⟩;have a2:O.size<=22:=by rw[<-x];simp only[D0,Q3,E4,z7,B1];omega
   have b0:Hid (O=vT (j+1)):=zh (by rw[<-x,N.out];rfl);simp only[x];clear x;have f5:=l.out.s;have P:=zh (l.out.row.below ((y7 _ _).alloc (y6 _) (.cells #[.string O] 9)));have Q:Hid (q.length+1<=100):=zh (by have:=HL.out;omega);have D:=y9 w4 (.cells #[.string O] 9);have HB:=zh D;clear D;obtain⟨q1,q2⟩:=l.out.frz
   go_wp2_with(at_builtin;go_must(refine M7 zcP rfl _ _ rfl (sb+1) _ q.length (q.flatMap R8.cells) rfl P.out.1 w4.heap.size 1 #[.string O] rfl HB.out rfl (by simp[Value.oneCell']) (by have:=Q.out;omega) (by simp;omega) ?_);intro g f6 w5 E R S f7;have y:=zh (And.intro E (And.intro R S));have qs:=zcK l.out y.out.2.1;clear E R S)
   go_ret;exact HR.out (.bind (T.out.mv2 a4.out) o.out b0.out) (l.out.W8 ((y7 _ _).alloc (y6 _) _) y.out.1 y.out.2.1 y.out.2.2 a2 Q.out)
 have hq:(k=0/\q.length=0)\/(k=2/\d=0)\/(k=3/\d=0)\/(((k:Int)==0)=false/\((k:Int)==1)=false/\((k:Int)==2)=false/\((k:Int)==3)=false/\((k:Int)==4)=false/\((k:Int)==5)=false):=by
  have hv:=HV.out
  by_cases h6:k<6
  ·omega
  ·refine .inr (.inr (.inr ⟨?_,?_,?_,?_,?_,?_⟩))<;>exact beq_eq_false_iff_ne.2 (by omega)
 clear hk HV L a0 a3 d1;have HQ:Hid (i<i1/\i1<=u\/i=u/\i1=u):=zh T.out.mv;have d2:(k=0/\q.length=0)\/(k=2/\d=0)\/(k=3/\d=0)\/5<k:=by
  rcases hq with h|h|h|h
  ·exact .inl h
  ·exact .inr (.inl h)
  ·exact .inr (.inr (.inl h))
  ·have:=h.1
   obtain⟨a,b,c,d,e,f⟩:=h;rw[B0]at a b c d e f;omega
 have g0:=zh d2;clear d2 hq
 go_upto_block 0 with(fail)
 go_cut[] (λW=>W=w1)
 case first=>
  rcases g0.out with⟨rfl,hn⟩|⟨rfl,rfl⟩|⟨rfl,rfl⟩|h5
  ·have i7:(q.length:Int)<=0:=by omega
   go_wp2_with fail
   go_meet
   case rel=>rfl
  ·go_wp2_with fail
   go_meet
   case rel=>rfl
  ·go_wp2_with fail
   go_meet
   case rel=>rfl
  ·have i8:(5:Int)<(k:Int):=by omega
   go_wp2_with fail
   go_meet
   case rel=>rfl
 case rest=>
  subst hcut
  skip
  ·skip
   replace l:=zh l.out.qy;have c7:j<=900000:=by have:=HM.out;omega
   have a6:(j:Int)<=900000:=by omega
   go_wp2_with fail
   refine(HN.out l.out).mono ?_;rintro e Y ⟨s2,i2,rfl,B,o,m⟩;replace l:=zh m;clear m;obtain⟨n,z,r,A⟩:=l.out.c0;obtain⟨q1,q2⟩:=l.out.frz
   go_upto_region 18 with(fail)
   replace l:=zh (l.out.zh0 (by omega));clear n z r A q1 q2;generalize Y.setCell _ _=w3 at l|-
   obtain⟨n,z,r,A⟩:=l.out.c0;have M:w3.cell? ⟨sb,2,none⟩=some (.int .i64 ((j:Int)+1)):=r;clear r
   go_wp2_with fail
   refine(jx (j+1) (by omega) l.out).mono ?_;rintro e w4 ⟨s4,rfl,N,a5,m⟩;replace l:=zh m;clear m n z M A;obtain⟨n,z,r,A⟩:=l.out.c0
   go_upto_region 19 with(fail)
   obtain⟨O,x⟩: ∃v:ByteArray,(⟨#[118]⟩:ByteArray)++s4=v:=⟨_,rfl⟩;have a2:O.size<=22:=by rw[<-x];simp only[D0,Q3,E4,z7,B1];omega
   have b0:Hid (O=vT (j+1)):=zh (by rw[<-x,N.out];rfl);simp only[x];clear x;have f5:=l.out.s;have P:=zh (l.out.row.below ((y7 _ _).alloc (y6 _) (.cells #[.string O] 9)));have Q:Hid (q.length+1<=100):=zh (by have:=HL.out;omega);have D:=y9 w4 (.cells #[.string O] 9);have HB:=zh D;clear D;obtain⟨q1,q2⟩:=l.out.frz
   go_wp2_with(at_builtin;go_must(refine M7 zcP rfl _ _ rfl (sb+1) _ q.length (q.flatMap R8.cells) rfl P.out.1 w4.heap.size 1 #[.string O] rfl HB.out rfl (by simp[Value.oneCell']) (by have:=Q.out;omega) (by simp;omega) ?_);intro g f6 w5 E R S f7;have y:=zh (And.intro E (And.intro R S));have qs:=zcK l.out y.out.2.1;clear E R S)
   go_ret;exact HR.out (.bind HQ.out o.out b0.out) (l.out.W8 ((y7 _ _).alloc (y6 _) _) y.out.1 y.out.2.1 y.out.2.2 a2 Q.out)
theorem xj.cap{E:yz ByteArray}{w:World}{base T a:Nat}{A:Option Addr}{c:Nat}{l:List ByteArray}(h:xj E w base T a (.slice A l.length c) l):(l.length:Int)<=(c:Int):=by
 rcases h.1.2 with⟨e,b⟩|⟨g,d,f,e,i,j,k,m,n,o⟩
 ·omega
 ·injection e with p b q
  omega
def zbA(w0:World)(sb h:Nat)(i:Option Addr)(n0 c0:Nat)(ns:List ByteArray)(a low d j k:Nat)(t:ByteArray)(W:World):Prop:=
 ∃(b:List ByteArray)(f g:Nat)(c:Option Addr)(e:Nat),QQ n0 low d k ⟨ns,a,j⟩ t ⟨b,f,g⟩/\Sc w0 W W sb h i n0 c0 g c e b f low
theorem zbA.bd{w0:World}{sb c:Nat}{e:Option Addr}{n0 c0:Nat}{ns:List ByteArray}{a low d f b:Nat}{t:ByteArray}{W:World}(h:zbA w0 sb c e n0 c0 ns a low d f b t W)(g:b<=3)(i:d<=3)(j:yc ns)(p:a+Ju d<=900000):t.size<=3885000:=by
 obtain⟨k,q,r,l,m,n,o⟩:=h;exact(n.bd g i o.l1 j (by simp only;omega)).2.2.1
theorem Qm(d:Nat)(x:d<=3)(y:Qy d):ZX d:=by
 intro w0 wv w sb z A B C i N O ns a k h hm m;have P:Hid (∀{w0 wv w:World}{sb z:Nat}{A:Option Addr}{B C i:Nat}{N:Option Addr}{O:Nat}{ns:List ByteArray}{a k:Nat},Sc w0 wv w sb z A B C i N O ns a k->a+mkS d<=900000->ns.length+1+3*d<=90->Calls prog 61 #[.pointer (some ⟨sb,0,none⟩),.int .i64 d] w (Xa w0 sb z A B C ns a k d i)):=zh y;have D:=zh h;obtain⟨Q,c1,c2,c3⟩:=h.c0;have R:=h.l1;have n:=zh h.sz;have v:=zh hm;have HL:=zh m;clear h hm m y
 go_enter func31,ntmps31
 go_wp2_with fail
 refine(XV 4 (by decide) (by decide) D.out).mono ?_;rintro e w1 ⟨j,S,rfl,a8,T,f⟩;replace T:=zh T;replace D:=zh f.qy;clear f Q c1 c2 c3
 go_wp2_with fail
 go_loopw[6,17] (λo c wr=> ∃(g:Nat)(t:ByteArray),o=.string t/\c=.int .i64 g/\g<=j/\Hid (zbA w0 sb z A B C ns a k d S g t wr))
  (λ_ c _=>(4-intOf c).toNat)
 case atStart=>exact⟨0,⟨#[]⟩,rfl,rfl,E2 _,zh ⟨ns,a,S,N,O,.nil _,D.out⟩⟩
 case round=>
  obtain⟨g,t,rfl,rfl,a9,b⟩:=hrel
  by_cases U:g<j
  ·have a6:(g:Int)<(j:Int):=by omega
   have V:=b.out.bd (by omega) x n.out v.out;obtain⟨p,m',i',E,F,q,f⟩:=b.out;have W:=zh q;obtain⟨X,K,Y,Z,L,M⟩:=q.bd (show g<=3 by omega) x f.l1 n.out (by have:=v.out;simp only;omega);have HB:=zh (And.intro K (And.intro L M));have G:=zh f;clear q f X K Y Z L M b D
   go_wp2_with fail
   refine(P.out G.out (by
    have h1:=HB.out.1;have h2:=v.out;have h3:=zi1 d;have h4:g*mkS d<=2*mkS d:=G6 _ (by omega);omega) (by have:=HB.out.2.1;have:=HL.out;omega)).mono ?_
   rintro e w2 ⟨u,a0,m2,i2,a1,a2,rfl,b0,a3,a4,a5,f⟩;have r:=zh f;clear f a3 a4 G;have b:Hid (zbA w0 sb z A B C ns a k d S (g+1) (t++u) w2):=zh ⟨a0,m2,i2,a1,a2,W.out.xb a5.out,r.out⟩
   go_wp2_with fail
   go_roundw
   case rel=>exact⟨g+1,t++u,rfl,by go_num,U,b⟩
   case measure=>simp[intOf];omega
  ·obtain rfl:g=j:=by omega
   obtain⟨p,m',i',E,F,q,f⟩:=b.out;have V:=b.out.bd (by omega) x n.out v.out;obtain⟨X,K,Y,Z,L,M⟩:=q.bd (show g<=3 by omega) x f.l1 n.out (by have:=v.out;simp only;omega);obtain⟨l,H⟩:=M;have m:ns.length<=p.length:=by simp only at H;rw[H];simp
   have I:p.take ns.length=ns:=by simp only at H;rw[H];simp
   have W:=zh q;have r:=zh (f.zkI ns.length ns I m);obtain⟨d0,d1,d2,d3⟩:=f.c0;obtain⟨q1,q2⟩:=f.frz;have k0:(ns.length:Int)<=(p.length:Int):=by omega
   have k1:(0:Int)<=(ns.length:Int):=by omega
   have a7:=f.row.cap;clear q f X K Y Z L H I b D m
   go_wp2_with fail
   go_ret;have hb:=(QQ.K3 (s:=⟨ns,a,i⟩) T.out W.out);have J:=hb.bd x R n.out (by have:=v.out;simp only;omega);exact⟨t,m',i',E,F,rfl,J.2.2.1,J.2.1,zh hb,r.out⟩
end Go.Proofs.YtalgmjmibamdfaaGreatDoor
