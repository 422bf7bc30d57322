/- Merged. -/
import Derived.Test.YtmngofgminlloaaGreatDoorCT03
import Derived.Deep.RegionHeld2
set_option linter.all false
set_option maxHeartbeats 8000000
set_option maxRecDepth 100000
namespace Go.Proofs.YtmngofgminlloaaGreatDoor
open Go.Proofs.Tryz
open Go.RowKit Tw
theorem K6{w:World}{b t:Nat}{u0 u1 u2 u3 u4}(h:w.heap[b]?=some (.cells #[u0,u1,u2,u3,u4] t (0,0))):
 (w.cell? ⟨b,0,none⟩=some u0/\w.cell? ⟨b,1,none⟩=some u1/\w.cell? ⟨b,2,none⟩=some u2/\w.cell? ⟨b,3,none⟩=some u3/\w.cell? ⟨b,4,none⟩=some u4)/\
 w.frozen? ⟨b,0,none⟩=false/\w.frozen? ⟨b,1,none⟩=false/\w.frozen? ⟨b,2,none⟩=false/\w.frozen? ⟨b,3,none⟩=false/\w.frozen? ⟨b,4,none⟩=false:=
 ⟨⟨x6 h 0,x6 h 1,x6 h 2,x6 h 3,x6 h 4⟩,B4 h 0,B4 h 1,B4 h 2,B4 h 3,B4 h 4⟩
theorem yT{w:World}{b t:Nat}{u0 u1 u2 u3 u4}(a c d e f:Value)(h:w.heap[b]?=some (.cells #[u0,u1,u2,u3,u4] t (0,0))):
 (((((w.setCell ⟨b,0,none⟩ a).setCell ⟨b,1,none⟩ c).setCell ⟨b,2,none⟩ d).setCell ⟨b,3,none⟩ e).setCell ⟨b,4,none⟩ f).heap[b]?=some (.cells #[a,c,d,e,f] t (0,0)):=by
 have g:=A6 w b 0 _ _ a h;have j:=A6 _ b 1 _ _ c g;have k:=A6 _ b 2 _ _ d j;have l:=A6 _ b 3 _ _ e k;have m:=A6 _ b 4 _ _ f l;simpa using m
theorem xB(w:World)(b:Nat)(a c d e f):w.grownBy (((((w.setCell ⟨b,0,none⟩ a).setCell ⟨b,1,none⟩ c).setCell ⟨b,2,none⟩ d).setCell ⟨b,3,none⟩ e).setCell ⟨b,4,none⟩ f) (some b):=
 I4 (I4 (I4 (I4 (I8 _ _ _ _) (I8 _ _ _ _)) (I8 _ _ _ _)) (I8 _ _ _ _)) (I8 _ _ _ _)
theorem zT:(Tryz.prog.info? 186).map (·.size)=some 5:=by kernel_rfl
theorem zcU{n}{g:Nat}{k zs w w'}(a:Tryz.prog.globalNamed n=some g)(h:Lib.TabIs prog w n k zs)(c:w'.heap[g]?=w.heap[g]?):Lib.TabIs prog w' n k zs:=by
 unfold Lib.TabIs World.var? at h|-;rw[a]at h|-;simp only[Option.bind_some]at h|-;rw[c];exact h
theorem O4.Z3{w w'}(h:O4 w)(c:w.heap.size<=w'.heap.size)(a: ∀g,g<=10->w'.heap[g]?=w.heap[g]?):O4 w' where
 maxLen:=by
  obtain⟨m,d⟩:=h.maxLen;exact⟨m,(E8 (a _ (by decide))).trans d⟩
 zet:=by
  obtain⟨⟨e,f,j⟩,k,l,n⟩:=h.zet;exact⟨⟨e,(E8 (a _ (by decide))).trans f,j⟩,k,(E8 (a _ (by decide))).trans l,n⟩
 pow:=zcU (g:=5) (by kernel_rfl) h.pow (a _ (by decide))
 spc:=zcU (g:=0) (by kernel_rfl) h.spc (a _ (by decide))
 xM:=A7 h.xM c
theorem O4.of{w w'}{rb:Nat}(h:O4 w)(a:w.grownBy w' (some rb))(d:10<rb):O4 w':=
 h.Z3 a.size λg c=>a.block g (Nat.lt_of_le_of_lt c h.xM) (by simp;omega)
theorem P5{w w' a:World}{r b:Nat}(h:w.grownBy w' (some r))(k:w'.grownBy a (some b))(e:w.heap.size<=b):w.grownBy a (some r):=
 ⟨k.os.trans h.os,k.tape.trans h.tape,k.output.trans h.output,C1 h.size k.size,λj c d=>(k.block j (A7 c h.size) (by simp;omega)).trans (h.block j c d)⟩
theorem za6{w a c}{r:Nat}(h:Below w.heap.size w a)(k:a.grownBy c (some r)):w.grownBy c (some r):=
 I4 (I7 h _) k
theorem Rd.grown{w w'}{rb:Nat}{v ws}{i en:Nat}{b:Bool}{k:Nat}(h:Rd w rb v ws i en b)(a:w.grownBy w' (some k))(d:rb<k):Rd w' rb v ws i en b:=
 ⟨(a.block rb h.lt (by simp;omega)).trans h.P6,h.row.Z3 λj c=>a.block j (Nat.lt_trans c h.lt) (by simp;omega),h.X5,h.pos⟩
theorem J7.grown{w w'}{F F':Nat->Prop}{k:Nat}{v l}(h:J7 w F v l)(a:w.grownBy w' (some k))(e: ∀g,F g->g≠k)(f: ∀g,F g->F' g):J7 w' F' v l:=
 h.K7 λg c d=>⟨f g c,A7 d a.size,a.block g d (by simp;exact e g c)⟩
def jn(ws:List Wd)(en:Nat)(q:Qe)(b:Bool)(x:Ex)(a:Nat)(c:Bool):Prop:=
 q.at<=a/\(b=true->c=true/\a=q.at)/\(b=false->c=false->q.at<a/\De ws en q (.ex x a))/\(b=false->c=true->De ws en q (.J9 a))
def zjj(w:World)(rb:Nat)(v:Value)(ws:List Wd)(en:Nat)(q:Qe)(b:Bool)(e:Ending)(w':World):Prop:=
 ∃x A c a d,e=.returned (.agg #[.int .i64 x.I9,.int .i64 x.n,.string x.K0,.slice A x.args.length c,.int .i64 x.pos])/\J7 w' (λg=>w.heap.size<=g) (.slice A x.args.length c) x.args/\Rd w' rb v ws a en d/\jn ws en q b x a d/\w.grownBy w' (some rb)
def JW(rb:Nat)(v:Value)(ws:List Wd)(en n i:Nat):Prop:=
 ∀(w:World)(b:Bool),Rd w rb v ws i en b->O4 w->Calls prog 163 #[.pointer (some ⟨rb,0,none⟩),.int .i64 n] w λe a=>zjj w rb v ws en (.lvl n i) b e a
def zfJ(rb:Nat)(v:Value)(ws:List Wd)(en i:Nat):Prop:=
 ∀(w:World)(b:Bool),Rd w rb v ws i en b->O4 w->Calls prog 203 #[.pointer (some ⟨rb,0,none⟩)] w λe a=>zjj w rb v ws en (.zk i) b e a
def jN(w:World)(rb:Nat):Nat:=match w.cell? ⟨rb,1,none⟩with|some v=>(intOf v).toNat|none=>0
theorem Rd.yB{w}{rb:Nat}{v ws}{i en:Nat}{b:Bool}(h:Rd w rb v ws i en b):jN w rb=i:=by
 unfold jN;rw[h.c1];simp[intOf]
def QF(ws:List Wd)(en n i:Nat)(b:Bool)(a:Ex)(c:Nat)(d:Bool):Prop:=
 i<=c/\(b=true->d=true/\c=i)/\(b=false->d=false->i<c/\ ∀r,De ws en (.rest n a c) r->De ws en (.lvl n i) r)/\(b=false->d=true->De ws en (.lvl n i) (.J9 c))
theorem J7.drewN{w}{F:Nat->Prop}{v l}(h:J7 w F v l)(n:Nat):J7 (w.drewN n) F v l:=by
 have a:Jp F F w (w.drewN n):=λg c d=>⟨c,d,rfl⟩
 exact h.K7 a
theorem XW{wr W W' c d e f u0 u1 u2 u3}(h:W.cell? c=some u0/\W.cell? d=some u1/\W.cell? e=some u2/\W.cell? f=some u3/\Below wr.heap.size wr W)(a:Below W.heap.size W W')
 (o:c.block<wr.heap.size) (p:d.block<wr.heap.size) (q:e.block<wr.heap.size) (r:f.block<wr.heap.size):
 W'.cell? c=some u0/\W'.cell? d=some u1/\W'.cell? e=some u2/\W'.cell? f=some u3/\Below wr.heap.size wr W':=by
 obtain⟨j,k,l,m,g⟩:=h;have n:=g.size;exact⟨(a.cell (by omega)).trans j,(a.cell (by omega)).trans k,(a.cell (by omega)).trans l,(a.cell (by omega)).trans m,g.trans (a.mono n)⟩
theorem YJ{wr a c d e u0 u1 u2 u3}(f:wr.cell? a=some u0)(g:wr.cell? c=some u1)(h:wr.cell? d=some u2)(j:wr.cell? e=some u3):
 wr.drew.cell? a=some u0/\wr.drew.cell? c=some u1/\wr.drew.cell? d=some u2/\wr.drew.cell? e=some u3/\Below wr.heap.size wr wr.drew:=⟨f,g,h,j,⟨rfl,rfl,rfl,x7 _,λ_ _=>rfl⟩⟩
theorem zcm(w:World):w.heap.size<=w.drew.heap.size:=x7 _
theorem zg8{wr W:World}{l m n o u0 u1 u2 u3}{b:Nat}{a c d e f:Value}(h:W.cell? l=some u0/\W.cell? m=some u1/\W.cell? n=some u2/\W.cell? o=some u3/\Below wr.heap.size wr W)(g:wr.heap.size<=b)
 (q:l.block<wr.heap.size) (r:m.block<wr.heap.size) (s:n.block<wr.heap.size) (t:o.block<wr.heap.size):
 (((((W.setCell ⟨b,0,none⟩ a).setCell ⟨b,1,none⟩ c).setCell ⟨b,2,none⟩ d).setCell ⟨b,3,none⟩ e).setCell ⟨b,4,none⟩ f).cell? l=some u0/\
 (((((W.setCell ⟨b,0,none⟩ a).setCell ⟨b,1,none⟩ c).setCell ⟨b,2,none⟩ d).setCell ⟨b,3,none⟩ e).setCell ⟨b,4,none⟩ f).cell? m=some u1/\
 (((((W.setCell ⟨b,0,none⟩ a).setCell ⟨b,1,none⟩ c).setCell ⟨b,2,none⟩ d).setCell ⟨b,3,none⟩ e).setCell ⟨b,4,none⟩ f).cell? n=some u2/\
 (((((W.setCell ⟨b,0,none⟩ a).setCell ⟨b,1,none⟩ c).setCell ⟨b,2,none⟩ d).setCell ⟨b,3,none⟩ e).setCell ⟨b,4,none⟩ f).cell? o=some u3/\
 Below wr.heap.size wr (((((W.setCell ⟨b,0,none⟩ a).setCell ⟨b,1,none⟩ c).setCell ⟨b,2,none⟩ d).setCell ⟨b,3,none⟩ e).setCell ⟨b,4,none⟩ f):=by
 generalize u:(((((W.setCell ⟨b,0,none⟩ a).setCell ⟨b,1,none⟩ c).setCell ⟨b,2,none⟩ d).setCell ⟨b,3,none⟩ e).setCell ⟨b,4,none⟩ f)=W';have j:W.grownBy W' (some b):=u▸xB W b a c d e f;obtain⟨x,y,z,A,p⟩:=h;have B:=p.size;have g:Below wr.heap.size W W':=⟨j.os,j.tape,j.output,j.size,λk C=>j.block k (by omega) (by simp;omega)⟩;exact⟨(g.cell q).trans x,(g.cell r).trans y,(g.cell s).trans z,(g.cell t).trans A,p.trans g⟩
theorem zec{wr W:World}{f g j l u0 u1 u2 u3}{a c:Obj}(h:(W.alloc a).cell? f=some u0/\(W.alloc a).cell? g=some u1/\(W.alloc a).cell? j=some u2/\(W.alloc a).cell? l=some u3/\Below wr.heap.size wr (W.alloc a))(y:wr.heap.size<=W.heap.size)
 (m:f.block<wr.heap.size) (n:g.block<wr.heap.size) (o:j.block<wr.heap.size) (q:l.block<wr.heap.size):
 (W.alloc c).cell? f=some u0/\(W.alloc c).cell? g=some u1/\(W.alloc c).cell? j=some u2/\(W.alloc c).cell? l=some u3/\Below wr.heap.size wr (W.alloc c):=by
 obtain⟨r,s,t,u,d⟩:=h
 have e: ∀p:Addr,p.block<wr.heap.size->(W.alloc c).cell? p=(W.alloc a).cell? p:=λp z=>
  (E8 (C4 W c (by omega))).trans (E8 (C4 W a (by omega))).symm
 exact⟨(e _ m).trans r,(e _ n).trans s,(e _ o).trans t,(e _ q).trans u,⟨d.os,d.tape,d.output,by simp;omega,λk x=>((C4 W c (by omega)).trans (C4 W a (by omega)).symm).trans (d.block k x)⟩⟩
theorem M2(w):Below w.heap.size w w.drew:=⟨rfl,rfl,rfl,x7 _,λ_ _=>rfl⟩
theorem zan(w:World)(o):w.heap.size<(w.alloc o).drew.heap.size:=by
 show w.heap.size<(w.alloc o).heap.size;simp
theorem zge(a:World){W c:World}(d:Below W.heap.size W c)(j:Nat)(h:a.heap.size<W.heap.size):c.cell? ⟨a.heap.size,j,none⟩=W.cell? ⟨a.heap.size,j,none⟩:=d.cell (p:=⟨a.heap.size,j,none⟩) h
theorem zb9(a:World){W c:World}(d:Below W.heap.size W c)(j:Nat)(h:a.heap.size<W.heap.size):c.frozen? ⟨a.heap.size,j,none⟩=W.frozen? ⟨a.heap.size,j,none⟩:=World.frozen?_of_block (d.block _ h)
theorem zod{wr W a:World}{c d e f u0 u1 u2 u3}(h:W.cell? c=some u0/\W.cell? d=some u1/\W.cell? e=some u2/\W.cell? f=some u3/\Below wr.heap.size wr W)(g:Below W.heap.size W a):wr.heap.size<=a.heap.size:=C1 h.2.2.2.2.size g.size
theorem zeW{wr W:World}{a c d e u0 u1 u2 u3}(f:O4 wr)(h:W.cell? a=some u0/\W.cell? c=some u1/\W.cell? d=some u2/\W.cell? e=some u3/\Below wr.heap.size wr W):O4 W:=f.to h.2.2.2.2
theorem znC{wr W:World}{a c d e u0 u1 u2 u3}{rb:Nat}{v ws}{i en:Nat}{b:Bool}(f:Rd wr rb v ws i en b)(h:W.cell? a=some u0/\W.cell? c=some u1/\W.cell? d=some u2/\W.cell? e=some u3/\Below wr.heap.size wr W):Rd W rb v ws i en b:=f.K7 h.2.2.2.2
theorem zpb{w W:World}{rb a:Nat}{v:Value}{ws:List Wd}{en e:Nat}{b f:Bool}{q:Qe}{x:Ex}{A}{c:Nat}{F:Nat->Prop}(l:J7 W F (.slice A x.args.length c) x.args)(k: ∀g,F g->w.heap.size<=g/\g≠a)
 (m:Rd W rb v ws e en f) (o:jn ws en q b x e f) (p:w.grownBy W (some rb)) (r:w.heap.size<=a) (j:rb<a):
 zjj w rb v ws en q b (.returned (.agg #[.int .i64 x.I9,.int .i64 x.n,.string x.K0,.slice A x.args.length c,.int .i64 x.pos]))
  (((((W.setCell ⟨a,0,none⟩ (.int .i64 x.I9)).setCell ⟨a,1,none⟩ (.int .i64 x.n)).setCell ⟨a,2,none⟩ (.string x.K0)).setCell ⟨a,3,none⟩ (.slice A x.args.length c)).setCell ⟨a,4,none⟩ (.int .i64 x.pos)):=by
 have d:=xB W a (.int .i64 x.I9) (.int .i64 x.n) (.string x.K0) (.slice A x.args.length c) (.int .i64 x.pos);exact⟨x,A,c,e,f,rfl,l.grown d (λg h=>(k g h).2) (λg h=>(k g h).1),m.grown d j,o,P5 p d r⟩
structure Za(w0 w:World)(rb b0 b1:Nat)(v:Value)(ws:List Wd)(i en:Nat)(b:Bool)(u0 u1 u2 u3 u4:Value):Prop where
 rd:Rd w rb v ws i en b
 zD:w.heap[b0]?=some (.cells #[.int .i64 0,.int .i64 0,.string ⟨#[]⟩,.slice none 0 0,.int .i64 0] 186 (0,0))
 ex:w.heap[b1]?=some (.cells #[u0,u1,u2,u3,u4] 186 (0,0))
 gr:w0.grownBy w (some rb)
 gl:O4 w
 r0:10<rb
 z0:rb<w0.heap.size
 z1:w0.heap.size<=b0
 z2:b0<b1
 z3:b1<w.heap.size
theorem Za.L9{w0 w w':World}{rb b0 b1:Nat}{v:Value}{ws:List Wd}{i en:Nat}{b:Bool}{u0 u1 u2 u3 u4:Value}{c:Nat}{d:Bool}
 (h:Za w0 w rb b0 b1 v ws i en b u0 u1 u2 u3 u4) (f:Rd w' rb v ws c en d) (a:w.grownBy w' (some rb)):Za w0 w' rb b0 b1 v ws c en d u0 u1 u2 u3 u4:=by
 have g:=h.z0;have j:=h.z1;have k:=h.z2;have e:=h.z3;exact⟨f,(a.block b0 (by omega) (by simp;omega)).trans h.zD,(a.block b1 e (by simp;omega)).trans h.ex,I4 h.gr a,h.gl.of a h.r0,h.r0,g,j,k,A7 e a.size⟩
theorem Za.below{w0 w w':World}{rb b0 b1:Nat}{v:Value}{ws:List Wd}{i en:Nat}{b:Bool}{u0 u1 u2 u3 u4:Value}
 (h:Za w0 w rb b0 b1 v ws i en b u0 u1 u2 u3 u4) (a:Below w.heap.size w w'):Za w0 w' rb b0 b1 v ws i en b u0 u1 u2 u3 u4:=
 h.L9 (h.rd.K7 a) (I7 a _)
theorem Za.set{w0 w w':World}{rb b0 b1:Nat}{v:Value}{ws:List Wd}{i en:Nat}{b:Bool}{u0 u1 u2 u3 u4 c d e f v4:Value}
 (h:Za w0 w rb b0 b1 v ws i en b u0 u1 u2 u3 u4) (a:w.grownBy w' (some b1)) (j:w'.heap[b1]?=some (.cells #[c,d,e,f,v4] 186 (0,0))):Za w0 w' rb b0 b1 v ws i en b c d e f v4:=by
 have k:=h.z0;have l:=h.z1;have m:=h.z2;have n:=h.z3;have p:=h.gr.size;exact⟨h.rd.grown a (by omega),(a.block b0 (by omega) (by simp;omega)).trans h.zD,j,P5 h.gr a (by omega),h.gl.Z3 a.size (λg o=>a.block g (by have:=h.r0;omega) (by simp;have:=h.r0;omega)),h.r0,k,l,m,A7 n a.size⟩
section
variable {w0 w:World}{rb b0 b1:Nat}{v:Value}{ws:List Wd}{i en:Nat}{b:Bool}{u0 u1 u2 u3 u4:Value}
theorem Za.s0(h:Za w0 w rb b0 b1 v ws i en b u0 u1 u2 u3 u4)(x):Za w0 (w.setCell ⟨b1,0,none⟩ x) rb b0 b1 v ws i en b x u1 u2 u3 u4:=h.set (I8 _ _ _ _) (by simpa using A6 w b1 0 _ _ x h.ex)
theorem Za.s1(h:Za w0 w rb b0 b1 v ws i en b u0 u1 u2 u3 u4)(x):Za w0 (w.setCell ⟨b1,1,none⟩ x) rb b0 b1 v ws i en b u0 x u2 u3 u4:=h.set (I8 _ _ _ _) (by simpa using A6 w b1 1 _ _ x h.ex)
theorem Za.s2(h:Za w0 w rb b0 b1 v ws i en b u0 u1 u2 u3 u4)(x):Za w0 (w.setCell ⟨b1,2,none⟩ x) rb b0 b1 v ws i en b u0 u1 x u3 u4:=h.set (I8 _ _ _ _) (by simpa using A6 w b1 2 _ _ x h.ex)
theorem Za.s3(h:Za w0 w rb b0 b1 v ws i en b u0 u1 u2 u3 u4)(x):Za w0 (w.setCell ⟨b1,3,none⟩ x) rb b0 b1 v ws i en b u0 u1 u2 x u4:=h.set (I8 _ _ _ _) (by simpa using A6 w b1 3 _ _ x h.ex)
theorem Za.s4(h:Za w0 w rb b0 b1 v ws i en b u0 u1 u2 u3 u4)(x):Za w0 (w.setCell ⟨b1,4,none⟩ x) rb b0 b1 v ws i en b u0 u1 u2 u3 x:=h.set (I8 _ _ _ _) (by simpa using A6 w b1 4 _ _ x h.ex)
end
theorem Za.start{w0 w}{rb b0:Nat}{v ws}{i en:Nat}{b:Bool}(c:Rd w rb v ws i en b)(d:O4 w)(e:10<rb)(f:w0.grownBy w (some rb))(g:rb<w0.heap.size)(h:w0.heap.size<=b0)(a:b0<w.heap.size)
 (j:w.heap[b0]?=some (.cells #[.int .i64 0,.int .i64 0,.string ⟨#[]⟩,.slice none 0 0,.int .i64 0] 186 (0,0))) (u0 u1 u2 u3 u4:Value):
 Za w0 (w.alloc (.cells #[u0,u1,u2,u3,u4] 186)) rb b0 w.heap.size v ws i en b u0 u1 u2 u3 u4:=
 ⟨c.K7 ((x8 _ _).alloc (x7 _) _),(C4 w _ a).trans j,A5 w _,I4 f (I7 ((x8 _ _).alloc (x7 _) _) _),d.to ((x8 _ _).alloc (x7 _) _),e,g,h,a,by simp⟩
theorem Za.qi{w0 w:World}{rb b0 b1:Nat}{v:Value}{ws:List Wd}{a en:Nat}{b d:Bool}{q:Qe}{x:Ex}{A:Option Addr}{c:Nat}{F:Nat->Prop}
 (h:Za w0 w rb b0 b1 v ws a en d (.int .i64 x.I9) (.int .i64 x.n) (.string x.K0) (.slice A x.args.length c) (.int .i64 x.pos)) (e:J7 w F (.slice A x.args.length c) x.args) (f: ∀g,F g->w0.heap.size<=g/\g≠b0) (j:jn ws en q b x a d):
 zjj w0 rb v ws en q b (.returned (.agg #[.int .i64 x.I9,.int .i64 x.n,.string x.K0,.slice A x.args.length c,.int .i64 x.pos]))
  (((((w.setCell ⟨b0,0,none⟩ (.int .i64 x.I9)).setCell ⟨b0,1,none⟩ (.int .i64 x.n)).setCell ⟨b0,2,none⟩ (.string x.K0)).setCell ⟨b0,3,none⟩ (.slice A x.args.length c)).setCell ⟨b0,4,none⟩ (.int .i64 x.pos)):=
 zpb e f h.rd j h.gr h.z1 (A7 h.z0 h.z1)
theorem J7.later{w w'}{F F':Nat->Prop}{v l}(h:J7 w F v l)(row)(a:w.grownBy w' row)(f: ∀g,F g->row≠some g)(j: ∀g,F g->F' g):J7 w' F' v l:=
 h.K7 λg c d=>⟨j g c,A7 d a.size,a.block g d (λe=>f g c e.symm)⟩
theorem zii(s:ByteArray)(hs:s.size<=18)(w)(d:O4 w):Calls prog 231 #[.string s] w λe w'=>(∃f,e=.returned (.tuple #[.int .i64 (jv s),f]))/\Below w.heap.size w w':=by
 cases h:Lib.atoi s.data.toList with
 |some n=>
  have a:jv s=n:=by unfold jv;rw[h];rfl
  rw[a];refine(Tryz.strconv_Atoi s n hs h w).mono ?_;rintro e w' ⟨rfl,t,rfl⟩;exact⟨⟨_,rfl⟩,Lib.bytesWorld_below _ _ _⟩
 |none=>
  have a:jv s=0:=by unfold jv;rw[h];rfl
  rw[a];obtain⟨⟨g,j,c⟩,_⟩:=d.zet;refine(Tryz.strconv_Atoi_err s hs h g w j c).mono ?_;rintro e w' ⟨N,rfl,_,_,k⟩;exact⟨⟨_,rfl⟩,k⟩
def zV(ws:List Wd):Prop:= ∀x∈ws,x.I9=1->x.K0.size<=18
def zgV(ws:List Wd)(en k i:Nat)(b:Bool)(l:List Ex)(a:Nat)(c:Bool):Prop:=
 i<=a/\(b=true->c=true/\a=i)/\(b=false->c=false->i<a/\De ws en (.args k i) (.xH l a))/\(b=false->c=true->De ws en (.args k i) (.J9 a))
def zeA(rb:Nat)(v:Value)(ws:List Wd)(en i:Nat):Prop:=
 ∀(w:World)(b:Bool),Rd w rb v ws i en b->O4 w->Calls prog 232 #[.pointer (some ⟨rb,0,none⟩)] w λe a=>
  ∃l A c d f,e=.returned (.slice A l.length c)/\J7 a (λg=>w.heap.size<=g) (.slice A l.length c) l/\Rd a rb v ws d en f/\w.grownBy a (some rb)/\zgV ws en 0 i b l d f
theorem O3{ws}{i:Nat}{b:Bool}{s:ByteArray}(h:U8 ws i b s=true):b=false/\J3 ws i s=true:=by
 unfold U8 at h;cases b<;>simp_all
theorem M7{ws}{i:Nat}{s:ByteArray}(h:U8 ws i false s=false):J3 ws i s=false:=by
 unfold U8 at h;simpa using h
theorem O9{ws}{s:ByteArray}{i:Nat}{b:Bool}{a:Nat}{c:Bool}(h:Ze ws s i b a c):
 (b=false/\J3 ws i s=true/\a=i+1/\c=false)\/(b=false/\J3 ws i s=false/\a=i/\c=true)\/(b=true/\a=i/\c=true):=by
 rcases h with⟨g,d,f⟩|⟨g,d,f⟩
 ·obtain⟨e,h⟩:=O3 g;subst e;exact .inl ⟨rfl,h,d,f⟩
 ·cases b with
  |false=>exact .inr (.inl ⟨rfl,M7 g,d,f⟩)
  |true=>exact .inr (.inr ⟨rfl,d,f⟩)
theorem Y8{ws}{k:Nat}(l:k≠0){i:Nat}{b:Bool}{s:ByteArray}{c:Nat}{d:Bool}(h:yl ws k i b s c d):
 (b=false/\L3 ws i=k/\s=L8 ws i/\c=i+1/\d=false)\/(b=false/\L3 ws i≠k/\s=L1/\c=i/\d=true)\/(b=true/\s=L1/\c=i/\d=true):=by
 rcases h with⟨j,⟨x,a,f,g⟩,m,n⟩|⟨j,a,f,g⟩
 ·refine .inl ⟨j,?_,?_,m,n⟩
  ·unfold L3;rw[a];exact Int.ofNat_inj.1 f
  ·unfold L8;rw[a];exact g
 ·cases b with
  |false=>
   refine .inr (.inl ⟨rfl,?_,a,f,g⟩);unfold L3;cases o:ws[i]? with
   |none=>exact λe=>l e.symm
   |some x=>exact λe=>j rfl x o (by have:x.I9=k:=e;omega)
  |true=>exact .inr (.inr ⟨rfl,a,f,g⟩)
end Go.Proofs.YtmngofgminlloaaGreatDoor
namespace Go.Proofs.YtmngofgminlloaaGreatDoor
open Go.RowKit Tw
section
variable {ws:List Wd}{en i:Nat}
theorem ziZ{y}{b:Nat}{b':Bool}(c:K8 ws i=1)(a:jn ws en (.zk (i+1)) false y b b'):jn ws en (.zk i) false (.mk 4 0 L1 [y] (J4 ws i en)) b b':=by
 have d:=a.1;simp only[Qe.at]at d;exact⟨by simp only[Qe.at];omega,by simp,λ_ e=>⟨by simp only[Qe.at];omega,.neg c (a.2.2.1 rfl e).2⟩,λ_ e=>.zgm c (a.2.2.2 rfl e)⟩
theorem zko{y}{b:Nat}{b':Bool}(c:K8 ws i=2)(a:jn ws en (.zk (i+1)) false y b b'):jn ws en (.zk i) false (.mk 5 0 L1 [y] (J4 ws i en)) b b':=by
 have d:=a.1;simp only[Qe.at]at d;exact⟨by simp only[Qe.at];omega,by simp,λ_ e=>⟨by simp only[Qe.at];omega,.not c (a.2.2.1 rfl e).2⟩,λ_ e=>.zgo c (a.2.2.2 rfl e)⟩
theorem zkf{y}{d e:Nat}{f b2:Bool}(b:K8 ws i=3)(a:jn ws en (.lvl 1 (i+1)) false y d f)(g:Ze ws N4 d f e b2):jn ws en (.zk i) false y e b2:=by
 have h:=a.1;simp only[Qe.at]at h
 rcases O9 g with⟨rfl,c,rfl,rfl⟩|⟨rfl,c,rfl,rfl⟩|⟨rfl,rfl,rfl⟩
 ·exact⟨by simp only[Qe.at];omega,by simp,λ_ _=>⟨by simp only[Qe.at];omega,.par b (a.2.2.1 rfl rfl).2 c⟩,by simp⟩
 ·exact⟨by simp only[Qe.at];omega,by simp,by simp,λ_ _=>.zeo b (a.2.2.1 rfl rfl).2 c⟩
 ·exact⟨by simp only[Qe.at];omega,by simp,by simp,λ_ _=>.zep b (a.2.2.2 rfl rfl)⟩
theorem zjo(a:K8 ws i=4):jn ws en (.zk i) false (.mk 2 1 L1 [] (J4 ws i en)) (i+1) false:=
 ⟨by simp only[Qe.at];omega,by simp,λ_ _=>⟨by simp only[Qe.at];omega,.tru a⟩,by simp⟩
theorem zju(a:K8 ws i=5):jn ws en (.zk i) false (.mk 2 0 L1 [] (J4 ws i en)) (i+1) false:=
 ⟨by simp only[Qe.at];omega,by simp,λ_ _=>⟨by simp only[Qe.at];omega,.fls a⟩,by simp⟩
theorem zhU{s:ByteArray}{f g j:Nat}{b1 k b3:Bool}{l}(c:K8 ws i=6)(n:yl ws (1:Nat) (i+1) false s f b1)(m:Ze ws O6 f b1 g k)(a:zgV ws en 0 g k l j b3):
 jn ws en (.zk i) false (.mk 8 (jv s) L1 l (J4 ws i en)) j b3:=by
 have o:=a.1
 rcases Y8 (by decide) n with⟨_,b,rfl,rfl,rfl⟩|⟨_,b,rfl,rfl,rfl⟩|⟨h,_⟩
 ·rcases O9 m with⟨_,d,rfl,rfl⟩|⟨_,d,rfl,rfl⟩|⟨h,_⟩
  ·exact⟨by simp only[Qe.at];omega,by simp,λ_ e=>⟨by simp only[Qe.at];omega,.X0 c b d (a.2.2.1 rfl e).2⟩,λ_ e=>.XB c b d (a.2.2.2 rfl e)⟩
  ·obtain⟨rfl,rfl⟩:=a.2.1 rfl
   exact⟨by simp only[Qe.at];omega,by simp,by simp,λ_ _=>.Xz c b d⟩
  ·cases h
 ·rcases O9 m with⟨h,_⟩|⟨h,_⟩|⟨_,rfl,rfl⟩
  ·cases h
  ·cases h
  ·obtain⟨rfl,rfl⟩:=a.2.1 rfl
   exact⟨by simp only[Qe.at];omega,by simp,by simp,λ_ _=>.XA c b⟩
 ·cases h
def QT(ws:List Wd)(i:Nat):Prop:=
 J3 ws i zU=false/\J3 ws i jR=false/\J3 ws i O6=false/\J3 ws i xq=false/\J3 ws i jm=false/\J3 ws i yv=false
theorem QT.q{ws}{i:Nat}(h:QT ws i):K8 ws i=if L3 ws i=1 then 7 else if L3 ws i=2 then 8 else 0:=by
 obtain⟨a,b,c,d,e,f⟩:=h;unfold K8;simp[a,b,c,d,e,f]
theorem zjX{s:ByteArray}{a:Nat}{b1:Bool}(c:QT ws i)(b:L3 ws i=1)(d:yl ws (1:Nat) i false s a b1):jn ws en (.zk i) false (.mk 1 (jv s) L1 [] (J4 ws i en)) a b1:=by
 have e:K8 ws i=7:=by rw[c.q,C8 b]
 rcases Y8 (by decide) d with⟨_,_,rfl,rfl,rfl⟩|⟨_,h,_⟩|⟨h,_⟩
 ·exact⟨by simp only[Qe.at];omega,by simp,λ_ _=>⟨by simp only[Qe.at];omega,.num e⟩,by simp⟩
 ·exact H9 b h
 ·cases h
theorem zjD{s:ByteArray}{c:Nat}{b b1:Bool}(a:b=false->QT ws i/\L3 ws i≠1)(e:yl ws (2:Nat) i b s c b1)(hs:U8 ws c b1 O6=false):jn ws en (.zk i) b (.mk 3 0 s [] (J4 ws i en)) c b1:=by
 rcases Y8 (by decide) e with⟨rfl,d,rfl,rfl,rfl⟩|⟨rfl,d,rfl,rfl,rfl⟩|⟨rfl,rfl,rfl,rfl⟩
 ·have f:K8 ws i=8:=by rw[(a rfl).1.q,B5 (a rfl).2,C8 d]
  exact⟨by simp only[Qe.at];omega,by simp,λ_ _=>⟨by simp only[Qe.at];omega,.qE f (M7 hs)⟩,by simp⟩
 ·exact⟨by simp only[Qe.at];omega,by simp,by simp,λ_ _=>.QX (by rw[(a rfl).1.q,B5 (a rfl).2,B5 d])⟩
 ·exact⟨by simp only[Qe.at];omega,λ_=>⟨rfl,rfl⟩,by simp,by simp⟩
theorem zik{s:ByteArray}{a d:Nat}{b b1 b3:Bool}{l}(f:b=false->QT ws i/\L3 ws i≠1)(j:yl ws (2:Nat) i b s a b1)(hs:U8 ws a b1 O6=true)(c:zgV ws en 0 (a+1) b1 l d b3):
 jn ws en (.zk i) b (.mk 7 0 s l (J4 ws i en)) d b3:=by
 have k:=c.1
 rcases Y8 (by decide) j with⟨rfl,g,rfl,rfl,rfl⟩|⟨rfl,g,rfl,rfl,rfl⟩|⟨rfl,rfl,rfl,rfl⟩
 ·have h:K8 ws i=8:=by rw[(f rfl).1.q,B5 (f rfl).2,C8 g]
  exact⟨by simp only[Qe.at];omega,by simp,λ_ e=>⟨by simp only[Qe.at];omega,.call h (O3 hs).2 (c.2.2.1 rfl e).2⟩,λ_ e=>.JH h (O3 hs).2 (c.2.2.2 rfl e)⟩
 ·exact H9 (O3 hs).1 (by simp)
 ·exact H9 (O3 hs).1 (by simp)
theorem zkR(a:J3 ws i zU=true):K8 ws i=1:=by unfold K8;simp[a]
theorem zkK(a:J3 ws i zU=false)(b:J3 ws i jR=true):K8 ws i=2:=by unfold K8;simp[a,b]
theorem zkP(a:J3 ws i zU=false)(b:J3 ws i jR=false)(c:J3 ws i O6=true):K8 ws i=3:=by unfold K8;simp[a,b,c]
theorem zkS(a:J3 ws i zU=false)(b:J3 ws i jR=false)(c:J3 ws i O6=false)(d:J3 ws i xq=true):K8 ws i=4:=by unfold K8;simp[a,b,c,d]
theorem zk2(a:J3 ws i zU=false)(b:J3 ws i jR=false)(c:J3 ws i O6=false)(d:J3 ws i xq=false)(e:J3 ws i jm=true):K8 ws i=5:=by unfold K8;simp[a,b,c,d,e]
theorem zk4(a:J3 ws i zU=false)(b:J3 ws i jR=false)(c:J3 ws i O6=false)(d:J3 ws i xq=false)(e:J3 ws i jm=false)(f:J3 ws i yv=true):K8 ws i=6:=by unfold K8;simp[a,b,c,d,e,f]
end
theorem zaH{ws}{i:Nat}{b:Bool}{s:ByteArray}{a:Nat}{c:Bool}(d:zV ws)(h:yl ws 1 i b s a c):s.size<=18:=by
 rcases h with⟨_,⟨x,e,f,rfl⟩,_⟩|⟨_,rfl,_⟩
 ·exact d x (B7 e) (Int.ofNat_inj.1 f)
 ·decide
theorem zkp{ws}{i:Nat}{b:Bool}{s a:ByteArray}{i1 i2:Nat}{b1 c:Bool}(h:yl ws 1 (i+1) b s i1 b1)(d:Ze ws a i1 b1 i2 c):i<i2:=by
 have e:i<i1:=by rcases h with⟨_,_,h,_⟩|⟨_,_,h,_⟩<;>omega
 rcases d with⟨_,h,_⟩|⟨_,h,_⟩<;>omega
theorem zd2{ws}{k:Int}{i:Nat}{b:Bool}{s:ByteArray}{i1:Nat}{b1:Bool}(h:yl ws k i b s i1 b1):i<=i1:=by
 rcases h with⟨_,_,h,_⟩|⟨_,_,h,_⟩<;>omega
theorem Jc{w W}{f F:Nat->Prop}{y c}{n b1 cap T:Nat}(l:J7 w f c y.args)(d:w.grownBy W (some b1))(b: ∀g,f g->g≠b1/\F g)(m:W.heap.size=n)(e:F n):
 J7 (W.alloc (.cells #[.int .i64 y.I9,.int .i64 y.n,.string y.K0,c,.int .i64 y.pos] T)) F (.slice (some ⟨n,0,none⟩) 1 cap) [y]:=by
 subst m;refine J7.JK [(y,c)] #[.int .i64 y.I9,.int .i64 y.n,.string y.K0,c,.int .i64 y.pos] rfl (A5 W _) e λa h=>?_
 simp at h;subst h;refine l.K7 λg j k=>⟨(b g j).2,?_,?_⟩
 ·have:=d.size;simp;omega
 ·rw[C4 W _ (A7 k d.size)]
  exact d.block g k (by simp;exact(b g j).1)
end Go.Proofs.YtmngofgminlloaaGreatDoor
namespace Go.Proofs.YtmngofgminlloaaGreatDoor
open Go.Proofs.Tryz
open Go.RowKit Tw
def zoh(S:Nat)(v ws)(en i:Nat)(hN:zV ws)(hr:10<S)(h1:zfJ S v ws en (i+1))(h2:JW S v ws en 1 (i+1))(h3: ∀j,i<j->zeA S v ws en j):zfJ S v ws en i:=by
 intro w b h hG;have H1:=qh h1;have H2:=qh h2;have H3:=qh h3;have HR:=qh h;have HG:=qh hG;have HN:=qh hN;have b3:=h.lt;clear h1 h2 h3 h hG hN
 go_enter func203,ntmps203
 go_wp2_with fail
 refine(zg6 (HR.out.K7 ((x8 _ _).alloc (x7 _) _))).mono ?_;rintro e w1 ⟨rfl,Q⟩;have k:Below w.heap.size w w1:=((x8 _ _).alloc (x7 _) _).trans (Q.mono (by simp))
 have a:Hid (Za w _ S w.heap.size w1.heap.size v ws i en b (.int .i64 0) (.int .i64 0) (.string ⟨#[]⟩) (.slice none 0 0) (.int .i64 (J4 ws i en))):=
  qh (Za.start (HR.out.K7 k) (HG.out.to k) hr (I7 k _) b3 (x7 _) (by have:=Q.size;simp at this;omega) ((Q.block _ (by simp)).trans (A5 w _)) _ _ _ _ _)
 clear Q k
 go_upto_block 0 with(fail)
 generalize w1.alloc _=W1 at a|-;generalize w1.heap.size=H at a|-;obtain⟨b0,k⟩: ∃b0,w.heap.size=b0:=⟨_,rfl⟩;rw[k]at a;simp only[k];have b7:=qh k;clear k
 go_cut[] (λW=> ∃(x:Ex)(A:Option Addr)(c Y:Nat)(Z:Bool),Hid (Za w W S b0 H v ws Y en Z (.int .i64 x.I9) (.int .i64 x.n) (.string x.K0) (.slice A x.args.length c) (.int .i64 x.pos))/\Hid (J7 W (λg=>w.heap.size<=g/\g≠b0) (.slice A x.args.length c) x.args)/\Hid (jn ws en (.zk i) b x Y Z))
 case rest=>
  obtain⟨x,A,c,Y,Z,a,L,M⟩:=hcut;obtain⟨⟨o,p,r,q,z⟩,B,C,D,E,F⟩:=K6 a.out.ex;obtain⟨⟨d0,d1,d2,d3,d4⟩,g0,g1,g2,g3,g4⟩:=K6 a.out.zD;have HW:=qh (yT (.int .i64 x.I9) (.int .i64 x.n) (.string x.K0) (.slice A x.args.length c) (.int .i64 x.pos) a.out.zD)
  go_wp2_with fail
  refine E9 (F2 rfl _ _ b0 _ _ _ _ rfl HW.out underlying186 rfl zT) rfl ?_;exact a.out.qi L.out (λg h=>h) M.out
 case first=>
  go_wp2_with fail
  obtain⟨t1,a0⟩: ∃t,U8 ws i b zU=t:=⟨_,rfl⟩;have T1:=qh a0;refine(zG zU t1 a.out.rd a0).mono ?_;rintro e K ⟨rfl,f,d⟩;replace a:=qh (a.out.L9 f d);clear f d a0;cases t1 with
  |true=>
   obtain⟨N,G⟩:=O3 T1.out;subst N;have O:=qh G;clear G;simp only[if_true]at a
   go_wp2_with fail
   refine(H1.out K false a.out.rd a.out.gl).mono ?_;rintro e w3 ⟨y,A,c,Y,Z,rfl,I,f,J,d⟩;have L:=qh I;have M:=qh J;have T:=a.out.z3;have U:=a.out.gr.size;have V:=a.out.z2;have hs:=d.size;replace a:=qh (a.out.L9 f d);have a9:=a.out.z3;clear f d I J;obtain⟨⟨o,p,r,q,z⟩,B,C,D,E,F⟩:=K6 a.out.ex
   go_wp2_with fail
   go_meet
   case rel=>
    refine⟨.mk 4 0 L1 [y] (J4 ws i en),some ⟨w3.heap.size,0,none⟩,1,Y,Z,qh (((a.out.s0 _).s3 _).below ((x8 _ _).alloc (x7 _) _)),qh ?_,qh (ziZ (zkR O.out) M.out)⟩;exact Jc L.out (I4 (I8 _ _ _ _) (I8 _ _ _ _)) (λg (h:K.heap.size<=g)=>⟨by omega,by omega,by omega⟩) (by simp) ⟨by omega,by omega⟩
  |false=>
   go_wp2_with fail
   obtain⟨t2,a1⟩: ∃t,U8 ws i b jR=t:=⟨_,rfl⟩;have T2:=qh a1;refine(zG jR t2 a.out.rd a1).mono ?_;rintro e K ⟨rfl,f,d⟩;replace a:=qh (a.out.L9 f d);clear f d a1;cases t2 with
   |true=>
    obtain⟨N,G⟩:=O3 T2.out;subst N;have O:=qh G;clear G;have X:=qh (M7 T1.out);simp only[if_true]at a
    go_wp2_with fail
    refine(H1.out K false a.out.rd a.out.gl).mono ?_;rintro e w3 ⟨y,A,c,Y,Z,rfl,I,f,J,d⟩;have L:=qh I;have M:=qh J;have T:=a.out.z3;have U:=a.out.gr.size;have V:=a.out.z2;have hs:=d.size;replace a:=qh (a.out.L9 f d);have a9:=a.out.z3;clear f d I J;obtain⟨⟨o,p,r,q,z⟩,B,C,D,E,F⟩:=K6 a.out.ex
    go_wp2_with fail
    go_meet
    case rel=>
     refine⟨.mk 5 0 L1 [y] (J4 ws i en),some ⟨w3.heap.size,0,none⟩,1,Y,Z,qh (((a.out.s0 _).s3 _).below ((x8 _ _).alloc (x7 _) _)),qh ?_,qh (zko (zkK X.out O.out) M.out)⟩;exact Jc L.out (I4 (I8 _ _ _ _) (I8 _ _ _ _)) (λg (h:K.heap.size<=g)=>⟨by omega,by omega,by omega⟩) (by simp) ⟨by omega,by omega⟩
   |false=>
    go_wp2_with fail
    obtain⟨t3,a2⟩: ∃t,U8 ws i b O6=t:=⟨_,rfl⟩;have T3:=qh a2;refine(zG O6 t3 a.out.rd a2).mono ?_;rintro e K ⟨rfl,f,d⟩;replace a:=qh (a.out.L9 f d);clear f d a2;cases t3 with
    |true=>
     obtain⟨N,G⟩:=O3 T3.out;subst N;have O:=qh G;clear G;have X:=qh (M7 T1.out);have E2:=qh (M7 T2.out);simp only[if_true]at a
     go_wp2_with fail
     refine(H2.out K false a.out.rd a.out.gl).mono ?_;rintro e w3 ⟨y,A,c,Y,Z,rfl,I,f,J,d⟩;have L:=qh I;have M:=qh J;have T:=a.out.z3;have U:=a.out.gr.size;have V:=a.out.z2;have hs:=d.size;have b8:=a.out.z0;replace a:=qh (a.out.L9 f d);have a9:=a.out.z3;clear f d I J;obtain⟨⟨o,p,r,q,z⟩,B,C,D,E,F⟩:=K6 a.out.ex
     go_wp2_with fail
     have P:=qh (((((a.out.s0 (.int .i64 y.I9)).s1 (.int .i64 y.n)).s2 (.string y.K0)).s3 (.slice A y.args.length c)).s4 (.int .i64 y.pos));have a3:=qh (J7.later L.out (some H) (xB w3 H (.int .i64 y.I9) (.int .i64 y.n) (.string y.K0) (.slice A y.args.length c) (.int .i64 y.pos)) (λg (h:K.heap.size<=g)=>by simp;omega) (λg (h:K.heap.size<=g)=>(⟨by omega,by omega⟩:w.heap.size<=g/\g≠b0)));clear L a o p r q z B C D E F;generalize(((((w3.setCell ⟨H,0,none⟩ _).setCell ⟨H,1,none⟩ _).setCell ⟨H,2,none⟩ _).setCell ⟨H,3,none⟩ _).setCell ⟨H,4,none⟩ _)=W5 at P a3|-;refine(ya N4 P.out.rd).mono ?_;rintro e w6 ⟨rfl,⟨i2,b2,f,hW⟩,d⟩;have HW:=qh hW;have b4:=qh (J7.later a3.out (some S) d (λg (h:w.heap.size<=g/\g≠b0)=>by simp;omega) (λg h=>h));replace P:=qh (P.out.L9 f d);clear f d hW a3
     go_wp2_with fail
     go_meet
     case rel=>exact⟨y,A,c,i2,b2,P,b4,qh (zkf (zkP X.out E2.out O.out) M.out HW.out)⟩
    |false=>
     go_wp2_with fail
     obtain⟨t4,a4⟩: ∃t,U8 ws i b xq=t:=⟨_,rfl⟩;have T4:=qh a4;refine(zG xq t4 a.out.rd a4).mono ?_;rintro e K ⟨rfl,f,d⟩;replace a:=qh (a.out.L9 f d);clear f d a4;cases t4 with
     |true=>
      obtain⟨N,G⟩:=O3 T4.out;subst N;have O:=qh G;clear G;have X:=qh (M7 T1.out);have E2:=qh (M7 T2.out);have E3:=qh (M7 T3.out);simp only[if_true]at a;obtain⟨⟨o,p,r,q,z⟩,B,C,D,E,F⟩:=K6 a.out.ex
      go_wp2_with fail
      go_meet
      case rel=>exact⟨.mk 2 1 L1 [] (J4 ws i en),none,0,i+1,false,qh ((a.out.s0 _).s1 _),qh (.nil _ _),qh (zjo (zkS X.out E2.out E3.out O.out))⟩
     |false=>
      go_wp2_with fail
      obtain⟨t5,a5⟩: ∃t,U8 ws i b jm=t:=⟨_,rfl⟩;have T5:=qh a5;refine(zG jm t5 a.out.rd a5).mono ?_;rintro e K ⟨rfl,f,d⟩;replace a:=qh (a.out.L9 f d);clear f d a5;cases t5 with
      |true=>
       obtain⟨N,G⟩:=O3 T5.out;subst N;have O:=qh G;clear G;have X:=qh (M7 T1.out);have E2:=qh (M7 T2.out);have E3:=qh (M7 T3.out);have E4:=qh (M7 T4.out);simp only[if_true]at a;obtain⟨⟨o,p,r,q,z⟩,B,C,D,E,F⟩:=K6 a.out.ex
       go_wp2_with fail
       go_meet
       case rel=>exact⟨.mk 2 0 L1 [] (J4 ws i en),none,0,i+1,false,qh (a.out.s0 _),qh (.nil _ _),qh (zju (zk2 X.out E2.out E3.out E4.out O.out))⟩
      |false=>
       go_wp2_with fail
       obtain⟨t6,a6⟩: ∃t,U8 ws i b yv=t:=⟨_,rfl⟩;have T6:=qh a6;refine(zG yv t6 a.out.rd a6).mono ?_;rintro e K ⟨rfl,f,d⟩;replace a:=qh (a.out.L9 f d);clear f d a6;cases t6 with
       |true=>
        obtain⟨N,G⟩:=O3 T6.out;subst N;have O:=qh G;clear G;have X:=qh (M7 T1.out);have E2:=qh (M7 T2.out);have E3:=qh (M7 T3.out);have E4:=qh (M7 T4.out);have E5:=qh (M7 T5.out);simp only[if_true]at a;obtain⟨⟨o,p,r,q,z⟩,B,C,D,E,F⟩:=K6 a.out.ex
        go_wp2_with fail
        clear o p r q z B C D E F;replace a:=qh (a.out.s0 (.int .i64 8));generalize K.setCell ⟨H,0,none⟩ _=W3 at a|-;refine(Xh 1 a.out.rd).mono ?_;rintro e w4 ⟨⟨s,i1,k1,rfl,f,R⟩,d⟩;have HK:=qh R;have HS:Hid (s.size<=18):=qh (zaH HN.out R);replace a:=qh (a.out.L9 f d);clear f d R
        go_wp2_with fail
        refine(zii s HS.out w4 a.out.gl).mono ?_;rintro e w5 ⟨⟨er,rfl⟩,Q⟩;replace a:=qh (a.out.below Q);clear Q;obtain⟨⟨o,p,r,q,z⟩,B,C,D,E,F⟩:=K6 a.out.ex
        go_wp2_with fail
        clear o p r q z B C D E F;replace a:=qh (a.out.s1 (.int .i64 (jv s)));generalize w5.setCell ⟨H,1,none⟩ _=W5 at a|-;refine(ya O6 a.out.rd).mono ?_;rintro e w6 ⟨rfl,⟨i2,k2,f,hW⟩,d⟩;have HW:=qh hW;replace a:=qh (a.out.L9 f d);clear f d hW
        go_wp2_with fail
        refine(H3.out i2 (zkp HK.out HW.out) w6 k2 a.out.rd a.out.gl).mono ?_;rintro e w7 ⟨l,A,c,i3,k3,rfl,I,f,d,J⟩;have L:=qh I;have M:=qh J;have T:=a.out.z3;have U:=a.out.gr.size;have V:=a.out.z2;have hs:=d.size;replace a:=qh (a.out.L9 f d);clear f d I J;obtain⟨⟨o,p,r,q,z⟩,B,C,D,E,F⟩:=K6 a.out.ex
        go_wp2_with fail
        go_meet
        case rel=>exact⟨.mk 8 (jv s) L1 l (J4 ws i en),A,c,i3,k3,qh (a.out.s3 _),qh (J7.later L.out (some H) (I8 _ _ _ _) (λg (h:w6.heap.size<=g)=>by simp;omega) (λg (h:w6.heap.size<=g)=>(⟨by omega,by omega⟩:w.heap.size<=g/\g≠b0))),qh (zhU (zk4 X.out E2.out E3.out E4.out E5.out O.out) HK.out HW.out M.out)⟩
       |false=>
        go_wp2_with fail
        simp only[C2,if_false]at a;have a7:=qh (λe:b=false=>(by subst e;exact⟨M7 T1.out,M7 T2.out,M7 T3.out,M7 T4.out,M7 T5.out,M7 T6.out⟩:QT ws i));clear T1 T2 T3 T4 T5 T6
        go_cut[65] (λu W=> ∃t:Bool,u=.bool t/\Hid ((t=true->b=false/\L3 ws i=1)/\(t=false->b=false->L3 ws i≠1))/\Hid (Za w W S b0 H v ws i en b (.int .i64 0) (.int .i64 0) (.string ⟨#[]⟩) (.slice none 0 0) (.int .i64 (J4 ws i en))))
        case first=>
         obtain⟨A,b9,rfl,m⟩:=a.out.rd.row.jJ;have o:=a.out.rd.c0;have p:=a.out.rd.c1;have q:=a.out.rd.c3;have hn:=a.out.rd.X5;have hp:=a.out.rd.pos;cases b with
         |true=>
          clear m
          go_quiet (fail)
          go_wp2_with fail
          go_meet
          case rel=>exact⟨false,rfl,qh ⟨by simp,by simp⟩,qh (a.out.below (J6 (x8 _ _) _))⟩
         |false=>
          by_cases b5:i<ws.length
          ·obtain⟨x,hx⟩: ∃x,ws[i]?=some x:=⟨_,x9 b5⟩
           obtain⟨g,rfl,d,d0,d1,d2⟩:=m i x hx;have k0:(0:Int)<=(i:Int):=by omega
           have k1:(i:Int)<(ws.length:Int):=by omega
           obtain⟨t,ht⟩: ∃t,(((x.I9:Int))==1)=t:=⟨_,rfl⟩;have HX:Hid (L3 ws i=x.I9):=qh (by unfold L3;rw[hx]);clear hx m d1 d2;cases t with
           |true=>
            go_quiet (fail)
            go_wp2_with fail
            go_meet
            case rel=>exact⟨true,rfl,qh ⟨λ_=>⟨by simp,by rw[HX.out];have:=beq_iff_eq.1 ht;omega⟩,by simp⟩,qh (a.out.below (J6 (x8 _ _) _))⟩
           |false=>
            go_quiet (fail)
            go_wp2_with fail
            go_meet
            case rel=>exact⟨false,rfl,qh ⟨by simp,λ_ _=>by rw[HX.out];have:=beq_eq_false_iff_ne.1 ht;omega⟩,qh (a.out.below (J6 (x8 _ _) _))⟩
          ·have hi:i=ws.length:=by omega
           have HX:Hid (L3 ws i=0):=qh (by unfold L3;rw[C5 (by omega)]);clear m
           go_quiet (fail)
           go_wp2_with fail
           go_meet
           case rel=>exact⟨false,rfl,qh ⟨by simp,λ_ _=>by rw[HX.out];decide⟩,qh (a.out.below (J6 (x8 _ _) _))⟩
        case rest=>
         obtain⟨t,rfl,HT,a⟩:=hcut;cases t with
         |true=>
          obtain⟨rfl,hk⟩:=HT.out.1 rfl;have b6:=qh hk;clear hk;obtain⟨⟨o,p,r,q,z⟩,B,C,D,E,F⟩:=K6 a.out.ex
          go_wp2_with fail
          clear o p r q z B C D E F;replace a:=qh (a.out.s0 (.int .i64 1));generalize wc.setCell ⟨H,0,none⟩ _=W3 at a|-;refine(Xh 1 a.out.rd).mono ?_;rintro e w4 ⟨⟨s,i1,k1,rfl,f,R⟩,d⟩;have HK:=qh R;have HS:Hid (s.size<=18):=qh (zaH HN.out R);replace a:=qh (a.out.L9 f d);clear f d R
          go_wp2_with fail
          refine(zii s HS.out w4 a.out.gl).mono ?_;rintro e w5 ⟨⟨er,rfl⟩,Q⟩;replace a:=qh (a.out.below Q);clear Q;obtain⟨⟨o,p,r,q,z⟩,B,C,D,E,F⟩:=K6 a.out.ex
          go_wp2_with fail
          go_meet
          case rel=>exact⟨.mk 1 (jv s) L1 [] (J4 ws i en),none,0,i1,k1,qh (a.out.s1 _),qh (.nil _ _),qh (zjX (a7.out (by simp)) b6.out HK.out)⟩
         |false=>
          have HV:Hid (b=false->QT ws i/\L3 ws i≠1):=qh λe=>⟨a7.out e,HT.out.2 rfl e⟩
          clear HT a7
          go_wp2_with fail
          refine(Xh 2 a.out.rd).mono ?_;rintro e w4 ⟨⟨s,i1,k1,rfl,f,R⟩,d⟩;have HK:=qh R;replace a:=qh (a.out.L9 f d);clear f d R;obtain⟨⟨o,p,r,q,z⟩,B,C,D,E,F⟩:=K6 a.out.ex
          go_wp2_with fail
          clear o p r q z B C D E F;replace a:=qh ((a.out.s0 (.int .i64 3)).s2 (.string s));generalize((w4.setCell ⟨H,0,none⟩ _).setCell ⟨H,2,none⟩ _)=W5 at a|-;obtain⟨t7,a8⟩: ∃t,U8 ws i1 k1 O6=t:=⟨_,rfl⟩;have T7:=qh a8;refine(zG O6 t7 a.out.rd a8).mono ?_;rintro e w6 ⟨rfl,f,d⟩;replace a:=qh (a.out.L9 f d);clear f d a8;cases t7 with
          |true=>
           simp only[if_true]at a
           go_wp2_with fail
           refine(H3.out (i1+1) (by have:=(zd2 HK.out);omega) w6 k1 a.out.rd a.out.gl).mono ?_;rintro e w7 ⟨l,A,c,i3,k3,rfl,I,f,d,J⟩;have L:=qh I;have M:=qh J;have T:=a.out.z3;have U:=a.out.gr.size;have V:=a.out.z2;have hs:=d.size;replace a:=qh (a.out.L9 f d);clear f d I J;obtain⟨⟨o,p,r,q,z⟩,B,C,D,E,F⟩:=K6 a.out.ex
           go_wp2_with fail
           go_meet
           case rel=>exact⟨.mk 7 0 s l (J4 ws i en),A,c,i3,k3,qh ((a.out.s0 _).s3 _),qh (J7.later L.out (some H) (I4 (I8 _ _ _ _) (I8 _ _ _ _)) (λg (h:w6.heap.size<=g)=>by simp;omega) (λg (h:w6.heap.size<=g)=>(⟨by omega,by omega⟩:w.heap.size<=g/\g≠b0))),qh (zik HV.out HK.out T7.out M.out)⟩
          |false=>
           simp only[C2,if_false]at a
           go_wp2_with fail
           go_meet
           case rel=>exact⟨.mk 3 0 s [] (J4 ws i en),none,0,i1,k1,a,qh (.nil _ _),qh (zjD HV.out HK.out T7.out)⟩
def zdq(w:World)(a:Nat):Bool:=match w.cell? ⟨a,3,none⟩with|some (.bool b)=>b|_=>false
theorem Rd.zdq{w}{a:Nat}{v ws}{i en:Nat}{b:Bool}(h:Rd w a v ws i en b):zdq w a=b:=by
 unfold Go.Proofs.YtmngofgminlloaaGreatDoor.zdq;rw[h.c3]
def yN(ws:List Wd)(w:World)(a:Nat):Nat:=2*(ws.length-jN w a)+(if zdq w a then 0 else 1)
theorem Rd.left{w}{a:Nat}{v ws}{i en:Nat}{b:Bool}(h:Rd w a v ws i en b):yN ws w a=2*(ws.length-i)+(if b then 0 else 1):=by
 unfold yN;rw[h.yB,h.zdq]
theorem Rd.ziC{w w'}{rb:Nat}{v ws}{i en i':Nat}{a:Bool}(h:Rd w rb v ws i en false)(c:Rd w' rb v ws i' en a)(hi:i<=i')(d:a=false->i<i'):yN ws w' rb<yN ws w rb:=by
 rw[h.left,c.left];have:=c.pos;cases a with
 |true=>simp;omega
 |false=>have:=d rfl;simp;omega
structure InA(ws:List Wd)(en i:Nat)(b:Bool)(l:List Ex)(i':Nat)(b':Bool):Prop where
 le:i<=i'
 bt:b=true->b'=true/\i'=i
 X5:l.length<=i'+(if b' then 1 else 0)
 okk:b=false->b'=false->(∀m j,De ws en (.args l.length i') (.xH m j)->De ws en (.args 0 i) (.xH (l++m) j))/\(∀j,De ws en (.args l.length i') (.J9 j)->De ws en (.args 0 i) (.J9 j))
 J9:b=false->b'=true->De ws en (.args 0 i) (.J9 i')
def Yr(ws:List Wd)(k i' a:Nat)(c:Bool):Prop:=(k=0/\a=i'/\c=false)\/(k≠0/\Ze ws U0 i' false a c)
section
variable {ws:List Wd}{en i:Nat}{b:Bool}{l:List Ex}{i':Nat}
theorem InA.znh(ws)(en i:Nat)(b:Bool):InA ws en i b [] i b:=
 ⟨x7 _,λe=>⟨e,rfl⟩,by simp,λ_ _=>⟨λm j h=>h,λj h=>h⟩,λe a=>H9 (e.symm.trans a) (by decide)⟩
theorem InA.U4(h:InA ws en i b l i' false)(a:J3 ws i' N4=true):zgV ws en 0 i b l (i'+1) false:=by
 have c:=h.le;refine⟨by omega,λe=>H9 (h.bt e).1 (by decide),λe _=>⟨by omega,?_⟩,λ_ e=>H9 e (by decide)⟩;simpa using(h.okk e rfl).1 [] (i'+1) (.U4 a)
theorem InA.out(h:InA ws en i b l i' true):zgV ws en 0 i b l i' true:=
 ⟨h.le,h.bt,λ_ e=>H9 e (by decide),λe _=>h.J9 e rfl⟩
theorem InA.L9{x}{t r:Nat}{u n:Bool}(h:InA ws en i b l i' false)(d:J3 ws i' N4=false)(c:Yr ws l.length i' t u)(f:jn ws en (.lvl 1 t) u x r n):
 InA ws en i b (l++[x]) r n/\i'<=r/\(n=false->i'<r):=by
 have v:=f.1;simp only[Qe.at]at v;have w:=h.le;have o:=h.X5;simp only[C2,if_false,Nat.add_zero]at o;have g:b=false:=by cases b with|false=>rfl|true=>have:=(h.bt rfl).1;cases this
 have a:=h.okk g rfl
 rcases c with⟨c,rfl,rfl⟩|⟨c,y⟩
 ·have z:l=[]:=I0 c
  subst z;cases n with
  |false=>
   obtain⟨s,p⟩:=f.2.2.1 rfl rfl;simp only[Qe.at]at s;exact⟨⟨by omega,λe=>H9 (g.symm.trans e) (by decide),by simp;omega,λ_ _=>⟨λm j h=>a.1 _ _ (.first d p h),λj h=>a.2 _ (.yY d p h)⟩,λ_ e=>H9 e (by decide)⟩,by omega,λ_=>by omega⟩
  |true=>
   exact⟨⟨by omega,λe=>H9 (g.symm.trans e) (by decide),by simp,λ_ e=>H9 e (by decide),λ_ _=>a.2 _ (.yZ d (f.2.2.2 rfl rfl))⟩,by omega,λe=>H9 e (by decide)⟩
 ·obtain⟨k,c⟩: ∃k,l.length=k+1:=⟨l.length-1,by omega⟩
  rw[c]at a
  rcases O9 y with⟨_,q,rfl,rfl⟩|⟨_,q,rfl,rfl⟩|⟨e,_⟩
  ·cases n with
   |false=>
    obtain⟨s,p⟩:=f.2.2.1 rfl rfl;simp only[Qe.at]at s;refine⟨⟨by omega,λe=>H9 (g.symm.trans e) (by decide),by simp;omega,λ_ _=>⟨λm j h=>?_,λj h=>?_⟩,λ_ e=>H9 e (by decide)⟩,by omega,λ_=>by omega⟩
    ·have:=a.1 _ _ (.next d q p (by simpa[c]using h));simpa using this
    ·exact a.2 _ (.qY d q p (by simpa[c]using h))
   |true=>
    exact⟨⟨by omega,λe=>H9 (g.symm.trans e) (by decide),by simp;omega,λ_ e=>H9 e (by decide),λ_ _=>a.2 _ (.Qz d q (f.2.2.2 rfl rfl))⟩,by omega,λe=>H9 e (by decide)⟩
  ·obtain⟨rfl,rfl⟩:=f.2.1 rfl
   exact⟨⟨by omega,λe=>H9 (g.symm.trans e) (by decide),by simp;omega,λ_ e=>H9 e (by decide),λ_ _=>a.2 _ (.QA d q)⟩,by omega,λe=>H9 e (by decide)⟩
  ·cases e
end
theorem zgQ{ws}{en i:Nat}{b:Bool}{l}{i' k i2:Nat}{a:Bool}(h:InA ws en i b l i' false)(c:Yr ws k i' i2 a):i<=i2:=by
 have:=h.le
 rcases c with⟨_,rfl,_⟩|⟨_,h|h⟩
 ·exact this
 ·omega
 ·omega
theorem zgx{w w'}{a:Nat}{v ws}{i en:Nat}{b:Bool}{row}(h:Rd w a v ws i en b)(c:w.grownBy w' row)(d: ∀k,row=some k->a<k):Rd w' a v ws i en b:=
 ⟨(c.block a h.lt (λe=>by have:=d a e.symm;omega)).trans h.P6,h.row.Z3 λj f=>c.block j (Nat.lt_trans f h.lt) (λe=>by have:=d j e.symm;omega),h.X5,h.pos⟩
theorem Qg{w w' a:World}{r:Nat}{row:Option Nat}(h:w.grownBy w' (some r))(k:w'.grownBy a row)(d: ∀k,row=some k->w.heap.size<=k):w.grownBy a (some r):=
 ⟨k.os.trans h.os,k.tape.trans h.tape,k.output.trans h.output,C1 h.size k.size,λj c f=>(k.block j (A7 c h.size) (λe=>by have:=d j e.symm;omega)).trans (h.block j c f)⟩
theorem zis:qC prog 184 186 5:=⟨underlying184,by kernel_rfl,by decide⟩
theorem zmL(y:Nat)(v:Value)(ws:List Wd)(en i:Nat)(hr:10<y)(V: ∀j,i<=j->JW y v ws en 1 j):zeA y v ws en i:=by
 intro w b h hG;have H1:=qh V;have HR:=qh h;have HG:=qh hG;have D:=h.lt;clear V h hG
 go_enter func232,ntmps232
 go_wp2_with fail
 go_loopw[3,4] (λo k wr=> ∃(l:List (Ex×Value))(A:Option Addr)(c i':Nat)(M:Bool),o=.slice A l.length c/\k=.int .i64 l.length/\Hid (O8 xp wr w.heap.size 186 5 (.slice A l.length c) l)/\Hid (Rd wr y v ws i' en M)/\Hid (InA ws en i b (l.map (·.1)) i' M)/\Hid (w.grownBy wr (some y)))
  (λ_ _ wr=>yN ws wr y)
 case atStart=>exact⟨[],none,0,i,b,rfl,rfl,qh (O8.nil _ _ _ _ _),HR,qh (InA.znh _ _ _ _),qh (I7 (x8 _ _) _)⟩
 case round=>
  obtain⟨l,A,c,i',M,rfl,rfl,HW,p,N,E⟩:=hrel;clear HR;obtain⟨t,ht⟩: ∃t,U8 ws i' M N4=t:=⟨_,rfl⟩;have T:=qh ht
  go_wp2_with fail
  refine(zG N4 t p.out ht).mono ?_;rintro e w1 ⟨rfl,z,f⟩;have a9:=E.out.size;have F:=qh (HW.out.kept f (λk e=>.inl (by cases e;exact D)));have a:=qh z;have G:=qh (I4 E.out f);clear z f ht HW E;cases t with
  |true=>
   obtain⟨rfl,ha⟩:=O3 T.out;have HA:=qh ha;clear ha
   go_wp2_with fail
   go_ret;exact⟨l.map (·.1),A,c,i'+1,false,by rw[C6];rfl,by rw[C6];exact F.out.args,by simpa using a.out,G.out,N.out.U4 HA.out⟩
  |false=>
   cases M with
   |true=>
    have q:=a.out.c3
    go_wp2_with fail
    go_ret;exact⟨l.map (·.1),A,c,i',true,by rw[C6];rfl,by rw[C6];exact F.out.args,by simpa using a.out,G.out,N.out.out⟩
   |false=>
    simp only[C2,if_false]at a;have q:=a.out.c3;have HA:=qh (M7 T.out);clear T
    go_upto_if 18 with(fail)
    go_cut[] (λW=> ∃(J:Nat)(X:Bool),Hid (Rd W y v ws J en X)/\Hid (Yr ws l.length i' J X)/\Hid (w1.grownBy W (some y)))
    case first=>
     by_cases Y:l.length=0
     ·have Z:=qh Y;clear Y
      go_wp2_with fail
      ·exfalso;have:=Z.out;omega
      go_meet
      case rel=>exact⟨i',false,a,qh (.inl ⟨Z.out,rfl,rfl⟩),qh (I7 (x8 _ _) _)⟩
     ·have e0:0<l.length:=by omega
      have Z:=qh Y;clear Y
      go_wp2_with fail
      refine(ya U0 a.out).mono ?_;rintro e w2 ⟨rfl,⟨J,k2,z,hW⟩,f⟩;have H:=qh z;have r:=qh hW;have s:=qh f;clear z hW f
      go_wp2_with fail
      go_meet
      case rel=>exact⟨J,k2,H,qh (.inr ⟨Z.out,r.out⟩),s⟩
    case rest=>
     obtain⟨J,X,H,HC,s⟩:=hcut;have r:=qh (F.out.kept s.out (λk e=>.inl (by cases e;exact D)));have I:=qh (I4 G.out s.out);clear q
     go_wp2_with fail
     refine(H1.out J (zgQ N.out HC.out) wc X H.out (HG.out.of I.out hr)).mono ?_;rintro e K ⟨x,L,q,i3,b3,rfl,hA,z,hO,f⟩;have a6:=I.out.size;have a0:=qh hA;have a1:=qh z;have a2:=qh hO;have O:=qh (r.out.kept f (λk e=>.inl (by cases e;exact D)));have a3:=qh (I4 I.out f);have P:=r.out.1.lt;have HS:=qh (N.out.L9 HA.out (by rw[C6];exact HC.out) a2.out);have hn:l.length<=4000:=by
      have:=N.out.X5;have:=p.out.pos;have:=p.out.X5;simp at*;omega
     have a7:=f.size;clear hA z hO f
     go_wp2_with((at_builtin;go_must(refine N0 zis rfl _ _ rfl w.heap.size _ l.length (l.flatMap xp.cells) rfl (O.out.1.alloc _) K.heap.size 1 #[.int .i64 x.I9,.int .i64 x.n,.string x.K0,.slice L x.args.length q,.int .i64 x.pos] rfl (A5 K _) rfl (by simp[Value.oneCell']) (by omega) (by simp;omega) ?_);intro g4 Q w4 m d B a8))
     have u:(K.alloc (.cells #[.int .i64 x.I9,.int .i64 x.n,.string x.K0,.slice L x.args.length q,.int .i64 x.pos] 186)).grownBy w4 (Value.slice A l.length c).ownBlock:=d;have R:(Value.slice A l.length c).ownBlock=some g4\/g4=(K.alloc (.cells #[.int .i64 x.I9,.int .i64 x.n,.string x.K0,.slice L x.args.length q,.int .i64 x.pos] 186)).heap.size:=B;have S:xp.XD (K.alloc (.cells #[.int .i64 x.I9,.int .i64 x.n,.string x.K0,.slice L x.args.length q,.int .i64 x.pos] 186)) (λg=>wc.heap.size<=g) (x,.slice L x.args.length q):=a0.out.K7 λg V h2=>⟨V,by simp;omega,C4 K _ h2⟩
     have a4:=qh (O8.qv (O.out.below ((x8 _ _).alloc (x7 _) _)) S
      (λg f=>⟨by omega,λe=>by have:=(P g e).2;omega⟩) m u R)
     have C: ∀k,(Value.slice A l.length c).ownBlock=some k->w.heap.size<=k:=λk e=>(P k e).1
     have U:=qh (zgx (a1.out.K7 ((x8 _ _).alloc (x7 _) _)) u (λk e=>by have:=C k e;omega));have a5:=qh (Qg (I4 a3.out (I7 ((x8 _ _).alloc (x7 _) _) _)) u C);clear d B m u R S
     go_roundw
     case rel=>exact⟨l++[(x,.slice L x.args.length q)],some ⟨g4,0,none⟩,Q,i3,b3,by simp,by simp,by simpa using a4,U,by simpa using(qh HS.out.1:Hid _),a5⟩
     case measure=>exact p.out.ziC U.out HS.out.2.1 HS.out.2.2
def Z7:Nat->List ByteArray
 |1=>[⟨#[124,124]⟩]
 |2=>[⟨#[38,38]⟩]
 |3=>[⟨#[60]⟩,⟨#[60,61]⟩,⟨#[62]⟩,⟨#[62,61]⟩,⟨#[61,61]⟩,⟨#[33,61]⟩]
 |4=>[⟨#[43]⟩,⟨#[45]⟩]
 |5=>[⟨#[42]⟩,⟨#[47]⟩,⟨#[37]⟩]
 |_=>[]
def QO:Nat->ByteArray
 |1=>⟨#[124,124]⟩
 |2=>⟨#[38,38]⟩
 |3=>⟨#[60,32,60,61,32,62,32,62,61,32,61,61,32,33,61]⟩
 |4=>⟨#[43,32,45]⟩
 |5=>⟨#[42,32,47,32,37]⟩
 |_=>⟨#[]⟩
def zhm(n:Nat)(f:1<=n)(g:n<=5)(x:ByteArray):Lib.containsS (Z7 n) x=(lv x.data.toList==n):=by
 have b: ∀a:Array UInt8,∀y:ByteArray,y=⟨a⟩↔y.data.toList=a.toList:=λa y=>by
  constructor
  ·rintro rfl;rfl
  ·intro h;cases y with|mk d=>congr 1;exact Array.toList_inj.1 h
 rw[F7,Lib.containsS_iff,beq_iff_eq];generalize c:x.data.toList=l;have e: ∀a:Array UInt8,x=⟨a⟩↔l=a.toList:=λa=>by rw[b,c]
 obtain rfl|rfl|rfl|rfl|rfl:n=1\/n=2\/n=3\/n=4\/n=5:=by omega
 all_goals
  simp only[Z7,E7,List.mem_nil_iff,or_false,e];unfold lv;constructor
  ·intro h
   repeat' (first|(subst h;decide)|rcases h with h|h)
  ·intro h
   repeat' (split at h)
   all_goals first|(exfalso;omega)|(simp_all;done)|(simp_all)
def zbk(n:Nat)(a:1<=n)(b:n<=5):(Lib.fields (QO n).data.toList).map (λl=>Value.string ⟨l.toArray⟩)=(Z7 n).map Value.string:=by
 obtain rfl|rfl|rfl|rfl|rfl:n=1\/n=2\/n=3\/n=4\/n=5:=by omega
 all_goals rfl
def zc1(n:Nat)(e:1<=n)(f:n<=5):(QO n).size<4294967281/\ ∀(j:Nat) b,(QO n).data.toList[j]?=some b->b.toNat<128:=by
 obtain rfl|rfl|rfl|rfl|rfl:n=1\/n=2\/n=3\/n=4\/n=5:=by omega
 all_goals
  refine⟨by decide,λj b a=>?_⟩;have:=B7 a
  revert this
  generalize d:b=c;clear a d
  revert c
  decide
def zgf(n:Nat)(b:1<=n)(c:n<=5)(w:World):(∀j,j<(Z7 n).length->(w.alloc (.cells ((Lib.fields (QO n).data.toList).map λl=>Value.string ⟨l.toArray⟩).toArray 9)).cell? ⟨w.heap.size,0+j,none⟩=some (.string ((Z7 n).getD j ByteArray.empty)))/\(Lib.fields (QO n).data.toList).length=(Z7 n).length:=by
 have a:=zbk n b c;refine⟨λj d=>?_,by simpa using H0 List.length a⟩;rw[a,Nat.zero_add,x6 (A5 w _) j];simp[List.getD,d]
def zbx(n:Nat)(a:1<=n)(b:n<=5)(w)(d:O4 w):
 Calls prog 202 #[.int .i64 n] w λe w'=>(∃g,e=.returned (.slice (some ⟨g,0,none⟩) (Z7 n).length (Z7 n).length)/\ ∀j,j<(Z7 n).length->w'.cell? ⟨g,0+j,none⟩=some (.string ((Z7 n).getD j ByteArray.empty)))/\Below w.heap.size w w':=by
 have c: ∀W,O4 W->Calls prog 79 #[.string (QO n)] W λe w'=>(∃g,e=.returned (.slice (some ⟨g,0,none⟩) (Z7 n).length (Z7 n).length)/\ ∀j,j<(Z7 n).length->w'.cell? ⟨g,0+j,none⟩=some (.string ((Z7 n).getD j ByteArray.empty)))/\Below W.heap.size W w':=by
  intro W i;obtain⟨k,l⟩:=zc1 n a b;refine(Tryz.strings_Fields (QO n) W k l i.spc).mono ?_;rintro e w' ⟨rfl,rfl⟩;obtain⟨m,o⟩:=zgf n a b W;exact⟨⟨_,by rw[o],m⟩,(x8 _ _).alloc (x7 _) _⟩
 have c:=qh c;have p:=qh d;clear d;obtain rfl|rfl|rfl|rfl|rfl:n=1\/n=2\/n=3\/n=4\/n=5:=by omega
 all_goals
  clear a b
  go_enter func202,ntmps202
  go_wp2_with fail
  refine(c.out _ (p.out.to ((x8 _ _).alloc (x7 _) _))).mono ?_;rintro e s ⟨⟨g,rfl,f⟩,h⟩;have q:=qh f;have r:=qh (((x8 w.heap.size w).alloc (x7 _) _).trans (h.mono (by simp)));clear f h
  go_wp2_with fail
  go_ret;exact⟨⟨g,rfl,q.out⟩,r.out⟩
def QQ(n:Nat)(a:1<=n)(b:n<=5)(g:Nat)(x:ByteArray)(w)(c: ∀j,j<(Z7 n).length->w.cell? ⟨g,0+j,none⟩=some (.string ((Z7 n).getD j ByteArray.empty)))(t:Bool)(d:(lv x.data.toList==n)=t):
 Calls prog 201 #[.slice (some ⟨g,0,none⟩) (Z7 n).length (Z7 n).length,.string x] w λe w'=>e=.returned (.bool t)/\w=w':=by
 have f:(Z7 n).length<=9223372036854775807:=by
  obtain rfl|rfl|rfl|rfl|rfl:n=1\/n=2\/n=3\/n=4\/n=5:=by omega
  all_goals decide
 refine(Tryz.slices_Contains_string g 0 (Z7 n).length (Z7 n).length (Z7 n) x w (x7 _) f c).mono ?_;rintro e w' ⟨rfl,rfl⟩;rw[F5,zhm n a b,d];exact⟨rfl,rfl⟩
end Go.Proofs.YtmngofgminlloaaGreatDoor
namespace Go.Proofs.YtmngofgminlloaaGreatDoor
open Go.RowKit Tw
section
variable {ws:List Wd}{en n i:Nat}{b:Bool}{a y:Ex}{i' i3:Nat}{b3:Bool}
theorem QF.start{f:Nat}{b1:Bool}(g:n≠6)(c:jn ws en (.lvl (n+1) i) b a f b1):QF ws en n i b a f b1:=
 ⟨c.1,c.2.1,λd e=>⟨(c.2.2.1 d e).1,λ_ h=>.lvl g (c.2.2.1 d e).2 h⟩,λd e=>.ziI g (c.2.2.2 d e)⟩
theorem QF.Qr(h:QF ws en n i b a i' false):b=false:=by
 cases b with
 |false=>rfl
 |true=>exact H9 (h.2.1 rfl).1 (by decide)
theorem QF.next(j:n≠3)(h:QF ws en n i b a i' false)(g:O5 ws i'=n)(c:jn ws en (.lvl (n+1) (i'+1)) false y i3 b3):QF ws en n i b (Y9 ws en i' a y) i3 b3:=by
 have d:=h.Qr;have k:=c.1;simp only[Qe.at]at k;have o:=h.1;refine⟨by omega,λe=>H9 (d.symm.trans e) (by decide),λl f=>⟨by omega,λ_ m=>(h.2.2.1 d rfl).2 _ (.go j g (c.2.2.1 rfl f).2 m)⟩,λl f=>(h.2.2.1 d rfl).2 _ (.goB g (c.2.2.2 rfl f))⟩
theorem QF.zoU(h:QF ws en 3 i b a i' false)(g:O5 ws i'=3)(c:jn ws en (.lvl 4 (i'+1)) false y i3 b3)(t:Bool)(d:t=(b3||O5 ws i3==3)):jn ws en (.lvl 3 i) b (Y9 ws en i' a y) i3 t:=by
 have f:=h.Qr;have k:=c.1;simp only[Qe.at]at k;have p:=h.1;refine⟨by simp only[Qe.at];omega,λe=>H9 (f.symm.trans e) (by decide),λl j=>?_,λl j=>?_⟩
 ·rw[j]at d
  obtain⟨m,o⟩:=Bool.or_eq_false_iff.1 d.symm;exact⟨by simp only[Qe.at];omega,(h.2.2.1 f rfl).2 _ (.jx g (c.2.2.1 rfl m).2 (by simpa using o))⟩
 ·cases b3 with
  |true=>exact(h.2.2.1 f rfl).2 _ (.goB g (c.2.2.2 rfl rfl))
  |false=>
   rw[j]at d;exact(h.2.2.1 f rfl).2 _ (.JG g (c.2.2.1 rfl rfl).2 (by simpa using d.symm))
theorem QF.stop(h:QF ws en n i b a i' false)(f:O5 ws i'≠n):jn ws en (.lvl n i) b a i' false:=
 ⟨h.1,h.2.1,λc d=>⟨(h.2.2.1 c d).1,(h.2.2.1 c d).2 _ (.stop f)⟩,λ_ e=>H9 e (by decide)⟩
theorem QF.fail(h:QF ws en n i b a i' true):jn ws en (.lvl n i) b a i' true:=
 ⟨h.1,h.2.1,λ_ e=>H9 e (by decide),h.2.2.2⟩
end
theorem I5{w:World}{b:Nat}{o:Obj}(h:w.heap[b]?=some o):b<w.heap.size:=(Array.getElem?_eq_some_iff.1 h).1
theorem Za.Zf{w0 w w':World}{e d b1 k:Nat}{v:Value}{ws:List Wd}{i en:Nat}{b:Bool}{f j l m u4:Value}
 (h:Za w0 w e d b1 v ws i en b f j l m u4) (t:b1<k) (c:w.grownBy w' (some k)):Za w0 w' e d b1 v ws i en b f j l m u4:=by
 have o:=h.z0;have p:=h.z1;have q:=h.z2;have r:=h.z3;have u:=h.gr.size;exact⟨h.rd.grown c (by omega),(c.block d (by omega) (by simp;omega)).trans h.zD,(c.block b1 (by omega) (by simp;omega)).trans h.ex,P5 h.gr c (by omega),h.gl.Z3 c.size (λg s=>c.block g (by have:=h.r0;omega) (by simp;have:=h.r0;omega)),h.r0,o,p,q,A7 r c.size⟩
theorem zcF{w W}{c F:Nat->Prop}{x y d e}{n cap T:Nat}(k:J7 w c d x.args)(l:J7 w c e y.args)(h: ∀g,c g->g<w.heap.size->F g/\g<W.heap.size/\W.heap[g]?=w.heap[g]?)
 (m:W.heap[n]?=some (.cells #[.int .i64 x.I9,.int .i64 x.n,.string x.K0,d,.int .i64 x.pos,.int .i64 y.I9,.int .i64 y.n,.string y.K0,e,.int .i64 y.pos] T (0,0))) (f:F n):
 J7 W F (.slice (some ⟨n,0,none⟩) 2 cap) [x,y]:=by
 refine J7.JK [(x,d),(y,e)] _ rfl m f λa j=>?_
 simp at j
 rcases j with rfl|rfl
 ·exact k.K7 h
 ·exact l.K7 h
end Go.Proofs.YtmngofgminlloaaGreatDoor
namespace Go.Proofs.YtmngofgminlloaaGreatDoor
open Go.Proofs.Tryz
open Go.RowKit Tw
def zlH(s:Nat)(v ws)(en i:Nat)(d:zfJ s v ws en i):JW s v ws en 6 i:=by
 intro w b h t;have y:=qh d;have o:=qh h;have z:=qh t;clear d h t
 go_enter func163,ntmps163
 go_wp2_with fail
 refine(y.out _ b (o.out.K7 ((x8 _ _).alloc (x7 _) _)) (z.out.to ((x8 _ _).alloc (x7 _) _))).mono ?_;rintro e p ⟨x,A,c,B,C,rfl,u,k,a,f⟩
 have q:p.heap[w.heap.size]?=some (.cells #[.int .i64 0,.int .i64 0,.string ⟨#[]⟩,.slice none 0 0,.int .i64 0] 186 (0,0)):=
  (f.block _ (by simp) (by have:=o.out.lt;simp;omega)).trans (A5 w _)
 obtain⟨⟨H,I,J,K,L⟩,M,N,O,P,Q⟩:=K6 q;have D:=qh u;have r:=qh k;have E:=qh a;have l:=qh f;have F:=qh q;clear u k a f q
 go_wp2_with fail
 have G:=qh (yT (.int .i64 x.I9) (.int .i64 x.n) (.string x.K0) (.slice A x.args.length c) (.int .i64 x.pos) F.out);have R:w.heap.size<p.heap.size:=by have:=l.out.size;simp at this;omega
 (try simp only[Exit.inBlock,Exit.then])
 refine E9 (F2 rfl _ _ w.heap.size _ _ _ _ rfl G.out underlying186 rfl zT) rfl ?_;have j:=xB p w.heap.size (.int .i64 x.I9) (.int .i64 x.n) (.string x.K0) (.slice A x.args.length c) (.int .i64 x.pos);have a:=E.out;refine⟨x,A,c,B,C,rfl,D.out.grown j (λg h=>by simp at h;omega) (λg h=>by simp at h;omega),r.out.grown j o.out.lt,⟨a.1,a.2.1,λd m=>⟨(a.2.2.1 d m).1,.lvl6 (a.2.2.1 d m).2⟩,λd m=>.lvl6 (a.2.2.2 d m)⟩,?_⟩;exact P5 (za6 ((x8 _ _).alloc (x7 _) _) l.out) j (x7 _)
end Go.Proofs.YtmngofgminlloaaGreatDoor
