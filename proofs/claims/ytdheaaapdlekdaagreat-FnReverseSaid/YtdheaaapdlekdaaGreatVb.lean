/- DERIVED. What the functions compute, and that they do. -/
import Derived.Test.YtdheaaapdlekdaaGreatVa

set_option linter.all false
set_option linter.unusedVariables false
set_option linter.unusedSimpArgs false

namespace Go.Ev
open Go Go.Proofs Go.RowKit Go.Shelf
set_option maxHeartbeats 8000000
variable (α:Type) (n:Nat)
abbrev Aww:Tm:=⟨[Cs,C4,Bo],[X7,Alc,Dg],[],[]⟩
def f166 (a0:Rq × LR × Unit × Rq) (a1:Rq):Option Eh :=
 ob (f162 n a0.1 a1) λa =>
 ob (f162 n a0.2.2.2 a1) λb =>
 ob (Sl n (a0.1,a0.2.1,(),a0.2.2.2) a b a1 ((a0.1.1,a0.1.2.1,a0.1.2.2,a0.2.1,(),a0.2.2.2),a1)) λc =>
 some c
def Aqz:Ent:=⟨166,[Do,hR],[Do],λx=>f166 n x.1 x.2⟩
abbrev Abs:Nat × OA:=(8,A3 (Av n))
abbrev Bf3:List (Nat × OA):=[(4,A3 (Av n)),(Abs n),(9,B4 F6),(10,B4 zq9),(11,A3 (N2 n))]
def B7q:D3 α:=⟨[(1,⟨0,[],(Bf3 n)⟩)],[],[],[(1,Aww)]⟩
theorem Bjd:Ah TT ⟨17,[]⟩ (Bf3 n) Aww (Ag Tryz.f166 5):=by
 refine ⟨by kernel_rfl,λw q hq=>?_⟩
 obtain ⟨y0,q0,rfl,y1,q1,rfl,y2,q2,rfl,rfl⟩:=Be [(4,Av n),(8,Av n),(11,N2 n)] hq (by kernel_rfl)
 all_goals exact .inl (K7.mk (by kernel_rfl))
theorem B7p:Ap PP (Ae (B7q α n).reg):=⟨Az n,Az n,Adj n,trivial⟩
theorem Bor:D3.OK PP TT ⟨17,[]⟩ (B7q α n) (Af Tryz.f166) :=
 D3.OK.mk3a (B7p α n) (by kernel_rfl:A9 _=[]) trivial (by kernel_rfl:Ax _=[(1,Ag Tryz.f166 5)]) ⟨⟨Bjd n,trivial⟩,trivial⟩
theorem Awv:(Aqz n).Sound PP:=fk (fn:=Tryz.f166) (Bor _ n)

def Aa1 {α:Type} (b:LR) (e a:Int) (g:Bool) (h i:LI) (v:LR) (w:Bool) (x y:LI) (j:Bool) (k l:LI) (c:LR) (z:Bool) (d0 d1:LI) (m o p:Bool) (q r:LI) (s:Bool) (t u:LI) (d:LR) (f:LR->Int->Int->Bool->LI->LI->LR->Bool->LI->LI->Bool->LI->LI->LR->Bool->LI->LI->Bool->Bool->Bool->LI->LI->Bool->LI->LI->LR->Option α) (k0:Bool->Bool->Bool->LI->LI->Bool->LI->LI->LR->Option α):Option α :=
 bif (decide (a<e)) then
  gd (decide (0<=a)&&decide (a<(b.length:Int))) (
   let d2:=b.getD a.toNat (false,[],[])
   gd (decide (0<=a)&&decide (a<(c.length:Int))) (
    let d3:=c.getD a.toNat (false,[],[])
    ob (f162 n d2 (j,k,l)) λd4 =>
    ob (f162 n (g,h,i) d3) λd5 =>
    ob (f99 n d4 d5) λd6 =>
    gd (decide ((d.length+1)*56<=140737488355328)) (
     f b e (W (a+1)) g h i v w x y j k l c z d0 d1 m o p q r s t u (d++[d6]))))
 else
  k0 m o p q r s t u d
abbrev Yt:Tm:=⟨[Cs,C4,Bo,Bt,(28,.d hRs),(29,.d hI),(30,.d hI)],[X7,A7q,Dg,Amo,Ux],[7,8,51],[]⟩
abbrev B7o:Tm:=⟨[Bo,Bt],[Dg,Amo,Ux],[2,3],[]⟩
abbrev Aa0:List (Exit × Tm):=[(.exit 0,B7o)]
def A9z {α:Type} (v:Yt.den) (f:Yt.den->Option α) (ks:KS α Aa0):Option α:=Aa1 n v.1.2.2.2.2.1 v.1.2.2.2.2.2.1 v.1.2.2.2.2.2.2.1 v.2.1.1 v.2.1.2.1 v.2.1.2.2.1 v.2.1.2.2.2.1 v.2.1.2.2.2.2.2.1 v.2.1.2.2.2.2.2.2.1 v.2.1.2.2.2.2.2.2.2.1 v.2.2.1.1 v.2.2.1.2.1 v.2.2.1.2.2.1 v.2.2.1.2.2.2.1 v.2.2.1.2.2.2.2.2.1 v.2.2.1.2.2.2.2.2.2.1 v.2.2.1.2.2.2.2.2.2.2.1 v.2.2.2.1.1 v.2.2.2.1.2.2.2.2.2.1 v.2.2.2.2.1.1 v.2.2.2.2.1.2.1 v.2.2.2.2.1.2.2.1 v.2.2.2.2.1.2.2.2.2.2.1 v.2.2.2.2.1.2.2.2.2.2.2.1 v.2.2.2.2.1.2.2.2.2.2.2.2.1 v.2.2.2.2.2.1 (λa b c d e g h i j k l m o p q r s t u w x y z d0 d1 d2=>f (((),(),(),(),a,b,c,()),((d,e,g,h,(),i,j,k,()),(l,m,o,p,(),q,r,s,()),(t,(),(),(),(),u,(),(),()),(w,x,y,(),(),z,d0,d1,()),d2,()))) (λw0 w1 w2 w3 w4 w5 w6 w7 w8=>ks.1 (((),(),()),((w0,(),(),(),(),w1,(),(),()),(w2,w3,w4,(),(),w5,w6,w7,()),w8,())))
def A5t {α:Type} (n m:Nat) (a:LR) (b c:Int) (d:Bool) (e f:LI) (g:LR) (h:Bool) (i j:LI) (k:Bool) (l o:LI) (p:LR) (q:Bool) (r s:LI) (t u v:Bool) (x y:LI) (z:Bool) (d0 d1:LI) (d2:LR) (k0:Bool->Bool->Bool->LI->LI->Bool->LI->LI->LR->Option α):Option α:=A4 (A9z n) m (((),(),(),(),a,b,c,()),((d,e,f,g,(),h,i,j,()),(k,l,o,p,(),q,r,s,()),(t,(),(),(),(),u,(),(),()),(v,x,y,(),(),z,d0,d1,()),d2,())) (λw=>k0 w.2.1.1 w.2.1.2.2.2.2.2.1 w.2.2.1.1 w.2.2.1.2.1 w.2.2.1.2.2.1 w.2.2.1.2.2.2.2.2.1 w.2.2.1.2.2.2.2.2.2.1 w.2.2.1.2.2.2.2.2.2.2.1 w.2.2.2.1,())
theorem B7m {α n m a b c d e f g h i j k l o p q r s t u v w x y z d0 d1 k0}:A5t (α:=α) n (m+1) a b c d e f g h i j k l o p q r s t u v w x y z d0 d1 k0=Aa1 n a b c d e f g h i j k l o p q r s t u v w x y z d0 d1 (λa b c d e f g h i j k l o p q r s t u v w x y z d0 d1=>A5t n m a b c d e f g h i j k l o p q r s t u v w x y z d0 d1 k0) k0:=rfl
abbrev Aws:Tm:=⟨Af8,[X7,A7q,Dg,All,G8,X8],[],[]⟩
abbrev Ajs:Tm:=⟨Af8,[X7,A7q,Dg,Amo,G8,X8,Ux],[],[]⟩
def f167 (a0 a1:Rq × LR × Unit × Rq):Option Eh :=
 ob (f162 n a0.1 a1.1) λa =>
 ob (f162 n a0.2.2.2 a1.1) λc =>
 ob (f162 n a0.1 a1.2.2.2) λd =>
 ob (f99 n c d) λb =>
 bif (decide (0<(a0.2.1.length:Int))) then
  gd (decide (0<(a0.2.1.length:Int))) (
   let e:=a0.2.1.getD 0 (false,[],[])
   gd (decide (0<(a1.2.1.length:Int))) (
    let f:=a1.2.1.getD 0 (false,[],[])
    ob (f162 n e a1.1) λg =>
    ob (f162 n a0.1 f) λh =>
    ob (f99 n g h) λi =>
    A5t n n a0.2.1 (a0.2.1.length:Int) 1 a0.1.1 a0.1.2.1 a0.1.2.2 a0.2.1 a0.2.2.2.1 a0.2.2.2.2.1 a0.2.2.2.2.2 a1.1.1 a1.1.2.1 a1.1.2.2 a1.2.1 a1.2.2.2.1 a1.2.2.2.2.1 a1.2.2.2.2.2 false false a.1 a.2.1 a.2.2 b.1 b.2.1 b.2.2 [i]
     (λr s j k l m o p q=>(
      some ((j,k,l),q,(),m,o,p)))))
 else
  some (a,[],(),b)
def Aqv:Ent:=⟨167,[Do,Do],[Do],λx=>f167 n x.1 x.2⟩
abbrev Af7:List (Nat × OA):=[(5,A3 (Av n)),(9,A3 (Av n)),(10,A3 (Bc n)),(11,B4 hR),(12,B4 hR)]
abbrev Ayf:List (Nat × OA):=[(4,A3 (Av n)),(9,A3 (Av n)),(14,A3 (Av n)),(15,A3 (Bc n))]
def Aqw:D3 α:=⟨[(1,⟨0,[],(Ayf n)⟩),(6,⟨0,[],(Af7 n)⟩)],[],[(3,⟨Yt,Aa0,A4 (A9z n) n⟩)],[(1,A5v),(6,Aws),(6,Ajs)]⟩
theorem Bjb:Ah TT ⟨92,[]⟩ (Ayf n) A5v (Ag Tryz.f167 5):=by
 refine ⟨by kernel_rfl,λw q hq=>?_⟩
 obtain ⟨y0,q0,rfl,y1,q1,rfl,y2,q2,rfl,y3,q3,rfl,rfl⟩:=Be [(4,Av n),(9,Av n),(14,Av n),(15,Bc n)] hq (by kernel_rfl)
 all_goals exact .inr ⟨18,by kernel_rfl,by kernel_rfl,by kernel_rfl⟩
theorem Awt:Ah TT ⟨92,[]⟩ (Af7 n) Aws (Ag Tryz.f167 11467):=by
 refine ⟨by kernel_rfl,λw q hq=>?_⟩
 obtain ⟨y0,q0,rfl,y1,q1,rfl,y2,q2,rfl,rfl⟩:=Be [(5,Av n),(9,Av n),(10,Bc n)] hq (by kernel_rfl)
 all_goals exact .inr ⟨12,by kernel_rfl,by kernel_rfl,by kernel_rfl⟩
theorem Ajt:Ah TT ⟨92,[]⟩ (Af7 n) Ajs (Ag Tryz.f167 11467):=by
 refine ⟨by kernel_rfl,λw q hq=>?_⟩
 obtain ⟨y0,q0,rfl,y1,q1,rfl,y2,q2,rfl,rfl⟩:=Be [(5,Av n),(9,Av n),(10,Bc n)] hq (by kernel_rfl)
 all_goals exact .inr ⟨12,by kernel_rfl,by kernel_rfl,by kernel_rfl⟩
theorem Ajr:Ap PP (Ae (Aqw α n).reg):=⟨Az n,Az n,Az n,D6 n,Az n,Az n,D6 n,trivial⟩
theorem B7n:D3.OK PP TT ⟨92,[]⟩ (Aqw α n) (Ai Tryz.f167 75) :=
 D3.OK.mk3a (Ajr α n) (by kernel_rfl:A9 _=[]) trivial (by kernel_rfl:Ax _=[(6,Ag Tryz.f167 11467),(8,Ag Tryz.f167 81099),(9,Ag Tryz.f167 113867)]) ⟨⟨Awt n,Ajt n,trivial⟩,trivial,trivial,trivial⟩
theorem B1h:LO.Sound (α:=α) PP ⟨92,[]⟩ ⟨Yt,Aa0,A4 (A9z n) n⟩ (.loop (Ai Tryz.f167 75)):=lk (B7n α n) n
theorem Boq:D3.OK PP TT ⟨92,[]⟩ (Aqw α n) (Af Tryz.f167) :=
 D3.OK.mk3a (Ajr α n) (by kernel_rfl:A9 _=[(3,.loop (Ai Tryz.f167 75))]) ⟨Aa rfl (B1h α n),trivial⟩ (by kernel_rfl:Ax _=[(1,Ag Tryz.f167 5),(6,Ag Tryz.f167 11467),(8,Ag Tryz.f167 81099),(9,Ag Tryz.f167 113867)]) ⟨⟨Bjb n,trivial⟩,⟨Awt n,Ajt n,trivial⟩,trivial,trivial,trivial⟩
theorem Awr:(Aqv n).Sound PP:=fk (fn:=Tryz.f167) (Boq _ n)

def f206 (a0 a1:Rq):Option Rq :=
 ob (f152 n a0.2.1 a1.2.2) λa =>
 ob (f152 n a0.2.2 a1.2.1) λb =>
 ob (f153 n (!(a0.1==a1.1)) a b) λc =>
 some c
def Js:Ent:=⟨206,[hR,hR],[hR],λx=>f206 n x.1 x.2⟩
def Bny:D3 α:=⟨[(1,⟨15,[],(Bey n)⟩)],[],[],[]⟩
theorem Ah1:(Js n).Sound PP:=B9 (fn:=Tryz.f206) (D:=Bny _ n) ⟨Iw n,Iw n,W7 n,trivial⟩

def f158 (a0:Rq):Option Rq :=
 bif (!a0.1) then
  ob (f168 n a0) λa =>
  ob (f123 n a0.2.1) λb =>
  ob (f123 n a0.2.2) λc =>
  some ((!a),b,c)
 else
  ob (f123 n a0.2.1) λd =>
  ob (f123 n a0.2.2) λe =>
  some (false,d,e)
def Jv:Ent:=⟨158,[hR],[hR],λx=>f158 n x⟩
def Boz:D3 α:=⟨[(1,⟨14,[],[(5,A3 (T3 n)),(10,A3 (Ox n)),(13,A3 (Ox n))]⟩)],[],[],[]⟩
theorem Iu:(Jv n).Sound PP:=B9 (fn:=Tryz.f158) (D:=Boz _ n) ⟨Qv n,Nc n,Nc n,trivial⟩

def f221 (a0 a1:Rq):Option Rq :=
 ob (f162 n a1 a0) λa =>
 some a
def Vq:Ent:=⟨221,[hR,F6],[hR],λx=>f221 n x.1 x.2⟩
def Bnj:D3 α:=⟨[(1,⟨0,[],[(Abn n)]⟩)],[],[],[]⟩
theorem Aw6:(Vq n).Sound PP:=B9 (fn:=Tryz.f221) (D:=Bnj _ n) ⟨Az n,trivial⟩

def Kg {α:Type} (d:Rq) (p:Rq × Xa × Rq) (b:LR) (e a:Int) (q:Bool) (r s:LI) (t:LR) (u:Bool) (v w:LI) (g h i:Bool) (j k:LI) (l:Bool) (m o:LI) (c:LR) (f:Rq->(Rq × Xa × Rq)->LR->Int->Int->Bool->LI->LI->LR->Bool->LI->LI->Bool->Bool->Bool->LI->LI->Bool->LI->LI->LR->Option α) (k0:Bool->Bool->Bool->LI->LI->Bool->LI->LI->LR->Option α):Option α :=
 bif (decide (a<e)) then
  gd (decide (0<=a)&&decide (a<(b.length:Int))) (
   let x:=b.getD a.toNat (false,[],[])
   ob (f221 n x d) λy =>
   gd (decide ((c.length+1)*56<=140737488355328)) (
    f d p b e (W (a+1)) q r s t u v w g h i j k l m o (c++[y])))
 else
  k0 g h i j k l m o c
abbrev Gu:Tm:=⟨[A15,(4,.d Alm),Bt,Da,Dt,J6,I2,Ht],[Af1,I3,A7v,R7],[13,30],[]⟩
abbrev Kf:List (Exit × Tm):=[(.exit 0,Pr)]
def Ke {α:Type} (v:Gu.den) (f:Gu.den->Option α) (ks:KS α Kf):Option α:=Kg n v.1.1 v.1.2.1 v.1.2.2.2.2.2.1 v.1.2.2.2.2.2.2.1 v.1.2.2.2.2.2.2.2.1 v.2.1.1 v.2.1.2.1 v.2.1.2.2.1 v.2.1.2.2.2.1 v.2.1.2.2.2.2.2.1 v.2.1.2.2.2.2.2.2.1 v.2.1.2.2.2.2.2.2.2.1 v.2.2.1.1 v.2.2.1.2.2.2.2.2.1 v.2.2.2.1.1 v.2.2.2.1.2.1 v.2.2.2.1.2.2.1 v.2.2.2.1.2.2.2.2.2.1 v.2.2.2.1.2.2.2.2.2.2.1 v.2.2.2.1.2.2.2.2.2.2.2.1 v.2.2.2.2.1 (λa b c d e g h i j k l m o p q r s t u w x=>f ((a,b,(),(),(),c,d,e,()),((g,h,i,j,(),k,l,m,()),(o,(),(),(),(),p,(),(),()),(q,r,s,(),(),t,u,w,()),x,()))) (λw0 w1 w2 w3 w4 w5 w6 w7 w8=>ks.1 (((),(),()),((w0,(),(),(),(),w1,(),(),()),(w2,w3,w4,(),(),w5,w6,w7,()),w8,())))
def Hx {α:Type} (n m:Nat) (a:Rq) (b:Rq × Xa × Rq) (c:LR) (d e:Int) (f:Bool) (g h:LI) (i:LR) (j:Bool) (k l:LI) (o p q:Bool) (r s:LI) (t:Bool) (u v:LI) (x:LR) (k0:Bool->Bool->Bool->LI->LI->Bool->LI->LI->LR->Option α):Option α:=A4 (Ke n) m ((a,b,(),(),(),c,d,e,()),((f,g,h,i,(),j,k,l,()),(o,(),(),(),(),p,(),(),()),(q,r,s,(),(),t,u,v,()),x,())) (λw=>k0 w.2.1.1 w.2.1.2.2.2.2.2.1 w.2.2.1.1 w.2.2.1.2.1 w.2.2.1.2.2.1 w.2.2.1.2.2.2.2.2.1 w.2.2.1.2.2.2.2.2.2.1 w.2.2.1.2.2.2.2.2.2.2.1 w.2.2.2.1,())
theorem A6r {α n m a b c d e f g h i j k l o p q r s t u v w k0}:Hx (α:=α) n (m+1) a b c d e f g h i j k l o p q r s t u v w k0=Kg n a b c d e f g h i j k l o p q r s t u v w (λa b c d e f g h i j k l o p q r s t u v w=>Hx n m a b c d e f g h i j k l o p q r s t u v w k0) k0:=rfl
abbrev U9:Tm:=⟨[A15,(4,.d Alm),Bt,Da,Dt,K8,R6,J6,I2,Ht],[Af1,I3,Aln,Rb],[6,7],[]⟩
abbrev Po:Tm:=⟨[A15,(4,.d Alm),Bt,Da,Dt,K8,R6,J6,I2,Ht],[Af1,I3,A7v,Rb,R7],[],[]⟩
def Sf (a0:Rq × LR × Unit × Rq) (a1 a2 a3:Rq) (a4:Rq × Xa × Rq):Option Eh :=
 bif (decide (0<(a0.2.1.length:Int))) then
  gd (decide (0<(a0.2.1.length:Int))) (
   let a:=a0.2.1.getD 0 (false,[],[])
   ob (f221 n a a3) λb =>
   Hx n n a3 a4 a0.2.1 (a0.2.1.length:Int) 1 a0.1.1 a0.1.2.1 a0.1.2.2 a0.2.1 a0.2.2.2.1 a0.2.2.2.2.1 a0.2.2.2.2.2 false false a1.1 a1.2.1 a1.2.2 a2.1 a2.2.1 a2.2.2 [b]
    (λj k c d e f g h i=>(
     some ((c,d,e),i,(),f,g,h))))
 else
  some (a1,[],(),a2)
def N0:Ent:=⟨207,[Do,hR,hR,(.clo 221 F6),Alm],[Do],λx=>Sf n x.1 x.2.1 x.2.2.1 x.2.2.2.1 x.2.2.2.2⟩
abbrev Af5:List (Nat × OA):=[(4,A3 (Vq n)),(5,B4 hR),(6,B4 hR)]
def N1:D3 α:=⟨[(5,⟨0,[],(Af5 n)⟩)],[],[(3,⟨Gu,Kf,A4 (Ke n) n⟩)],[(5,U9),(5,Po)]⟩
theorem Ua:Ah TT ⟨46,[]⟩ (Af5 n) U9 (Ag Tryz.f207 5323):=by
 refine ⟨by kernel_rfl,λw q hq=>?_⟩
 obtain ⟨y0,q0,rfl,rfl⟩:=Be [(4,Vq n)] hq (by kernel_rfl)
 all_goals exact .inr ⟨6,by kernel_rfl,by kernel_rfl,by kernel_rfl⟩
theorem Pp:Ah TT ⟨46,[]⟩ (Af5 n) Po (Ag Tryz.f207 5323):=by
 refine ⟨by kernel_rfl,λw q hq=>?_⟩
 obtain ⟨y0,q0,rfl,rfl⟩:=Be [(4,Vq n)] hq (by kernel_rfl)
 all_goals exact .inr ⟨6,by kernel_rfl,by kernel_rfl,by kernel_rfl⟩
theorem Pn:Ap PP (Ae (N1 α n).reg):=⟨Aw6 n,trivial⟩
theorem A6s:D3.OK PP TT ⟨46,[]⟩ (N1 α n) (Ai Tryz.f207 75) :=
 D3.OK.mk3a (Pn α n) (by kernel_rfl:A9 _=[]) trivial (by kernel_rfl:Ax _=[(5,Ag Tryz.f207 5323),(7,Ag Tryz.f207 23755)]) ⟨⟨Ua n,Pp n,trivial⟩,trivial,trivial⟩
theorem A2x:LO.Sound (α:=α) PP ⟨46,[]⟩ ⟨Gu,Kf,A4 (Ke n) n⟩ (.loop (Ai Tryz.f207 75)):=lk (A6s α n) n
theorem Agz:D3.OK PP TT ⟨46,[]⟩ (N1 α n) (Af Tryz.f207) :=
 D3.OK.mk3a (Pn α n) (by kernel_rfl:A9 _=[(3,.loop (Ai Tryz.f207 75))]) ⟨Aa rfl (A2x α n),trivial⟩ (by kernel_rfl:Ax _=[(5,Ag Tryz.f207 5323),(7,Ag Tryz.f207 23755)]) ⟨⟨Ua n,Pp n,trivial⟩,trivial,trivial⟩
theorem Adh:(N0 n).Sound PP:=fk (fn:=Tryz.f207) (Agz _ n)

abbrev Awf:Tm:=⟨[Bo,Bt,F7,Cu,Dk],[(4,.var 91 true false zq5),Abq,Uy,G8,Af2],[],[]⟩
def f210 (a0:Rq × LR × Unit × Rq) (a1 a2 a3:Rq):Option Eh :=
 ob (f162 n a2 a0.2.2.2) λa =>
 ob (Sf n (a0.1,a0.2.1,(),a0.2.2.2) a1 a a2 (a3,(a0.1.1,a0.1.2.1,a0.1.2.2,a0.2.1,(),a0.2.2.2),a2)) λb =>
 some b
def Aq4:Ent:=⟨210,[Do,hR,hR,hR],[Do],λx=>f210 n x.1 x.2.1 x.2.2.1 x.2.2.2⟩
abbrev Bf4:List (Nat × OA):=[(5,A3 (Av n)),(6,B4 F6),(7,B4 (.pair F6 zq9)),(8,A3 (N0 n))]
def B6l:D3 α:=⟨[(1,⟨0,[],(Bf4 n)⟩)],[],[],[(1,Awf)]⟩
theorem Bic:Ah TT ⟨18,[]⟩ (Bf4 n) Awf (Ag Tryz.f210 5):=by
 refine ⟨by kernel_rfl,λw q hq=>?_⟩
 obtain ⟨y0,q0,rfl,y1,q1,rfl,rfl⟩:=Be [(5,Av n),(8,N0 n)] hq (by kernel_rfl)
 all_goals exact .inl (K7.mk (by kernel_rfl))
theorem B6k:Ap PP (Ae (B6l α n).reg):=⟨Az n,Adh n,trivial⟩
theorem Bnt:D3.OK PP TT ⟨18,[]⟩ (B6l α n) (Af Tryz.f210) :=
 D3.OK.mk3a (B6k α n) (by kernel_rfl:A9 _=[]) trivial (by kernel_rfl:Ax _=[(1,Ag Tryz.f210 5)]) ⟨⟨Bic n,trivial⟩,trivial⟩
theorem Awe:(Aq4 n).Sound PP:=fk (fn:=Tryz.f210) (Bnt _ n)

abbrev Awq:Tm:=⟨[Xe,Cs],[(1,.var 91 true false zq5),(2,.var 91 true false zq1)],[],[]⟩
def f169 (a0:Rq × LR × Unit × Rq):Option Eh :=
 ob (f97 n 1) λc =>
 ob (f206 n c a0.1) λa =>
 ob (f162 n a a) λb =>
 ob (f158 n b) λd =>
 ob (f162 n b a) λe =>
 ob (f97 n 2) λf =>
 ob (f162 n e f) λg =>
 ob (f210 n (a0.1,a0.2.1,(),a0.2.2.2) a d g) λh =>
 some h
def B7k:Ent:=⟨169,[Do],[Do],λx=>f169 n x⟩
abbrev Uv:Nat × OA:=(0,A3 (Cg n))
abbrev Xf:Nat × OA:=(6,A3 (Av n))
def B7l:D3 α:=⟨[(1,⟨0,[],[(Uv n),(3,A3 (Js n))]⟩),(2,⟨0,[],[(Abn n)]⟩),(3,⟨9,[],[(3,A3 (Jv n)),(Xf n),(7,A3 (Cg n)),(Abs n),(9,A3 (Aq4 n))]⟩)],[],[],[(1,Awq)]⟩
theorem Bj9:Ah TT ⟨22,[]⟩ [(Uv n),(3,A3 (Js n))] Awq (Ag Tryz.f169 5):=by
 refine ⟨by kernel_rfl,λw q hq=>?_⟩
 obtain ⟨y0,q0,rfl,y1,q1,rfl,rfl⟩:=Be [(0,Cg n),(3,Js n)] hq (by kernel_rfl)
 all_goals exact .inr ⟨5,by kernel_rfl,by kernel_rfl,by kernel_rfl⟩
theorem B7j:Ap PP (Ae (B7l α n).reg):=⟨Bh n,Ah1 n,Az n,Iu n,Az n,Bh n,Az n,Awe n,trivial⟩
theorem Boo:D3.OK PP TT ⟨22,[]⟩ (B7l α n) (Af Tryz.f169) :=
 D3.OK.mk3a (B7j α n) (by kernel_rfl:A9 _=[]) trivial (by kernel_rfl:Ax _=[(1,Ag Tryz.f169 5),(3,Ag Tryz.f169 23)]) ⟨⟨Bj9 n,trivial⟩,trivial,trivial⟩
theorem Bj8:(B7k n).Sound PP:=fk (fn:=Tryz.f169) (Boo _ n)

def A9y {α:Type} (a b:Int) (c:Bool) (d e:LI) (g h:Bool) (i j:LI) (f:Int->Int->Bool->LI->LI->Bool->Bool->LI->LI->Option α) (k0:Bool->Bool->LI->LI->Option α):Option α :=
 bif (decide (b<a)) then
  ob (f152 n i d) λk =>
  ob (f152 n j e) λl =>
  f a (W (b+1)) c d e g (!(h==c)) k l
 else
  k0 g h i j
abbrev Yr:Tm:=⟨[Cs,Bo,Bt,Dr,Ee],[(2,.var 54 true false G7),A17,Abq],[],[]⟩
abbrev Ajq:Tm:=⟨[Bo,Bt],[A17,Abq],[2],[]⟩
abbrev A9x:List (Exit × Tm):=[(.exit 0,Ajq)]
def A9w {α:Type} (v:Yr.den) (f:Yr.den->Option α) (ks:KS α A9x):Option α:=A9y n v.1.2.2.2.1 v.1.2.2.2.2.1 v.2.1.1 v.2.1.2.1 v.2.1.2.2.1 v.2.2.1.1 v.2.2.2.1.1 v.2.2.2.1.2.1 v.2.2.2.1.2.2.1 (λa b c d e g h i j=>f (((),(),(),a,b,()),((c,d,e,()),(g,(),(),()),(h,i,j,()),()))) (λw0 w1 w2 w3=>ks.1 (((),(),()),((w0,(),(),()),(w1,w2,w3,()),())))
def W5 {α:Type} (n m:Nat) (a b:Int) (c:Bool) (d e:LI) (f g:Bool) (h i:LI) (k0:Bool->Bool->LI->LI->Option α):Option α:=A4 (A9w n) m (((),(),(),a,b,()),((c,d,e,()),(f,(),(),()),(g,h,i,()),())) (λw=>k0 w.2.1.1 w.2.2.1.1 w.2.2.1.2.1 w.2.2.1.2.2.1,())
theorem B7h {α n m a b c d e f g h i k0}:W5 (α:=α) n (m+1) a b c d e f g h i k0=A9y n a b c d e f g h i (λa b c d e f g h i=>W5 n m a b c d e f g h i k0) k0:=rfl
def f170 (a0:Rq) (a1:Int):Option Rq :=
 ob (f97 n 1) λc =>
 W5 n n a1 0 a0.1 a0.2.1 a0.2.2 false c.1 c.2.1 c.2.2
  (λj e a b=>(
   bif e then
    ob (f168 n (e,a,b)) λd =>
    ob (f168 n ((!d),a,b)) λf =>
    bif f then
     ob (f151 n) λg =>
     some ((!d),a,g)
    else
     some ((!d),a,b)
   else
    ob (f168 n (false,a,b)) λh =>
    bif h then
     ob (f151 n) λi =>
     some (false,a,i)
    else
     some (false,a,b)))
def B7i:Ent:=⟨170,[hR,hI],[hR],λx=>f170 n x.1 x.2⟩
def Aqm:D3 α:=⟨[(1,⟨0,[],[(Uv n)]⟩),(4,⟨15,[],[(9,A3 (Ov n)),(14,A3 (Ov n))]⟩),(6,⟨0,[],[(4,A3 (T3 n))]⟩),(7,⟨0,[],[(1,A3 (T3 n))]⟩),(8,⟨0,[],[(0,A3 (W9 n))]⟩)],[],[(3,⟨Yr,A9x,A4 (A9w n) n⟩)],[]⟩
theorem Ajp:Ap PP (Ae (Aqm α n).reg):=⟨Bh n,Iw n,Iw n,Qv n,Qv n,W8 n,trivial⟩
theorem B1c:LO.Sound (α:=α) PP ⟨40,[]⟩ ⟨Yr,A9x,A4 (A9w n) n⟩ (.loop (Ai Tryz.f170 75)):=Cb (D:=Aqm α n) (Ajp α n) n
theorem Bon:D3.OK PP TT ⟨40,[]⟩ (Aqm α n) (Af Tryz.f170) :=
 D3.OK.mk3 (Ajp α n) (by kernel_rfl:A9 _=[(3,.loop (Ai Tryz.f170 75))]) ⟨Aa rfl (B1c α n),trivial⟩
theorem Hn:(B7i n).Sound PP:=fk (fn:=Tryz.f170) (Bon _ n)

def f98 (n:Nat) (a0:Rq):Option Bool :=
 bif (decide ((a0.2.1.length:Int)<=40)) then
  some (decide ((a0.2.2.length:Int)<=40))
 else
  some false
def Ny:Ent:=⟨98,[hR],[.bool],λx=>f98 n x⟩
def Bqw (α:Type) (n:Nat):D3 α:=⟨[],[],[],[]⟩
theorem Ln:(Ny n).Sound PP:=B9 (fn:=Tryz.f98) (D:=Bqw _ n) trivial

abbrev Qw:Tm:=⟨[Bo,Bt,F7,Cu],[A17,Abr,Uy,G8],[2],[]⟩
abbrev Bjq:Tm:=⟨Ayj,[X7,A17,Abr,Uy,G8],[],[]⟩
def f161 (a0:Rq × LR × Unit × Rq) (a1:Int):Option (Rq × Rq) :=
 ob (f97 n 0) λa =>
 ob (f97 n 0) λg =>
 let c:=λ(d:Bool) (e:LI) (f:LI)=>(
  bif (decide (a1>=2)) then
   ob (f170 n a0.1 (W (a1-2))) λh =>
   ob (f97 n (W (a1*(W (a1-1))))) λi =>
   ob (f162 n h i) λj =>
   some ((d,e,f),j)
  else
   some ((d,e,f),g))
 bif (decide (a1>=1)) then
  ob (f170 n a0.1 (W (a1-1))) λk =>
  ob (f97 n a1) λl =>
  ob (f162 n k l) λb =>
  c b.1 b.2.1 b.2.2
 else
  c a.1 a.2.1 a.2.2
def B81:Ent:=⟨161,[Do,hI],[hR,hR],λx=>f161 n x.1 x.2⟩
abbrev Uw:Nat × OA:=(4,A3 (B7i n))
def B82:D3 α:=⟨[(1,⟨0,[],[(Uv n),(Xd n)]⟩),(3,⟨0,[],[(Uw n),(6,A3 (Cg n)),(7,A3 (Av n))]⟩),(5,⟨0,[],[(Uw n),(9,A3 (Cg n)),(10,A3 (Av n))]⟩)],[(4,Bjq)],[],[(6,Qw)]⟩
theorem Bjr (n:Nat):Ah TT ⟨35,[]⟩ [] Qw (Ag Tryz.f161 47):=by
 refine ⟨by kernel_rfl,λw q hq=>?_⟩
 obtain rfl:=Be [] hq (by kernel_rfl)
 all_goals exact .inr ⟨3,by kernel_rfl,by kernel_rfl,by kernel_rfl⟩
theorem B80:Ap PP (Ae (B82 α n).reg):=⟨Bh n,Bh n,Hn n,Bh n,Az n,Hn n,Bh n,Az n,trivial⟩
theorem Bow:D3.OK PP TT ⟨35,[]⟩ (B82 α n) (Af Tryz.f161) :=
 D3.OK.mk3a (B80 α n) (by kernel_rfl:A9 _=[]) trivial (by kernel_rfl:Ax _=[(6,Ag Tryz.f161 47)]) ⟨⟨Bjr n,trivial⟩,trivial⟩
theorem Bjp:(B81 n).Sound PP:=fk (fn:=Tryz.f161) (Bow _ n)

def f171 (a0:Rq × LR × Unit × Rq) (a1:Int):Option Eh :=
 ob (f161 n a0 a1) λa =>
 ob (f170 n a0.1 a1) λb =>
 ob (f210 n a0 b a.1 a.2) λc =>
 some c
def B7g:Ent:=⟨171,[Do,hI],[Do],λx=>f171 n x.1 x.2⟩
def Bom:D3 α:=⟨[(1,⟨0,[],[(2,A3 (B81 n))]⟩),(2,⟨7,[],[(Uw n),(7,A3 (Aq4 n))]⟩)],[],[],[]⟩
theorem Bj6:(B7g n).Sound PP:=B9 (fn:=Tryz.f171) (D:=Bom _ n) ⟨Bjp n,Hn n,Awe n,trivial⟩

abbrev As3:Tm:=⟨[Gm,(3,.k (.hw 1003)),Bo,Bt,Dk,Da,Dt],[(4,.var 94 true false [.d hI,.d .nil]),Alk,Af2,I3,(11,.var 91 true false zq1),(1003,.arr 91 Do false)],[],[]⟩
abbrev Beb:Tm:=⟨[Gm,Bo,Bt,Dk,Da,Dt],[(4,.var 94 true false [.d hI,.d .nil]),Alk,Af2,(10,.var 91 true false zq5),(11,.var 91 true false zq5),(1003,.arr 91 Do false)],[],[]⟩
def A6b (a0:Int × Unit) (a1:Nq) (a2:LR) (a3:List Eh):Option ((Eh × Int) × (List Eh)) :=
 let r:=λ(a:Bool) (b:LI) (c:LI) (f:LR) (g:Bool) (h:LI) (i:LI) (j:Bool) (k:LI) (l:LI) (m:LR) (o:Bool) (p:LI) (q:LI)=>(
  bif (a1.1==1) then
   ob (f97 n a1.2.2.2) λs =>
   ob (f163 n (a0.1,()) s) λt =>
   some ((t,0),a3)
  else
   bif (a1.1==2) then
    gd (decide (0<=a1.2.2.2)&&decide (a1.2.2.2<(a2.length:Int))) (
     let u:=a2.getD a1.2.2.2.toNat (false,[],[])
     ob (f164 n (a0.1,()) u a1.2.2.2) λv =>
     some ((v,0),a3))
   else
    bif (a1.1==3) then
     ob (f165 n ((a,b,c),f,(),g,h,i) ((j,k,l),m,(),o,p,q)) λw =>
     some ((w,0),a3)
    else
     bif (a1.1==4) then
      ob (f97 n (-1)) λx =>
      ob (f166 n ((j,k,l),m,(),o,p,q) x) λy =>
      ob (f165 n ((a,b,c),f,(),g,h,i) y) λz =>
      some ((z,0),a3)
     else
      bif (a1.1==5) then
       ob (f167 n ((a,b,c),f,(),g,h,i) ((j,k,l),m,(),o,p,q)) λd0 =>
       some ((d0,0),a3)
      else
       bif (a1.1==6) then
        ob (f168 n (j,k,l)) λd1 =>
        bif d1 then
         some ((((false,[],[]),[],(),false,[],[]),10),a3)
        else
         ob (f169 n ((j,k,l),m,(),o,p,q)) λd2 =>
         ob (f167 n ((a,b,c),f,(),g,h,i) d2) λd3 =>
         some ((d3,0),a3)
       else
        bif (a1.1==7) then
         ob (f97 n (-1)) λd4 =>
         ob (f166 n ((a,b,c),f,(),g,h,i) d4) λd5 =>
         some ((d5,0),a3)
        else
         ob (f170 n (a,b,c) a1.2.2.2) λd6 =>
         ob (f98 n d6) λd7 =>
         bif (!d7) then
          some ((((false,[],[]),[],(),false,[],[]),7),a3)
         else
          ob (f171 n ((a,b,c),f,(),g,h,i) a1.2.2.2) λd8 =>
          some ((d8,0),a3))
 ob (f61 n a1) λd9 =>
 bif (decide (d9>0)) then
  gd (decide (0<=a1.2.1)&&decide (a1.2.1<(a3.length:Int))) (
   gd (decide (a1.2.1.toNat<a3.length)) (
    let d:=a3.getD a1.2.1.toNat ((false,[],[]),[],(),(false,[],[]))
    gd (decide (0<=a1.2.2.1)&&decide (a1.2.2.1<(a3.length:Int))) (
     gd (decide (a1.2.2.1.toNat<a3.length)) (
      let e:=a3.getD a1.2.2.1.toNat ((false,[],[]),[],(),(false,[],[]))
      r d.1.1 d.1.2.1 d.1.2.2 d.2.1 d.2.2.2.1 d.2.2.2.2.1 d.2.2.2.2.2 e.1.1 e.1.2.1 e.1.2.2 e.2.1 e.2.2.2.1 e.2.2.2.2.1 e.2.2.2.2.2))))
 else
  r false [] [] [] false [] [] false [] [] [] false [] []
def Axr:Ent3:=⟨101,[.im A4n,.im hN,.im hRs,.one (.own 91 Do)],[[.im Do,.im hI]],λx=>A6b n x.1 x.2.1 x.2.2.1 x.2.2.2,[]⟩
def Axs:D3 α:=⟨[(2,⟨0,[],(Abm n)⟩),(6,⟨4,[],[(3,A3 (Cg n)),(4,A3 (B7w n))]⟩),(8,⟨8,[],[(8,A3 (B7u n))]⟩),(10,⟨0,[],[(2,A3 (Ar5 n))]⟩),(12,⟨4,[],[(2,A3 (Cg n)),(3,A3 (Aqz n)),(4,A3 (Ar5 n))]⟩),(14,⟨0,[],[(2,A3 (Aqv n))]⟩),(16,⟨0,[],[(2,A3 (T3 n))]⟩),(18,⟨3,[],[(2,A3 (B7k n)),(3,A3 (Aqv n))]⟩),(20,⟨2,[],[(Xd n),(2,A3 (Aqz n))]⟩),(21,⟨0,[],[(Uw n),(5,A3 (Ny n))]⟩),(23,⟨0,[],[(3,A3 (B7g n))]⟩)],[(4,Beb)],[],[(3,As3)]⟩
theorem Bec (n:Nat):Ah TT ⟨89,[]⟩ [] As3 (Ag Tryz.f101 43):=by
 refine ⟨by kernel_rfl,λw q hq=>?_⟩
 obtain rfl:=Be [] hq (by kernel_rfl)
 all_goals exact .inr ⟨11,by kernel_rfl,by kernel_rfl,by kernel_rfl⟩
theorem B2j:Ap PP (Ae (Axs α n).reg):=⟨S4 n,Bh n,Bjk n,Bjh n,Awx n,Bh n,Awv n,Awx n,Awr n,Qv n,Bj8 n,Awr n,Bh n,Awv n,Hn n,Ln n,Bj6 n,trivial⟩
theorem Bkt:D3.OK PP TT ⟨89,[]⟩ (Axs α n) (Af Tryz.f101) :=
 D3.OK.mk3a (B2j α n) (by kernel_rfl:A9 _=[]) trivial (by kernel_rfl:Ax _=[(3,Ag Tryz.f101 43),(6,Ag Tryz.f101 599),(8,Ag Tryz.f101 2519),(12,Ag Tryz.f101 40919),(18,Ag Tryz.f101 1441751),(20,Ag Tryz.f101 2621399)]) ⟨⟨Bec n,trivial⟩,trivial,trivial,trivial,trivial,trivial,trivial⟩
theorem Bea:(Axr n).Sound PP:=Vl (fn:=Tryz.f101) (Bkt _ n)

def f105 (a0:Rq):Option Bool :=
 ob (f98 n a0) λa =>
 some (!a)
def B96:Ent:=⟨105,[hR],[.bool],λx=>f105 n x⟩
def Bq0:D3 α:=⟨[(1,⟨0,[],[(1,A3 (Ny n))]⟩)],[],[],[]⟩
theorem Bkp:(B96 n).Sound PP:=B9 (fn:=Tryz.f105) (D:=Bq0 _ n) ⟨Ln n,trivial⟩

def T2 {α:Type} (b:LR) (c a:Int) (f:LR->Int->Int->Option α) (k0:Int->Option α) (k1:Unit->Option α):Option α :=
 bif (decide (a<c)) then
  gd (decide (0<=a)&&decide (a<(b.length:Int))) (
   let d:=b.getD a.toNat (false,[],[])
   ob (f105 n d) λe =>
   bif e then
    k0 a
   else
    f b c (W (a+1)))
 else
  k1 ()
abbrev Lw:Tm:=⟨[Tu,(1,.d (.fn 105)),Dr,Ee],[],[],[]⟩
abbrev T1:List (Exit × Tm):=[(.ret,Oo),(.exit 0,Gl)]
def T0 {α:Type} (v:Lw.den) (f:Lw.den->Option α) (ks:KS α T1):Option α:=T2 n v.1.1 v.1.2.2.1 v.1.2.2.2.1 (λa b c=>f ((a,(),b,c,()),())) (λw0=>ks.1 ((w0,()),())) (λ_=>ks.2.1 ((),()))
def Ju {α:Type} (n m:Nat) (a:LR) (b c:Int) (k0:Int->Option α) (k1:Unit->Option α):Option α:=A4 (T0 n) m ((a,(),b,c,()),()) (λw=>k0 w.1.1,λw=>k1 (),())
theorem Al1 {α n m a b c k0 k1}:Ju (α:=α) n (m+1) a b c k0 k1=T2 n a b c (λa b c=>Ju n m a b c k0 k1) k0 k1:=rfl
def A9v (a0:LR) (a1:Unit):Option Int :=
 Ju n n a0 (a0.length:Int) 0
  (λa=>(
   some a))
  (λ(_:Unit)=>(
   some (-1)))
def Adr:Ent:=⟨172,[hRs,(.fn 105)],[hI],λx=>A9v n x.1 x.2⟩
def Yq:D3 α:=⟨[(4,⟨0,[],[(5,A3 (B96 n))]⟩)],[],[(2,⟨Lw,T1,A4 (T0 n) n⟩)],[]⟩
theorem A0u:Ap PP (Ae (Yq α n).reg):=⟨Bkp n,trivial⟩
theorem Ah6:LO.Sound (α:=α) PP ⟨19,[]⟩ ⟨Lw,T1,A4 (T0 n) n⟩ (.loop (Ai Tryz.f172 37)):=Cb (D:=Yq α n) (A0u α n) n
theorem B1b:D3.OK PP TT ⟨19,[]⟩ (Yq α n) (Af Tryz.f172) :=
 D3.OK.mk3 (A0u α n) (by kernel_rfl:A9 _=[(2,.loop (Ai Tryz.f172 37))]) ⟨Aa rfl (Ah6 α n),trivial⟩
theorem Au6:(Adr n).Sound PP:=fk (fn:=Tryz.f172) (B1b _ n)

def Ab8 (a0:LR) (a1:Unit):Option Bool :=
 ob (A9v n a0 a1) λa =>
 some (decide (a>=0))
def Aee:Ent:=⟨104,[hRs,(.fn 105)],[.bool],λx=>Ab8 n x.1 x.2⟩
def B2f:D3 α:=⟨[(1,⟨0,[],[(2,A3 (Adr n))]⟩)],[],[],[]⟩
theorem Aue:(Aee n).Sound PP:=B9 (fn:=Tryz.f104) (D:=B2f _ n) ⟨Au6 n,trivial⟩

def f51 (a0:LR):Option Il :=
 ob (Ab8 n a0 ()) λa =>
 bif a then
  some ([],7)
 else
  some (a0,0)
def Y4:Ent:=⟨51,[hRs],[hRs,hI],λx=>f51 n x⟩
def Brj:D3 α:=⟨[(1,⟨0,[],[(1,A3 (Aee n))]⟩)],[],[],[]⟩
theorem Vo:(Y4 n).Sound PP:=B9 (fn:=Tryz.f51) (D:=Brj _ n) ⟨Aue n,trivial⟩

def f180 (a0:Rq × LR × Unit × Rq):Option Bool :=
 ob (f51 n a0.2.1) λa =>
 ob (f51 n []) λb =>
 ob (f98 n a0.1) λc =>
 bif c then
  ob (f98 n a0.2.2.2) λd =>
  bif d then
   bif (a.2==0) then
    some (b.2==0)
   else
    some false
  else
   some false
 else
  some false
def B7a:Ent:=⟨180,[Do],[.bool],λx=>f180 n x⟩
def Bog:D3 α:=⟨[(1,⟨0,[],[(2,A3 (Y4 n))]⟩),(2,⟨0,[],[(2,A3 (Y4 n))]⟩),(3,⟨0,[],[(2,A3 (Ny n)),(6,A3 (Ny n))]⟩)],[],[],[]⟩
theorem Biw:(B7a n).Sound PP:=B9 (fn:=Tryz.f180) (D:=Bog _ n) ⟨Vo n,Vo n,Ln n,Ln n,trivial⟩

def Ze {α:Type} (e:LR) (c:LN) (g b h:Int) (d:List Eh) (f:LR->LN->Int->Int->Int->(List Eh)->Option α) (k0:Int->Option α) (k1:(List Eh)->Option α):Option α :=
 bif (decide (b<g)) then
  gd (decide (0<=b)&&decide (b<(c.length:Int))) (
   let i:=c.getD b.toNat (0,0,0,0)
   ob (A6b n (h,()) i e d) λa =>
   gd (Nat.beq a.2.length d.length&&true) (
    bif (a.1.2 != 0) then
     k0 a.1.2
    else
     ob (f180 n a.1.1) λj =>
     bif (!j) then
      k0 7
     else
      gd (decide ((a.2.length+1)*160<=140737488355328)) (
       f e c g (W (b+1)) h (a.2++[a.1.1]))))
 else
  k1 d
abbrev Zd:Tm:=⟨[Gm,C4,(8,.k (.hw 13)),(14,.d hNs),Pv,(16,.d hI)],[(3,.var 94 true false [.d hI,.d .nil]),(13,.arr 91 Do false)],[10,11,36],[]⟩
abbrev Akf:Tm:=⟨[(6,.d .nil),Dr],[],[3,10,11,13],[]⟩
abbrev B94:Tm:=⟨[(8,.k (.hw 13))],[(13,.arr 91 Do false)],[3],[]⟩
abbrev Ab7:List (Exit × Tm):=[(.ret,Akf),(.exit 0,B94)]
def Ab6 {α:Type} (v:Zd.den) (f:Zd.den->Option α) (ks:KS α Ab7):Option α:=Ze n v.1.1 v.1.2.2.2.1 v.1.2.2.2.2.1 v.1.2.2.2.2.2.1 v.2.1.1 v.2.2.1 (λa b c d e g=>f ((a,(),(),b,c,d,()),((e,(),()),g,()))) (λw0=>ks.1 (((),w0,()),())) (λw0=>ks.2.1 (((),()),(w0,())))
def Wi {α:Type} (n m:Nat) (a:LR) (b:LN) (c d e:Int) (f:List Eh) (k0:Int->Option α) (k1:(List Eh)->Option α):Option α:=A4 (Ab6 n) m ((a,(),(),b,c,d,()),((e,(),()),f,())) (λw=>k0 w.1.2.1,λw=>k1 w.2.1,())
theorem Ake {α n m a b c d e f k0 k1}:Wi (α:=α) n (m+1) a b c d e f k0 k1=Ze n a b c d e f (λa b c d e f=>Wi n m a b c d e f k0 k1) k0 k1:=rfl
def f113 (a0:Int × Unit) (a1:LN) (a2:LR):Option ((List Eh) × Int) :=
 Wi n n a2 a1 (a1.length:Int) 0 a0.1 []
  (λa=>(
   some ([],a)))
  (λb=>(
   some (b,0)))
def Arz:Ent:=⟨113,[A4n,hNs,hRs],[(.sl Do),hI],λx=>f113 n x.1 x.2.1 x.2.2⟩
def As0:D3 α:=⟨[(1,⟨0,[],[(0,B4 Do)]⟩),(5,⟨0,[],[(4,{ alt:=[(Axr n)],hb:=310 })]⟩),(8,⟨0,[],[(1,A3 (B7a n))]⟩),(10,⟨0,[],[(2,B4 Do)]⟩)],[],[(3,⟨Zd,Ab7,A4 (Ab6 n) n⟩)],[]⟩
theorem Akd:Ap PP (Ae (As0 α n).reg):=⟨Bea n,Biw n,trivial⟩
theorem B2c:LO.Sound (α:=α) PP ⟨40,[]⟩ ⟨Zd,Ab7,A4 (Ab6 n) n⟩ (.loop (Ai Tryz.f113 75)):=Cb (D:=As0 α n) (Akd α n) n
theorem Bpx:D3.OK PP TT ⟨40,[]⟩ (As0 α n) (Af Tryz.f113) :=
 D3.OK.mk3 (Akd α n) (by kernel_rfl:A9 _=[(3,.loop (Ai Tryz.f113 75))]) ⟨Aa rfl (B2c α n),trivial⟩
theorem Axn:(Arz n).Sound PP:=fk (fn:=Tryz.f113) (Bpx _ n)

def f114 (n:Nat) (a0:Int) (a1:List Eh):Option Rq :=
 gd (decide (0<=a0)&&decide (a0<(a1.length:Int))) (
  let a:=a1.getD a0.toNat ((false,[],[]),[],(),(false,[],[]))
  some a.1)
def B93:Ent:=⟨114,[hI,(.ref (.sl Do))],[hR],λx=>f114 n x.1 x.2⟩
def Bpw (α:Type) (n:Nat):D3 α:=⟨[],[],[],[]⟩
theorem Bkh:(B93 n).Sound PP:=B9 (fn:=Tryz.f114) (D:=Bpw _ n) trivial

def f73 (a0:Rq):Option Rq :=
 ob (f123 n a0.2.1) λa =>
 ob (f123 n a0.2.2) λb =>
 some (a0.1,a,b)
def Am6:Ent:=⟨73,[hR],[hR],λx=>f73 n x⟩
def Br5:D3 α:=⟨[(1,⟨8,[],[(4,A3 (Ox n)),(7,A3 (Ox n))]⟩)],[],[],[]⟩
theorem Ap5:(Am6 n).Sound PP:=B9 (fn:=Tryz.f73) (D:=Br5 _ n) ⟨Nc n,Nc n,trivial⟩

def Td {α:Type} (c:List Eh) (d a:Int) (b:LR) (f:(List Eh)->Int->Int->LR->Option α) (k0:LR->Option α):Option α :=
 bif (decide (a<d)) then
  ob (f114 n a c) λe =>
  ob (f73 n e) λg =>
  gd (decide ((b.length+1)*56<=140737488355328)) (
   f c d (W (a+1)) (b++[g]))
 else
  k0 b
abbrev Ly:Tm:=⟨[(1,.d (.clo 114 (.ref (.sl Do)))),A4c,Ee,G0],[A4k],[17],[]⟩
abbrev Ph:Tm:=⟨[A4c],[A4k],[],[]⟩
abbrev Tc:List (Exit × Tm):=[(.exit 0,Ph)]
def Tb {α:Type} (v:Ly.den) (f:Ly.den->Option α) (ks:KS α Tc):Option α:=Td n v.1.1 v.1.2.2.1 v.1.2.2.2.1 v.2.1 (λa b c d=>f ((a,(),b,c,()),(d,()))) (λw0=>ks.1 (((),()),(w0,())))
def O3 {α:Type} (n m:Nat) (a:List Eh) (b c:Int) (d:LR) (k0:LR->Option α):Option α:=A4 (Tb n) m ((a,(),b,c,()),(d,())) (λw=>k0 w.2.1,())
theorem Al3 {α n m a b c d k0}:O3 (α:=α) n (m+1) a b c d k0=Td n a b c d (λa b c d=>O3 n m a b c d k0) k0:=rfl
def Zi (a0:Int) (a1:List Eh):Option LR :=
 O3 n n a1 a0 0 []
  (λa=>(
   some a))
def Aeh:Ent:=⟨102,[hI,(.clo 114 (.ref (.sl Do)))],[hRs],λx=>Zi n x.1 x.2⟩
def Zh:D3 α:=⟨[(1,⟨0,[],F5⟩),(5,⟨0,[],[(3,A3 (B93 n)),(4,A3 (Am6 n)),(5,B4 hR)]⟩)],[],[(3,⟨Ly,Tc,A4 (Tb n) n⟩)],[]⟩
theorem A0w:Ap PP (Ae (Zh α n).reg):=⟨Bkh n,Ap5 n,trivial⟩
theorem Ahm:LO.Sound (α:=α) PP ⟨21,[]⟩ ⟨Ly,Tc,A4 (Tb n) n⟩ (.loop (Ai Tryz.f102 75)):=Cb (D:=Zh α n) (A0w α n) n
theorem B2h:D3.OK PP TT ⟨21,[]⟩ (Zh α n) (Af Tryz.f102) :=
 D3.OK.mk3 (A0w α n) (by kernel_rfl:A9 _=[(3,.loop (Ai Tryz.f102 75))]) ⟨Aa rfl (Ahm α n),trivial⟩
theorem Aug:(Aeh n).Sound PP:=fk (fn:=Tryz.f102) (B2h _ n)

def f63 (a0:LN × Int) (a1:LR):Option Il :=
 ob (f96 n a0 a1) λb =>
 bif (b != 0) then
  some ([],b)
 else
  ob (f113 n (0,()) a0.1 a1) λa =>
  bif (a.2 != 0) then
   some ([],a.2)
  else
   ob (Zi n (a.1.length:Int) a.1) λc =>
   some (c,0)
def B08:Ent:=⟨63,[Ft,hRs],[hRs,hI],λx=>f63 n x.1 x.2⟩
def Brf:D3 α:=⟨[(1,⟨0,[],[(2,A3 (Am5 n))]⟩),(4,⟨0,[],[(4,A3 (Arz n))]⟩),(7,⟨0,[],[(2,B4 (.ref (.sl Do))),(3,A3 (Aeh n))]⟩)],[],[],[]⟩
theorem B5t:(B08 n).Sound PP:=B9 (fn:=Tryz.f63) (D:=Brf _ n) ⟨B56 n,Axn n,Aug n,trivial⟩

abbrev Ara:Tm:=⟨[X6,(1,.d hI),F7,Cu],[Uy,G8,A7t,A7o,A7p],[],[]⟩
def Iv (a0:LR × LR × LR × LR) (a1:Int) (a2 a3:Rq):Option (Unit × (LR × LR × Unit) × LR × LR) :=
 gd (decide (0<=a1)&&decide (a1<(a0.2.2.1.length:Int))) (
  gd (decide (a1.toNat<a0.2.2.1.length)) (
   let a:=a0.2.2.1.getD a1.toNat (false,[],[])
   ob (f99 n a a2) λb =>
   gd (decide (0<=a1)&&decide (a1<(a0.2.2.2.length:Int))) (
    gd (decide (a1.toNat<a0.2.2.2.length)) (
     let c:=a0.2.2.2.getD a1.toNat (false,[],[])
     ob (f99 n c a3) λd =>
     gd (decide (0<=a1)&&decide (a1<(a0.2.2.1.length:Int))) (
      gd (decide (a1.toNat<a0.2.2.1.length)) (
       gd (decide (0<=a1)&&decide (a1<(a0.2.2.2.length:Int))) (
        gd (decide (a1.toNat<a0.2.2.2.length)) (
         some ((),(a0.1,a0.2.1,()),(a0.2.2.1.set a1.toNat b),(a0.2.2.2.set a1.toNat d))))))))))
def Gg:Ent3:=⟨157,[.pst 114 [.im hRs,.im hRs,.own 54 hR,.own 54 hR],.im hI,.im hR,.im hR],[[]],λx=>Iv n x.1 x.2.1 x.2.2.1 x.2.2.2,[]⟩
def Axb:D3 α:=⟨[(1,⟨0,[],[(18,A3 (Bc n)),(27,A3 (Bc n))]⟩)],[],[],[(1,Ara)]⟩
theorem Bds:Ah TT ⟨38,[]⟩ [(18,A3 (Bc n)),(27,A3 (Bc n))] Ara (Ag Tryz.f157 3):=by
 refine ⟨by kernel_rfl,λw q hq=>?_⟩
 obtain ⟨y0,q0,rfl,y1,q1,rfl,rfl⟩:=Be [(18,Bc n),(27,Bc n)] hq (by kernel_rfl)
 all_goals exact .inr ⟨30,by kernel_rfl,by kernel_rfl,by kernel_rfl⟩
theorem B1s:Ap PP (Ae (Axb α n).reg):=⟨D6 n,D6 n,trivial⟩
theorem Bjt:D3.OK PP TT ⟨38,[]⟩ (Axb α n) (Af Tryz.f157) :=
 D3.OK.mk3a (B1s α n) (by kernel_rfl:A9 _=[]) trivial (by kernel_rfl:Ax _=[(1,Ag Tryz.f157 3)]) ⟨⟨Bds n,trivial⟩,trivial⟩
theorem Fx:(Gg n).Sound PP:=Vl (fn:=Tryz.f157) (Bjt _ n)

def f159 (a0 a1 a2 a3:Rq):Option (Rq × Rq) :=
 ob (f162 n a0 a2) λa =>
 ob (f162 n a1 a2) λb =>
 ob (f162 n a0 a3) λc =>
 ob (f99 n b c) λd =>
 some (a,d)
def Fk:Ent:=⟨159,[hR,hR,hR,hR],[hR,hR],λx=>f159 n x.1 x.2.1 x.2.2.1 x.2.2.2⟩
def Boy:D3 α:=⟨[(1,⟨8,[],[(Abn n),(5,A3 (Av n)),(Abs n),(9,A3 (Bc n))]⟩)],[],[],[]⟩
theorem W6:(Fk n).Sound PP:=B9 (fn:=Tryz.f159) (D:=Boy _ n) ⟨Az n,Az n,Az n,D6 n,trivial⟩

abbrev Ar9:Tm:=⟨[X6,(1,.d hI),Bo,Bt],[A17,Abr,A7t,A7o,A7p],[],[]⟩
def Amc (a0:LR × LR × LR × LR) (a1:Int):Option ((Rq × Rq) × (LR × LR × Unit) × LR × LR) :=
 ob (f97 n 1) λb =>
 gd (decide (0<=a1)&&decide (a1<(a0.1.length:Int))) (
  let c:=a0.1.getD a1.toNat (false,[],[])
  ob (f206 n b c) λa =>
  ob (f162 n a a) λd =>
  gd (decide (0<=a1)&&decide (a1<(a0.2.1.length:Int))) (
   let e:=a0.2.1.getD a1.toNat (false,[],[])
   ob (f162 n d e) λf =>
   ob (f158 n f) λg =>
   some ((a,g),(a0.1,a0.2.1,()),a0.2.2.1,a0.2.2.2)))
def Ax9:Ent3:=⟨160,[.pst 114 [.im hRs,.im hRs,.own 54 hR,.own 54 hR],.im hI],[[.im hR,.im hR]],λx=>Amc n x.1 x.2,[]⟩
def Axa:D3 α:=⟨[(1,⟨0,[],[(Uv n),(8,A3 (Js n))]⟩),(2,⟨13,[],[(3,A3 (Av n)),(11,A3 (Av n)),(12,A3 (Jv n))]⟩)],[],[],[(1,Ar9)]⟩
theorem Bdr:Ah TT ⟨29,[]⟩ [(Uv n),(8,A3 (Js n))] Ar9 (Ag Tryz.f160 5):=by
 refine ⟨by kernel_rfl,λw q hq=>?_⟩
 obtain ⟨y0,q0,rfl,y1,q1,rfl,rfl⟩:=Be [(0,Cg n),(8,Js n)] hq (by kernel_rfl)
 all_goals exact .inr ⟨10,by kernel_rfl,by kernel_rfl,by kernel_rfl⟩
theorem B1r:Ap PP (Ae (Axa α n).reg):=⟨Bh n,Ah1 n,Az n,Az n,Iu n,trivial⟩
theorem Bjs:D3.OK PP TT ⟨29,[]⟩ (Axa α n) (Af Tryz.f160) :=
 D3.OK.mk3a (B1r α n) (by kernel_rfl:A9 _=[]) trivial (by kernel_rfl:Ax _=[(1,Ag Tryz.f160 5),(2,Ag Tryz.f160 11)]) ⟨⟨Bdr n,trivial⟩,trivial,trivial⟩
theorem Bdq:(Ax9 n).Sound PP:=Vl (fn:=Tryz.f160) (Bjs _ n)

abbrev Bdl:Tm:=⟨Ayj,[(2,.var 91 true false Ayp),A17,Abr,Uy,G8],[],[]⟩
def Ae5 (a0:Rq × Unit × Unit × Rq) (a1:Int):Option (Rq × Rq) :=
 ob (f97 n 0) λa =>
 ob (f97 n 0) λg =>
 let c:=λ(d:Bool) (e:LI) (f:LI)=>(
  bif (decide (a1>=2)) then
   ob (f170 n a0.1 (W (a1-2))) λh =>
   ob (f97 n (W (a1*(W (a1-1))))) λi =>
   ob (f162 n h i) λj =>
   some ((d,e,f),j)
  else
   some ((d,e,f),g))
 bif (decide (a1>=1)) then
  ob (f170 n a0.1 (W (a1-1))) λk =>
  ob (f97 n a1) λl =>
  ob (f162 n k l) λb =>
  c b.1 b.2.1 b.2.2
 else
  c a.1 a.2.1 a.2.2
def Ax5:Ent:=⟨161,[(.st (.pair hR (.pair .nil (.pair .nil hR)))),hI],[hR,hR],λx=>Ae5 n x.1 x.2⟩
def Ax6:D3 α:=⟨[(1,⟨0,[],[(Uv n),(Xd n)]⟩),(3,⟨0,[],[(Uw n),(6,A3 (Cg n)),(7,A3 (Av n))]⟩),(5,⟨0,[],[(Uw n),(9,A3 (Cg n)),(10,A3 (Av n))]⟩)],[(4,Bdl)],[],[(6,Qw)]⟩
theorem Bdm (n:Nat):Ah TT ⟨35,[]⟩ [] Qw (Ag Tryz.f161 47):=by
 refine ⟨by kernel_rfl,λw q hq=>?_⟩
 obtain rfl:=Be [] hq (by kernel_rfl)
 all_goals exact .inr ⟨3,by kernel_rfl,by kernel_rfl,by kernel_rfl⟩
theorem B1p:Ap PP (Ae (Ax6 α n).reg):=⟨Bh n,Bh n,Hn n,Bh n,Az n,Hn n,Bh n,Az n,trivial⟩
theorem Bjn:D3.OK PP TT ⟨35,[]⟩ (Ax6 α n) (Af Tryz.f161) :=
 D3.OK.mk3a (B1p α n) (by kernel_rfl:A9 _=[]) trivial (by kernel_rfl:Ax _=[(6,Ag Tryz.f161 47)]) ⟨⟨Bdm n,trivial⟩,trivial⟩
theorem Bdk:(Ax5 n).Sound PP:=fk (fn:=Tryz.f161) (Bjn _ n)

abbrev As5:Tm:=⟨[X6,(2,.d hI),Bo],[Abu,A7t,A7o,A7p],[],[]⟩
abbrev Ul:Tm:=⟨[X6,Bo,F7,Cu],[Abu,Uy,G8,A7t,A7o,A7p],[],[]⟩
abbrev Akl:Tm:=⟨[X6,Bo,F7,Cu,Dk,K9],[Abu,Uy,G8,X8,Ald,A7t,A7o,A7p],[],[]⟩
abbrev Akk:Tm:=⟨[X6,(2,.d hI),Bo,(14,.k (.hp 14 0 0)),(15,.k (.hp 15 0 0))],[Abu,Alg,Alh,A7t,A7o,A7p],[6,7,12,13],[]⟩
abbrev Akj:Tm:=⟨[X6,Bo,F7,Cu,(18,.k (.hp 18 0 0)),(19,.k (.hp 19 0 0)),(20,.k (.hp 20 0 0))],[Abu,Uy,G8,(18,.var 91 true false Ayp),(19,.var 54 true false G7),(20,.var 54 true false G7),A7t,A7o,A7p],[],[]⟩
def Ame (a0:LR × LR × LR × LR) (a1:Nq) (a2:Int):Option (Unit × (LR × LR × Unit) × LR × LR) :=
 gd (decide (0<=a2)&&decide (a2<(a0.2.2.1.length:Int))) (
  gd (decide (a2.toNat<a0.2.2.1.length)) (
   let b:=a0.2.2.1.getD a2.toNat (false,[],[])
   gd (decide (0<=a2)&&decide (a2<(a0.2.2.2.length:Int))) (
    gd (decide (a2.toNat<a0.2.2.2.length)) (
     let c:=a0.2.2.2.getD a2.toNat (false,[],[])
     bif (a1.1==3) then
      ob (Iv n (a0.1,a0.2.1,a0.2.2.1,a0.2.2.2) a1.2.1 b c) λd =>
      gd (Nat.beq d.2.2.1.length a0.2.2.1.length&&(Nat.beq d.2.2.2.length a0.2.2.2.length&&true)) (
       ob (Iv n (d.2.1.1,d.2.1.2.1,d.2.2.1,d.2.2.2) a1.2.2.1 b c) λh =>
       gd (Nat.beq h.2.2.1.length d.2.2.1.length&&(Nat.beq h.2.2.2.length d.2.2.2.length&&true)) (
        some ((),(h.2.1.1,h.2.1.2.1,()),h.2.2.1,h.2.2.2)))
     else
      bif (a1.1==4) then
       ob (Iv n (a0.1,a0.2.1,a0.2.2.1,a0.2.2.2) a1.2.1 b c) λe =>
       gd (Nat.beq e.2.2.1.length a0.2.2.1.length&&(Nat.beq e.2.2.2.length a0.2.2.2.length&&true)) (
        ob (f158 n b) λv =>
        ob (f158 n c) λw =>
        ob (Iv n (e.2.1.1,e.2.1.2.1,e.2.2.1,e.2.2.2) a1.2.2.1 v w) λi =>
        gd (Nat.beq i.2.2.1.length e.2.2.1.length&&(Nat.beq i.2.2.2.length e.2.2.2.length&&true)) (
         some ((),(i.2.1.1,i.2.1.2.1,()),i.2.2.1,i.2.2.2)))
      else
       bif (a1.1==5) then
        gd (decide (0<=a1.2.2.1)&&decide (a1.2.2.1<(a0.1.length:Int))) (
         let x:=a0.1.getD a1.2.2.1.toNat (false,[],[])
         gd (decide (0<=a1.2.2.1)&&decide (a1.2.2.1<(a0.2.1.length:Int))) (
          let y:=a0.2.1.getD a1.2.2.1.toNat (false,[],[])
          ob (f159 n b c x y) λp =>
          gd (decide (0<=a1.2.1)&&decide (a1.2.1<(a0.1.length:Int))) (
           let z:=a0.1.getD a1.2.1.toNat (false,[],[])
           gd (decide (0<=a1.2.1)&&decide (a1.2.1<(a0.2.1.length:Int))) (
            let d0:=a0.2.1.getD a1.2.1.toNat (false,[],[])
            ob (f159 n b c z d0) λq =>
            ob (Iv n (a0.1,a0.2.1,a0.2.2.1,a0.2.2.2) a1.2.1 p.1 p.2) λf =>
            gd (Nat.beq f.2.2.1.length a0.2.2.1.length&&(Nat.beq f.2.2.2.length a0.2.2.2.length&&true)) (
             ob (Iv n (f.2.1.1,f.2.1.2.1,f.2.2.1,f.2.2.2) a1.2.2.1 q.1 q.2) λj =>
             gd (Nat.beq j.2.2.1.length f.2.2.1.length&&(Nat.beq j.2.2.2.length f.2.2.2.length&&true)) (
              some ((),(j.2.1.1,j.2.1.2.1,()),j.2.2.1,j.2.2.2)))))))
       else
        bif (a1.1==6) then
         ob (Amc n (a0.1,a0.2.1,a0.2.2.1,a0.2.2.2) a1.2.2.1) λa =>
         gd (Nat.beq a.2.2.1.length a0.2.2.1.length&&(Nat.beq a.2.2.2.length a0.2.2.2.length&&true)) (
          ob (f159 n b c a.1.1 a.1.2) λo =>
          gd (decide (0<=a2)&&decide (a2<(a.2.1.1.length:Int))) (
           let d1:=a.2.1.1.getD a2.toNat (false,[],[])
           gd (decide (0<=a2)&&decide (a2<(a.2.1.2.1.length:Int))) (
            let d2:=a.2.1.2.1.getD a2.toNat (false,[],[])
            ob (f159 n o.1 o.2 d1 d2) λr =>
            ob (Iv n (a.2.1.1,a.2.1.2.1,a.2.2.1,a.2.2.2) a1.2.1 o.1 o.2) λg =>
            gd (Nat.beq g.2.2.1.length a.2.2.1.length&&(Nat.beq g.2.2.2.length a.2.2.2.length&&true)) (
             ob (f158 n r.1) λd3 =>
             ob (f158 n r.2) λd4 =>
             ob (Iv n (g.2.1.1,g.2.1.2.1,g.2.2.1,g.2.2.2) a1.2.2.1 d3 d4) λk =>
             gd (Nat.beq k.2.2.1.length g.2.2.1.length&&(Nat.beq k.2.2.2.length g.2.2.2.length&&true)) (
              some ((),(k.2.1.1,k.2.1.2.1,()),k.2.2.1,k.2.2.2))))))
        else
         bif (a1.1==7) then
          ob (f158 n b) λd5 =>
          ob (f158 n c) λd6 =>
          ob (Iv n (a0.1,a0.2.1,a0.2.2.1,a0.2.2.2) a1.2.1 d5 d6) λl =>
          gd (Nat.beq l.2.2.1.length a0.2.2.1.length&&(Nat.beq l.2.2.2.length a0.2.2.2.length&&true)) (
           some ((),(l.2.1.1,l.2.1.2.1,()),l.2.2.1,l.2.2.2))
         else
          bif (a1.1==8) then
           gd (decide (0<=a1.2.1)&&decide (a1.2.1<(a0.1.length:Int))) (
            let d7:=a0.1.getD a1.2.1.toNat (false,[],[])
            gd (decide (0<=a1.2.1)&&decide (a1.2.1<(a0.2.1.length:Int))) (
             let s:=a0.2.1.getD a1.2.1.toNat (false,[],[])
             ob (Ae5 n (d7,(),(),s) a1.2.2.2) λt =>
             ob (f162 n t.2 s) λd8 =>
             ob (f159 n b c t.1 d8) λu =>
             ob (Iv n (a0.1,a0.2.1,a0.2.2.1,a0.2.2.2) a1.2.1 u.1 u.2) λm =>
             gd (Nat.beq m.2.2.1.length a0.2.2.1.length&&(Nat.beq m.2.2.2.length a0.2.2.2.length&&true)) (
              some ((),(m.2.1.1,m.2.1.2.1,()),m.2.2.1,m.2.2.2))))
          else
           some ((),(a0.1,a0.2.1,()),a0.2.2.1,a0.2.2.2)))))
def Axt:Ent3:=⟨100,[.pst 114 [.im hRs,.im hRs,.own 54 hR,.own 54 hR],.im hN,.im hI],[[]],λx=>Ame n x.1 x.2.1 x.2.2,[]⟩
def Axu:D3 α:=⟨[(4,⟨0,[],[(5,Ce (Gg n) 310)]⟩),(5,⟨0,[],[(5,Ce (Gg n) 320)]⟩),(7,⟨0,[],[(5,Ce (Gg n) 330)]⟩),(8,⟨7,[],[(4,A3 (Jv n)),(6,A3 (Jv n)),(7,Ce (Gg n) 340)]⟩),(10,⟨0,[],[(18,A3 (Fk n))]⟩),(11,⟨0,[],[(18,A3 (Fk n))]⟩),(12,⟨0,[],[(5,Ce (Gg n) 350)]⟩),(13,⟨0,[],[(5,Ce (Gg n) 360)]⟩),(15,⟨0,[],[(3,Ce (Ax9 n) 370)]⟩),(16,⟨0,[],[(4,A3 (Fk n))]⟩),(17,⟨0,[],[(16,A3 (Fk n))]⟩),(18,⟨0,[],[(5,Ce (Gg n) 380)]⟩),(19,⟨7,[],[(4,A3 (Jv n)),(6,A3 (Jv n)),(7,Ce (Gg n) 390)]⟩),(21,⟨7,[],[(4,A3 (Jv n)),(6,A3 (Jv n)),(7,Ce (Gg n) 400)]⟩),(24,⟨0,[],[(3,A3 (Ax5 n))]⟩),(25,⟨0,[],[(Xf n),(7,A3 (Fk n))]⟩),(26,⟨0,[],[(5,Ce (Gg n) 410)]⟩)],[],[],[(1,As5),(10,Ul),(11,Akl),(17,Akk),(23,Ul),(25,Akj)]⟩
theorem Bef (n:Nat):Ah TT ⟨231,[]⟩ [] As5 (Ag Tryz.f100 5):=by
 refine ⟨by kernel_rfl,λw q hq=>?_⟩
 obtain rfl:=Be [] hq (by kernel_rfl)
 all_goals exact .inr ⟨17,by kernel_rfl,by kernel_rfl,by kernel_rfl⟩
theorem B9e:Ah TT ⟨231,[]⟩ [(18,A3 (Fk n))] Ul (Ag Tryz.f100 2551):=by
 refine ⟨by kernel_rfl,λw q hq=>?_⟩
 obtain ⟨y0,q0,rfl,rfl⟩:=Be [(18,Fk n)] hq (by kernel_rfl)
 all_goals exact .inr ⟨25,by kernel_rfl,by kernel_rfl,by kernel_rfl⟩
theorem B9d:Ah TT ⟨231,[]⟩ [(18,A3 (Fk n))] Akl (Ag Tryz.f100 5623):=by
 refine ⟨by kernel_rfl,λw q hq=>?_⟩
 obtain ⟨y0,q0,rfl,rfl⟩:=Be [(18,Fk n)] hq (by kernel_rfl)
 all_goals exact .inr ⟨25,by kernel_rfl,by kernel_rfl,by kernel_rfl⟩
theorem B9c:Ah TT ⟨231,[]⟩ [(16,A3 (Fk n))] Akk (Ag Tryz.f100 47095):=by
 refine ⟨by kernel_rfl,λw q hq=>?_⟩
 obtain ⟨y0,q0,rfl,rfl⟩:=Be [(16,Fk n)] hq (by kernel_rfl)
 all_goals exact .inr ⟨23,by kernel_rfl,by kernel_rfl,by kernel_rfl⟩
theorem B9b (n:Nat):Ah TT ⟨231,[]⟩ [] Ul (Ag Tryz.f100 163831):=by
 refine ⟨by kernel_rfl,λw q hq=>?_⟩
 obtain rfl:=Be [] hq (by kernel_rfl)
 all_goals exact .inr ⟨18,by kernel_rfl,by kernel_rfl,by kernel_rfl⟩
theorem B9a:Ah TT ⟨231,[]⟩ [(Xf n),(7,A3 (Fk n))] Akj (Ag Tryz.f100 753655):=by
 refine ⟨by kernel_rfl,λw q hq=>?_⟩
 obtain ⟨y0,q0,rfl,y1,q1,rfl,rfl⟩:=Be [(6,Av n),(7,Fk n)] hq (by kernel_rfl)
 all_goals exact .inr ⟨14,by kernel_rfl,by kernel_rfl,by kernel_rfl⟩
theorem B2k:Ap PP (Ae (Axu α n).reg):=⟨Fx n,Fx n,Fx n,Iu n,Iu n,Fx n,W6 n,W6 n,Fx n,Fx n,Bdq n,W6 n,W6 n,Fx n,Iu n,Iu n,Fx n,Iu n,Iu n,Fx n,Bdk n,Az n,W6 n,Fx n,trivial⟩
theorem Bku:D3.OK PP TT ⟨231,[]⟩ (Axu α n) (Af Tryz.f100) :=
 D3.OK.mk3a (B2k α n) (by kernel_rfl:A9 _=[]) trivial (by kernel_rfl:Ax _=[(1,Ag Tryz.f100 5),(8,Ag Tryz.f100 887),(10,Ag Tryz.f100 2551),(11,Ag Tryz.f100 5623),(17,Ag Tryz.f100 47095),(19,Ag Tryz.f100 129015),(21,Ag Tryz.f100 24567),(23,Ag Tryz.f100 163831),(25,Ag Tryz.f100 753655)]) ⟨⟨Bef n,trivial⟩,trivial,⟨B9e n,trivial⟩,⟨B9d n,trivial⟩,⟨B9c n,trivial⟩,trivial,trivial,⟨B9b n,trivial⟩,⟨B9a n,trivial⟩,trivial⟩
theorem Bee:(Axt n).Sound PP:=Vl (fn:=Tryz.f100) (Bku _ n)

def A5e {α:Type} (a:Int) (i:LN) (j:Int) (k l c d e g:LR) (f:Int->LN->Int->LR->LR->LR->LR->LR->LR->Option α) (k0:Int->Option α) (k1:LR->LR->Option α):Option α :=
 bif (decide (a>=0)) then
  gd (decide (0<=a)&&decide (a<(c.length:Int))) (
   gd (decide (a.toNat<c.length)) (
    let m:=c.getD a.toNat (false,[],[])
    ob (f98 n m) λo =>
    bif (!o) then
     k0 7
    else
     gd (decide (0<=a)&&decide (a<(d.length:Int))) (
      gd (decide (a.toNat<d.length)) (
       let p:=d.getD a.toNat (false,[],[])
       ob (f98 n p) λq =>
       bif (!q) then
        k0 7
       else
        gd (decide (0<=a)&&decide (a<(i.length:Int))) (
         let b:=i.getD a.toNat (0,0,0,0)
         bif (b.1==2) then
          gd (decide (0<=b.2.2.2)&&decide (b.2.2.2<(e.length:Int))) (
           gd (decide (b.2.2.2.toNat<e.length)) (
            let r:=e.getD b.2.2.2.toNat (false,[],[])
            gd (decide (0<=a)&&decide (a<(c.length:Int))) (
             gd (decide (a.toNat<c.length)) (
              let s:=c.getD a.toNat (false,[],[])
              ob (f99 n r s) λt =>
              gd (decide (0<=b.2.2.2)&&decide (b.2.2.2<(g.length:Int))) (
               gd (decide (b.2.2.2.toNat<g.length)) (
                let u:=g.getD b.2.2.2.toNat (false,[],[])
                gd (decide (0<=a)&&decide (a<(d.length:Int))) (
                 gd (decide (a.toNat<d.length)) (
                  let v:=d.getD a.toNat (false,[],[])
                  ob (f99 n u v) λw =>
                  gd (decide (0<=b.2.2.2)&&decide (b.2.2.2<(e.length:Int))) (
                   gd (decide (b.2.2.2.toNat<e.length)) (
                    gd (decide (0<=b.2.2.2)&&decide (b.2.2.2<(g.length:Int))) (
                     gd (decide (b.2.2.2.toNat<g.length)) (
                      f (W (a-1)) i j k l c d (e.set b.2.2.2.toNat t) (g.set b.2.2.2.toNat w)))))))))))))
         else
          ob (Ame n (k,l,c,d) b a) λh =>
          gd (Nat.beq h.2.2.1.length c.length&&(Nat.beq h.2.2.2.length d.length&&true)) (
           f (W (a-1)) i j h.2.1.1 h.2.1.2.1 h.2.2.1 h.2.2.2 e g))))))
 else
  k1 e g
abbrev A5d:Tm:=⟨[Bo,A4j,A4e,A4f,Pv],[Alj,Bf0,Ala,Alb,A7m,A7n],[16],[]⟩
abbrev Bcq:Tm:=⟨[(8,.d .nil),(9,.d .nil),(10,.d hI)],[],[4,12,310,320,330,340],[]⟩
abbrev Bcp:Tm:=⟨[A4e,A4f],[A7m,A7n],[4,12,310,320],[]⟩
abbrev Agq:List (Exit × Tm):=[(.ret,Bcq),(.exit 0,Bcp)]
def Agp {α:Type} (v:A5d.den) (f:A5d.den->Option α) (ks:KS α Agq):Option α:=A5e n v.1.2.2.2.2.1 v.2.1.1 v.2.1.2.1 v.2.2.1.1 v.2.2.1.2.1 v.2.2.2.1 v.2.2.2.2.1 v.2.2.2.2.2.1 v.2.2.2.2.2.2.1 (λa b c d e g h i j=>f (((),(),(),(),a,()),((b,c,()),(d,e,(),(),()),g,h,i,j,()))) (λw0=>ks.1 (((),(),w0,()),())) (λw0 w1=>ks.2.1 (((),(),()),(w0,w1,())))
def Ad6 {α:Type} (n m:Nat) (a:Int) (b:LN) (c:Int) (d e f g h i:LR) (k0:Int->Option α) (k1:LR->LR->Option α):Option α:=A4 (Agp n) m (((),(),(),(),a,()),((b,c,()),(d,e,(),(),()),f,g,h,i,())) (λw=>k0 w.1.2.2.1,λw=>k1 w.2.1 w.2.2.1,())
theorem Apn {α n m a b c d e f g h i k0 k1}:Ad6 (α:=α) n (m+1) a b c d e f g h i k0 k1=A5e n a b c d e f g h i (λa b c d e f g h i=>Ad6 n m a b c d e f g h i k0 k1) k0 k1:=rfl
abbrev Aw0:Tm:=⟨[Bo,A4j,A4e,A4f,Pv,(16,.k (.hp 16 0 0))],[Alj,Bf0,(16,.var 85 true false A7u),Ala,Alb,A7m,A7n],[],[]⟩
def f49 (a0:LN × Int) (a1 a2 a3:LR):Option (LR × LR × Int) :=
 ob (Pe n (a0.1.length:Int)) λa =>
 ob (Pe n (a0.1.length:Int)) λb =>
 ob (f97 n 1) λc =>
 gd (decide (0<=a0.2)&&decide (a0.2<(a.length:Int))) (
  gd (decide (a0.2.toNat<a.length)) (
   ob (Pe n (a1.length:Int)) λd =>
   ob (Pe n (a1.length:Int)) λe =>
   Ad6 n n (W ((a0.1.length:Int)-1)) a0.1 a0.2 a2 a3 (a.set a0.2.toNat c) b d e
    (λf=>(
     some ([],[],f)))
    (λg h=>(
     some (g,h,0)))))
def B0e:Ent:=⟨49,[Ft,hRs,hRs,hRs],[hRs,hRs,hI],λx=>f49 n x.1 x.2.1 x.2.2.1 x.2.2.2⟩
def B0f:D3 α:=⟨[(2,⟨0,[],[(3,Ce (Ew n) 310),(5,Ce (Ew n) 320)]⟩),(3,⟨5,[],[(Bah n)]⟩),(4,⟨0,[],[(2,Ce (Ew n) 330),(5,Ce (Ew n) 340)]⟩),(8,⟨0,[],[(5,A3 (Ny n)),(13,A3 (Ny n))]⟩),(12,⟨0,[],[(16,A3 (Bc n)),(27,A3 (Bc n))]⟩),(13,⟨0,[],[(2,Ce (Axt n) 350)]⟩)],[],[(6,⟨A5d,Agq,A4 (Agp n) n⟩)],[(12,Aw0)]⟩
theorem Aw1:Ah TT ⟨104,[]⟩ [(16,A3 (Bc n)),(27,A3 (Bc n))] Aw0 (Ag Tryz.f49 94815):=by
 refine ⟨by kernel_rfl,λw q hq=>?_⟩
 obtain ⟨y0,q0,rfl,y1,q1,rfl,rfl⟩:=Be [(16,Bc n),(27,Bc n)] hq (by kernel_rfl)
 all_goals exact .inr ⟨30,by kernel_rfl,by kernel_rfl,by kernel_rfl⟩
theorem Apm:Ap PP (Ae (B0f α n).reg):=⟨Mw n,Mw n,Bh n,Mw n,Mw n,Ln n,Ln n,D6 n,D6 n,Bee n,trivial⟩
theorem Bco:D3.OK PP TT ⟨104,[]⟩ (B0f α n) (Ai Tryz.f49 607) :=
 D3.OK.mk3a (Apm α n) (by kernel_rfl:A9 _=[]) trivial (by kernel_rfl:Ax _=[(12,Ag Tryz.f49 94815)]) ⟨⟨Aw1 n,trivial⟩,trivial⟩
theorem B62:LO.Sound (α:=α) PP ⟨104,[]⟩ ⟨A5d,Agq,A4 (Agp n) n⟩ (.loop (Ai Tryz.f49 607)):=lk (Bco α n) n
theorem Brn:D3.OK PP TT ⟨104,[]⟩ (B0f α n) (Af Tryz.f49) :=
 D3.OK.mk3a (Apm α n) (by kernel_rfl:A9 _=[(6,.loop (Ai Tryz.f49 607))]) ⟨Aa rfl (B62 α n),trivial⟩ (by kernel_rfl:Ax _=[(3,Ag Tryz.f49 23),(12,Ag Tryz.f49 94815)]) ⟨trivial,⟨Aw1 n,trivial⟩,trivial⟩
theorem B61:(B0e n).Sound PP:=fk (fn:=Tryz.f49) (Brn _ n)

def f23 (a0:LN × Int) (a1:LR):Option Il :=
 ob (f63 n a0 a1) λa =>
 bif (a.2 != 0) then
  some ([],a.2)
 else
  ob (f64 n (a.1.length:Int)) λd =>
  ob (f49 n a0 a1 a.1 d) λb =>
  bif (b.2.2 != 0) then
   some ([],b.2.2)
  else
   ob (f51 n b.1) λc =>
   some (c.1,c.2)
def Bg9:Ent:=⟨23,[Ft,hRs],[hRs,hI],λx=>f23 n x.1 x.2⟩
def Brw:D3 α:=⟨[(1,⟨0,[],[(2,A3 (B08 n))]⟩),(4,⟨13,[],[(5,A3 (A59 n)),(6,A3 (B0e n))]⟩),(7,⟨0,[],[(1,A3 (Y4 n))]⟩)],[],[],[]⟩
theorem Bnb:(Bg9 n).Sound PP:=B9 (fn:=Tryz.f23) (D:=Brw _ n) ⟨B5t n,Ad3 n,B61 n,Vo n,trivial⟩

def f146 (a0:Int):Option Bool :=
 ob (f181 n a0 3 6) λa =>
 some a
def B8h:Ent:=⟨146,[hI],[.bool],λx=>f146 n x⟩
def Bpb:D3 α:=⟨[(1,⟨0,[],[(1,A3 (E8 n))]⟩)],[],[],[]⟩
theorem R1:(B8h n).Sound PP:=B9 (fn:=Tryz.f146) (D:=Bpb _ n) ⟨De n,trivial⟩

def f147 (n:Nat) (a0:Int):Option Bool :=
 bif (a0==7) then
  some true
 else
  some (a0==8)
def A3h:Ent:=⟨147,[hI],[.bool],λx=>f147 n x⟩
def Bpa (α:Type) (n:Nat):D3 α:=⟨[],[],[],[]⟩
theorem A63:(A3h n).Sound PP:=B9 (fn:=Tryz.f147) (D:=Bpa _ n) trivial

def f186 (a0:Nq) (a1:Int):Option Bool :=
 ob (f181 n a0.1 1 8) λa =>
 bif (!a) then
  some false
 else
  ob (f146 n a0.1) λb =>
  bif b then
   ob (f181 n a0.2.1 0 (W (a1-1))) λc =>
   bif c then
    ob (f181 n a0.2.2.1 (W (a0.2.1+1)) (W (a1-1))) λd =>
    bif d then
     some (a0.2.2.2==0)
    else
     some false
   else
    some false
  else
   ob (f147 n a0.1) λe =>
   bif e then
    bif (a0.2.1==(W (a1-1))) then
     bif (decide (a1>0)) then
      bif (a0.2.2.1==0) then
       ob (f174 n (a0.1==8)) λf =>
       ob (f181 n a0.2.2.2 0 (W (8*f))) λg =>
       some g
      else
       some false
     else
      some false
    else
     some false
   else
    bif (a0.1==2) then
     bif (a0.2.1==0) then
      bif (a0.2.2.1==0) then
       ob (f181 n a0.2.2.2 0 3) λh =>
       some h
      else
       some false
     else
      some false
    else
     bif (a0.2.1==0) then
      bif (a0.2.2.1==0) then
       ob (f181 n a0.2.2.2 0 999999999) λi =>
       some i
      else
       some false
     else
      some false
def B74:Ent:=⟨186,[hN,hI],[.bool],λx=>f186 n x.1 x.2⟩
abbrev A4h:Nat × OA:=(2,A3 (B8h n))
def Boa:D3 α:=⟨[(1,⟨0,[],[(2,A3 (E8 n))]⟩),(3,⟨0,[],[(A4h n)]⟩),(4,⟨0,[],[(4,A3 (E8 n)),(13,A3 (E8 n))]⟩),(5,⟨0,[],[(2,A3 (A3h n))]⟩),(6,⟨22,[],[(20,A3 (Ss n)),(22,A3 (E8 n))]⟩),(8,⟨0,[],[(11,A3 (E8 n))]⟩),(9,⟨0,[],[(11,A3 (E8 n))]⟩)],[],[],[]⟩
theorem Bim:(B74 n).Sound PP:=B9 (fn:=Tryz.f186) (D:=Boa _ n) ⟨De n,R1 n,De n,De n,A63 n,Qu n,De n,De n,De n,trivial⟩

def f182 (a0:Nq) (a1:Int):Option Bool :=
 ob (f146 n a0.1) λa =>
 bif a then
  ob (f181 n a0.2.1 0 (W (a1-1))) λb =>
  bif b then
   ob (f181 n a0.2.2.1 0 (W (a1-1))) λc =>
   bif c then
    some (a0.2.2.2==0)
   else
    some false
  else
   some false
 else
  ob (f147 n a0.1) λd =>
  bif d then
   ob (f181 n a0.2.1 0 (W (a1-1))) λe =>
   bif e then
    bif (a0.2.2.1==0) then
     ob (f174 n (a0.1==8)) λf =>
     ob (f181 n a0.2.2.2 0 (W (8*f))) λg =>
     some g
    else
     some false
   else
    some false
  else
   ob (f186 n a0 a1) λh =>
   some h
def B79:Ent:=⟨182,[hN,hI],[.bool],λx=>f182 n x.1 x.2⟩
def Boe:D3 α:=⟨[(1,⟨0,[],[(A4h n)]⟩),(2,⟨0,[],[(4,A3 (E8 n)),(10,A3 (E8 n))]⟩),(3,⟨0,[],[(2,A3 (A3h n))]⟩),(4,⟨18,[],[(4,A3 (E8 n)),(16,A3 (Ss n)),(18,A3 (E8 n))]⟩),(5,⟨0,[],[(2,A3 (B74 n))]⟩)],[],[],[]⟩
theorem Bit:(B79 n).Sound PP:=B9 (fn:=Tryz.f182) (D:=Boe _ n) ⟨R1 n,De n,De n,A63 n,De n,Qu n,De n,Bim n,trivial⟩

def A9o {α:Type} (n:Nat) (b:LN) (a d e g h:Int) (f:LN->Int->Int->Int->Int->Int->Option α) (k0:Int->Option α) (k1:Unit->Option α):Option α :=
 bif (decide (a<(b.length:Int))) then
  gd (decide (0<=a)&&decide (a<(b.length:Int))) (
   let c:=b.getD a.toNat (0,0,0,0)
   bif (c.1==d&&(c.2.1==e&&(c.2.2.1==g&&(c.2.2.2==h&&true)))) then
    k0 a
   else
    f b (W (a+1)) d e g h)
 else
  k1 ()
abbrev Yk:Tm:=⟨[(0,.d hNs),C4,Ik],[A18],[],[]⟩
abbrev A9n:List (Exit × Tm):=[(.ret,Aph),(.exit 0,Apg)]
def A9m {α:Type} (v:Yk.den) (f:Yk.den->Option α) (ks:KS α A9n):Option α:=A9o n v.1.1 v.1.2.2.1 v.2.1.1 v.2.1.2.1 v.2.1.2.2.1 v.2.1.2.2.2.1 (λa b c d e g=>f ((a,(),b,()),((c,d,e,g,()),()))) (λw0=>ks.1 ((w0,()),())) (λ_=>ks.2.1 ((),()))
def A5q {α:Type} (n m:Nat) (a:LN) (b c d e f:Int) (k0:Int->Option α) (k1:Unit->Option α):Option α:=A4 (A9m n) m ((a,(),b,()),((c,d,e,f,()),())) (λw=>k0 w.1.1,λw=>k1 (),())
theorem B77 {α n m a b c d e f k0 k1}:A5q (α:=α) n (m+1) a b c d e f k0 k1=A9o n a b c d e f (λa b c d e f=>A5q n m a b c d e f k0 k1) k0 k1:=rfl
def f183 (a0:LN) (a1:Nq):Option Int :=
 A5q n n a0 0 a1.1 a1.2.1 a1.2.2.1 a1.2.2.2
  (λa=>(
   some a))
  (λ(_:Unit)=>(
   some (-1)))
def B78:Ent:=⟨183,[hNs,hN],[hI],λx=>f183 n x.1 x.2⟩
def Aqj:D3 α:=⟨[(4,⟨5,[],[]⟩)],[],[(2,⟨Yk,A9n,A4 (A9m n) n⟩)],[]⟩
theorem Ajj:Ap PP (Ae (Aqj α n).reg):=trivial
theorem B17:LO.Sound (α:=α) PP ⟨19,[]⟩ ⟨Yk,A9n,A4 (A9m n) n⟩ (.loop (Ai Tryz.f183 37)):=Cb (D:=Aqj α n) (Ajj α n) n
theorem Bod:D3.OK PP TT ⟨19,[]⟩ (Aqj α n) (Af Tryz.f183) :=
 D3.OK.mk3 (Ajj α n) (by kernel_rfl:A9 _=[(2,.loop (Ai Tryz.f183 37))]) ⟨Aa rfl (B17 α n),trivial⟩
theorem Bis:(B78 n).Sound PP:=fk (fn:=Tryz.f183) (Bod _ n)

def Ab5 {α:Type} (a:Int) (b:LN) (c:Int) (f:Int->LN->Int->Option α) (k0:Bool->Option α) (k1:Unit->Option α):Option α :=
 bif (decide (a<(b.length:Int))) then
  gd (decide (0<=a)&&decide (a<(b.length:Int))) (
   let d:=b.getD a.toNat (0,0,0,0)
   ob (f182 n d a) λe =>
   bif (!e) then
    k0 false
   else
    gd (decide (0<=a)&&decide (a<=(b.length:Int))) (
     gd (decide (0<=a)&&decide (a<(b.length:Int))) (
      let g:=b.getD a.toNat (0,0,0,0)
      ob (f183 n ((b.drop 0).take (a.toNat-0)) g) λh =>
      bif (decide (h>=0)) then
       k0 false
      else
       f (W (a+1)) b c)))
 else
  k1 ()
abbrev Zb:Tm:=⟨[Xe,Ns],[(1,.var 33 true false A7s)],[],[]⟩
abbrev B91:Tm:=⟨[(2,.d .bool)],[],[1],[]⟩
abbrev Ab4:List (Exit × Tm):=[(.ret,B91),(.exit 0,Ajc)]
def Ab3 {α:Type} (v:Zb.den) (f:Zb.den->Option α) (ks:KS α Ab4):Option α:=Ab5 n v.1.2.1 v.2.1.1 v.2.1.2.1 (λa b c=>f (((),a,()),((b,c,()),()))) (λw0=>ks.1 ((w0,()),())) (λ_=>ks.2.1 ((),()))
def A69 {α:Type} (n m:Nat) (a:Int) (b:LN) (c:Int) (k0:Bool->Option α) (k1:Unit->Option α):Option α:=A4 (Ab3 n) m (((),a,()),((b,c,()),())) (λw=>k0 w.1.1,λw=>k1 (),())
theorem B90 {α n m a b c k0 k1}:A69 (α:=α) n (m+1) a b c k0 k1=Ab5 n a b c (λa b c=>A69 n m a b c k0 k1) k0 k1:=rfl
def f115 (a0:LN × Int):Option Bool :=
 ob (f181 n (a0.1.length:Int) 1 60) λa =>
 bif (!a) then
  some false
 else
  bif (a0.2 != (W ((a0.1.length:Int)-1))) then
   some false
  else
   A69 n n 0 a0.1 a0.2
    (λb=>(
     some b))
    (λ(_:Unit)=>(
     some true))
def B92:Ent:=⟨115,[Ft],[.bool],λx=>f115 n x⟩
def Ary:D3 α:=⟨[(1,⟨0,[],[(3,A3 (E8 n))]⟩),(6,⟨18,[],[(6,A3 (B79 n)),(18,A3 (B78 n))]⟩)],[],[(4,⟨Zb,Ab4,A4 (Ab3 n) n⟩)],[]⟩
theorem Akc:Ap PP (Ae (Ary α n).reg):=⟨De n,Bit n,Bis n,trivial⟩
theorem B29:LO.Sound (α:=α) PP ⟨46,[]⟩ ⟨Zb,Ab4,A4 (Ab3 n) n⟩ (.loop (Ai Tryz.f115 75)):=Cb (D:=Ary α n) (Akc α n) n
theorem Bpv:D3.OK PP TT ⟨46,[]⟩ (Ary α n) (Af Tryz.f115) :=
 D3.OK.mk3 (Akc α n) (by kernel_rfl:A9 _=[(4,.loop (Ai Tryz.f115 75))]) ⟨Aa rfl (B29 α n),trivial⟩
theorem Bkf:(B92 n).Sound PP:=fk (fn:=Tryz.f115) (Bpv _ n)

def A8r {α:Type} (a:LI) (b:Int) (f:LI->Int->Option α) (k0:Bool->Option α) (k1:LI->Option α):Option α :=
 bif (decide (b<(a.length:Int))) then
  gd (decide (0<=b)&&decide (b<(a.length:Int))) (
   ob (f181 n (a.getD b.toNat 0) 0 9999) λc =>
   bif (!c) then
    k0 false
   else
    f a (W (b+1)))
 else
  k1 a
abbrev Aj6:Tm:=⟨[(2,.d .bool)],[],[],[]⟩
abbrev A8q:List (Exit × Tm):=[(.ret,Aj6),(.exit 0,A2u)]
def A8p {α:Type} (v:Dd.den) (f:Dd.den->Option α) (ks:KS α A8q):Option α:=A8r n v.1.1 v.1.2.1 (λa b=>f ((a,b,()),())) (λw0=>ks.1 ((w0,()),())) (λw0=>ks.2.1 ((w0,()),()))
def Vt {α:Type} (n m:Nat) (a:LI) (b:Int) (k0:Bool->Option α) (k1:LI->Option α):Option α:=A4 (A8p n) m ((a,b,()),()) (λw=>k0 w.1.1,λw=>k1 w.1.1,())
theorem B6j {α n m a b k0 k1}:Vt (α:=α) n (m+1) a b k0 k1=A8r n a b (λa b=>Vt n m a b k0 k1) k0 k1:=rfl
def f212 (a0:LI):Option Bool :=
 bif (decide ((a0.length:Int)>4096)) then
  some false
 else
  Vt n n a0 0
   (λb=>(
    some b))
   (λa=>(
    bif (decide ((a.length:Int)<=40)) then
     bif ((a.length:Int)==0) then
      some true
     else
      gd (decide (0<=(W ((a.length:Int)-1)))&&decide ((W ((a.length:Int)-1))<(a.length:Int))) (
       some (decide ((a.getD ((W ((a.length:Int)-1)).toNat) 0)>0)))
    else
     some false))
def Apz:Ent:=⟨212,[hIs],[.bool],λx=>f212 n x⟩
def Aq0:D3 α:=⟨[(6,⟨0,[],[(4,A3 (E8 n))]⟩)],[],[(4,⟨Dd,A8q,A4 (A8p n) n⟩)],[]⟩
theorem Aj5:Ap PP (Ae (Aq0 α n).reg):=⟨De n,trivial⟩
theorem B0r:LO.Sound (α:=α) PP ⟨36,[]⟩ ⟨Dd,A8q,A4 (A8p n) n⟩ (.loop (Ai Tryz.f212 75)):=Cb (D:=Aq0 α n) (Aj5 α n) n
theorem Bnr:D3.OK PP TT ⟨36,[]⟩ (Aq0 α n) (Af Tryz.f212) :=
 D3.OK.mk3 (Aj5 α n) (by kernel_rfl:A9 _=[(4,.loop (Ai Tryz.f212 75))]) ⟨Aa rfl (B0r α n),trivial⟩
theorem Aw9:(Apz n).Sound PP:=fk (fn:=Tryz.f212) (Bnr _ n)

def f184 (a0:Rq):Option Bool :=
 let a:=λ(_:Unit)=>(
  ob (f213 n a0.2.1 a0.2.2) λb =>
  ob (f199 n b [1]) λc =>
  some (c==0))
 ob (f212 n a0.2.1) λd =>
 bif (!d) then
  some false
 else
  ob (f212 n a0.2.2) λe =>
  bif (!e) then
   some false
  else
   bif ((a0.2.2.length:Int)==0) then
    some false
   else
    bif ((a0.2.1.length:Int)==0) then
     bif a0.1 then
      some false
     else
      a ()
    else
     a ()
def B76:Ent:=⟨184,[hR],[.bool],λx=>f184 n x⟩
def Boc:D3 α:=⟨[(1,⟨0,[],[(2,A3 (Apz n)),(7,A3 (Apz n))]⟩),(3,⟨0,[],[(4,A3 (Apx n)),(5,B4 hI),(6,A3 (A34 n))]⟩)],[(3,Aw7)],[],[]⟩
theorem Biq:(B76 n).Sound PP:=B9 (fn:=Tryz.f184) (D:=Boc _ n) ⟨Aw9 n,Aw9 n,Aw8 n,A5m n,trivial⟩

def Ab2 {α:Type} (a:LR) (b:Int) (f:LR->Int->Option α) (k0:Bool->Option α) (k1:LR->Option α):Option α :=
 bif (decide (b<(a.length:Int))) then
  gd (decide (0<=b)&&decide (b<(a.length:Int))) (
   let c:=a.getD b.toNat (false,[],[])
   ob (f184 n c) λd =>
   bif (!d) then
    k0 false
   else
    f a (W (b+1)))
 else
  k1 a
abbrev Za:Tm:=⟨[Tu,Ns],[],[],[]⟩
abbrev B8z:Tm:=⟨[Tu],[],[],[]⟩
abbrev Ab1:List (Exit × Tm):=[(.ret,Aj6),(.exit 0,B8z)]
def Ab0 {α:Type} (v:Za.den) (f:Za.den->Option α) (ks:KS α Ab1):Option α:=Ab2 n v.1.1 v.1.2.1 (λa b=>f ((a,b,()),())) (λw0=>ks.1 ((w0,()),())) (λw0=>ks.2.1 ((w0,()),()))
def Wh {α:Type} (n m:Nat) (a:LR) (b:Int) (k0:Bool->Option α) (k1:LR->Option α):Option α:=A4 (Ab0 n) m ((a,b,()),()) (λw=>k0 w.1.1,λw=>k1 w.1.1,())
theorem B8y {α n m a b k0 k1}:Wh (α:=α) n (m+1) a b k0 k1=Ab2 n a b (λa b=>Wh n m a b k0 k1) k0 k1:=rfl
def f116 (a0:LR):Option Bool :=
 bif (decide ((a0.length:Int)>4096)) then
  some false
 else
  Wh n n a0 0
   (λa=>(
    some a))
   (λb=>(
    ob (f181 n (b.length:Int) 1 4) λc =>
    some c))
def Aeb:Ent:=⟨116,[hRs],[.bool],λx=>f116 n x⟩
def Arx:D3 α:=⟨[(6,⟨0,[],[(4,A3 (B76 n))]⟩),(8,⟨0,[],[(2,A3 (E8 n))]⟩)],[],[(4,⟨Za,Ab1,A4 (Ab0 n) n⟩)],[]⟩
theorem Aka:Ap PP (Ae (Arx α n).reg):=⟨Biq n,De n,trivial⟩
theorem B28:LO.Sound (α:=α) PP ⟨22,[]⟩ ⟨Za,Ab1,A4 (Ab0 n) n⟩ (.loop (Ai Tryz.f116 75)):=Cb (D:=Arx α n) (Aka α n) n
theorem Bpu:D3.OK PP TT ⟨22,[]⟩ (Arx α n) (Af Tryz.f116) :=
 D3.OK.mk3 (Aka α n) (by kernel_rfl:A9 _=[(4,.loop (Ai Tryz.f116 75))]) ⟨Aa rfl (B28 α n),trivial⟩
theorem Ahi:(Aeb n).Sound PP:=fk (fn:=Tryz.f116) (Bpu _ n)

def Aaq {α:Type} (n:Nat) (c a:Int) (b:LN) (f:Int->Int->LN->Option α) (k0:Int->Option α):Option α :=
 bif (decide (a<(b.length:Int))) then
  gd (decide (0<=a)&&decide (a<(b.length:Int))) (
   let d:=b.getD a.toNat (0,0,0,0)
   bif (d.1==2) then
    gd (decide (0<=a)&&decide (a<(b.length:Int))) (
     let e:=b.getD a.toNat (0,0,0,0)
     f (max c (W (e.2.2.2+1))) (W (a+1)) b)
   else
    f c (W (a+1)) b)
 else
  k0 c
abbrev Z3:Tm:=⟨[Xe,Ns,(4,.d hI)],[(1,.var 43 true false [.d hNs])],[],[]⟩
abbrev B8p:Tm:=⟨[Ns],[],[1],[]⟩
abbrev Aap:List (Exit × Tm):=[(.exit 0,B8p)]
def Aao {α:Type} (v:Z3.den) (f:Z3.den->Option α) (ks:KS α Aap):Option α:=Aaq n v.1.2.1 v.1.2.2.1 v.2.1.1 (λa b c=>f (((),a,b,()),((c,()),()))) (λw0=>ks.1 ((w0,()),()))
def A66 {α:Type} (n m:Nat) (a b:Int) (c:LN) (k0:Int->Option α):Option α:=A4 (Aao n) m (((),a,b,()),((c,()),())) (λw=>k0 w.1.1,())
theorem B8o {α n m a b c k0}:A66 (α:=α) n (m+1) a b c k0=Aaq n a b c (λa b c=>A66 n m a b c k0) k0:=rfl
def f125 (a0:LN):Option Int :=
 A66 n n 0 0 a0
  (λa=>(
   some a))
def B8q:Ent:=⟨125,[hE],[hI],λx=>f125 n x⟩
def Arq:D3 α:=⟨[],[],[(3,⟨Z3,Aap,A4 (Aao n) n⟩)],[]⟩
theorem Ak3:Ap PP (Ae (Arq α n).reg):=trivial
theorem B22:LO.Sound (α:=α) PP ⟨29,[]⟩ ⟨Z3,Aap,A4 (Aao n) n⟩ (.loop (Ai Tryz.f125 75)):=Cb (D:=Arq α n) (Ak3 α n) n
theorem Bpm:D3.OK PP TT ⟨29,[]⟩ (Arq α n) (Af Tryz.f125) :=
 D3.OK.mk3 (Ak3 α n) (by kernel_rfl:A9 _=[(3,.loop (Ai Tryz.f125 75))]) ⟨Aa rfl (B22 α n),trivial⟩
theorem Bk6:(B8q n).Sound PP:=fk (fn:=Tryz.f125) (Bpm _ n)

def f117 (a0:LN × Int):Option Int :=
 ob (f125 n a0.1) λa =>
 some a
def B8x:Ent:=⟨117,[Ft],[hI],λx=>f117 n x⟩
def Bpt:D3 α:=⟨[(1,⟨0,[],[(3,A3 (B8q n))]⟩)],[],[],[]⟩
theorem Bke:(B8x n).Sound PP:=B9 (fn:=Tryz.f117) (D:=Bpt _ n) ⟨Bk6 n,trivial⟩

abbrev Bmu:Tm:=⟨[F4,Cs,(9,.d .bool)],[Ali],[],[]⟩
def f65 (a0:LN × Int) (a1:LR):Option Int :=
 bif (decide ((a1.length:Int)>4096)) then
  some 2
 else
  let a:=λ(b:Bool)=>(
   bif b then
    some 1
   else
    ob (f117 n a0) λc =>
    bif (decide ((a1.length:Int)<c)) then
     some 8
    else
     some 0)
  ob (f115 n a0) λd =>
  bif (!d) then
   a true
  else
   ob (f116 n a1) λe =>
   a (!e)
def B05:Ent:=⟨65,[Ft,hRs],[hI],λx=>f65 n x.1 x.2⟩
def Brd:D3 α:=⟨[(3,⟨0,[],[(1,A3 (B92 n)),(5,A3 (Aeb n))]⟩),(5,⟨0,[],[(3,A3 (B8x n))]⟩)],[(4,Bmu)],[],[]⟩
theorem B5q:(B05 n).Sound PP:=B9 (fn:=Tryz.f65) (D:=Brd _ n) ⟨Bkf n,Ahi n,Bke n,trivial⟩

def A9c {α:Type} (n:Nat) (b c:LI) (d a:Int) (e:LI) (f:LI->LI->Int->Int->LI->Option α) (k0:LI->Option α):Option α :=
 let g:=λ(_:Unit)=>(
  let h:=λ(i:Int)=>(
   let j:=λ(k:Int)=>(
    gd (decide ((e.length+1)*8<=140737488355328)) (
     f b c (W (Int.tdiv k 10000)) (W (a+1)) (e++[(Int.tmod k 10000)])))
   bif (decide (a<(c.length:Int))) then
    gd (decide (0<=a)&&decide (a<(c.length:Int))) (
     j (W (i+(c.getD a.toNat 0))))
   else
    j i)
  bif (decide (a<(b.length:Int))) then
   gd (decide (0<=a)&&decide (a<(b.length:Int))) (
    h (W (d+(b.getD a.toNat 0))))
  else
   h d)
 bif (decide (a<(b.length:Int))) then
  g ()
 else
  bif (decide (a<(c.length:Int))) then
   g ()
  else
   bif (decide (d>0)) then
    g ()
   else
    k0 e
abbrev Yi:Tm:=⟨[Hs,Eg,(5,.k (.hw 8)),Ed,Dr],[(8,.arr 3 hI false)],[48],[]⟩
abbrev A9b:List (Exit × Tm):=[(.exit 0,Ak0)]
def A9a {α:Type} (v:Yi.den) (f:Yi.den->Option α) (ks:KS α A9b):Option α:=A9c n v.1.1 v.1.2.1 v.1.2.2.2.1 v.1.2.2.2.2.1 v.2.1 (λa b c d e=>f ((a,b,(),c,d,()),(e,()))) (λw0=>ks.1 (((),()),(w0,())))
def Vx {α:Type} (n m:Nat) (a b:LI) (c d:Int) (e:LI) (k0:LI->Option α):Option α:=A4 (A9a n) m ((a,b,(),c,d,()),(e,())) (λw=>k0 w.2.1,())
theorem B6x {α n m a b c d e k0}:Vx (α:=α) n (m+1) a b c d e k0=A9c n a b c d e (λa b c d e=>Vx n m a b c d e k0) k0:=rfl
def f198 (a0 a1:LI):Option LI :=
 Vx n n a0 a1 0 0 []
  (λa=>(
   some a))
def B6y:Ent:=⟨198,[hIs,hIs],[hIs],λx=>f198 n x.1 x.2⟩
def Aqh:D3 α:=⟨[(1,⟨0,[],[Gn]⟩),(10,⟨0,[],[(3,B4 hI)]⟩)],[(6,Qy),(8,Qy),(10,Qy)],[(4,⟨Yi,A9b,A4 (A9a n) n⟩)],[]⟩
theorem Ajf:Ap PP (Ae (Aqh α n).reg):=trivial
theorem B13:LO.Sound (α:=α) PP ⟨53,[]⟩ ⟨Yi,A9b,A4 (A9a n) n⟩ (.loop (Ai Tryz.f198 151)):=Cb (D:=Aqh α n) (Ajf α n) n
theorem Bo6:D3.OK PP TT ⟨53,[]⟩ (Aqh α n) (Af Tryz.f198) :=
 D3.OK.mk3 (Ajf α n) (by kernel_rfl:A9 _=[(4,.loop (Ai Tryz.f198 151))]) ⟨Aa rfl (B13 α n),trivial⟩
theorem Bij:(B6y n).Sound PP:=fk (fn:=Tryz.f198) (Bo6 _ n)

def f138 (a0 a1:Rq):Option Rq :=
 ob (f196 n a0.2.1 a1.2.2) λa =>
 ob (f196 n a1.2.1 a0.2.2) λb =>
 ob (f196 n a0.2.2 a1.2.2) λc =>
 bif (a0.1==a1.1) then
  ob (f198 n a b) λd =>
  ob (f197 n a0.1 d c) λe =>
  some e
 else
  ob (f199 n a b) λf =>
  bif (decide (f>=0)) then
   ob (f200 n a b) λg =>
   ob (f197 n a0.1 g c) λh =>
   some h
  else
   ob (f200 n b a) λi =>
   ob (f197 n a1.1 i c) λj =>
   some j
def He:Ent:=⟨138,[hR,hR],[hR],λx=>f138 n x.1 x.2⟩
def Bpj:D3 α:=⟨[(1,⟨0,[],[(4,A3 (Or n))]⟩),(2,⟨0,[],[(4,A3 (Or n))]⟩),(3,⟨0,[],[(4,A3 (Or n))]⟩),(5,⟨6,[],[(4,A3 (B6y n)),(6,A3 (Vy n))]⟩),(6,⟨0,[],[(2,A3 (A34 n))]⟩),(7,⟨6,[],[(4,A3 (Adm n)),(6,A3 (Vy n))]⟩),(8,⟨6,[],[(4,A3 (Adm n)),(6,A3 (Vy n))]⟩)],[],[],[]⟩
theorem Fe:(He n).Sound PP:=B9 (fn:=Tryz.f138) (D:=Bpj _ n) ⟨It n,It n,It n,Bij n,Qq n,A5m n,Ah3 n,Qq n,Ah3 n,Qq n,trivial⟩

def f143 (n:Nat) (a0:Rq):Option Rq :=
 bif (!a0.1) then
  some ((decide ((a0.2.1.length:Int)>0)),a0.2)
 else
  some (false,a0.2)
def Ow:Ent:=⟨143,[hR],[hR],λx=>f143 n x⟩
def Bpe (α:Type) (n:Nat):D3 α:=⟨[],[],[],[]⟩
theorem Wd:(Ow n).Sound PP:=B9 (fn:=Tryz.f143) (D:=Bpe _ n) trivial

def f139 (a0 a1:Rq):Option Rq :=
 ob (f143 n a1) λa =>
 ob (f138 n a0 a) λb =>
 some b
def B8k:Ent:=⟨139,[hR,hR],[hR],λx=>f139 n x.1 x.2⟩
def Bpi:D3 α:=⟨[(1,⟨3,[],[(2,A3 (Ow n)),(3,A3 (He n))]⟩)],[],[],[]⟩
theorem Bk4:(B8k n).Sound PP:=B9 (fn:=Tryz.f139) (D:=Bpi _ n) ⟨Wd n,Fe n,trivial⟩

def f140 (a0 a1:Rq):Option Rq :=
 ob (f196 n a0.2.1 a1.2.1) λa =>
 ob (f196 n a0.2.2 a1.2.2) λb =>
 ob (f197 n (!(a0.1==a1.1)) a b) λc =>
 some c
def C8:Ent:=⟨140,[hR,hR],[hR],λx=>f140 n x.1 x.2⟩
abbrev Bez:List (Nat × OA):=[(9,A3 (Or n)),(14,A3 (Or n)),(15,A3 (Vy n))]
def Bph:D3 α:=⟨[(1,⟨15,[],(Bez n)⟩)],[],[],[]⟩
theorem Cd:(C8 n).Sound PP:=B9 (fn:=Tryz.f140) (D:=Bph _ n) ⟨It n,It n,Qq n,trivial⟩

def f141 (n:Nat) (a0:Rq):Option Bool :=
 some ((a0.2.1.length:Int)==0)
def B8j:Ent:=⟨141,[hR],[.bool],λx=>f141 n x⟩
def Bpg (α:Type) (n:Nat):D3 α:=⟨[],[],[],[]⟩
theorem Bk3:(B8j n).Sound PP:=B9 (fn:=Tryz.f141) (D:=Bpg _ n) trivial

def f142 (a0 a1:Rq):Option Rq :=
 ob (f196 n a0.2.1 a1.2.2) λa =>
 ob (f196 n a0.2.2 a1.2.1) λb =>
 ob (f197 n (!(a0.1==a1.1)) a b) λc =>
 some c
def A3k:Ent:=⟨142,[hR,hR],[hR],λx=>f142 n x.1 x.2⟩
def Bpf:D3 α:=⟨[(1,⟨15,[],(Bez n)⟩)],[],[],[]⟩
theorem Axg:(A3k n).Sound PP:=B9 (fn:=Tryz.f142) (D:=Bpf _ n) ⟨It n,It n,Qq n,trivial⟩

def Aan {α:Type} (b c:Int) (d:Bool) (e g:LI) (h i:Bool) (j k:LI) (f:Int->Int->Bool->LI->LI->Bool->Bool->LI->LI->Option α) (k0:Bool->Bool->LI->LI->Option α):Option α :=
 bif (decide (c<b)) then
  ob (f140 n (i,j,k) (d,e,g)) λa =>
  f b (W (c+1)) d e g h a.1 a.2.1 a.2.2
 else
  k0 h i j k
abbrev Z2:Tm:=⟨[(1,.d hI),Cs,Bo,Bt,Ed],[(2,.var 54 true false G7),A17,Abq],[],[]⟩
abbrev Aam:List (Exit × Tm):=[(.exit 0,Ajq)]
def Aal {α:Type} (v:Z2.den) (f:Z2.den->Option α) (ks:KS α Aam):Option α:=Aan n v.1.1 v.1.2.2.2.2.1 v.2.1.1 v.2.1.2.1 v.2.1.2.2.1 v.2.2.1.1 v.2.2.2.1.1 v.2.2.2.1.2.1 v.2.2.2.1.2.2.1 (λa b c d e g h i j=>f ((a,(),(),(),b,()),((c,d,e,()),(g,(),(),()),(h,i,j,()),()))) (λw0 w1 w2 w3=>ks.1 (((),(),()),((w0,(),(),()),(w1,w2,w3,()),())))
def A65 {α:Type} (n m:Nat) (a b:Int) (c:Bool) (d e:LI) (f g:Bool) (h i:LI) (k0:Bool->Bool->LI->LI->Option α):Option α:=A4 (Aal n) m ((a,(),(),(),b,()),((c,d,e,()),(f,(),(),()),(g,h,i,()),())) (λw=>k0 w.2.1.1 w.2.2.1.1 w.2.2.1.2.1 w.2.2.1.2.2.1,())
theorem B8i {α n m a b c d e f g h i k0}:A65 (α:=α) n (m+1) a b c d e f g h i k0=Aan n a b c d e f g h i (λa b c d e f g h i=>A65 n m a b c d e f g h i k0) k0:=rfl
def f144 (a0:Rq) (a1:Int):Option Rq :=
 ob (f131 n 1) λa =>
 A65 n n a1 0 a0.1 a0.2.1 a0.2.2 false a.1 a.2.1 a.2.2
  (λe b c d=>(
   some (b,c,d)))
def A3j:Ent:=⟨144,[hR,hI],[hR],λx=>f144 n x.1 x.2⟩
abbrev A4i:List (Nat × OA):=[(0,A3 (Hf n))]
def Aro:D3 α:=⟨[(1,⟨0,[],(A4i n)⟩),(5,⟨0,[],[(2,A3 (C8 n))]⟩)],[],[(3,⟨Z2,Aam,A4 (Aal n) n⟩)],[]⟩
theorem Ak2:Ap PP (Ae (Aro α n).reg):=⟨Dl n,Cd n,trivial⟩
theorem B21:LO.Sound (α:=α) PP ⟨17,[]⟩ ⟨Z2,Aam,A4 (Aal n) n⟩ (.loop (Ai Tryz.f144 75)):=Cb (D:=Aro α n) (Ak2 α n) n
theorem Bpd:D3.OK PP TT ⟨17,[]⟩ (Aro α n) (Af Tryz.f144) :=
 D3.OK.mk3 (Ak2 α n) (by kernel_rfl:A9 _=[(3,.loop (Ai Tryz.f144 75))]) ⟨Aa rfl (B21 α n),trivial⟩
theorem Ahd:(A3j n).Sound PP:=fk (fn:=Tryz.f144) (Bpd _ n)

def f145 (n:Nat) (a0:Rq):Option Bool :=
 bif (decide ((a0.2.1.length:Int)<=40)) then
  some (decide ((a0.2.2.length:Int)<=40))
 else
  some false
def A3i:Ent:=⟨145,[hR],[.bool],λx=>f145 n x⟩
def Bpc (α:Type) (n:Nat):D3 α:=⟨[],[],[],[]⟩
theorem A64:(A3i n).Sound PP:=B9 (fn:=Tryz.f145) (D:=Bpc _ n) trivial

abbrev Axi:Tm:=⟨[Xe,Cs],[(1,.var 54 true false G7),(2,.var 54 true false zq7)],[],[]⟩
def f127 (n:Nat) (a0:Rq):Option Rq :=
 gd (decide ((0+a0.2.1.length)*8<=140737488355328)) (
  gd (decide ((0+a0.2.2.length)*8<=140737488355328)) (
   some a0))
def Arp:Ent:=⟨127,[hR],[hR],λx=>f127 n x⟩
def B8n (α:Type) (n:Nat):D3 α:=⟨[(1,⟨0,[],[(2,B4 hI),(6,B4 hI)]⟩)],[],[],[(1,Axi)]⟩
theorem Bk5 (n:Nat):Ah TT ⟨14,[]⟩ [(2,B4 hI),(6,B4 hI)] Axi (Ag Tryz.f127 5):=by
 refine ⟨by kernel_rfl,λw q hq=>?_⟩
 obtain rfl:=Be [] hq (by kernel_rfl)
 all_goals exact .inl (K7.mk (by kernel_rfl))
theorem B8m:Ap PP (Ae (B8n α n).reg):=trivial
theorem Bpl:D3.OK PP TT ⟨14,[]⟩ (B8n α n) (Af Tryz.f127) :=
 D3.OK.mk3a (B8m α n) (by kernel_rfl:A9 _=[]) trivial (by kernel_rfl:Ax _=[(1,Ag Tryz.f127 5)]) ⟨⟨Bk5 n,trivial⟩,trivial⟩
theorem Axh:(Arp n).Sound PP:=fk (fn:=Tryz.f127) (Bpl _ n)

def Vm {α:Type} (g:LR) (d:Int) (e:LN) (t:Int) (b:LR) (f:LR->Int->LN->Int->LR->Option α) (k0:LR->Int->Option α) (k1:LR->Option α):Option α :=
 bif (decide (d<(e.length:Int))) then
  gd (decide (0<=d)&&decide (d<(e.length:Int))) (
   let a:=e.getD d.toNat (0,0,0,0)
   ob (f131 n a.2.2.2) λh =>
   let c:=λ(q:Bool) (r:LI) (s:LI)=>(
    ob (f145 n (q,r,s)) λu =>
    bif (!u) then
     k0 [] 7
    else
     ob (f127 n (q,r,s)) λv =>
     gd (decide ((b.length+1)*56<=140737488355328)) (
      f g (W (d+1)) e t (b++[v])))
   bif (a.1==1) then
    c h.1 h.2.1 h.2.2
   else
    bif (a.1==2) then
     gd (decide (0<=a.2.2.2)&&decide (a.2.2.2<(g.length:Int))) (
      let i:=g.getD a.2.2.2.toNat (false,[],[])
      c i.1 i.2.1 i.2.2)
    else
     bif (a.1==3) then
      gd (decide (0<=a.2.1)&&decide (a.2.1<(b.length:Int))) (
       gd (decide (a.2.1.toNat<b.length)) (
        let w:=b.getD a.2.1.toNat (false,[],[])
        gd (decide (0<=a.2.2.1)&&decide (a.2.2.1<(b.length:Int))) (
         gd (decide (a.2.2.1.toNat<b.length)) (
          let x:=b.getD a.2.2.1.toNat (false,[],[])
          ob (f138 n w x) λj =>
          c j.1 j.2.1 j.2.2))))
     else
      bif (a.1==4) then
       gd (decide (0<=a.2.1)&&decide (a.2.1<(b.length:Int))) (
        gd (decide (a.2.1.toNat<b.length)) (
         let y:=b.getD a.2.1.toNat (false,[],[])
         gd (decide (0<=a.2.2.1)&&decide (a.2.2.1<(b.length:Int))) (
          gd (decide (a.2.2.1.toNat<b.length)) (
           let z:=b.getD a.2.2.1.toNat (false,[],[])
           ob (f139 n y z) λk =>
           c k.1 k.2.1 k.2.2))))
      else
       bif (a.1==5) then
        gd (decide (0<=a.2.1)&&decide (a.2.1<(b.length:Int))) (
         gd (decide (a.2.1.toNat<b.length)) (
          let d0:=b.getD a.2.1.toNat (false,[],[])
          gd (decide (0<=a.2.2.1)&&decide (a.2.2.1<(b.length:Int))) (
           gd (decide (a.2.2.1.toNat<b.length)) (
            let d1:=b.getD a.2.2.1.toNat (false,[],[])
            ob (f140 n d0 d1) λl =>
            c l.1 l.2.1 l.2.2))))
       else
        bif (a.1==6) then
         gd (decide (0<=a.2.2.1)&&decide (a.2.2.1<(b.length:Int))) (
          gd (decide (a.2.2.1.toNat<b.length)) (
           let d2:=b.getD a.2.2.1.toNat (false,[],[])
           ob (f141 n d2) λd3 =>
           bif d3 then
            k0 [] 10
           else
            gd (decide (0<=a.2.1)&&decide (a.2.1<(b.length:Int))) (
             gd (decide (a.2.1.toNat<b.length)) (
              let d4:=b.getD a.2.1.toNat (false,[],[])
              gd (decide (0<=a.2.2.1)&&decide (a.2.2.1<(b.length:Int))) (
               gd (decide (a.2.2.1.toNat<b.length)) (
                let d5:=b.getD a.2.2.1.toNat (false,[],[])
                ob (f142 n d4 d5) λm =>
                c m.1 m.2.1 m.2.2))))))
        else
         bif (a.1==7) then
          gd (decide (0<=a.2.1)&&decide (a.2.1<(b.length:Int))) (
           gd (decide (a.2.1.toNat<b.length)) (
            let d6:=b.getD a.2.1.toNat (false,[],[])
            ob (f143 n d6) λo =>
            c o.1 o.2.1 o.2.2))
         else
          gd (decide (0<=a.2.1)&&decide (a.2.1<(b.length:Int))) (
           gd (decide (a.2.1.toNat<b.length)) (
            let d7:=b.getD a.2.1.toNat (false,[],[])
            ob (f144 n d7 a.2.2.2) λp =>
            c p.1 p.2.1 p.2.2)))
 else
  k1 b
abbrev A55:Tm:=⟨[F4,Cs,(6,.k (.hw 10)),Dr],[Ali,(10,.arr 54 hR false)],[9,119],[]⟩
abbrev Bcd:Tm:=⟨[(4,.d hRs),Ik],[],[2,8,9,10,92,115],[(4,hRs)]⟩
abbrev Bcc:Tm:=⟨[(6,.k (.hw 10))],[(10,.arr 54 hR false)],[2],[]⟩
abbrev Ag6:List (Exit × Tm):=[(.ret,Bcd),(.exit 0,Bcc)]
def Ag5 {α:Type} (v:A55.den) (f:A55.den->Option α) (ks:KS α Ag6):Option α:=Vm n v.1.1 v.1.2.2.2.1 v.2.1.1 v.2.1.2.1 v.2.2.1 (λa b c d e=>f ((a,(),(),b,()),((c,d,()),e,()))) (λw0 w1=>ks.1 ((w0,w1,()),())) (λw0=>ks.2.1 (((),()),(w0,())))
def Acz {α:Type} (n m:Nat) (a:LR) (b:Int) (c:LN) (d:Int) (e:LR) (k0:LR->Int->Option α) (k1:LR->Option α):Option α:=A4 (Ag5 n) m ((a,(),(),b,()),((c,d,()),e,())) (λw=>k0 w.1.1 w.1.2.1,λw=>k1 w.2.1,())
theorem Bcb {α n m a b c d e k0 k1}:Acz (α:=α) n (m+1) a b c d e k0 k1=Vm n a b c d e (λa b c d e=>Acz n m a b c d e k0 k1) k0 k1:=rfl
abbrev Bhu:Tm:=⟨[F4,Cs,(6,.k (.hw 10)),Dr,K9],[Ali,Ald,(10,.arr 54 hR false)],[8],[]⟩
def f88 (a0:LN × Int) (a1:LR):Option Il :=
 Acz n n a1 0 a0.1 a0.2 []
  (λa b=>(
   some (a,b)))
  (λc=>(
   some (c,0)))
def Azx:Ent:=⟨88,[Ft,hRs],[hRs,hI],λx=>f88 n x.1 x.2⟩
def Azy:D3 α:=⟨[(1,⟨0,[],F5⟩),(6,⟨0,[],[(2,A3 (Hf n))]⟩),(8,⟨7,[],[(7,A3 (A3j n))]⟩),(13,⟨10,[],[(10,A3 (He n))]⟩),(15,⟨10,[],[(10,A3 (B8k n))]⟩),(17,⟨10,[],[(10,A3 (C8 n))]⟩),(19,⟨0,[],[(5,A3 (B8j n))]⟩),(20,⟨0,[],F5⟩),(21,⟨10,[],[(10,A3 (A3k n))]⟩),(23,⟨0,[],[(5,A3 (Ow n))]⟩),(24,⟨0,[],[(1,A3 (A3i n))]⟩),(25,⟨0,[],F5⟩),(26,⟨0,[],[(2,A3 (Arp n)),(3,B4 hR)]⟩)],[(24,Bhu)],[(3,⟨A55,Ag6,A4 (Ag5 n) n⟩)],[]⟩
theorem Ap1:Ap PP (Ae (Azy α n).reg):=⟨Dl n,Ahd n,Fe n,Bk4 n,Cd n,Bk3 n,Axg n,Wd n,A64 n,Axh n,trivial⟩
theorem B5e:LO.Sound (α:=α) PP ⟨122,[]⟩ ⟨A55,Ag6,A4 (Ag5 n) n⟩ (.loop (Ai Tryz.f88 75)):=Cb (D:=Azy α n) (Ap1 α n) n
theorem Br3:D3.OK PP TT ⟨122,[]⟩ (Azy α n) (Af Tryz.f88) :=
 D3.OK.mk3 (Ap1 α n) (by kernel_rfl:A9 _=[(3,.loop (Ai Tryz.f88 75))]) ⟨Aa rfl (B5e α n),trivial⟩
theorem B5d:(Azx n).Sound PP:=fk (fn:=Tryz.f88) (Br3 _ n)

def Aaz {α:Type} (b c:Int) (a:LR) (f:Int->Int->LR->Option α) (k0:LR->Option α):Option α :=
 bif (decide (c<b)) then
  ob (f131 n 0) λd =>
  gd (decide ((a.length+1)*56<=140737488355328)) (
   f b (W (c+1)) (a++[d]))
 else
  k0 a
abbrev Ic:Tm:=⟨[(0,.d hI),(3,.k (.hw 5)),(4,.d hI)],[(5,.arr 54 hR false)],[13],[]⟩
abbrev Ak8:Tm:=⟨[(3,.k (.hw 5))],[(5,.arr 54 hR false)],[],[]⟩
abbrev Aay:List (Exit × Tm):=[(.exit 0,Ak8)]
def Aax {α:Type} (v:Ic.den) (f:Ic.den->Option α) (ks:KS α Aay):Option α:=Aaz n v.1.1 v.1.2.2.1 v.2.1 (λa b c=>f ((a,(),b,()),(c,()))) (λw0=>ks.1 (((),()),(w0,())))
def A68 {α:Type} (n m:Nat) (a b:Int) (c:LR) (k0:LR->Option α):Option α:=A4 (Aax n) m ((a,(),b,()),(c,())) (λw=>k0 w.2.1,())
theorem B8w {α n m a b c k0}:A68 (α:=α) n (m+1) a b c k0=Aaz n a b c (λa b c=>A68 n m a b c k0) k0:=rfl
def f118 (a0:Int):Option LR :=
 A68 n n a0 0 []
  (λa=>(
   some a))
def Arv:Ent:=⟨118,[hI],[hRs],λx=>f118 n x⟩
def Arw:D3 α:=⟨[(1,⟨0,[],F5⟩),(5,⟨0,[],[(A4g n),(2,B4 hR)]⟩)],[],[(3,⟨Ic,Aay,A4 (Aax n) n⟩)],[]⟩
theorem Ak7:Ap PP (Ae (Arw α n).reg):=⟨Dl n,trivial⟩
theorem B26:LO.Sound (α:=α) PP ⟨16,[]⟩ ⟨Ic,Aay,A4 (Aax n) n⟩ (.loop (Ai Tryz.f118 75)):=Cb (D:=Arw α n) (Ak7 α n) n
theorem Bps:D3.OK PP TT ⟨16,[]⟩ (Arw α n) (Af Tryz.f118) :=
 D3.OK.mk3 (Ak7 α n) (by kernel_rfl:A9 _=[(3,.loop (Ai Tryz.f118 75))]) ⟨Aa rfl (B26 α n),trivial⟩
theorem Axl:(Arv n).Sound PP:=fk (fn:=Tryz.f118) (Bps _ n)

def A3p {α:Type} (b c:Int) (a:LR) (f:Int->Int->LR->Option α) (k0:LR->Option α):Option α :=
 bif (decide (c<b)) then
  ob (f131 n 0) λd =>
  gd (decide ((a.length+1)*56<=140737488355328)) (
   f b (W (c+1)) (a++[d]))
 else
  k0 a
abbrev A3o:List (Exit × Tm):=[(.exit 0,Ak8)]
def A3n {α:Type} (v:Ic.den) (f:Ic.den->Option α) (ks:KS α A3o):Option α:=A3p n v.1.1 v.1.2.2.1 v.2.1 (λa b c=>f ((a,(),b,()),(c,()))) (λw0=>ks.1 (((),()),(w0,())))
def Z8 {α:Type} (n m:Nat) (a b:Int) (c:LR) (k0:LR->Option α):Option α:=A4 (A3n n) m ((a,(),b,()),(c,())) (λw=>k0 w.2.1,())
theorem B27 {α n m a b c k0}:Z8 (α:=α) n (m+1) a b c k0=A3p n a b c (λa b c=>Z8 n m a b c k0) k0:=rfl
def Z9 (a0:Int):Option LR :=
 Z8 n n a0 0 []
  (λa=>(
   some a))
def Wg:Ent3:=⟨118,[.im hI],[[.one (.own 54 hR)]],λx=>Z9 n x,[]⟩
def Ahh:D3 α:=⟨[(1,⟨0,[],F5⟩),(5,⟨0,[],[(A4g n),(2,B4 hR)]⟩)],[],[(3,⟨Ic,A3o,A4 (A3n n) n⟩)],[]⟩
theorem Aea:Ap PP (Ae (Ahh α n).reg):=⟨Dl n,trivial⟩
theorem Aua:LO.Sound (α:=α) PP ⟨16,[]⟩ ⟨Ic,A3o,A4 (A3n n) n⟩ (.loop (Ai Tryz.f118 75)):=Cb (D:=Ahh α n) (Aea α n) n
theorem Bkd:D3.OK PP TT ⟨16,[]⟩ (Ahh α n) (Af Tryz.f118) :=
 D3.OK.mk3 (Aea α n) (by kernel_rfl:A9 _=[(3,.loop (Ai Tryz.f118 75))]) ⟨Aa rfl (Aua α n),trivial⟩
theorem Z7:(Wg n).Sound PP:=Vl (fn:=Tryz.f118) (Bkd _ n)

abbrev A62:Tm:=⟨[F7,Cu,Dk,K9,Da,Dt],[P3,R8,R9,Ra,Abt,(11,.var 54 true false G7)],[3],[]⟩
abbrev Axf:Tm:=⟨[F4,Gm,C4,F7,Cu,Dk,K9],[A18,P3,R8,R9,Ra],[10,11],[]⟩
abbrev Arm:Tm:=⟨[F4,Gm,C4,F7,Cu,Dk,K9,Dt],[A18,P3,R8,R9,Ra,(11,.var 54 true false G7)],[10],[]⟩
abbrev Arl:Tm:=⟨[F4,Gm,C4,F7,Cu,Dk,K9,A4j,R6,(14,.k (.hp 14 0 0))],[A18,P3,R8,R9,Ra,Alf,Rb,Alg],[11],[]⟩
abbrev Ark:Tm:=⟨[F4,Gm,C4,F7,Cu,Dk,K9,A4j,R6,(14,.k (.hp 14 0 0)),(15,.k (.hp 15 0 0))],[A18,P3,R8,R9,Ra,Alf,Rb,Alg,Alh],[],[]⟩
abbrev Arj:Tm:=⟨[F4,Gm,C4,F7,Cu,Dk,K9,A4j,R6,(14,.k (.hp 14 0 0)),(15,.k (.hp 15 0 0)),(16,.k (.hp 16 0 0))],[A18,P3,R8,R9,Ra,Alf,Rb,Alg,Alh,(16,.var 54 true false G7)],[],[]⟩
abbrev Ari:Tm:=⟨[F7,Cu,Dk,K9,A4j,(15,.k (.hp 15 0 0)),(16,.k (.hp 16 0 0)),(17,.k (.hp 17 0 0))],[P3,R8,R9,Ra,Alf,Alh,(16,.var 54 true false G7),(17,.var 54 true false G7)],[3,13,14],[]⟩
abbrev Nb:Tm:=⟨[F7,Cu,Dk,K9,Da],[P3,R8,R9,Ra,Abt],[3,11],[]⟩
abbrev Arh:Tm:=⟨[F4,Gm,C4,F7,Cu,Dk,K9,Da],[A18,P3,R8,R9,Ra,Abt],[11],[]⟩
abbrev Arg:Tm:=⟨[F7,Cu,Dk,K9,Da,(18,.k (.hp 18 0 0)),(19,.k (.hp 19 0 0))],[P3,R8,R9,Ra,Abt,(18,.var 54 true false G7),(19,.var 54 true false G7)],[],[]⟩
abbrev Bdt:Tm:=⟨[F7,Cu,Dk,K9,Da,(18,.k (.hp 18 0 0)),(19,.k (.hp 19 0 0))],[P3,R8,R9,Ra,Abt,(18,.var 54 true false G7),(19,.var 54 true false G7)],[3],[]⟩
def f148 (a0:Nq) (a1 a2:LR):Option (Rq × Rq × Rq × Rq) :=
 ob (f131 n 0) λa =>
 ob (f131 n 1) λb =>
 bif (a0.1==3) then
  some (b,b,a,a)
 else
  bif (a0.1==4) then
   ob (f131 n (-1)) λg =>
   some (b,g,a,a)
  else
   bif (a0.1==5) then
    gd (decide (0<=a0.2.2.1)&&decide (a0.2.2.1<(a1.length:Int))) (
     let h:=a1.getD a0.2.2.1.toNat (false,[],[])
     gd (decide (0<=a0.2.1)&&decide (a0.2.1<(a1.length:Int))) (
      let i:=a1.getD a0.2.1.toNat (false,[],[])
      gd (decide (0<=a0.2.2.1)&&decide (a0.2.2.1<(a2.length:Int))) (
       let j:=a2.getD a0.2.2.1.toNat (false,[],[])
       gd (decide (0<=a0.2.1)&&decide (a0.2.1<(a2.length:Int))) (
        let k:=a2.getD a0.2.1.toNat (false,[],[])
        some (h,i,j,k)))))
   else
    bif (a0.1==6) then
     gd (decide (0<=a0.2.2.1)&&decide (a0.2.2.1<(a1.length:Int))) (
      let l:=a1.getD a0.2.2.1.toNat (false,[],[])
      ob (f142 n b l) λc =>
      ob (f140 n c c) λd =>
      ob (f140 n d c) λm =>
      gd (decide (0<=a0.2.2.1)&&decide (a0.2.2.1<(a2.length:Int))) (
       let o:=a2.getD a0.2.2.1.toNat (false,[],[])
       ob (f140 n o d) λp =>
       ob (f143 n p) λq =>
       gd (decide (0<=a0.2.1)&&decide (a0.2.1<(a1.length:Int))) (
        let r:=a1.getD a0.2.1.toNat (false,[],[])
        ob (f140 n r d) λs =>
        ob (f143 n s) λt =>
        gd (decide (0<=a0.2.1)&&decide (a0.2.1<(a2.length:Int))) (
         let u:=a2.getD a0.2.1.toNat (false,[],[])
         ob (f140 n u d) λv =>
         ob (f143 n v) λw =>
         ob (f131 n 2) λx =>
         gd (decide (0<=a0.2.1)&&decide (a0.2.1<(a1.length:Int))) (
          let y:=a1.getD a0.2.1.toNat (false,[],[])
          gd (decide (0<=a0.2.2.1)&&decide (a0.2.2.1<(a2.length:Int))) (
           let z:=a2.getD a0.2.2.1.toNat (false,[],[])
           ob (f140 n y z) λd0 =>
           ob (f140 n d0 m) λd1 =>
           ob (f140 n x d1) λd2 =>
           ob (f138 n w d2) λd3 =>
           some (c,t,q,d3)))))))
    else
     bif (a0.1==7) then
      ob (f131 n (-1)) λd4 =>
      some (d4,a,a,a)
     else
      bif (a0.1==8) then
       bif (a0.2.2.2==0) then
        some (a,a,a,a)
       else
        ob (f131 n a0.2.2.2) λd5 =>
        gd (decide (0<=a0.2.1)&&decide (a0.2.1<(a1.length:Int))) (
         let d6:=a1.getD a0.2.1.toNat (false,[],[])
         ob (f144 n d6 (W (a0.2.2.2-1))) λd7 =>
         ob (f140 n d5 d7) λd8 =>
         let f:=λ(d9:Bool) (e0:LI) (e1:LI)=>(
          some (d8,a,(d9,e0,e1),a))
         bif (decide (a0.2.2.2>1)) then
          ob (f131 n (W (a0.2.2.2*(W (a0.2.2.2-1))))) λe2 =>
          gd (decide (0<=a0.2.1)&&decide (a0.2.1<(a1.length:Int))) (
           let e3:=a1.getD a0.2.1.toNat (false,[],[])
           ob (f144 n e3 (W (a0.2.2.2-2))) λe4 =>
           ob (f140 n e2 e4) λe5 =>
           gd (decide (0<=a0.2.1)&&decide (a0.2.1<(a2.length:Int))) (
            let e6:=a2.getD a0.2.1.toNat (false,[],[])
            ob (f140 n e5 e6) λe =>
            f e.1 e.2.1 e.2.2))
         else
          f a.1 a.2.1 a.2.2)
      else
       some (a,a,a,a)
def Arn:Ent:=⟨148,[hN,hRs,hRs],[hR,hR,hR,hR],λx=>f148 n x.1 x.2.1 x.2.2⟩
abbrev Bl9:List (Nat × OA):=[(6,A3 (C8 n)),(7,A3 (Ow n)),(8,A3 (Hf n)),(19,A3 (C8 n)),(21,A3 (C8 n)),(22,A3 (C8 n)),(23,A3 (He n))]
abbrev Als:List (Nat × OA):=[(6,A3 (C8 n)),(7,A3 (Ow n))]
abbrev Bex:List (Nat × OA):=[(2,A3 (Hf n)),(11,A3 (A3j n)),(12,A3 (C8 n))]
def B8g:D3 α:=⟨[(1,⟨0,[],(A4i n)⟩),(2,⟨0,[],(A4i n)⟩),(7,⟨0,[],[(A4g n)]⟩),(11,⟨0,[],[(6,A3 (A3k n))]⟩),(12,⟨0,[],[(2,A3 (C8 n))]⟩),(13,⟨0,[],[(2,A3 (C8 n))]⟩),(14,⟨0,[],(Als n)⟩),(15,⟨0,[],(Als n)⟩),(16,⟨0,[],(Bl9 n)⟩),(19,⟨0,[],(A4i n)⟩),(23,⟨0,[],(Bex n)⟩),(26,⟨22,[],[(6,A3 (Hf n)),(15,A3 (A3j n)),(16,A3 (C8 n)),(22,A3 (C8 n))]⟩)],[(27,Bdt)],[],[(5,A62),(7,A62),(9,Axf),(11,Arm),(14,Arl),(15,Ark),(16,Arj),(17,Ari),(19,Nb),(22,Nb),(23,Arh),(27,Arg),(28,Nb)]⟩
theorem Bk2 (n:Nat):Ah TT ⟨180,[]⟩ [] A62 (Ag Tryz.f148 599):=by
 refine ⟨by kernel_rfl,λw q hq=>?_⟩
 obtain rfl:=Be [] hq (by kernel_rfl)
 all_goals exact .inr ⟨7,by kernel_rfl,by kernel_rfl,by kernel_rfl⟩
theorem Bk1:Ah TT ⟨180,[]⟩ [(A4g n)] A62 (Ag Tryz.f148 2519):=by
 refine ⟨by kernel_rfl,λw q hq=>?_⟩
 obtain ⟨y0,q0,rfl,rfl⟩:=Be [(1,Hf n)] hq (by kernel_rfl)
 all_goals exact .inr ⟨7,by kernel_rfl,by kernel_rfl,by kernel_rfl⟩
theorem Bk0 (n:Nat):Ah TT ⟨180,[]⟩ [] Axf (Ag Tryz.f148 10199):=by
 refine ⟨by kernel_rfl,λw q hq=>?_⟩
 obtain rfl:=Be [] hq (by kernel_rfl)
 all_goals exact .inr ⟨23,by kernel_rfl,by kernel_rfl,by kernel_rfl⟩
theorem Be3:Ah TT ⟨180,[]⟩ [(6,A3 (A3k n))] Arm (Ag Tryz.f148 40919):=by
 refine ⟨by kernel_rfl,λw q hq=>?_⟩
 obtain ⟨y0,q0,rfl,rfl⟩:=Be [(6,A3k n)] hq (by kernel_rfl)
 all_goals exact .inr ⟨8,by kernel_rfl,by kernel_rfl,by kernel_rfl⟩
theorem Be2:Ah TT ⟨180,[]⟩ (Als n) Arl (Ag Tryz.f148 384983):=by
 refine ⟨by kernel_rfl,λw q hq=>?_⟩
 obtain ⟨y0,q0,rfl,y1,q1,rfl,rfl⟩:=Be [(6,C8 n),(7,Ow n)] hq (by kernel_rfl)
 all_goals exact .inr ⟨9,by kernel_rfl,by kernel_rfl,by kernel_rfl⟩
theorem Be1:Ah TT ⟨180,[]⟩ (Als n) Ark (Ag Tryz.f148 778199):=by
 refine ⟨by kernel_rfl,λw q hq=>?_⟩
 obtain ⟨y0,q0,rfl,y1,q1,rfl,rfl⟩:=Be [(6,C8 n),(7,Ow n)] hq (by kernel_rfl)
 all_goals exact .inr ⟨9,by kernel_rfl,by kernel_rfl,by kernel_rfl⟩
theorem Be0:Ah TT ⟨180,[]⟩ (Bl9 n) Arj (Ag Tryz.f148 1564631):=by
 refine ⟨by kernel_rfl,λw q hq=>?_⟩
 obtain ⟨y0,q0,rfl,y1,q1,rfl,y2,q2,rfl,y3,q3,rfl,y4,q4,rfl,y5,q5,rfl,y6,q6,rfl,rfl⟩:=Be [(6,C8 n),(7,Ow n),(8,Hf n),(19,C8 n),(21,C8 n),(22,C8 n),(23,He n)] hq (by kernel_rfl)
 all_goals exact .inr ⟨25,by kernel_rfl,by kernel_rfl,by kernel_rfl⟩
theorem Bdz (n:Nat):Ah TT ⟨180,[]⟩ [] Ari (Ag Tryz.f148 3137495):=by
 refine ⟨by kernel_rfl,λw q hq=>?_⟩
 obtain rfl:=Be [] hq (by kernel_rfl)
 all_goals exact .inr ⟨7,by kernel_rfl,by kernel_rfl,by kernel_rfl⟩
theorem Bdy:Ah TT ⟨180,[]⟩ (A4i n) Nb (Ag Tryz.f148 163799):=by
 refine ⟨by kernel_rfl,λw q hq=>?_⟩
 obtain ⟨y0,q0,rfl,rfl⟩:=Be [(0,Hf n)] hq (by kernel_rfl)
 all_goals exact .inr ⟨7,by kernel_rfl,by kernel_rfl,by kernel_rfl⟩
theorem Bdx (n:Nat):Ah TT ⟨180,[]⟩ [] Nb (Ag Tryz.f148 4849623):=by
 refine ⟨by kernel_rfl,λw q hq=>?_⟩
 obtain rfl:=Be [] hq (by kernel_rfl)
 all_goals exact .inr ⟨7,by kernel_rfl,by kernel_rfl,by kernel_rfl⟩
theorem Bdw:Ah TT ⟨180,[]⟩ (Bex n) Arh (Ag Tryz.f148 1441751):=by
 refine ⟨by kernel_rfl,λw q hq=>?_⟩
 obtain ⟨y0,q0,rfl,y1,q1,rfl,y2,q2,rfl,rfl⟩:=Be [(2,Hf n),(11,A3j n),(12,C8 n)] hq (by kernel_rfl)
 all_goals exact .inr ⟨14,by kernel_rfl,by kernel_rfl,by kernel_rfl⟩
theorem Bdv (n:Nat):Ah TT ⟨180,[]⟩ [] Arg (Ag Tryz.f148 12451799):=by
 refine ⟨by kernel_rfl,λw q hq=>?_⟩
 obtain rfl:=Be [] hq (by kernel_rfl)
 all_goals exact .inr ⟨7,by kernel_rfl,by kernel_rfl,by kernel_rfl⟩
theorem Bdu (n:Nat):Ah TT ⟨180,[]⟩ [] Nb (Ag Tryz.f148 47):=by
 refine ⟨by kernel_rfl,λw q hq=>?_⟩
 obtain rfl:=Be [] hq (by kernel_rfl)
 all_goals exact .inr ⟨7,by kernel_rfl,by kernel_rfl,by kernel_rfl⟩
theorem B8f:Ap PP (Ae (B8g α n).reg):=⟨Dl n,Dl n,Dl n,Axg n,Cd n,Cd n,Cd n,Wd n,Cd n,Wd n,Cd n,Wd n,Dl n,Cd n,Cd n,Cd n,Fe n,Dl n,Dl n,Ahd n,Cd n,Dl n,Ahd n,Cd n,Cd n,trivial⟩
theorem Bp9:D3.OK PP TT ⟨180,[]⟩ (B8g α n) (Af Tryz.f148) :=
 D3.OK.mk3a (B8f α n) (by kernel_rfl:A9 _=[]) trivial (by kernel_rfl:Ax _=[(5,Ag Tryz.f148 599),(7,Ag Tryz.f148 2519),(9,Ag Tryz.f148 10199),(11,Ag Tryz.f148 40919),(14,Ag Tryz.f148 384983),(15,Ag Tryz.f148 778199),(16,Ag Tryz.f148 1564631),(17,Ag Tryz.f148 3137495),(19,Ag Tryz.f148 163799),(22,Ag Tryz.f148 4849623),(23,Ag Tryz.f148 1441751),(26,Ag Tryz.f148 22937559),(27,Ag Tryz.f148 12451799),(28,Ag Tryz.f148 47)]) ⟨⟨Bk2 n,trivial⟩,⟨Bk1 n,trivial⟩,⟨Bk0 n,trivial⟩,⟨Be3 n,trivial⟩,⟨Be2 n,trivial⟩,⟨Be1 n,trivial⟩,⟨Be0 n,trivial⟩,⟨Bdz n,trivial⟩,⟨Bdy n,trivial⟩,⟨Bdx n,trivial⟩,⟨Bdw n,trivial⟩,trivial,⟨Bdv n,trivial⟩,⟨Bdu n,trivial⟩,trivial⟩
theorem Axe:(Arn n).Sound PP:=fk (fn:=Tryz.f148) (Bp9 _ n)

def A52 {α:Type} (l m:LR) (b:Int) (k:LN) (p:Int) (c d g h:LR) (f:LR->LR->Int->LN->Int->LR->LR->LR->LR->Option α) (k0:Int->LR->LR->Option α) (k1:LR->LR->Option α):Option α :=
 bif (decide (b>=0)) then
  gd (decide (0<=b)&&decide (b<(k.length:Int))) (
   let a:=k.getD b.toNat (0,0,0,0)
   gd (decide (0<=b)&&decide (b<(c.length:Int))) (
    gd (decide (b.toNat<c.length)) (
     let u:=c.getD b.toNat (false,[],[])
     ob (f145 n u) λv =>
     bif (!v) then
      k0 7 g h
     else
      gd (decide (0<=b)&&decide (b<(d.length:Int))) (
       gd (decide (b.toNat<d.length)) (
        let w:=d.getD b.toNat (false,[],[])
        ob (f145 n w) λx =>
        bif (!x) then
         k0 7 g h
        else
         let s:=λ(q:LR) (r:LR)=>(
          let t:=λ(_:Unit)=>(
           ob (f148 n a l m) λj =>
           gd (decide (0<=a.2.1)&&decide (a.2.1<(c.length:Int))) (
            gd (decide (a.2.1.toNat<c.length)) (
             let y:=c.getD a.2.1.toNat (false,[],[])
             gd (decide (0<=b)&&decide (b<(c.length:Int))) (
              gd (decide (b.toNat<c.length)) (
               let z:=c.getD b.toNat (false,[],[])
               ob (f140 n z j.1) λd0 =>
               ob (f138 n y d0) λe =>
               gd (decide (0<=a.2.1)&&decide (a.2.1<(c.length:Int))) (
                gd (decide (a.2.1.toNat<c.length)) (
                 gd (decide (0<=a.2.1)&&decide (a.2.1<(d.length:Int))) (
                  gd (decide (a.2.1.toNat<d.length)) (
                   let d1:=d.getD a.2.1.toNat (false,[],[])
                   gd (decide (0<=b)&&decide (b<(d.length:Int))) (
                    gd (decide (b.toNat<d.length)) (
                     let d2:=d.getD b.toNat (false,[],[])
                     ob (f140 n d2 j.1) λd3 =>
                     gd (decide (0<=b)&&decide (b<(((c.set a.2.1.toNat e).length:Nat):Int))) (
                      gd (decide (b.toNat<(c.set a.2.1.toNat e).length)) (
                       let d4:=(c.set a.2.1.toNat e).getD b.toNat (false,[],[])
                       ob (f140 n d4 j.2.2.1) λd5 =>
                       ob (f138 n d3 d5) λd6 =>
                       ob (f138 n d1 d6) λi =>
                       gd (decide (0<=a.2.1)&&decide (a.2.1<(d.length:Int))) (
                        gd (decide (a.2.1.toNat<d.length)) (
                         ob (f146 n a.1) λd7 =>
                         bif d7 then
                          gd (decide (0<=a.2.2.1)&&decide (a.2.2.1<(((c.set a.2.1.toNat e).length:Nat):Int))) (
                           gd (decide (a.2.2.1.toNat<(c.set a.2.1.toNat e).length)) (
                            let d8:=(c.set a.2.1.toNat e).getD a.2.2.1.toNat (false,[],[])
                            gd (decide (0<=b)&&decide (b<(((c.set a.2.1.toNat e).length:Nat):Int))) (
                             gd (decide (b.toNat<(c.set a.2.1.toNat e).length)) (
                              let d9:=(c.set a.2.1.toNat e).getD b.toNat (false,[],[])
                              ob (f140 n d9 j.2.1) λe0 =>
                              ob (f138 n d8 e0) λo =>
                              gd (decide (0<=a.2.2.1)&&decide (a.2.2.1<(((c.set a.2.1.toNat e).length:Nat):Int))) (
                               gd (decide (a.2.2.1.toNat<(c.set a.2.1.toNat e).length)) (
                                gd (decide (0<=a.2.2.1)&&decide (a.2.2.1<(((d.set a.2.1.toNat i).length:Nat):Int))) (
                                 gd (decide (a.2.2.1.toNat<(d.set a.2.1.toNat i).length)) (
                                  let e1:=(d.set a.2.1.toNat i).getD a.2.2.1.toNat (false,[],[])
                                  gd (decide (0<=b)&&decide (b<(((d.set a.2.1.toNat i).length:Nat):Int))) (
                                   gd (decide (b.toNat<(d.set a.2.1.toNat i).length)) (
                                    let e2:=(d.set a.2.1.toNat i).getD b.toNat (false,[],[])
                                    ob (f140 n e2 j.2.1) λe3 =>
                                    gd (decide (0<=b)&&decide (b<((((c.set a.2.1.toNat e).set a.2.2.1.toNat o).length:Nat):Int))) (
                                     gd (decide (b.toNat<((c.set a.2.1.toNat e).set a.2.2.1.toNat o).length)) (
                                      let e4:=((c.set a.2.1.toNat e).set a.2.2.1.toNat o).getD b.toNat (false,[],[])
                                      ob (f140 n e4 j.2.2.2) λe5 =>
                                      ob (f138 n e3 e5) λe6 =>
                                      ob (f138 n e1 e6) λe7 =>
                                      gd (decide (0<=a.2.2.1)&&decide (a.2.2.1<(((d.set a.2.1.toNat i).length:Nat):Int))) (
                                       gd (decide (a.2.2.1.toNat<(d.set a.2.1.toNat i).length)) (
                                        f l m (W (b-1)) k p ((c.set a.2.1.toNat e).set a.2.2.1.toNat o) ((d.set a.2.1.toNat i).set a.2.2.1.toNat e7) q r))))))))))))))
                         else
                          f l m (W (b-1)) k p (c.set a.2.1.toNat e) (d.set a.2.1.toNat i) q r)))))))))))))))
          ob (f146 n a.1) λe8 =>
          bif (!e8) then
           ob (f147 n a.1) λe9 =>
           bif (!e9) then
            f l m (W (b-1)) k p c d q r
           else
            t ()
          else
           t ())
         bif (a.1==2) then
          gd (decide (0<=a.2.2.2)&&decide (a.2.2.2<(g.length:Int))) (
           gd (decide (a.2.2.2.toNat<g.length)) (
            let f0:=g.getD a.2.2.2.toNat (false,[],[])
            gd (decide (0<=b)&&decide (b<(c.length:Int))) (
             gd (decide (b.toNat<c.length)) (
              let f1:=c.getD b.toNat (false,[],[])
              ob (f138 n f0 f1) λf2 =>
              gd (decide (0<=a.2.2.2)&&decide (a.2.2.2<(g.length:Int))) (
               gd (decide (a.2.2.2.toNat<g.length)) (
                gd (decide (0<=a.2.2.2)&&decide (a.2.2.2<(h.length:Int))) (
                 gd (decide (a.2.2.2.toNat<h.length)) (
                  let f3:=h.getD a.2.2.2.toNat (false,[],[])
                  gd (decide (0<=b)&&decide (b<(d.length:Int))) (
                   gd (decide (b.toNat<d.length)) (
                    let f4:=d.getD b.toNat (false,[],[])
                    ob (f138 n f3 f4) λf5 =>
                    gd (decide (0<=a.2.2.2)&&decide (a.2.2.2<(h.length:Int))) (
                     gd (decide (a.2.2.2.toNat<h.length)) (
                      s (g.set a.2.2.2.toNat f2) (h.set a.2.2.2.toNat f5)))))))))))))
         else
          s g h)))))
 else
  k1 g h
abbrev A51:Tm:=⟨[F4,Gm,Bo,Abl,(12,.k (.hw 320)),A4e,A4f,Pv],[Alj,Ala,Alb,A7m,A7n],[16,17,18,19,20],[]⟩
abbrev Bc5:Tm:=⟨[(8,.k (.hw 330)),(9,.k (.hw 340)),(10,.d hI)],[A7m,A7n],[4,16,310,320],[]⟩
abbrev Bc4:Tm:=⟨[A4e,A4f],[A7m,A7n],[4,310,320],[]⟩
abbrev Afy:List (Exit × Tm):=[(.ret,Bc5),(.exit 0,Bc4)]
def Afx {α:Type} (v:A51.den) (f:A51.den->Option α) (ks:KS α Afy):Option α:=A52 n v.1.1 v.1.2.1 v.1.2.2.2.2.2.2.2.1 v.2.1.1 v.2.1.2.1 v.2.2.1 v.2.2.2.1 v.2.2.2.2.1 v.2.2.2.2.2.1 (λa b c d e g h i j=>f ((a,b,(),(),(),(),(),c,()),((d,e,()),g,h,i,j,()))) (λw0 w1 w2=>ks.1 (((),(),w0,()),(w1,w2,()))) (λw0 w1=>ks.2.1 (((),(),()),(w0,w1,())))
def A2h {α:Type} (n m:Nat) (a b:LR) (c:Int) (d:LN) (e:Int) (f g h i:LR) (k0:Int->LR->LR->Option α) (k1:LR->LR->Option α):Option α:=A4 (Afx n) m ((a,b,(),(),(),(),(),c,()),((d,e,()),f,g,h,i,())) (λw=>k0 w.1.2.2.1 w.2.1 w.2.2.1,λw=>k1 w.2.1 w.2.2.1,())
theorem Aoy {α n m a b c d e f g h i k0 k1}:A2h (α:=α) n (m+1) a b c d e f g h i k0 k1=A52 n a b c d e f g h i (λa b c d e f g h i=>A2h n m a b c d e f g h i k0 k1) k0 k1:=rfl
abbrev Avv:Tm:=⟨[F4,Gm,Bo,Abl,(12,.k (.hw 320)),A4e,A4f,Pv,(16,.k (.hp 16 0 0))],[Alj,(16,.var 85 true false A7u),Ala,Alb,A7m,A7n],[],[]⟩
def f93 (a0:LN × Int) (a1 a2:LR) (a3:Int):Option (LR × LR × Int) :=
 ob (Z9 n (a0.1.length:Int)) λa =>
 ob (Z9 n (a0.1.length:Int)) λb =>
 ob (f131 n 1) λc =>
 gd (decide (0<=a0.2)&&decide (a0.2<(a.length:Int))) (
  gd (decide (a0.2.toNat<a.length)) (
   ob (Z9 n a3) λd =>
   ob (Z9 n a3) λe =>
   A2h n n a1 a2 (W ((a0.1.length:Int)-1)) a0.1 a0.2 (a.set a0.2.toNat c) b d e
    (λf g h=>(
     some (g,h,f)))
    (λi j=>(
     some (i,j,0)))))
def Azs:Ent:=⟨93,[Ft,hRs,hRs,hI],[hRs,hRs,hI],λx=>f93 n x.1 x.2.1 x.2.2.1 x.2.2.2⟩
abbrev Bf2:List (Nat × OA):=[(13,A3 (C8 n)),(19,A3 (C8 n)),(20,A3 (He n)),(21,A3 (He n))]
def Azt:D3 α:=⟨[(1,⟨0,[],[(3,Ce (Wg n) 310)]⟩),(2,⟨0,[],[(3,Ce (Wg n) 320)]⟩),(3,⟨4,[],[(3,A3 (Hf n))]⟩),(4,⟨0,[],[(1,Ce (Wg n) 330)]⟩),(5,⟨0,[],[(1,Ce (Wg n) 340)]⟩),(10,⟨0,[],[(4,A3 (A3i n)),(11,A3 (A3i n))]⟩),(13,⟨13,[],[(12,A3 (He n))]⟩),(14,⟨13,[],[(12,A3 (He n))]⟩),(15,⟨0,[],[(A4h n),(7,A3 (A3h n))]⟩),(16,⟨0,[],[(3,A3 (Arn n))]⟩),(17,⟨15,[],[(13,A3 (C8 n)),(14,A3 (He n))]⟩),(18,⟨22,[],(Bf2 n)⟩),(19,⟨0,[],[(A4h n)]⟩),(20,⟨15,[],[(13,A3 (C8 n)),(14,A3 (He n))]⟩),(21,⟨22,[],(Bf2 n)⟩)],[(15,Avv),(16,Avv)],[(7,⟨A51,Afy,A4 (Afx n) n⟩)],[]⟩
theorem Aox:Ap PP (Ae (Azt α n).reg):=⟨Z7 n,Z7 n,Dl n,Z7 n,Z7 n,A64 n,A64 n,Fe n,Fe n,R1 n,A63 n,Axe n,Cd n,Fe n,Cd n,Cd n,Fe n,Fe n,R1 n,Cd n,Fe n,Cd n,Cd n,Fe n,Fe n,trivial⟩
theorem B59:LO.Sound (α:=α) PP ⟨200,[]⟩ ⟨A51,Afy,A4 (Afx n) n⟩ (.loop (Ai Tryz.f93 1215)):=Cb (D:=Azt α n) (Aox α n) n
theorem Bqz:D3.OK PP TT ⟨200,[]⟩ (Azt α n) (Af Tryz.f93) :=
 D3.OK.mk3 (Aox α n) (by kernel_rfl:A9 _=[(7,.loop (Ai Tryz.f93 1215))]) ⟨Aa rfl (B59 α n),trivial⟩
theorem B58:(Azs n).Sound PP:=fk (fn:=Tryz.f93) (Bqz _ n)

end Go.Ev
