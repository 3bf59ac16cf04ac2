/- DERIVED. What the functions compute, and that they do. -/
import Derived.Test.YtdheaaapdlekdaaGreatSa

set_option linter.all false
set_option linter.unusedVariables false
set_option linter.unusedSimpArgs false

namespace Go.Ev
open Go Go.Proofs Go.RowKit Go.Shelf
def f99 (n:Nat) (a0 a1:Rq):Option Rq :=
 ob (f152 n a0.2.1 a1.2.2) λa =>
 ob (f152 n a1.2.1 a0.2.2) λb =>
 ob (f152 n a0.2.2 a1.2.2) λc =>
 bif (a0.1==a1.1) then
  ob (f154 n a b) λd =>
  ob (f153 n a0.1 d c) λe =>
  some e
 else
  ob (f155 n a b) λf =>
  bif (decide (f>=0)) then
   ob (f156 n a b) λg =>
   ob (f153 n a0.1 g c) λh =>
   some h
  else
   ob (f156 n b a) λi =>
   ob (f153 n a1.1 i c) λj =>
   some j
def Ad (n:Nat):Ent:=⟨99,[hR,hR],[hR],λx=>f99 n x.1 x.2⟩
def Beh (α:Type) (n:Nat):D3 α:={ reg:=[(1,⟨9,[],[(4,{ ent:=some (Ho n) }),(9,{ ent:=some (Ho n) })]⟩),(2,⟨0,[],[(4,{ ent:=some (Ho n) })]⟩),(4,⟨6,[],[(4,{ ent:=some (Axk n) }),(6,{ ent:=some (Rx n) })]⟩),(5,⟨0,[],[(2,{ ent:=some (Yh n) })]⟩),(6,⟨6,[],[(4,{ ent:=some (Aip n) }),(6,{ ent:=some (Rx n) })]⟩),(7,⟨6,[],[(4,{ ent:=some (Aip n) }),(6,{ ent:=some (Rx n) })]⟩)],join:=[],loop:=[] }
theorem D8 (n:Nat):(Ad n).Sound PP:=B0 (fn:=Tryz.f99) (D:=Beh _ n) ⟨Gv n,Gv n,Gv n,B7n n,Rw n,A0m n,Aoa n,Rw n,Aoa n,Rw n,trivial⟩

def A4g {α:Type} (n:Nat) (b:LR) (e a:Int) (p:Bool) (q r:LI) (s:LR) (t:Bool) (u v:LI) (w:Bool) (x y:LI) (c:LR) (z:Bool) (d0 d1:LI) (g h i:Bool) (j k:LI) (l:Bool) (m o:LI) (d:LR) (f:LR->Int->Int->Bool->LI->LI->LR->Bool->LI->LI->Bool->LI->LI->LR->Bool->LI->LI->Bool->Bool->Bool->LI->LI->Bool->LI->LI->LR->Option α) (k0:Bool->Bool->Bool->LI->LI->Bool->LI->LI->LR->Option α):Option α :=
 bif (decide (a<e)) then
  gd (decide (0<=a)&&decide (a<(b.length:Int))) (
   let d2:=b.getD a.toNat (false,[],[])
   gd (decide (0<=a)&&decide (a<(c.length:Int))) (
    let d3:=c.getD a.toNat (false,[],[])
    ob (f99 n d2 d3) λd4 =>
    gd (decide ((d.length+1)*56<=140737488355328)) (
     f b e (W (a+1)) p q r s t u v w x y c z d0 d1 g h i j k l m o (d++[d4]))))
 else
  k0 g h i j k l m o d
abbrev Ua:Tm:=⟨[(2,.k (.hp 2 0 0)),(3,.k (.hp 3 0 0)),(4,.k (.hp 4 0 0)),(5,.k (.hp 5 0 0)),(20,.d hRs),(21,.d hI),(22,.d hI)],[(2,.var 91 true false [.d .bool,.d hIs,.d hIs,.d hRs,.d .nil,.d .bool,.d hIs,.d hIs]),(3,.var 91 true false [.d .bool,.d hIs,.d hIs,.d hRs,.d .nil,.d .bool,.d hIs,.d hIs]),(4,.var 91 true false [.d .bool,.d .nil,.d .nil,.d .nil,.d .nil,.d .bool,.d .nil,.d .nil]),(5,.var 91 false false [.d .bool,.d hIs,.d hIs,.k (.hw 37),.d .nil,.d .bool,.d hIs,.d hIs]),(37,.arr 54 hR false)],[7,36],[]⟩
abbrev Ax1:Tm:=⟨[(4,.k (.hp 4 0 0)),(5,.k (.hp 5 0 0))],[(4,.var 91 true false [.d .bool,.d .nil,.d .nil,.d .nil,.d .nil,.d .bool,.d .nil,.d .nil]),(5,.var 91 false false [.d .bool,.d hIs,.d hIs,.k (.hw 37),.d .nil,.d .bool,.d hIs,.d hIs]),(37,.arr 54 hR false)],[2,3],[]⟩
abbrev A4f:List (Exit × Tm):=[(.exit 0,Ax1)]
def A4e {α:Type} (n:Nat) (v:Ua.den) (f:Ua.den->Option α) (ks:KS α A4f):Option α:=A4g n v.1.2.2.2.2.1 v.1.2.2.2.2.2.1 v.1.2.2.2.2.2.2.1 v.2.1.1 v.2.1.2.1 v.2.1.2.2.1 v.2.1.2.2.2.1 v.2.1.2.2.2.2.2.1 v.2.1.2.2.2.2.2.2.1 v.2.1.2.2.2.2.2.2.2.1 v.2.2.1.1 v.2.2.1.2.1 v.2.2.1.2.2.1 v.2.2.1.2.2.2.1 v.2.2.1.2.2.2.2.2.1 v.2.2.1.2.2.2.2.2.2.1 v.2.2.1.2.2.2.2.2.2.2.1 v.2.2.2.1.1 v.2.2.2.1.2.2.2.2.2.1 v.2.2.2.2.1.1 v.2.2.2.2.1.2.1 v.2.2.2.2.1.2.2.1 v.2.2.2.2.1.2.2.2.2.2.1 v.2.2.2.2.1.2.2.2.2.2.2.1 v.2.2.2.2.1.2.2.2.2.2.2.2.1 v.2.2.2.2.2.1 (λa b c d e g h i j k l m o p q r s t u w x y z d0 d1 d2=>f (((),(),(),(),a,b,c,()),((d,e,g,h,(),i,j,k,()),(l,m,o,p,(),q,r,s,()),(t,(),(),(),(),u,(),(),()),(w,x,y,(),(),z,d0,d1,()),d2,()))) (λw0 w1 w2 w3 w4 w5 w6 w7 w8=>ks.1 (((),(),()),((w0,(),(),(),(),w1,(),(),()),(w2,w3,w4,(),(),w5,w6,w7,()),w8,())))
def A0l {α:Type} (n m:Nat) (a:LR) (b c:Int) (d:Bool) (e f:LI) (g:LR) (h:Bool) (i j:LI) (k:Bool) (l o:LI) (p:LR) (q:Bool) (r s:LI) (t u v:Bool) (x y:LI) (z:Bool) (d0 d1:LI) (d2:LR) (k0:Bool->Bool->Bool->LI->LI->Bool->LI->LI->LR->Option α):Option α:=A5 (A4e n) m (((),(),(),(),a,b,c,()),((d,e,f,g,(),h,i,j,()),(k,l,o,p,(),q,r,s,()),(t,(),(),(),(),u,(),(),()),(v,x,y,(),(),z,d0,d1,()),d2,())) (λw=>k0 w.2.1.1 w.2.1.2.2.2.2.2.1 w.2.2.1.1 w.2.2.1.2.1 w.2.2.1.2.2.1 w.2.2.1.2.2.2.2.2.1 w.2.2.1.2.2.2.2.2.2.1 w.2.2.1.2.2.2.2.2.2.2.1 w.2.2.2.1,())
theorem Awz {α n m a b c d e f g h i j k l o p q r s t u v w x y z d0 d1 k0}:A0l (α:=α) n (m+1) a b c d e f g h i j k l o p q r s t u v w x y z d0 d1 k0=A4g n a b c d e f g h i j k l o p q r s t u v w x y z d0 d1 (λa b c d e f g h i j k l o p q r s t u v w x y z d0 d1=>A0l n m a b c d e f g h i j k l o p q r s t u v w x y z d0 d1 k0) k0:=rfl
abbrev Any:Tm:=⟨[(2,.k (.hp 2 0 0)),(3,.k (.hp 3 0 0)),(4,.k (.hp 4 0 0))],[(2,.var 91 true false [.d .bool,.d hIs,.d hIs,.d hRs,.d .nil,.d .bool,.d hIs,.d hIs]),(3,.var 91 true false [.d .bool,.d hIs,.d hIs,.d hRs,.d .nil,.d .bool,.d hIs,.d hIs]),(4,.var 91 true false [.d .bool,.d .nil,.d .nil,.d .nil,.d .nil,.d .bool,.d .nil,.d .nil])],[],[]⟩
abbrev Anx:Tm:=⟨[(2,.k (.hp 2 0 0)),(3,.k (.hp 3 0 0)),(4,.k (.hp 4 0 0)),(5,.k (.hp 5 0 0)),(6,.d hI),(7,.k (.hp 7 0 0)),(20,.d hRs),(21,.d hI),(22,.d hI)],[(2,.var 91 true false [.d .bool,.d hIs,.d hIs,.d hRs,.d .nil,.d .bool,.d hIs,.d hIs]),(3,.var 91 true false [.d .bool,.d hIs,.d hIs,.d hRs,.d .nil,.d .bool,.d hIs,.d hIs]),(4,.var 91 true false [.d .bool,.d .nil,.d .nil,.d .nil,.d .nil,.d .bool,.d .nil,.d .nil]),(5,.var 91 true false [.d .bool,.d hIs,.d hIs,.d .nil,.d .nil,.d .bool,.d hIs,.d hIs]),(7,.var 54 true false [.d .bool,.d hIs,.d hIs])],[],[]⟩
abbrev Acq:Tm:=⟨[(2,.k (.hp 2 0 0)),(3,.k (.hp 3 0 0)),(4,.k (.hp 4 0 0)),(5,.k (.hp 5 0 0)),(6,.d hI),(7,.k (.hp 7 0 0)),(20,.d hRs),(21,.d hI),(22,.d hI)],[(2,.var 91 true false [.d .bool,.d hIs,.d hIs,.d hRs,.d .nil,.d .bool,.d hIs,.d hIs]),(3,.var 91 true false [.d .bool,.d hIs,.d hIs,.d hRs,.d .nil,.d .bool,.d hIs,.d hIs]),(4,.var 91 true false [.d .bool,.d .nil,.d .nil,.d .nil,.d .nil,.d .bool,.d .nil,.d .nil]),(5,.var 91 false false [.d .bool,.d hIs,.d hIs,.k (.hw 37),.d .nil,.d .bool,.d hIs,.d hIs]),(7,.var 54 true false [.d .bool,.d hIs,.d hIs]),(37,.arr 54 hR false)],[],[]⟩
def f165 (n:Nat) (a0 a1:Rq × LR × Unit × Rq):Option (Rq × LR × Unit × Rq) :=
 ob (f99 n a0.1 a1.1) λa =>
 ob (f99 n a0.2.2.2 a1.2.2.2) λb =>
 bif (decide (0<(a0.2.1.length:Int))) then
  gd (decide (0<(a0.2.1.length:Int))) (
   let c:=a0.2.1.getD 0 (false,[],[])
   gd (decide (0<(a1.2.1.length:Int))) (
    let d:=a1.2.1.getD 0 (false,[],[])
    ob (f99 n c d) λe =>
    A0l n n a0.2.1 (a0.2.1.length:Int) 1 a0.1.1 a0.1.2.1 a0.1.2.2 a0.2.1 a0.2.2.2.1 a0.2.2.2.2.1 a0.2.2.2.2.2 a1.1.1 a1.1.2.1 a1.1.2.2 a1.2.1 a1.2.2.2.1 a1.2.2.2.2.1 a1.2.2.2.2.2 false false a.1 a.2.1 a.2.2 b.1 b.2.1 b.2.2 [e]
     (λm o f g h i j k l=>(
      some ((f,g,h),l,(),i,j,k)))))
 else
  some (a,[],(),b)
def Aig (n:Nat):Ent:=⟨165,[(.st (.pair hR (.pair hRs (.pair .nil hR)))),(.st (.pair hR (.pair hRs (.pair .nil hR))))],[(.st (.pair hR (.pair hRs (.pair .nil hR))))],λx=>f165 n x.1 x.2⟩
def Aih (α:Type) (n:Nat):D3 α:={ reg:=[(1,⟨0,[],[(4,{ ent:=some (Ad n) }),(9,{ ent:=some (Ad n) })]⟩),(5,⟨0,[],[(8,{ ent:=some (Ad n) }),(9,{ sh:=some hR }),(10,{ sh:=some hR })]⟩)],join:=[],loop:=[(3,⟨Ua,A4f,A5 (A4e n) n⟩)],any:=[(1,Any),(5,Anx),(5,Acq)] }
set_option maxHeartbeats 8000000 in
theorem B79 (n:Nat):Al TT ⟨60,[]⟩ [(4,{ ent:=some (Ad n) }),(9,{ ent:=some (Ad n) })] Any (A4 ((A1 Tryz.f165).at [1,0])):=by
 refine ⟨by kernel_rfl,λw q hq=>?_⟩
 have e:WT [(4,{ ent:=some (Ad n) }),(9,{ ent:=some (Ad n) })] (A8 (A4 ((A1 Tryz.f165).at [1,0])).toList) q=(∃ (y0:HL (Ad n).rs) (q0:List (Nat × RV)),q=(4,.sv (Ae (Ad n).rs y0))::q0 /\ ∃ (y1:HL (Ad n).rs) (q1:List (Nat × RV)),q0=(9,.sv (Ae (Ad n).rs y1))::q1/\q1=[]):=by kernel_rfl
 rw [e] at hq;obtain ⟨y0,q0,rfl,y1,q1,rfl,rfl⟩:=hq
 all_goals exact .inr ⟨12,by kernel_rfl,by kernel_rfl,by kernel_rfl⟩
set_option maxHeartbeats 8000000 in
theorem Anz (n:Nat):Al TT ⟨60,[]⟩ [(8,{ ent:=some (Ad n) }),(9,{ sh:=some hR }),(10,{ sh:=some hR })] Anx (A4 ((A1 Tryz.f165).at [1,1,0,1,0,0,1,1,0,0,1,0])):=by
 refine ⟨by kernel_rfl,λw q hq=>?_⟩
 have e:WT [(8,{ ent:=some (Ad n) }),(9,{ sh:=some hR }),(10,{ sh:=some hR })] (A8 (A4 ((A1 Tryz.f165).at [1,1,0,1,0,0,1,1,0,0,1,0])).toList) q=(∃ (y0:HL (Ad n).rs) (q0:List (Nat × RV)),q=(8,.sv (Ae (Ad n).rs y0))::q0/\q0=[]):=by kernel_rfl
 rw [e] at hq;obtain ⟨y0,q0,rfl,rfl⟩:=hq
 all_goals exact .inr ⟨10,by kernel_rfl,by kernel_rfl,by kernel_rfl⟩
set_option maxHeartbeats 8000000 in
theorem Acr (n:Nat):Al TT ⟨60,[]⟩ [(8,{ ent:=some (Ad n) }),(9,{ sh:=some hR }),(10,{ sh:=some hR })] Acq (A4 ((A1 Tryz.f165).at [1,1,0,1,0,0,1,1,0,0,1,0])):=by
 refine ⟨by kernel_rfl,λw q hq=>?_⟩
 have e:WT [(8,{ ent:=some (Ad n) }),(9,{ sh:=some hR }),(10,{ sh:=some hR })] (A8 (A4 ((A1 Tryz.f165).at [1,1,0,1,0,0,1,1,0,0,1,0])).toList) q=(∃ (y0:HL (Ad n).rs) (q0:List (Nat × RV)),q=(8,.sv (Ae (Ad n).rs y0))::q0/\q0=[]):=by kernel_rfl
 rw [e] at hq;obtain ⟨y0,q0,rfl,rfl⟩:=hq
 all_goals exact .inr ⟨10,by kernel_rfl,by kernel_rfl,by kernel_rfl⟩
theorem Acp (α:Type) (n:Nat):Ao PP (Ag (Aih α n).reg):=⟨D8 n,D8 n,D8 n,trivial⟩
theorem Ax0 (α:Type) (n:Nat):D3.OK PP TT ⟨60,[]⟩ (Aih α n) ((A1 Tryz.f165).at [1,1,0,1,0,0]) :=
 D3.OK.mk3a (Acp α n) (show Ab ((A1 Tryz.f165).at [1,1,0,1,0,0])=[] by kernel_rfl) trivial (show Ar ((A1 Tryz.f165).at [1,1,0,1,0,0])=[(5,A4 ((A1 Tryz.f165).at [1,1,0,1,0,0,1,1,0,0,1,0])),(7,A4 ((A1 Tryz.f165).at [1,1,0,1,0,0,1,1,0,0,1,1,1,0]))] by kernel_rfl) ⟨⟨Anz n,Acr n,trivial⟩,trivial,trivial⟩
theorem Ard (α:Type) (n:Nat):LO.Sound (α:=α) PP ⟨60,[]⟩ ⟨Ua,A4f,A5 (A4e n) n⟩ (.loop ((A1 Tryz.f165).at [1,1,0,1,0,0])):=lk (Ax0 α n) n
theorem Bce (α:Type) (n:Nat):D3.OK PP TT ⟨60,[]⟩ (Aih α n) (A1 Tryz.f165) :=
 D3.OK.mk3a (Acp α n) (show Ab (A1 Tryz.f165)=[(3,(.loop ((A1 Tryz.f165).at [1,1,0,1,0,0])))] by kernel_rfl) ⟨Ac rfl (Ard α n),trivial⟩ (show Ar (A1 Tryz.f165)=[(1,A4 ((A1 Tryz.f165).at [1,0])),(5,A4 ((A1 Tryz.f165).at [1,1,0,1,0,0,1,1,0,0,1,0])),(7,A4 ((A1 Tryz.f165).at [1,1,0,1,0,0,1,1,0,0,1,1,1,0]))] by kernel_rfl) ⟨⟨B79 n,trivial⟩,⟨Anz n,Acr n,trivial⟩,trivial,trivial⟩
theorem Anw (n:Nat):(Aig n).Sound PP:=fk (fn:=Tryz.f165) (Bce _ n)

def f162 (n:Nat) (a0 a1:Rq):Option Rq :=
 ob (f152 n a0.2.1 a1.2.1) λa =>
 ob (f152 n a0.2.2 a1.2.2) λb =>
 ob (f153 n (!(a0.1==a1.1)) a b) λc =>
 some c
def A9 (n:Nat):Ent:=⟨162,[hR,hR],[hR],λx=>f162 n x.1 x.2⟩
def Bch (α:Type) (n:Nat):D3 α:={ reg:=[(1,⟨15,[],[(9,{ ent:=some (Ho n) }),(14,{ ent:=some (Ho n) }),(15,{ ent:=some (Rx n) })]⟩)],join:=[],loop:=[] }
theorem Av (n:Nat):(A9 n).Sound PP:=B0 (fn:=Tryz.f162) (D:=Bch _ n) ⟨Gv n,Gv n,Rw n,trivial⟩

def f208 (n:Nat) (a0 a1:Rq):Option Rq :=
 ob (f162 n a0 a1) λa =>
 some a
def Cj (n:Nat):Ent:=⟨208,[hR,(.ref hR)],[hR],λx=>f208 n x.1 x.2⟩
def Bbf (α:Type) (n:Nat):D3 α:={ reg:=[(1,⟨0,[],[(2,{ ent:=some (A9 n) })]⟩)],join:=[],loop:=[] }
theorem An6 (n:Nat):(Cj n).Sound PP:=B0 (fn:=Tryz.f208) (D:=Bbf _ n) ⟨Av n,trivial⟩

def I7 {α:Type} (n:Nat) (d:Rq) (p:(Bool × LI × LI × LR × Unit × Bool × LI × LI) × Rq) (b:LR) (e a:Int) (q:Bool) (r s:LI) (t:LR) (u:Bool) (v w:LI) (g h i:Bool) (j k:LI) (l:Bool) (m o:LI) (c:LR) (f:Rq->((Bool × LI × LI × LR × Unit × Bool × LI × LI) × Rq)->LR->Int->Int->Bool->LI->LI->LR->Bool->LI->LI->Bool->Bool->Bool->LI->LI->Bool->LI->LI->LR->Option α) (k0:Bool->Bool->Bool->LI->LI->Bool->LI->LI->LR->Option α):Option α :=
 bif (decide (a<e)) then
  gd (decide (0<=a)&&decide (a<(b.length:Int))) (
   let x:=b.getD a.toNat (false,[],[])
   ob (f208 n x d) λy =>
   gd (decide ((c.length+1)*56<=140737488355328)) (
    f d p b e (W (a+1)) q r s t u v w g h i j k l m o (c++[y])))
 else
  k0 g h i j k l m o c
abbrev F7:Tm:=⟨[(3,.d (.clo 208 (.ref hR))),(4,.d (.clo 209 (.pair (.ref (.st (.pair .bool (.pair hIs (.pair hIs (.pair hRs (.pair .nil (.pair .bool (.pair hIs hIs))))))))) (.ref hR)))),(5,.k (.hp 5 0 0)),(10,.k (.hp 10 0 0)),(11,.k (.hp 11 0 0)),(18,.d hRs),(19,.d hI),(20,.d hI)],[(5,.var 91 true false [.d .bool,.d hIs,.d hIs,.d hRs,.d .nil,.d .bool,.d hIs,.d hIs]),(10,.var 91 true false [.d .bool,.d .nil,.d .nil,.d .nil,.d .nil,.d .bool,.d .nil,.d .nil]),(11,.var 91 false false [.d .bool,.d hIs,.d hIs,.k (.hw 31),.d .nil,.d .bool,.d hIs,.d hIs]),(31,.arr 54 hR false)],[13,30],[]⟩
abbrev A1d:Tm:=⟨[(10,.k (.hp 10 0 0)),(11,.k (.hp 11 0 0))],[(10,.var 91 true false [.d .bool,.d .nil,.d .nil,.d .nil,.d .nil,.d .bool,.d .nil,.d .nil]),(11,.var 91 false false [.d .bool,.d hIs,.d hIs,.k (.hw 31),.d .nil,.d .bool,.d hIs,.d hIs]),(31,.arr 54 hR false)],[5],[]⟩
abbrev I6:List (Exit × Tm):=[(.exit 0,A1d)]
def I5 {α:Type} (n:Nat) (v:F7.den) (f:F7.den->Option α) (ks:KS α I6):Option α:=I7 n v.1.1 v.1.2.1 v.1.2.2.2.2.2.1 v.1.2.2.2.2.2.2.1 v.1.2.2.2.2.2.2.2.1 v.2.1.1 v.2.1.2.1 v.2.1.2.2.1 v.2.1.2.2.2.1 v.2.1.2.2.2.2.2.1 v.2.1.2.2.2.2.2.2.1 v.2.1.2.2.2.2.2.2.2.1 v.2.2.1.1 v.2.2.1.2.2.2.2.2.1 v.2.2.2.1.1 v.2.2.2.1.2.1 v.2.2.2.1.2.2.1 v.2.2.2.1.2.2.2.2.2.1 v.2.2.2.1.2.2.2.2.2.2.1 v.2.2.2.1.2.2.2.2.2.2.2.1 v.2.2.2.2.1 (λa b c d e g h i j k l m o p q r s t u w x=>f ((a,b,(),(),(),c,d,e,()),((g,h,i,j,(),k,l,m,()),(o,(),(),(),(),p,(),(),()),(q,r,s,(),(),t,u,w,()),x,()))) (λw0 w1 w2 w3 w4 w5 w6 w7 w8=>ks.1 (((),(),()),((w0,(),(),(),(),w1,(),(),()),(w2,w3,w4,(),(),w5,w6,w7,()),w8,())))
def G1 {α:Type} (n m:Nat) (a:Rq) (b:(Bool × LI × LI × LR × Unit × Bool × LI × LI) × Rq) (c:LR) (d e:Int) (f:Bool) (g h:LI) (i:LR) (j:Bool) (k l:LI) (o p q:Bool) (r s:LI) (t:Bool) (u v:LI) (x:LR) (k0:Bool->Bool->Bool->LI->LI->Bool->LI->LI->LR->Option α):Option α:=A5 (I5 n) m ((a,b,(),(),(),c,d,e,()),((f,g,h,i,(),j,k,l,()),(o,(),(),(),(),p,(),(),()),(q,r,s,(),(),t,u,v,()),x,())) (λw=>k0 w.2.1.1 w.2.1.2.2.2.2.2.1 w.2.2.1.1 w.2.2.1.2.1 w.2.2.1.2.2.1 w.2.2.1.2.2.2.2.2.1 w.2.2.1.2.2.2.2.2.2.1 w.2.2.1.2.2.2.2.2.2.2.1 w.2.2.2.1,())
theorem A1b {α n m a b c d e f g h i j k l o p q r s t u v w k0}:G1 (α:=α) n (m+1) a b c d e f g h i j k l o p q r s t u v w k0=I7 n a b c d e f g h i j k l o p q r s t u v w (λa b c d e f g h i j k l o p q r s t u v w=>G1 n m a b c d e f g h i j k l o p q r s t u v w k0) k0:=rfl
abbrev Q9:Tm:=⟨[(3,.d (.clo 208 (.ref hR))),(4,.d (.clo 209 (.pair (.ref (.st (.pair .bool (.pair hIs (.pair hIs (.pair hRs (.pair .nil (.pair .bool (.pair hIs hIs))))))))) (.ref hR)))),(5,.k (.hp 5 0 0)),(10,.k (.hp 10 0 0)),(11,.k (.hp 11 0 0)),(12,.d hI),(13,.k (.hp 13 0 0)),(18,.d hRs),(19,.d hI),(20,.d hI)],[(5,.var 91 true false [.d .bool,.d hIs,.d hIs,.d hRs,.d .nil,.d .bool,.d hIs,.d hIs]),(10,.var 91 true false [.d .bool,.d .nil,.d .nil,.d .nil,.d .nil,.d .bool,.d .nil,.d .nil]),(11,.var 91 true false [.d .bool,.d hIs,.d hIs,.d .nil,.d .nil,.d .bool,.d hIs,.d hIs]),(13,.var 54 true false [.d .bool,.d hIs,.d hIs])],[6,7],[]⟩
abbrev Me:Tm:=⟨[(3,.d (.clo 208 (.ref hR))),(4,.d (.clo 209 (.pair (.ref (.st (.pair .bool (.pair hIs (.pair hIs (.pair hRs (.pair .nil (.pair .bool (.pair hIs hIs))))))))) (.ref hR)))),(5,.k (.hp 5 0 0)),(10,.k (.hp 10 0 0)),(11,.k (.hp 11 0 0)),(12,.d hI),(13,.k (.hp 13 0 0)),(18,.d hRs),(19,.d hI),(20,.d hI)],[(5,.var 91 true false [.d .bool,.d hIs,.d hIs,.d hRs,.d .nil,.d .bool,.d hIs,.d hIs]),(10,.var 91 true false [.d .bool,.d .nil,.d .nil,.d .nil,.d .nil,.d .bool,.d .nil,.d .nil]),(11,.var 91 false false [.d .bool,.d hIs,.d hIs,.k (.hw 31),.d .nil,.d .bool,.d hIs,.d hIs]),(13,.var 54 true false [.d .bool,.d hIs,.d hIs]),(31,.arr 54 hR false)],[],[]⟩
def Or (n:Nat) (a0:Rq × LR × Unit × Rq) (a1 a2 a3:Rq) (a4:(Bool × LI × LI × LR × Unit × Bool × LI × LI) × Rq):Option (Rq × LR × Unit × Rq) :=
 bif (decide (0<(a0.2.1.length:Int))) then
  gd (decide (0<(a0.2.1.length:Int))) (
   let a:=a0.2.1.getD 0 (false,[],[])
   ob (f208 n a a3) λb =>
   G1 n n a3 a4 a0.2.1 (a0.2.1.length:Int) 1 a0.1.1 a0.1.2.1 a0.1.2.2 a0.2.1 a0.2.2.2.1 a0.2.2.2.2.1 a0.2.2.2.2.2 false false a1.1 a1.2.1 a1.2.2 a2.1 a2.2.1 a2.2.2 [b]
    (λj k c d e f g h i=>(
     some ((c,d,e),i,(),f,g,h))))
 else
  some (a1,[],(),a2)
def Dh (n:Nat):Ent:=⟨207,[(.st (.pair hR (.pair hRs (.pair .nil hR)))),hR,hR,(.clo 208 (.ref hR)),(.clo 209 (.pair (.ref (.st (.pair .bool (.pair hIs (.pair hIs (.pair hRs (.pair .nil (.pair .bool (.pair hIs hIs))))))))) (.ref hR)))],[(.st (.pair hR (.pair hRs (.pair .nil hR))))],λx=>Or n x.1 x.2.1 x.2.2.1 x.2.2.2.1 x.2.2.2.2⟩
def Ka (α:Type) (n:Nat):D3 α:={ reg:=[(5,⟨0,[],[(4,{ ent:=some (Cj n) }),(5,{ sh:=some hR }),(6,{ sh:=some hR })]⟩)],join:=[],loop:=[(3,⟨F7,I6,A5 (I5 n) n⟩)],any:=[(5,Q9),(5,Me)] }
set_option maxHeartbeats 8000000 in
theorem Qa (n:Nat):Al TT ⟨46,[]⟩ [(4,{ ent:=some (Cj n) }),(5,{ sh:=some hR }),(6,{ sh:=some hR })] Q9 (A4 ((A1 Tryz.f207).at [1,1,0,1,0,0,1,1,0,0,1,0])):=by
 refine ⟨by kernel_rfl,λw q hq=>?_⟩
 have e:WT [(4,{ ent:=some (Cj n) }),(5,{ sh:=some hR }),(6,{ sh:=some hR })] (A8 (A4 ((A1 Tryz.f207).at [1,1,0,1,0,0,1,1,0,0,1,0])).toList) q=(∃ (y0:HL (Cj n).rs) (q0:List (Nat × RV)),q=(4,.sv (Ae (Cj n).rs y0))::q0/\q0=[]):=by kernel_rfl
 rw [e] at hq;obtain ⟨y0,q0,rfl,rfl⟩:=hq
 all_goals exact .inr ⟨6,by kernel_rfl,by kernel_rfl,by kernel_rfl⟩
set_option maxHeartbeats 8000000 in
theorem Mg (n:Nat):Al TT ⟨46,[]⟩ [(4,{ ent:=some (Cj n) }),(5,{ sh:=some hR }),(6,{ sh:=some hR })] Me (A4 ((A1 Tryz.f207).at [1,1,0,1,0,0,1,1,0,0,1,0])):=by
 refine ⟨by kernel_rfl,λw q hq=>?_⟩
 have e:WT [(4,{ ent:=some (Cj n) }),(5,{ sh:=some hR }),(6,{ sh:=some hR })] (A8 (A4 ((A1 Tryz.f207).at [1,1,0,1,0,0,1,1,0,0,1,0])).toList) q=(∃ (y0:HL (Cj n).rs) (q0:List (Nat × RV)),q=(4,.sv (Ae (Cj n).rs y0))::q0/\q0=[]):=by kernel_rfl
 rw [e] at hq;obtain ⟨y0,q0,rfl,rfl⟩:=hq
 all_goals exact .inr ⟨6,by kernel_rfl,by kernel_rfl,by kernel_rfl⟩
theorem Md (α:Type) (n:Nat):Ao PP (Ag (Ka α n).reg):=⟨An6 n,trivial⟩
theorem A1c (α:Type) (n:Nat):D3.OK PP TT ⟨46,[]⟩ (Ka α n) ((A1 Tryz.f207).at [1,1,0,1,0,0]) :=
 D3.OK.mk3a (Md α n) (show Ab ((A1 Tryz.f207).at [1,1,0,1,0,0])=[] by kernel_rfl) trivial (show Ar ((A1 Tryz.f207).at [1,1,0,1,0,0])=[(5,A4 ((A1 Tryz.f207).at [1,1,0,1,0,0,1,1,0,0,1,0])),(7,A4 ((A1 Tryz.f207).at [1,1,0,1,0,0,1,1,0,0,1,1,1,0]))] by kernel_rfl) ⟨⟨Qa n,Mg n,trivial⟩,trivial,trivial⟩
theorem Y5 (α:Type) (n:Nat):LO.Sound (α:=α) PP ⟨46,[]⟩ ⟨F7,I6,A5 (I5 n) n⟩ (.loop ((A1 Tryz.f207).at [1,1,0,1,0,0])):=lk (A1c α n) n
theorem Aa7 (α:Type) (n:Nat):D3.OK PP TT ⟨46,[]⟩ (Ka α n) (A1 Tryz.f207) :=
 D3.OK.mk3a (Md α n) (show Ab (A1 Tryz.f207)=[(3,(.loop ((A1 Tryz.f207).at [1,1,0,1,0,0])))] by kernel_rfl) ⟨Ac rfl (Y5 α n),trivial⟩ (show Ar (A1 Tryz.f207)=[(5,A4 ((A1 Tryz.f207).at [1,1,0,1,0,0,1,1,0,0,1,0])),(7,A4 ((A1 Tryz.f207).at [1,1,0,1,0,0,1,1,0,0,1,1,1,0]))] by kernel_rfl) ⟨⟨Qa n,Mg n,trivial⟩,trivial,trivial⟩
theorem A7h (n:Nat):(Dh n).Sound PP:=fk (fn:=Tryz.f207) (Aa7 _ n)

abbrev Anv:Tm:=⟨[(2,.k (.hp 2 0 0)),(3,.k (.hp 3 0 0)),(4,.k (.hp 4 0 0))],[(2,.var 91 true false [.d .bool,.d hIs,.d hIs,.d hRs,.d .nil,.d .bool,.d hIs,.d hIs]),(3,.var 54 true false [.d .bool,.d hIs,.d hIs]),(4,.var 91 true false [.d .bool,.d .nil,.d .nil,.d .nil,.d .nil,.d .bool,.d .nil,.d .nil])],[],[]⟩
def f166 (n:Nat) (a0:Rq × LR × Unit × Rq) (a1:Rq):Option (Rq × LR × Unit × Rq) :=
 ob (f162 n a0.1 a1) λa =>
 ob (f162 n a0.2.2.2 a1) λb =>
 ob (Or n (a0.1,a0.2.1,(),a0.2.2.2) a b a1 ((a0.1.1,a0.1.2.1,a0.1.2.2,a0.2.1,(),a0.2.2.2),a1)) λc =>
 some c
def Ai9 (n:Nat):Ent:=⟨166,[(.st (.pair hR (.pair hRs (.pair .nil hR)))),hR],[(.st (.pair hR (.pair hRs (.pair .nil hR))))],λx=>f166 n x.1 x.2⟩
def Awx (α:Type) (n:Nat):D3 α:={ reg:=[(1,⟨0,[],[(4,{ ent:=some (A9 n) }),(8,{ ent:=some (A9 n) }),(9,{ sh:=some (.ref hR) }),(10,{ sh:=some (.pair (.ref (.st (.pair .bool (.pair hIs (.pair hIs (.pair hRs (.pair .nil (.pair .bool (.pair hIs hIs))))))))) (.ref hR)) }),(11,{ ent:=some (Dh n) })]⟩)],join:=[],loop:=[],any:=[(1,Anv)] }
set_option maxHeartbeats 8000000 in
theorem B77 (n:Nat):Al TT ⟨17,[]⟩ [(4,{ ent:=some (A9 n) }),(8,{ ent:=some (A9 n) }),(9,{ sh:=some (.ref hR) }),(10,{ sh:=some (.pair (.ref (.st (.pair .bool (.pair hIs (.pair hIs (.pair hRs (.pair .nil (.pair .bool (.pair hIs hIs))))))))) (.ref hR)) }),(11,{ ent:=some (Dh n) })] Anv (A4 ((A1 Tryz.f166).at [1,0])):=by
 refine ⟨by kernel_rfl,λw q hq=>?_⟩
 have e:WT [(4,{ ent:=some (A9 n) }),(8,{ ent:=some (A9 n) }),(9,{ sh:=some (.ref hR) }),(10,{ sh:=some (.pair (.ref (.st (.pair .bool (.pair hIs (.pair hIs (.pair hRs (.pair .nil (.pair .bool (.pair hIs hIs))))))))) (.ref hR)) }),(11,{ ent:=some (Dh n) })] (A8 (A4 ((A1 Tryz.f166).at [1,0])).toList) q=(∃ (y0:HL (A9 n).rs) (q0:List (Nat × RV)),q=(4,.sv (Ae (A9 n).rs y0))::q0 /\ ∃ (y1:HL (A9 n).rs) (q1:List (Nat × RV)),q0=(8,.sv (Ae (A9 n).rs y1))::q1 /\ ∃ (y2:HL (Dh n).rs) (q2:List (Nat × RV)),q1=(11,.sv (Ae (Dh n).rs y2))::q2/\q2=[]):=by kernel_rfl
 rw [e] at hq;obtain ⟨y0,q0,rfl,y1,q1,rfl,y2,q2,rfl,rfl⟩:=hq
 all_goals exact .inl (Hy.mk (by kernel_rfl))
theorem Aww (α:Type) (n:Nat):Ao PP (Ag (Awx α n).reg):=⟨Av n,Av n,A7h n,trivial⟩
theorem Bcd (α:Type) (n:Nat):D3.OK PP TT ⟨17,[]⟩ (Awx α n) (A1 Tryz.f166) :=
 D3.OK.mk3a (Aww α n) (show Ab (A1 Tryz.f166)=[] by kernel_rfl) trivial (show Ar (A1 Tryz.f166)=[(1,A4 ((A1 Tryz.f166).at [1,0]))] by kernel_rfl) ⟨⟨B77 n,trivial⟩,trivial⟩
theorem Anu (n:Nat):(Ai9 n).Sound PP:=fk (fn:=Tryz.f166) (Bcd _ n)

def A4d {α:Type} (n:Nat) (b:LR) (e a:Int) (g:Bool) (h i:LI) (v:LR) (w:Bool) (x y:LI) (j:Bool) (k l:LI) (c:LR) (z:Bool) (d0 d1:LI) (m o p:Bool) (q r:LI) (s:Bool) (t u:LI) (d:LR) (f:LR->Int->Int->Bool->LI->LI->LR->Bool->LI->LI->Bool->LI->LI->LR->Bool->LI->LI->Bool->Bool->Bool->LI->LI->Bool->LI->LI->LR->Option α) (k0:Bool->Bool->Bool->LI->LI->Bool->LI->LI->LR->Option α):Option α :=
 bif (decide (a<e)) then
  gd (decide (0<=a)&&decide (a<(b.length:Int))) (
   let d2:=b.getD a.toNat (false,[],[])
   gd (decide (0<=a)&&decide (a<(c.length:Int))) (
    let d3:=c.getD a.toNat (false,[],[])
    ob (f162 n d2 (j,k,l)) λd4 =>
    ob (f162 n (g,h,i) d3) λd5 =>
    ob (f99 n d4 d5) λd6 =>
    gd (decide ((d.length+1)*56<=140737488355328)) (
     f b e (W (a+1)) g h i v w x y j k l c z d0 d1 m o p q r s t u (d++[d6]))))
 else
  k0 m o p q r s t u d
abbrev U9:Tm:=⟨[(2,.k (.hp 2 0 0)),(3,.k (.hp 3 0 0)),(4,.k (.hp 4 0 0)),(5,.k (.hp 5 0 0)),(28,.d hRs),(29,.d hI),(30,.d hI)],[(2,.var 91 true false [.d .bool,.d hIs,.d hIs,.d hRs,.d .nil,.d .bool,.d hIs,.d hIs]),(3,.var 91 true false [.d .bool,.d hIs,.d hIs,.d hRs,.d .nil,.d .bool,.d hIs,.d hIs]),(4,.var 91 true false [.d .bool,.d .nil,.d .nil,.d .nil,.d .nil,.d .bool,.d .nil,.d .nil]),(5,.var 91 false false [.d .bool,.d hIs,.d hIs,.k (.hw 52),.d .nil,.d .bool,.d hIs,.d hIs]),(52,.arr 54 hR false)],[7,8,51],[]⟩
abbrev Awv:Tm:=⟨[(4,.k (.hp 4 0 0)),(5,.k (.hp 5 0 0))],[(4,.var 91 true false [.d .bool,.d .nil,.d .nil,.d .nil,.d .nil,.d .bool,.d .nil,.d .nil]),(5,.var 91 false false [.d .bool,.d hIs,.d hIs,.k (.hw 52),.d .nil,.d .bool,.d hIs,.d hIs]),(52,.arr 54 hR false)],[2,3],[]⟩
abbrev A4c:List (Exit × Tm):=[(.exit 0,Awv)]
def A4b {α:Type} (n:Nat) (v:U9.den) (f:U9.den->Option α) (ks:KS α A4c):Option α:=A4d n v.1.2.2.2.2.1 v.1.2.2.2.2.2.1 v.1.2.2.2.2.2.2.1 v.2.1.1 v.2.1.2.1 v.2.1.2.2.1 v.2.1.2.2.2.1 v.2.1.2.2.2.2.2.1 v.2.1.2.2.2.2.2.2.1 v.2.1.2.2.2.2.2.2.2.1 v.2.2.1.1 v.2.2.1.2.1 v.2.2.1.2.2.1 v.2.2.1.2.2.2.1 v.2.2.1.2.2.2.2.2.1 v.2.2.1.2.2.2.2.2.2.1 v.2.2.1.2.2.2.2.2.2.2.1 v.2.2.2.1.1 v.2.2.2.1.2.2.2.2.2.1 v.2.2.2.2.1.1 v.2.2.2.2.1.2.1 v.2.2.2.2.1.2.2.1 v.2.2.2.2.1.2.2.2.2.2.1 v.2.2.2.2.1.2.2.2.2.2.2.1 v.2.2.2.2.1.2.2.2.2.2.2.2.1 v.2.2.2.2.2.1 (λa b c d e g h i j k l m o p q r s t u w x y z d0 d1 d2=>f (((),(),(),(),a,b,c,()),((d,e,g,h,(),i,j,k,()),(l,m,o,p,(),q,r,s,()),(t,(),(),(),(),u,(),(),()),(w,x,y,(),(),z,d0,d1,()),d2,()))) (λw0 w1 w2 w3 w4 w5 w6 w7 w8=>ks.1 (((),(),()),((w0,(),(),(),(),w1,(),(),()),(w2,w3,w4,(),(),w5,w6,w7,()),w8,())))
def A0k {α:Type} (n m:Nat) (a:LR) (b c:Int) (d:Bool) (e f:LI) (g:LR) (h:Bool) (i j:LI) (k:Bool) (l o:LI) (p:LR) (q:Bool) (r s:LI) (t u v:Bool) (x y:LI) (z:Bool) (d0 d1:LI) (d2:LR) (k0:Bool->Bool->Bool->LI->LI->Bool->LI->LI->LR->Option α):Option α:=A5 (A4b n) m (((),(),(),(),a,b,c,()),((d,e,f,g,(),h,i,j,()),(k,l,o,p,(),q,r,s,()),(t,(),(),(),(),u,(),(),()),(v,x,y,(),(),z,d0,d1,()),d2,())) (λw=>k0 w.2.1.1 w.2.1.2.2.2.2.2.1 w.2.2.1.1 w.2.2.1.2.1 w.2.2.1.2.2.1 w.2.2.1.2.2.2.2.2.1 w.2.2.1.2.2.2.2.2.2.1 w.2.2.1.2.2.2.2.2.2.2.1 w.2.2.2.1,())
theorem Awt {α n m a b c d e f g h i j k l o p q r s t u v w x y z d0 d1 k0}:A0k (α:=α) n (m+1) a b c d e f g h i j k l o p q r s t u v w x y z d0 d1 k0=A4d n a b c d e f g h i j k l o p q r s t u v w x y z d0 d1 (λa b c d e f g h i j k l o p q r s t u v w x y z d0 d1=>A0k n m a b c d e f g h i j k l o p q r s t u v w x y z d0 d1 k0) k0:=rfl
abbrev Anr:Tm:=⟨[(2,.k (.hp 2 0 0)),(3,.k (.hp 3 0 0)),(4,.k (.hp 4 0 0))],[(2,.var 91 true false [.d .bool,.d hIs,.d hIs,.d hRs,.d .nil,.d .bool,.d hIs,.d hIs]),(3,.var 91 true false [.d .bool,.d hIs,.d hIs,.d hRs,.d .nil,.d .bool,.d hIs,.d hIs]),(4,.var 91 true false [.d .bool,.d .nil,.d .nil,.d .nil,.d .nil,.d .bool,.d .nil,.d .nil])],[],[]⟩
abbrev Anq:Tm:=⟨[(2,.k (.hp 2 0 0)),(3,.k (.hp 3 0 0)),(4,.k (.hp 4 0 0)),(5,.k (.hp 5 0 0)),(6,.d hI),(7,.k (.hp 7 0 0)),(8,.k (.hp 8 0 0)),(28,.d hRs),(29,.d hI),(30,.d hI)],[(2,.var 91 true false [.d .bool,.d hIs,.d hIs,.d hRs,.d .nil,.d .bool,.d hIs,.d hIs]),(3,.var 91 true false [.d .bool,.d hIs,.d hIs,.d hRs,.d .nil,.d .bool,.d hIs,.d hIs]),(4,.var 91 true false [.d .bool,.d .nil,.d .nil,.d .nil,.d .nil,.d .bool,.d .nil,.d .nil]),(5,.var 91 true false [.d .bool,.d hIs,.d hIs,.d .nil,.d .nil,.d .bool,.d hIs,.d hIs]),(7,.var 54 true false [.d .bool,.d hIs,.d hIs]),(8,.var 54 true false [.d .bool,.d hIs,.d hIs])],[],[]⟩
abbrev Acn:Tm:=⟨[(2,.k (.hp 2 0 0)),(3,.k (.hp 3 0 0)),(4,.k (.hp 4 0 0)),(5,.k (.hp 5 0 0)),(6,.d hI),(7,.k (.hp 7 0 0)),(8,.k (.hp 8 0 0)),(28,.d hRs),(29,.d hI),(30,.d hI)],[(2,.var 91 true false [.d .bool,.d hIs,.d hIs,.d hRs,.d .nil,.d .bool,.d hIs,.d hIs]),(3,.var 91 true false [.d .bool,.d hIs,.d hIs,.d hRs,.d .nil,.d .bool,.d hIs,.d hIs]),(4,.var 91 true false [.d .bool,.d .nil,.d .nil,.d .nil,.d .nil,.d .bool,.d .nil,.d .nil]),(5,.var 91 false false [.d .bool,.d hIs,.d hIs,.k (.hw 52),.d .nil,.d .bool,.d hIs,.d hIs]),(7,.var 54 true false [.d .bool,.d hIs,.d hIs]),(8,.var 54 true false [.d .bool,.d hIs,.d hIs]),(52,.arr 54 hR false)],[],[]⟩
def f167 (n:Nat) (a0 a1:Rq × LR × Unit × Rq):Option (Rq × LR × Unit × Rq) :=
 ob (f162 n a0.1 a1.1) λa =>
 ob (f162 n a0.2.2.2 a1.1) λc =>
 ob (f162 n a0.1 a1.2.2.2) λd =>
 ob (f99 n c d) λb =>
 bif (decide (0<(a0.2.1.length:Int))) then
  gd (decide (0<(a0.2.1.length:Int))) (
   let e:=a0.2.1.getD 0 (false,[],[])
   gd (decide (0<(a1.2.1.length:Int))) (
    let f:=a1.2.1.getD 0 (false,[],[])
    ob (f162 n e a1.1) λg =>
    ob (f162 n a0.1 f) λh =>
    ob (f99 n g h) λi =>
    A0k n n a0.2.1 (a0.2.1.length:Int) 1 a0.1.1 a0.1.2.1 a0.1.2.2 a0.2.1 a0.2.2.2.1 a0.2.2.2.2.1 a0.2.2.2.2.2 a1.1.1 a1.1.2.1 a1.1.2.2 a1.2.1 a1.2.2.2.1 a1.2.2.2.2.1 a1.2.2.2.2.2 false false a.1 a.2.1 a.2.2 b.1 b.2.1 b.2.2 [i]
     (λr s j k l m o p q=>(
      some ((j,k,l),q,(),m,o,p)))))
 else
  some (a,[],(),b)
def Ai5 (n:Nat):Ent:=⟨167,[(.st (.pair hR (.pair hRs (.pair .nil hR)))),(.st (.pair hR (.pair hRs (.pair .nil hR))))],[(.st (.pair hR (.pair hRs (.pair .nil hR))))],λx=>f167 n x.1 x.2⟩
def Ai6 (α:Type) (n:Nat):D3 α:={ reg:=[(1,⟨0,[],[(4,{ ent:=some (A9 n) }),(9,{ ent:=some (A9 n) }),(14,{ ent:=some (A9 n) }),(15,{ ent:=some (Ad n) })]⟩),(6,⟨0,[],[(5,{ ent:=some (A9 n) }),(9,{ ent:=some (A9 n) }),(10,{ ent:=some (Ad n) }),(11,{ sh:=some hR }),(12,{ sh:=some hR })]⟩)],join:=[],loop:=[(3,⟨U9,A4c,A5 (A4b n) n⟩)],any:=[(1,Anr),(6,Anq),(6,Acn)] }
set_option maxHeartbeats 8000000 in
theorem B75 (n:Nat):Al TT ⟨92,[]⟩ [(4,{ ent:=some (A9 n) }),(9,{ ent:=some (A9 n) }),(14,{ ent:=some (A9 n) }),(15,{ ent:=some (Ad n) })] Anr (A4 ((A1 Tryz.f167).at [1,0])):=by
 refine ⟨by kernel_rfl,λw q hq=>?_⟩
 have e:WT [(4,{ ent:=some (A9 n) }),(9,{ ent:=some (A9 n) }),(14,{ ent:=some (A9 n) }),(15,{ ent:=some (Ad n) })] (A8 (A4 ((A1 Tryz.f167).at [1,0])).toList) q=(∃ (y0:HL (A9 n).rs) (q0:List (Nat × RV)),q=(4,.sv (Ae (A9 n).rs y0))::q0 /\ ∃ (y1:HL (A9 n).rs) (q1:List (Nat × RV)),q0=(9,.sv (Ae (A9 n).rs y1))::q1 /\ ∃ (y2:HL (A9 n).rs) (q2:List (Nat × RV)),q1=(14,.sv (Ae (A9 n).rs y2))::q2 /\ ∃ (y3:HL (Ad n).rs) (q3:List (Nat × RV)),q2=(15,.sv (Ae (Ad n).rs y3))::q3/\q3=[]):=by kernel_rfl
 rw [e] at hq;obtain ⟨y0,q0,rfl,y1,q1,rfl,y2,q2,rfl,y3,q3,rfl,rfl⟩:=hq
 all_goals exact .inr ⟨18,by kernel_rfl,by kernel_rfl,by kernel_rfl⟩
set_option maxHeartbeats 8000000 in
theorem Ans (n:Nat):Al TT ⟨92,[]⟩ [(5,{ ent:=some (A9 n) }),(9,{ ent:=some (A9 n) }),(10,{ ent:=some (Ad n) }),(11,{ sh:=some hR }),(12,{ sh:=some hR })] Anq (A4 ((A1 Tryz.f167).at [1,1,0,1,0,0,1,1,0,0,1,1,0])):=by
 refine ⟨by kernel_rfl,λw q hq=>?_⟩
 have e:WT [(5,{ ent:=some (A9 n) }),(9,{ ent:=some (A9 n) }),(10,{ ent:=some (Ad n) }),(11,{ sh:=some hR }),(12,{ sh:=some hR })] (A8 (A4 ((A1 Tryz.f167).at [1,1,0,1,0,0,1,1,0,0,1,1,0])).toList) q=(∃ (y0:HL (A9 n).rs) (q0:List (Nat × RV)),q=(5,.sv (Ae (A9 n).rs y0))::q0 /\ ∃ (y1:HL (A9 n).rs) (q1:List (Nat × RV)),q0=(9,.sv (Ae (A9 n).rs y1))::q1 /\ ∃ (y2:HL (Ad n).rs) (q2:List (Nat × RV)),q1=(10,.sv (Ae (Ad n).rs y2))::q2/\q2=[]):=by kernel_rfl
 rw [e] at hq;obtain ⟨y0,q0,rfl,y1,q1,rfl,y2,q2,rfl,rfl⟩:=hq
 all_goals exact .inr ⟨12,by kernel_rfl,by kernel_rfl,by kernel_rfl⟩
set_option maxHeartbeats 8000000 in
theorem Aco (n:Nat):Al TT ⟨92,[]⟩ [(5,{ ent:=some (A9 n) }),(9,{ ent:=some (A9 n) }),(10,{ ent:=some (Ad n) }),(11,{ sh:=some hR }),(12,{ sh:=some hR })] Acn (A4 ((A1 Tryz.f167).at [1,1,0,1,0,0,1,1,0,0,1,1,0])):=by
 refine ⟨by kernel_rfl,λw q hq=>?_⟩
 have e:WT [(5,{ ent:=some (A9 n) }),(9,{ ent:=some (A9 n) }),(10,{ ent:=some (Ad n) }),(11,{ sh:=some hR }),(12,{ sh:=some hR })] (A8 (A4 ((A1 Tryz.f167).at [1,1,0,1,0,0,1,1,0,0,1,1,0])).toList) q=(∃ (y0:HL (A9 n).rs) (q0:List (Nat × RV)),q=(5,.sv (Ae (A9 n).rs y0))::q0 /\ ∃ (y1:HL (A9 n).rs) (q1:List (Nat × RV)),q0=(9,.sv (Ae (A9 n).rs y1))::q1 /\ ∃ (y2:HL (Ad n).rs) (q2:List (Nat × RV)),q1=(10,.sv (Ae (Ad n).rs y2))::q2/\q2=[]):=by kernel_rfl
 rw [e] at hq;obtain ⟨y0,q0,rfl,y1,q1,rfl,y2,q2,rfl,rfl⟩:=hq
 all_goals exact .inr ⟨12,by kernel_rfl,by kernel_rfl,by kernel_rfl⟩
theorem Acm (α:Type) (n:Nat):Ao PP (Ag (Ai6 α n).reg):=⟨Av n,Av n,Av n,D8 n,Av n,Av n,D8 n,trivial⟩
theorem Awu (α:Type) (n:Nat):D3.OK PP TT ⟨92,[]⟩ (Ai6 α n) ((A1 Tryz.f167).at [1,1,0,1,0,0]) :=
 D3.OK.mk3a (Acm α n) (show Ab ((A1 Tryz.f167).at [1,1,0,1,0,0])=[] by kernel_rfl) trivial (show Ar ((A1 Tryz.f167).at [1,1,0,1,0,0])=[(6,A4 ((A1 Tryz.f167).at [1,1,0,1,0,0,1,1,0,0,1,1,0])),(8,A4 ((A1 Tryz.f167).at [1,1,0,1,0,0,1,1,0,0,1,1,1,1,0,0])),(9,A4 ((A1 Tryz.f167).at [1,1,0,1,0,0,1,1,0,0,1,1,1,1,0,1]))] by kernel_rfl) ⟨⟨Ans n,Aco n,trivial⟩,trivial,trivial,trivial⟩
theorem Ar9 (α:Type) (n:Nat):LO.Sound (α:=α) PP ⟨92,[]⟩ ⟨U9,A4c,A5 (A4b n) n⟩ (.loop ((A1 Tryz.f167).at [1,1,0,1,0,0])):=lk (Awu α n) n
theorem Bcc (α:Type) (n:Nat):D3.OK PP TT ⟨92,[]⟩ (Ai6 α n) (A1 Tryz.f167) :=
 D3.OK.mk3a (Acm α n) (show Ab (A1 Tryz.f167)=[(3,(.loop ((A1 Tryz.f167).at [1,1,0,1,0,0])))] by kernel_rfl) ⟨Ac rfl (Ar9 α n),trivial⟩ (show Ar (A1 Tryz.f167)=[(1,A4 ((A1 Tryz.f167).at [1,0])),(6,A4 ((A1 Tryz.f167).at [1,1,0,1,0,0,1,1,0,0,1,1,0])),(8,A4 ((A1 Tryz.f167).at [1,1,0,1,0,0,1,1,0,0,1,1,1,1,0,0])),(9,A4 ((A1 Tryz.f167).at [1,1,0,1,0,0,1,1,0,0,1,1,1,1,0,1]))] by kernel_rfl) ⟨⟨B75 n,trivial⟩,⟨Ans n,Aco n,trivial⟩,trivial,trivial,trivial⟩
theorem Anp (n:Nat):(Ai5 n).Sound PP:=fk (fn:=Tryz.f167) (Bcc _ n)

def f206 (n:Nat) (a0 a1:Rq):Option Rq :=
 ob (f152 n a0.2.1 a1.2.2) λa =>
 ob (f152 n a0.2.2 a1.2.1) λb =>
 ob (f153 n (!(a0.1==a1.1)) a b) λc =>
 some c
def Ga (n:Nat):Ent:=⟨206,[hR,hR],[hR],λx=>f206 n x.1 x.2⟩
def Bbg (α:Type) (n:Nat):D3 α:={ reg:=[(1,⟨15,[],[(9,{ ent:=some (Ho n) }),(14,{ ent:=some (Ho n) }),(15,{ ent:=some (Rx n) })]⟩)],join:=[],loop:=[] }
theorem An7 (n:Nat):(Ga n).Sound PP:=B0 (fn:=Tryz.f206) (D:=Bbg _ n) ⟨Gv n,Gv n,Rw n,trivial⟩

def f158 (n:Nat) (a0:Rq):Option Rq :=
 bif (!a0.1) then
  ob (f168 n a0) λa =>
  ob (f123 n a0.2.1) λb =>
  ob (f123 n a0.2.2) λc =>
  some ((!a),b,c)
 else
  ob (f123 n a0.2.1) λd =>
  ob (f123 n a0.2.2) λe =>
  some (false,d,e)
def Aio (n:Nat):Ent:=⟨158,[hR],[hR],λx=>f158 n x⟩
def Bcj (α:Type) (n:Nat):D3 α:={ reg:=[(1,⟨14,[],[(5,{ ent:=some (P5 n) }),(10,{ ent:=some (Lp n) }),(13,{ ent:=some (Lp n) })]⟩)],join:=[],loop:=[] }
theorem Ao9 (n:Nat):(Aio n).Sound PP:=B0 (fn:=Tryz.f158) (D:=Bcj _ n) ⟨Nl n,Ki n,Ki n,trivial⟩

def f221 (n:Nat) (a0 a1:Rq):Option Rq :=
 ob (f162 n a1 a0) λa =>
 some a
def Ci (n:Nat):Ent:=⟨221,[hR,(.ref hR)],[hR],λx=>f221 n x.1 x.2⟩
def Bb2 (α:Type) (n:Nat):D3 α:={ reg:=[(1,⟨0,[],[(2,{ ent:=some (A9 n) })]⟩)],join:=[],loop:=[] }
theorem Amz (n:Nat):(Ci n).Sound PP:=B0 (fn:=Tryz.f221) (D:=Bb2 _ n) ⟨Av n,trivial⟩

def I4 {α:Type} (n:Nat) (d:Rq) (p:Rq × (Bool × LI × LI × LR × Unit × Bool × LI × LI) × Rq) (b:LR) (e a:Int) (q:Bool) (r s:LI) (t:LR) (u:Bool) (v w:LI) (g h i:Bool) (j k:LI) (l:Bool) (m o:LI) (c:LR) (f:Rq->(Rq × (Bool × LI × LI × LR × Unit × Bool × LI × LI) × Rq)->LR->Int->Int->Bool->LI->LI->LR->Bool->LI->LI->Bool->Bool->Bool->LI->LI->Bool->LI->LI->LR->Option α) (k0:Bool->Bool->Bool->LI->LI->Bool->LI->LI->LR->Option α):Option α :=
 bif (decide (a<e)) then
  gd (decide (0<=a)&&decide (a<(b.length:Int))) (
   let x:=b.getD a.toNat (false,[],[])
   ob (f221 n x d) λy =>
   gd (decide ((c.length+1)*56<=140737488355328)) (
    f d p b e (W (a+1)) q r s t u v w g h i j k l m o (c++[y])))
 else
  k0 g h i j k l m o c
abbrev F6:Tm:=⟨[(3,.d (.clo 221 (.ref hR))),(4,.d (.clo 222 (.pair (.ref hR) (.pair (.ref (.st (.pair .bool (.pair hIs (.pair hIs (.pair hRs (.pair .nil (.pair .bool (.pair hIs hIs))))))))) (.ref hR))))),(5,.k (.hp 5 0 0)),(10,.k (.hp 10 0 0)),(11,.k (.hp 11 0 0)),(18,.d hRs),(19,.d hI),(20,.d hI)],[(5,.var 91 true false [.d .bool,.d hIs,.d hIs,.d hRs,.d .nil,.d .bool,.d hIs,.d hIs]),(10,.var 91 true false [.d .bool,.d .nil,.d .nil,.d .nil,.d .nil,.d .bool,.d .nil,.d .nil]),(11,.var 91 false false [.d .bool,.d hIs,.d hIs,.k (.hw 31),.d .nil,.d .bool,.d hIs,.d hIs]),(31,.arr 54 hR false)],[13,30],[]⟩
abbrev A19:Tm:=⟨[(10,.k (.hp 10 0 0)),(11,.k (.hp 11 0 0))],[(10,.var 91 true false [.d .bool,.d .nil,.d .nil,.d .nil,.d .nil,.d .bool,.d .nil,.d .nil]),(11,.var 91 false false [.d .bool,.d hIs,.d hIs,.k (.hw 31),.d .nil,.d .bool,.d hIs,.d hIs]),(31,.arr 54 hR false)],[5],[]⟩
abbrev I3:List (Exit × Tm):=[(.exit 0,A19)]
def I2 {α:Type} (n:Nat) (v:F6.den) (f:F6.den->Option α) (ks:KS α I3):Option α:=I4 n v.1.1 v.1.2.1 v.1.2.2.2.2.2.1 v.1.2.2.2.2.2.2.1 v.1.2.2.2.2.2.2.2.1 v.2.1.1 v.2.1.2.1 v.2.1.2.2.1 v.2.1.2.2.2.1 v.2.1.2.2.2.2.2.1 v.2.1.2.2.2.2.2.2.1 v.2.1.2.2.2.2.2.2.2.1 v.2.2.1.1 v.2.2.1.2.2.2.2.2.1 v.2.2.2.1.1 v.2.2.2.1.2.1 v.2.2.2.1.2.2.1 v.2.2.2.1.2.2.2.2.2.1 v.2.2.2.1.2.2.2.2.2.2.1 v.2.2.2.1.2.2.2.2.2.2.2.1 v.2.2.2.2.1 (λa b c d e g h i j k l m o p q r s t u w x=>f ((a,b,(),(),(),c,d,e,()),((g,h,i,j,(),k,l,m,()),(o,(),(),(),(),p,(),(),()),(q,r,s,(),(),t,u,w,()),x,()))) (λw0 w1 w2 w3 w4 w5 w6 w7 w8=>ks.1 (((),(),()),((w0,(),(),(),(),w1,(),(),()),(w2,w3,w4,(),(),w5,w6,w7,()),w8,())))
def G0 {α:Type} (n m:Nat) (a:Rq) (b:Rq × (Bool × LI × LI × LR × Unit × Bool × LI × LI) × Rq) (c:LR) (d e:Int) (f:Bool) (g h:LI) (i:LR) (j:Bool) (k l:LI) (o p q:Bool) (r s:LI) (t:Bool) (u v:LI) (x:LR) (k0:Bool->Bool->Bool->LI->LI->Bool->LI->LI->LR->Option α):Option α:=A5 (I2 n) m ((a,b,(),(),(),c,d,e,()),((f,g,h,i,(),j,k,l,()),(o,(),(),(),(),p,(),(),()),(q,r,s,(),(),t,u,v,()),x,())) (λw=>k0 w.2.1.1 w.2.1.2.2.2.2.2.1 w.2.2.1.1 w.2.2.1.2.1 w.2.2.1.2.2.1 w.2.2.1.2.2.2.2.2.1 w.2.2.1.2.2.2.2.2.2.1 w.2.2.1.2.2.2.2.2.2.2.1 w.2.2.2.1,())
theorem A17 {α n m a b c d e f g h i j k l o p q r s t u v w k0}:G0 (α:=α) n (m+1) a b c d e f g h i j k l o p q r s t u v w k0=I4 n a b c d e f g h i j k l o p q r s t u v w (λa b c d e f g h i j k l o p q r s t u v w=>G0 n m a b c d e f g h i j k l o p q r s t u v w k0) k0:=rfl
abbrev Q7:Tm:=⟨[(3,.d (.clo 221 (.ref hR))),(4,.d (.clo 222 (.pair (.ref hR) (.pair (.ref (.st (.pair .bool (.pair hIs (.pair hIs (.pair hRs (.pair .nil (.pair .bool (.pair hIs hIs))))))))) (.ref hR))))),(5,.k (.hp 5 0 0)),(10,.k (.hp 10 0 0)),(11,.k (.hp 11 0 0)),(12,.d hI),(13,.k (.hp 13 0 0)),(18,.d hRs),(19,.d hI),(20,.d hI)],[(5,.var 91 true false [.d .bool,.d hIs,.d hIs,.d hRs,.d .nil,.d .bool,.d hIs,.d hIs]),(10,.var 91 true false [.d .bool,.d .nil,.d .nil,.d .nil,.d .nil,.d .bool,.d .nil,.d .nil]),(11,.var 91 true false [.d .bool,.d hIs,.d hIs,.d .nil,.d .nil,.d .bool,.d hIs,.d hIs]),(13,.var 54 true false [.d .bool,.d hIs,.d hIs])],[6,7],[]⟩
abbrev Mb:Tm:=⟨[(3,.d (.clo 221 (.ref hR))),(4,.d (.clo 222 (.pair (.ref hR) (.pair (.ref (.st (.pair .bool (.pair hIs (.pair hIs (.pair hRs (.pair .nil (.pair .bool (.pair hIs hIs))))))))) (.ref hR))))),(5,.k (.hp 5 0 0)),(10,.k (.hp 10 0 0)),(11,.k (.hp 11 0 0)),(12,.d hI),(13,.k (.hp 13 0 0)),(18,.d hRs),(19,.d hI),(20,.d hI)],[(5,.var 91 true false [.d .bool,.d hIs,.d hIs,.d hRs,.d .nil,.d .bool,.d hIs,.d hIs]),(10,.var 91 true false [.d .bool,.d .nil,.d .nil,.d .nil,.d .nil,.d .bool,.d .nil,.d .nil]),(11,.var 91 false false [.d .bool,.d hIs,.d hIs,.k (.hw 31),.d .nil,.d .bool,.d hIs,.d hIs]),(13,.var 54 true false [.d .bool,.d hIs,.d hIs]),(31,.arr 54 hR false)],[],[]⟩
def Ol (n:Nat) (a0:Rq × LR × Unit × Rq) (a1 a2 a3:Rq) (a4:Rq × (Bool × LI × LI × LR × Unit × Bool × LI × LI) × Rq):Option (Rq × LR × Unit × Rq) :=
 bif (decide (0<(a0.2.1.length:Int))) then
  gd (decide (0<(a0.2.1.length:Int))) (
   let a:=a0.2.1.getD 0 (false,[],[])
   ob (f221 n a a3) λb =>
   G0 n n a3 a4 a0.2.1 (a0.2.1.length:Int) 1 a0.1.1 a0.1.2.1 a0.1.2.2 a0.2.1 a0.2.2.2.1 a0.2.2.2.2.1 a0.2.2.2.2.2 false false a1.1 a1.2.1 a1.2.2 a2.1 a2.2.1 a2.2.2 [b]
    (λj k c d e f g h i=>(
     some ((c,d,e),i,(),f,g,h))))
 else
  some (a1,[],(),a2)
def Dg (n:Nat):Ent:=⟨207,[(.st (.pair hR (.pair hRs (.pair .nil hR)))),hR,hR,(.clo 221 (.ref hR)),(.clo 222 (.pair (.ref hR) (.pair (.ref (.st (.pair .bool (.pair hIs (.pair hIs (.pair hRs (.pair .nil (.pair .bool (.pair hIs hIs))))))))) (.ref hR))))],[(.st (.pair hR (.pair hRs (.pair .nil hR))))],λx=>Ol n x.1 x.2.1 x.2.2.1 x.2.2.2.1 x.2.2.2.2⟩
def K9 (α:Type) (n:Nat):D3 α:={ reg:=[(5,⟨0,[],[(4,{ ent:=some (Ci n) }),(5,{ sh:=some hR }),(6,{ sh:=some hR })]⟩)],join:=[],loop:=[(3,⟨F6,I3,A5 (I2 n) n⟩)],any:=[(5,Q7),(5,Mb)] }
set_option maxHeartbeats 8000000 in
theorem Q8 (n:Nat):Al TT ⟨46,[]⟩ [(4,{ ent:=some (Ci n) }),(5,{ sh:=some hR }),(6,{ sh:=some hR })] Q7 (A4 ((A1 Tryz.f207).at [1,1,0,1,0,0,1,1,0,0,1,0])):=by
 refine ⟨by kernel_rfl,λw q hq=>?_⟩
 have e:WT [(4,{ ent:=some (Ci n) }),(5,{ sh:=some hR }),(6,{ sh:=some hR })] (A8 (A4 ((A1 Tryz.f207).at [1,1,0,1,0,0,1,1,0,0,1,0])).toList) q=(∃ (y0:HL (Ci n).rs) (q0:List (Nat × RV)),q=(4,.sv (Ae (Ci n).rs y0))::q0/\q0=[]):=by kernel_rfl
 rw [e] at hq;obtain ⟨y0,q0,rfl,rfl⟩:=hq
 all_goals exact .inr ⟨6,by kernel_rfl,by kernel_rfl,by kernel_rfl⟩
set_option maxHeartbeats 8000000 in
theorem Mc (n:Nat):Al TT ⟨46,[]⟩ [(4,{ ent:=some (Ci n) }),(5,{ sh:=some hR }),(6,{ sh:=some hR })] Mb (A4 ((A1 Tryz.f207).at [1,1,0,1,0,0,1,1,0,0,1,0])):=by
 refine ⟨by kernel_rfl,λw q hq=>?_⟩
 have e:WT [(4,{ ent:=some (Ci n) }),(5,{ sh:=some hR }),(6,{ sh:=some hR })] (A8 (A4 ((A1 Tryz.f207).at [1,1,0,1,0,0,1,1,0,0,1,0])).toList) q=(∃ (y0:HL (Ci n).rs) (q0:List (Nat × RV)),q=(4,.sv (Ae (Ci n).rs y0))::q0/\q0=[]):=by kernel_rfl
 rw [e] at hq;obtain ⟨y0,q0,rfl,rfl⟩:=hq
 all_goals exact .inr ⟨6,by kernel_rfl,by kernel_rfl,by kernel_rfl⟩
theorem Ma (α:Type) (n:Nat):Ao PP (Ag (K9 α n).reg):=⟨Amz n,trivial⟩
theorem A18 (α:Type) (n:Nat):D3.OK PP TT ⟨46,[]⟩ (K9 α n) ((A1 Tryz.f207).at [1,1,0,1,0,0]) :=
 D3.OK.mk3a (Ma α n) (show Ab ((A1 Tryz.f207).at [1,1,0,1,0,0])=[] by kernel_rfl) trivial (show Ar ((A1 Tryz.f207).at [1,1,0,1,0,0])=[(5,A4 ((A1 Tryz.f207).at [1,1,0,1,0,0,1,1,0,0,1,0])),(7,A4 ((A1 Tryz.f207).at [1,1,0,1,0,0,1,1,0,0,1,1,1,0]))] by kernel_rfl) ⟨⟨Q8 n,Mc n,trivial⟩,trivial,trivial⟩
theorem Y2 (α:Type) (n:Nat):LO.Sound (α:=α) PP ⟨46,[]⟩ ⟨F6,I3,A5 (I2 n) n⟩ (.loop ((A1 Tryz.f207).at [1,1,0,1,0,0])):=lk (A18 α n) n
theorem Aa6 (α:Type) (n:Nat):D3.OK PP TT ⟨46,[]⟩ (K9 α n) (A1 Tryz.f207) :=
 D3.OK.mk3a (Ma α n) (show Ab (A1 Tryz.f207)=[(3,(.loop ((A1 Tryz.f207).at [1,1,0,1,0,0])))] by kernel_rfl) ⟨Ac rfl (Y2 α n),trivial⟩ (show Ar (A1 Tryz.f207)=[(5,A4 ((A1 Tryz.f207).at [1,1,0,1,0,0,1,1,0,0,1,0])),(7,A4 ((A1 Tryz.f207).at [1,1,0,1,0,0,1,1,0,0,1,1,1,0]))] by kernel_rfl) ⟨⟨Q8 n,Mc n,trivial⟩,trivial,trivial⟩
theorem A7f (n:Nat):(Dg n).Sound PP:=fk (fn:=Tryz.f207) (Aa6 _ n)

abbrev An5:Tm:=⟨[(4,.k (.hp 4 0 0)),(5,.k (.hp 5 0 0)),(6,.k (.hp 6 0 0)),(7,.k (.hp 7 0 0)),(8,.k (.hp 8 0 0))],[(4,.var 91 true false [.d .bool,.d hIs,.d hIs,.d hRs,.d .nil,.d .bool,.d hIs,.d hIs]),(5,.var 54 true false [.d .bool,.d hIs,.d hIs]),(6,.var 54 true false [.d .bool,.d hIs,.d hIs]),(7,.var 54 true false [.d .bool,.d hIs,.d hIs]),(8,.var 91 true false [.d .bool,.d .nil,.d .nil,.d .nil,.d .nil,.d .bool,.d .nil,.d .nil])],[],[]⟩
def f210 (n:Nat) (a0:Rq × LR × Unit × Rq) (a1 a2 a3:Rq):Option (Rq × LR × Unit × Rq) :=
 ob (f162 n a2 a0.2.2.2) λa =>
 ob (Ol n (a0.1,a0.2.1,(),a0.2.2.2) a1 a a2 (a3,(a0.1.1,a0.1.2.1,a0.1.2.2,a0.2.1,(),a0.2.2.2),a2)) λb =>
 some b
def Ahb (n:Nat):Ent:=⟨210,[(.st (.pair hR (.pair hRs (.pair .nil hR)))),hR,hR,hR],[(.st (.pair hR (.pair hRs (.pair .nil hR))))],λx=>f210 n x.1 x.2.1 x.2.2.1 x.2.2.2⟩
def Avj (α:Type) (n:Nat):D3 α:={ reg:=[(1,⟨0,[],[(5,{ ent:=some (A9 n) }),(6,{ sh:=some (.ref hR) }),(7,{ sh:=some (.pair (.ref hR) (.pair (.ref (.st (.pair .bool (.pair hIs (.pair hIs (.pair hRs (.pair .nil (.pair .bool (.pair hIs hIs))))))))) (.ref hR))) }),(8,{ ent:=some (Dg n) })]⟩)],join:=[],loop:=[],any:=[(1,An5)] }
set_option maxHeartbeats 8000000 in
theorem B62 (n:Nat):Al TT ⟨18,[]⟩ [(5,{ ent:=some (A9 n) }),(6,{ sh:=some (.ref hR) }),(7,{ sh:=some (.pair (.ref hR) (.pair (.ref (.st (.pair .bool (.pair hIs (.pair hIs (.pair hRs (.pair .nil (.pair .bool (.pair hIs hIs))))))))) (.ref hR))) }),(8,{ ent:=some (Dg n) })] An5 (A4 ((A1 Tryz.f210).at [1,0])):=by
 refine ⟨by kernel_rfl,λw q hq=>?_⟩
 have e:WT [(5,{ ent:=some (A9 n) }),(6,{ sh:=some (.ref hR) }),(7,{ sh:=some (.pair (.ref hR) (.pair (.ref (.st (.pair .bool (.pair hIs (.pair hIs (.pair hRs (.pair .nil (.pair .bool (.pair hIs hIs))))))))) (.ref hR))) }),(8,{ ent:=some (Dg n) })] (A8 (A4 ((A1 Tryz.f210).at [1,0])).toList) q=(∃ (y0:HL (A9 n).rs) (q0:List (Nat × RV)),q=(5,.sv (Ae (A9 n).rs y0))::q0 /\ ∃ (y1:HL (Dg n).rs) (q1:List (Nat × RV)),q0=(8,.sv (Ae (Dg n).rs y1))::q1/\q1=[]):=by kernel_rfl
 rw [e] at hq;obtain ⟨y0,q0,rfl,y1,q1,rfl,rfl⟩:=hq
 all_goals exact .inl (Hy.mk (by kernel_rfl))
theorem Avi (α:Type) (n:Nat):Ao PP (Ag (Avj α n).reg):=⟨Av n,A7f n,trivial⟩
theorem Bbb (α:Type) (n:Nat):D3.OK PP TT ⟨18,[]⟩ (Avj α n) (A1 Tryz.f210) :=
 D3.OK.mk3a (Avi α n) (show Ab (A1 Tryz.f210)=[] by kernel_rfl) trivial (show Ar (A1 Tryz.f210)=[(1,A4 ((A1 Tryz.f210).at [1,0]))] by kernel_rfl) ⟨⟨B62 n,trivial⟩,trivial⟩
theorem An4 (n:Nat):(Ahb n).Sound PP:=fk (fn:=Tryz.f210) (Bbb _ n)

abbrev Ano:Tm:=⟨[(1,.k (.hp 1 0 0)),(2,.k (.hp 2 0 0))],[(1,.var 91 true false [.d .bool,.d hIs,.d hIs,.d hRs,.d .nil,.d .bool,.d hIs,.d hIs]),(2,.var 91 true false [.d .bool,.d .nil,.d .nil,.d .nil,.d .nil,.d .bool,.d .nil,.d .nil])],[],[]⟩
def f169 (n:Nat) (a0:Rq × LR × Unit × Rq):Option (Rq × LR × Unit × Rq) :=
 ob (f97 n 1) λc =>
 ob (f206 n c a0.1) λa =>
 ob (f162 n a a) λb =>
 ob (f158 n b) λd =>
 ob (f162 n b a) λe =>
 ob (f97 n 2) λf =>
 ob (f162 n e f) λg =>
 ob (f210 n (a0.1,a0.2.1,(),a0.2.2.2) a d g) λh =>
 some h
def Awq (n:Nat):Ent:=⟨169,[(.st (.pair hR (.pair hRs (.pair .nil hR))))],[(.st (.pair hR (.pair hRs (.pair .nil hR))))],λx=>f169 n x⟩
def Awr (α:Type) (n:Nat):D3 α:={ reg:=[(1,⟨0,[],[(0,{ ent:=some (At n) }),(3,{ ent:=some (Ga n) })]⟩),(2,⟨0,[],[(2,{ ent:=some (A9 n) })]⟩),(3,⟨9,[],[(3,{ ent:=some (Aio n) }),(6,{ ent:=some (A9 n) }),(7,{ ent:=some (At n) }),(8,{ ent:=some (A9 n) }),(9,{ ent:=some (Ahb n) })]⟩)],join:=[],loop:=[],any:=[(1,Ano)] }
set_option maxHeartbeats 8000000 in
theorem B73 (n:Nat):Al TT ⟨22,[]⟩ [(0,{ ent:=some (At n) }),(3,{ ent:=some (Ga n) })] Ano (A4 ((A1 Tryz.f169).at [1,0])):=by
 refine ⟨by kernel_rfl,λw q hq=>?_⟩
 have e:WT [(0,{ ent:=some (At n) }),(3,{ ent:=some (Ga n) })] (A8 (A4 ((A1 Tryz.f169).at [1,0])).toList) q=(∃ (y0:HL (At n).rs) (q0:List (Nat × RV)),q=(0,.sv (Ae (At n).rs y0))::q0 /\ ∃ (y1:HL (Ga n).rs) (q1:List (Nat × RV)),q0=(3,.sv (Ae (Ga n).rs y1))::q1/\q1=[]):=by kernel_rfl
 rw [e] at hq;obtain ⟨y0,q0,rfl,y1,q1,rfl,rfl⟩:=hq
 all_goals exact .inr ⟨5,by kernel_rfl,by kernel_rfl,by kernel_rfl⟩
theorem Awp (α:Type) (n:Nat):Ao PP (Ag (Awr α n).reg):=⟨Bi n,An7 n,Av n,Ao9 n,Av n,Bi n,Av n,An4 n,trivial⟩
theorem Bca (α:Type) (n:Nat):D3.OK PP TT ⟨22,[]⟩ (Awr α n) (A1 Tryz.f169) :=
 D3.OK.mk3a (Awp α n) (show Ab (A1 Tryz.f169)=[] by kernel_rfl) trivial (show Ar (A1 Tryz.f169)=[(1,A4 ((A1 Tryz.f169).at [1,0])),(3,A4 ((A1 Tryz.f169).at [1,1,1,0]))] by kernel_rfl) ⟨⟨B73 n,trivial⟩,trivial,trivial⟩
theorem B72 (n:Nat):(Awq n).Sound PP:=fk (fn:=Tryz.f169) (Bca _ n)

def A4a {α:Type} (n:Nat) (a b:Int) (c:Bool) (d e:LI) (g h:Bool) (i j:LI) (f:Int->Int->Bool->LI->LI->Bool->Bool->LI->LI->Option α) (k0:Bool->Bool->LI->LI->Option α):Option α :=
 bif (decide (b<a)) then
  ob (f152 n i d) λk =>
  ob (f152 n j e) λl =>
  f a (W (b+1)) c d e g (!(h==c)) k l
 else
  k0 g h i j
abbrev U8:Tm:=⟨[(2,.k (.hp 2 0 0)),(4,.k (.hp 4 0 0)),(5,.k (.hp 5 0 0)),(7,.d hI),(8,.d hI)],[(2,.var 54 true false [.d .bool,.d hIs,.d hIs]),(4,.var 54 true false [.d .bool,.d .nil,.d .nil]),(5,.var 54 true false [.d .bool,.d hIs,.d hIs])],[],[]⟩
abbrev Awo:Tm:=⟨[(4,.k (.hp 4 0 0)),(5,.k (.hp 5 0 0))],[(4,.var 54 true false [.d .bool,.d .nil,.d .nil]),(5,.var 54 true false [.d .bool,.d hIs,.d hIs])],[2],[]⟩
abbrev A49:List (Exit × Tm):=[(.exit 0,Awo)]
def A48 {α:Type} (n:Nat) (v:U8.den) (f:U8.den->Option α) (ks:KS α A49):Option α:=A4a n v.1.2.2.2.1 v.1.2.2.2.2.1 v.2.1.1 v.2.1.2.1 v.2.1.2.2.1 v.2.2.1.1 v.2.2.2.1.1 v.2.2.2.1.2.1 v.2.2.2.1.2.2.1 (λa b c d e g h i j=>f (((),(),(),a,b,()),((c,d,e,()),(g,(),(),()),(h,i,j,()),()))) (λw0 w1 w2 w3=>ks.1 (((),(),()),((w0,(),(),()),(w1,w2,w3,()),())))
def Ru {α:Type} (n m:Nat) (a b:Int) (c:Bool) (d e:LI) (f g:Bool) (h i:LI) (k0:Bool->Bool->LI->LI->Option α):Option α:=A5 (A48 n) m (((),(),(),a,b,()),((c,d,e,()),(f,(),(),()),(g,h,i,()),())) (λw=>k0 w.2.1.1 w.2.2.1.1 w.2.2.1.2.1 w.2.2.1.2.2.1,())
theorem Awn {α n m a b c d e f g h i k0}:Ru (α:=α) n (m+1) a b c d e f g h i k0=A4a n a b c d e f g h i (λa b c d e f g h i=>Ru n m a b c d e f g h i k0) k0:=rfl
def f170 (n:Nat) (a0:Rq) (a1:Int):Option Rq :=
 ob (f97 n 1) λc =>
 Ru n n a1 0 a0.1 a0.2.1 a0.2.2 false c.1 c.2.1 c.2.2
  (λj e a b=>(
   bif e then
    ob (f168 n (e,a,b)) λd =>
    ob (f168 n ((!d),a,b)) λf =>
    bif f then
     ob (f151 n) λg =>
     some ((!d),a,g)
    else
     some ((!d),a,b)
   else
    ob (f168 n (false,a,b)) λh =>
    bif h then
     ob (f151 n) λi =>
     some (false,a,i)
    else
     some (false,a,b)))
def J8 (n:Nat):Ent:=⟨170,[hR,hI],[hR],λx=>f170 n x.1 x.2⟩
def Ahv (α:Type) (n:Nat):D3 α:={ reg:=[(1,⟨0,[],[(0,{ ent:=some (At n) })]⟩),(4,⟨15,[],[(9,{ ent:=some (Ho n) }),(14,{ ent:=some (Ho n) })]⟩),(6,⟨0,[],[(4,{ ent:=some (P5 n) })]⟩),(7,⟨0,[],[(1,{ ent:=some (P5 n) })]⟩),(8,⟨0,[],[(0,{ ent:=some (Rz n) })]⟩)],join:=[],loop:=[(3,⟨U8,A49,A5 (A48 n) n⟩)] }
theorem Acl (α:Type) (n:Nat):Ao PP (Ag (Ahv α n).reg):=⟨Bi n,Gv n,Gv n,Nl n,Nl n,Ry n,trivial⟩
theorem Ar5 (α:Type) (n:Nat):LO.Sound (α:=α) PP ⟨40,[]⟩ ⟨U8,A49,A5 (A48 n) n⟩ (.loop ((A1 Tryz.f170).at [1,1,0,1,0,0])):=C5 (D:=Ahv α n) (Acl α n) n
theorem Bc9 (α:Type) (n:Nat):D3.OK PP TT ⟨40,[]⟩ (Ahv α n) (A1 Tryz.f170) :=
 D3.OK.mk3 (Acl α n) (show Ab (A1 Tryz.f170)=[(3,(.loop ((A1 Tryz.f170).at [1,1,0,1,0,0])))] by kernel_rfl) ⟨Ac rfl (Ar5 α n),trivial⟩
theorem Ih (n:Nat):(J8 n).Sound PP:=fk (fn:=Tryz.f170) (Bc9 _ n)

def f98 (n:Nat) (a0:Rq):Option Bool :=
 bif (decide ((a0.2.1.length:Int)<=40)) then
  some (decide ((a0.2.2.length:Int)<=40))
 else
  some false
def Mr (n:Nat):Ent:=⟨98,[hR],[.bool],λx=>f98 n x⟩
def Bei (α:Type) (n:Nat):D3 α:={ reg:=[],join:=[],loop:=[] }
theorem Lb (n:Nat):(Mr n).Sound PP:=B0 (fn:=Tryz.f98) (D:=Bei _ n) trivial

abbrev Ao8:Tm:=⟨[(4,.k (.hp 4 0 0)),(5,.k (.hp 5 0 0)),(6,.k (.hp 6 0 0)),(7,.k (.hp 7 0 0))],[(4,.var 54 true false [.d .bool,.d .nil,.d .nil]),(5,.var 54 true false [.d .bool,.d .nil,.d .nil]),(6,.var 54 true false [.d .bool,.d hIs,.d hIs]),(7,.var 54 true false [.d .bool,.d hIs,.d hIs])],[2],[]⟩
abbrev B7j:Tm:=⟨[(1,.d hI),(2,.k (.hp 2 0 0)),(4,.k (.hp 4 0 0)),(5,.k (.hp 5 0 0)),(6,.k (.hp 6 0 0)),(7,.k (.hp 7 0 0))],[(2,.var 91 true false [.d .bool,.d hIs,.d hIs,.d hRs,.d .nil,.d .bool,.d hIs,.d hIs]),(4,.var 54 true false [.d .bool,.d .nil,.d .nil]),(5,.var 54 true false [.d .bool,.d .nil,.d .nil]),(6,.var 54 true false [.d .bool,.d hIs,.d hIs]),(7,.var 54 true false [.d .bool,.d hIs,.d hIs])],[],[]⟩
def f161 (n:Nat) (a0:Rq × LR × Unit × Rq) (a1:Int):Option (Rq × Rq) :=
 ob (f97 n 0) λa =>
 ob (f97 n 0) λg =>
 let c:=λ(d:Bool) (e:LI) (f:LI)=>(
  bif (decide (a1>=2)) then
   ob (f170 n a0.1 (W (a1-2))) λh =>
   ob (f97 n (W (a1*(W (a1-1))))) λi =>
   ob (f162 n h i) λj =>
   some ((d,e,f),j)
  else
   some ((d,e,f),g))
 bif (decide (a1>=1)) then
  ob (f170 n a0.1 (W (a1-1))) λk =>
  ob (f97 n a1) λl =>
  ob (f162 n k l) λb =>
  c b.1 b.2.1 b.2.2
 else
  c a.1 a.2.1 a.2.2
def Ax9 (n:Nat):Ent:=⟨161,[(.st (.pair hR (.pair hRs (.pair .nil hR)))),hI],[hR,hR],λx=>f161 n x.1 x.2⟩
def Axa (α:Type) (n:Nat):D3 α:={ reg:=[(1,⟨0,[],[(0,{ ent:=some (At n) }),(1,{ ent:=some (At n) })]⟩),(3,⟨0,[],[(4,{ ent:=some (J8 n) }),(6,{ ent:=some (At n) }),(7,{ ent:=some (A9 n) })]⟩),(5,⟨0,[],[(4,{ ent:=some (J8 n) }),(9,{ ent:=some (At n) }),(10,{ ent:=some (A9 n) })]⟩)],join:=[(4,B7j)],loop:=[],any:=[(6,Ao8)] }
set_option maxHeartbeats 8000000 in
theorem B7k (n:Nat):Al TT ⟨35,[]⟩ [] Ao8 (A4 ((A1 Tryz.f161).at [1,1,1,1,0])):=by
 refine ⟨by kernel_rfl,λw q hq=>?_⟩
 have e:WT [] (A8 (A4 ((A1 Tryz.f161).at [1,1,1,1,0])).toList) q=(q=[]):=by kernel_rfl
 rw [e] at hq;obtain rfl:=hq
 all_goals exact .inr ⟨3,by kernel_rfl,by kernel_rfl,by kernel_rfl⟩
theorem Ax8 (α:Type) (n:Nat):Ao PP (Ag (Axa α n).reg):=⟨Bi n,Bi n,Ih n,Bi n,Av n,Ih n,Bi n,Av n,trivial⟩
theorem Bci (α:Type) (n:Nat):D3.OK PP TT ⟨35,[]⟩ (Axa α n) (A1 Tryz.f161) :=
 D3.OK.mk3a (Ax8 α n) (show Ab (A1 Tryz.f161)=[] by kernel_rfl) trivial (show Ar (A1 Tryz.f161)=[(6,A4 ((A1 Tryz.f161).at [1,1,1,1,0]))] by kernel_rfl) ⟨⟨B7k n,trivial⟩,trivial⟩
theorem B7i (n:Nat):(Ax9 n).Sound PP:=fk (fn:=Tryz.f161) (Bci _ n)

def f171 (n:Nat) (a0:Rq × LR × Unit × Rq) (a1:Int):Option (Rq × LR × Unit × Rq) :=
 ob (f161 n a0 a1) λa =>
 ob (f170 n a0.1 a1) λb =>
 ob (f210 n a0 b a.1 a.2) λc =>
 some c
def Awm (n:Nat):Ent:=⟨171,[(.st (.pair hR (.pair hRs (.pair .nil hR)))),hI],[(.st (.pair hR (.pair hRs (.pair .nil hR))))],λx=>f171 n x.1 x.2⟩
def Bc8 (α:Type) (n:Nat):D3 α:={ reg:=[(1,⟨0,[],[(2,{ ent:=some (Ax9 n) })]⟩),(2,⟨7,[],[(4,{ ent:=some (J8 n) }),(7,{ ent:=some (Ahb n) })]⟩)],join:=[],loop:=[] }
theorem B70 (n:Nat):(Awm n).Sound PP:=B0 (fn:=Tryz.f171) (D:=Bc8 _ n) ⟨B7i n,Ih n,An4 n,trivial⟩

abbrev Aj6:Tm:=⟨[(2,.d hRs),(3,.k (.hw 1003)),(4,.k (.hp 4 0 0)),(5,.k (.hp 5 0 0)),(8,.k (.hp 8 0 0)),(10,.k (.hp 10 0 0)),(11,.k (.hp 11 0 0))],[(4,.var 94 true false [.d hI,.d .nil]),(5,.var 85 true false [.d hI,.d hI,.d hI,.d hI]),(8,.var 91 true false [.d .bool,.d .nil,.d .nil,.d .nil,.d .nil,.d .bool,.d .nil,.d .nil]),(10,.var 91 true false [.d .bool,.d .nil,.d .nil,.d .nil,.d .nil,.d .bool,.d .nil,.d .nil]),(11,.var 91 true false [.d .bool,.d .nil,.d .nil,.d .nil,.d .nil,.d .bool,.d .nil,.d .nil]),(1003,.arr 91 (.st (.pair hR (.pair hRs (.pair .nil hR)))) false)],[],[]⟩
abbrev B2z:Tm:=⟨[(2,.d hRs),(4,.k (.hp 4 0 0)),(5,.k (.hp 5 0 0)),(8,.k (.hp 8 0 0)),(10,.k (.hp 10 0 0)),(11,.k (.hp 11 0 0))],[(4,.var 94 true false [.d hI,.d .nil]),(5,.var 85 true false [.d hI,.d hI,.d hI,.d hI]),(8,.var 91 true false [.d .bool,.d .nil,.d .nil,.d .nil,.d .nil,.d .bool,.d .nil,.d .nil]),(10,.var 91 true false [.d .bool,.d hIs,.d hIs,.d hRs,.d .nil,.d .bool,.d hIs,.d hIs]),(11,.var 91 true false [.d .bool,.d hIs,.d hIs,.d hRs,.d .nil,.d .bool,.d hIs,.d hIs]),(1003,.arr 91 (.st (.pair hR (.pair hRs (.pair .nil hR)))) false)],[],[]⟩
def A0v (n:Nat) (a0:Int × Unit) (a1:Nq) (a2:LR) (a3:List (Rq × LR × Unit × Rq)):Option (((Rq × LR × Unit × Rq) × Int) × (List (Rq × LR × Unit × Rq))) :=
 let r:=λ(a:Bool) (b:LI) (c:LI) (f:LR) (g:Bool) (h:LI) (i:LI) (j:Bool) (k:LI) (l:LI) (m:LR) (o:Bool) (p:LI) (q:LI)=>(
  bif (a1.1==1) then
   ob (f97 n a1.2.2.2) λs =>
   ob (f163 n (a0.1,()) s) λt =>
   some ((t,0),a3)
  else
   bif (a1.1==2) then
    gd (decide (0<=a1.2.2.2)&&decide (a1.2.2.2<(a2.length:Int))) (
     let u:=a2.getD a1.2.2.2.toNat (false,[],[])
     ob (f164 n (a0.1,()) u a1.2.2.2) λv =>
     some ((v,0),a3))
   else
    bif (a1.1==3) then
     ob (f165 n ((a,b,c),f,(),g,h,i) ((j,k,l),m,(),o,p,q)) λw =>
     some ((w,0),a3)
    else
     bif (a1.1==4) then
      ob (f97 n (-1)) λx =>
      ob (f166 n ((j,k,l),m,(),o,p,q) x) λy =>
      ob (f165 n ((a,b,c),f,(),g,h,i) y) λz =>
      some ((z,0),a3)
     else
      bif (a1.1==5) then
       ob (f167 n ((a,b,c),f,(),g,h,i) ((j,k,l),m,(),o,p,q)) λd0 =>
       some ((d0,0),a3)
      else
       bif (a1.1==6) then
        ob (f168 n (j,k,l)) λd1 =>
        bif d1 then
         some ((((false,[],[]),[],(),false,[],[]),10),a3)
        else
         ob (f169 n ((j,k,l),m,(),o,p,q)) λd2 =>
         ob (f167 n ((a,b,c),f,(),g,h,i) d2) λd3 =>
         some ((d3,0),a3)
       else
        bif (a1.1==7) then
         ob (f97 n (-1)) λd4 =>
         ob (f166 n ((a,b,c),f,(),g,h,i) d4) λd5 =>
         some ((d5,0),a3)
        else
         ob (f170 n (a,b,c) a1.2.2.2) λd6 =>
         ob (f98 n d6) λd7 =>
         bif (!d7) then
          some ((((false,[],[]),[],(),false,[],[]),7),a3)
         else
          ob (f171 n ((a,b,c),f,(),g,h,i) a1.2.2.2) λd8 =>
          some ((d8,0),a3))
 ob (f61 n a1) λd9 =>
 bif (decide (d9>0)) then
  gd (decide (0<=a1.2.1)&&decide (a1.2.1<(a3.length:Int))) (
   gd (decide (a1.2.1.toNat<a3.length)) (
    let d:=a3.getD a1.2.1.toNat ((false,[],[]),[],(),(false,[],[]))
    gd (decide (0<=a1.2.2.1)&&decide (a1.2.2.1<(a3.length:Int))) (
     gd (decide (a1.2.2.1.toNat<a3.length)) (
      let e:=a3.getD a1.2.2.1.toNat ((false,[],[]),[],(),(false,[],[]))
      r d.1.1 d.1.2.1 d.1.2.2 d.2.1 d.2.2.2.1 d.2.2.2.2.1 d.2.2.2.2.2 e.1.1 e.1.2.1 e.1.2.2 e.2.1 e.2.2.2.1 e.2.2.2.2.1 e.2.2.2.2.2))))
 else
  r false [] [] [] false [] [] false [] [] [] false [] []
def Aok (n:Nat):Ent3:=⟨101,[.im (.st (.pair hI .nil)),.im hN,.im hRs,.one (.own 91 (.st (.pair hR (.pair hRs (.pair .nil hR)))))],[[.im (.st (.pair hR (.pair hRs (.pair .nil hR)))),.im hI]],λx=>A0v n x.1 x.2.1 x.2.2.1 x.2.2.2,[]⟩
def Aol (α:Type) (n:Nat):D3 α:={ reg:=[(2,⟨0,[],[(1,{ ent:=some (A02 n) })]⟩),(6,⟨4,[],[(3,{ ent:=some (At n) }),(4,{ ent:=some (Ax4 n) })]⟩),(8,⟨8,[],[(8,{ ent:=some (Ax2 n) })]⟩),(10,⟨0,[],[(2,{ ent:=some (Aig n) })]⟩),(12,⟨4,[],[(2,{ ent:=some (At n) }),(3,{ ent:=some (Ai9 n) }),(4,{ ent:=some (Aig n) })]⟩),(14,⟨0,[],[(2,{ ent:=some (Ai5 n) })]⟩),(16,⟨0,[],[(2,{ ent:=some (P5 n) })]⟩),(18,⟨3,[],[(2,{ ent:=some (Awq n) }),(3,{ ent:=some (Ai5 n) })]⟩),(20,⟨2,[],[(1,{ ent:=some (At n) }),(2,{ ent:=some (Ai9 n) })]⟩),(21,⟨0,[],[(4,{ ent:=some (J8 n) }),(5,{ ent:=some (Mr n) })]⟩),(23,⟨0,[],[(3,{ ent:=some (Awm n) })]⟩)],join:=[(4,B2z)],loop:=[],any:=[(3,Aj6)] }
set_option maxHeartbeats 8000000 in
theorem B30 (n:Nat):Al TT ⟨89,[]⟩ [] Aj6 (A4 ((A1 Tryz.f101).at [1,1,0,1,0])):=by
 refine ⟨by kernel_rfl,λw q hq=>?_⟩
 have e:WT [] (A8 (A4 ((A1 Tryz.f101).at [1,1,0,1,0])).toList) q=(q=[]):=by kernel_rfl
 rw [e] at hq;obtain rfl:=hq
 all_goals exact .inr ⟨11,by kernel_rfl,by kernel_rfl,by kernel_rfl⟩
theorem Ase (α:Type) (n:Nat):Ao PP (Ag (Aol α n).reg):=⟨Xp n,Bi n,B7e n,B7b n,Anw n,Bi n,Anu n,Anw n,Anp n,Nl n,B72 n,Anp n,Bi n,Anu n,Ih n,Lb n,B70 n,trivial⟩
theorem B8p (α:Type) (n:Nat):D3.OK PP TT ⟨89,[]⟩ (Aol α n) (A1 Tryz.f101) :=
 D3.OK.mk3a (Ase α n) (show Ab (A1 Tryz.f101)=[] by kernel_rfl) trivial (show Ar (A1 Tryz.f101)=[(3,A4 ((A1 Tryz.f101).at [1,1,0,1,0])),(6,A4 ((A1 Tryz.f101).at [1,1,1,0,1,0,1,0,0])),(8,A4 ((A1 Tryz.f101).at [1,1,1,0,1,0,1,1,1,0,0])),(12,A4 ((A1 Tryz.f101).at [1,1,1,0,1,0,1,1,1,1,1,1,1,0,0])),(18,A4 ((A1 Tryz.f101).at [1,1,1,0,1,0,1,1,1,1,1,1,1,1,1,1,1,0,1,0])),(20,A4 ((A1 Tryz.f101).at [1,1,1,0,1,0,1,1,1,1,1,1,1,1,1,1,1,1,1,0,0]))] by kernel_rfl) ⟨⟨B30 n,trivial⟩,trivial,trivial,trivial,trivial,trivial,trivial⟩
theorem B2y (n:Nat):(Aok n).Sound PP:=fkB (fn:=Tryz.f101) (B8p _ n)

def f105 (n:Nat) (a0:Rq):Option Bool :=
 ob (f98 n a0) λa =>
 some (!a)
def Ayx (n:Nat):Ent:=⟨105,[hR],[.bool],λx=>f105 n x⟩
def Bdh (α:Type) (n:Nat):D3 α:={ reg:=[(1,⟨0,[],[(1,{ ent:=some (Mr n) })]⟩)],join:=[],loop:=[] }
theorem B8o (n:Nat):(Ayx n).Sound PP:=B0 (fn:=Tryz.f105) (D:=Bdh _ n) ⟨Lb n,trivial⟩

def P4 {α:Type} (n:Nat) (b:LR) (c a:Int) (f:LR->Int->Int->Option α) (k0:Int->Option α) (k1:Unit->Option α):Option α :=
 bif (decide (a<c)) then
  gd (decide (0<=a)&&decide (a<(b.length:Int))) (
   let d:=b.getD a.toNat (false,[],[])
   ob (f105 n d) λe =>
   bif e then
    k0 a
   else
    f b c (W (a+1)))
 else
  k1 ()
abbrev J7:Tm:=⟨[(0,.d hRs),(1,.d (.fn 105)),(7,.d hI),(8,.d hI)],[],[],[]⟩
abbrev Adw:Tm:=⟨[(4,.d hI)],[],[],[]⟩
abbrev Adv:Tm:=⟨[],[],[],[]⟩
abbrev P3:List (Exit × Tm):=[(.ret,Adw),(.exit 0,Adv)]
def P2 {α:Type} (n:Nat) (v:J7.den) (f:J7.den->Option α) (ks:KS α P3):Option α:=P4 n v.1.1 v.1.2.2.1 v.1.2.2.2.1 (λa b c=>f ((a,(),b,c,()),())) (λw0=>ks.1 ((w0,()),())) (λ_=>ks.2.1 ((),()))
def Hn {α:Type} (n m:Nat) (a:LR) (b c:Int) (k0:Int->Option α) (k1:Unit->Option α):Option α:=A5 (P2 n) m ((a,(),b,c,()),()) (λw=>k0 w.1.1,λw=>k1 (),())
theorem Adu {α n m a b c k0 k1}:Hn (α:=α) n (m+1) a b c k0 k1=P4 n a b c (λa b c=>Hn n m a b c k0 k1) k0 k1:=rfl
def A47 (n:Nat) (a0:LR) (a1:Unit):Option Int :=
 Hn n n a0 (a0.length:Int) 0
  (λa=>(
   some a))
  (λ(_:Unit)=>(
   some (-1)))
def A7r (n:Nat):Ent:=⟨172,[hRs,(.fn 105)],[hI],λx=>A47 n x.1 x.2⟩
def U7 (α:Type) (n:Nat):D3 α:={ reg:=[(4,⟨0,[],[(5,{ ent:=some (Ayx n) })]⟩)],join:=[],loop:=[(2,⟨J7,P3,A5 (P2 n) n⟩)] }
theorem W6 (α:Type) (n:Nat):Ao PP (Ag (U7 α n).reg):=⟨B8o n,trivial⟩
theorem Aae (α:Type) (n:Nat):LO.Sound (α:=α) PP ⟨19,[]⟩ ⟨J7,P3,A5 (P2 n) n⟩ (.loop ((A1 Tryz.f172).at [1,0,1,0,0])):=C5 (D:=U7 α n) (W6 α n) n
theorem Ar4 (α:Type) (n:Nat):D3.OK PP TT ⟨19,[]⟩ (U7 α n) (A1 Tryz.f172) :=
 D3.OK.mk3 (W6 α n) (show Ab (A1 Tryz.f172)=[(2,(.loop ((A1 Tryz.f172).at [1,0,1,0,0])))] by kernel_rfl) ⟨Ac rfl (Aae α n),trivial⟩
theorem Al8 (n:Nat):(A7r n).Sound PP:=fk (fn:=Tryz.f172) (Ar4 _ n)

def A5o (n:Nat) (a0:LR) (a1:Unit):Option Bool :=
 ob (A47 n a0 a1) λa =>
 some (decide (a>=0))
def A8f (n:Nat):Ent:=⟨104,[hRs,(.fn 105)],[.bool],λx=>A5o n x.1 x.2⟩
def Asc (α:Type) (n:Nat):D3 α:={ reg:=[(1,⟨0,[],[(2,{ ent:=some (A7r n) })]⟩)],join:=[],loop:=[] }
theorem Ali (n:Nat):(A8f n).Sound PP:=B0 (fn:=Tryz.f104) (D:=Asc _ n) ⟨Al8 n,trivial⟩

def f51 (n:Nat) (a0:LR):Option (LR × Int) :=
 ob (A5o n a0 ()) λa =>
 bif a then
  some ([],7)
 else
  some (a0,0)
def A76 (n:Nat):Ent:=⟨51,[hRs],[hRs,hI],λx=>f51 n x⟩
def Bf2 (α:Type) (n:Nat):D3 α:={ reg:=[(1,⟨0,[],[(1,{ ent:=some (A8f n) })]⟩)],join:=[],loop:=[] }
theorem A75 (n:Nat):(A76 n).Sound PP:=B0 (fn:=Tryz.f51) (D:=Bf2 _ n) ⟨Ali n,trivial⟩

def f180 (n:Nat) (a0:Rq × LR × Unit × Rq):Option Bool :=
 ob (f51 n a0.2.1) λa =>
 ob (f51 n []) λb =>
 ob (f98 n a0.1) λc =>
 bif c then
  ob (f98 n a0.2.2.2) λd =>
  bif d then
   bif (a.2==0) then
    some (b.2==0)
   else
    some false
  else
   some false
 else
  some false
def Awf (n:Nat):Ent:=⟨180,[(.st (.pair hR (.pair hRs (.pair .nil hR))))],[.bool],λx=>f180 n x⟩
def Bc2 (α:Type) (n:Nat):D3 α:={ reg:=[(1,⟨0,[],[(2,{ ent:=some (A76 n) })]⟩),(2,⟨0,[],[(2,{ ent:=some (A76 n) })]⟩),(3,⟨0,[],[(2,{ ent:=some (Mr n) }),(6,{ ent:=some (Mr n) })]⟩)],join:=[],loop:=[] }
theorem B6q (n:Nat):(Awf n).Sound PP:=B0 (fn:=Tryz.f180) (D:=Bc2 _ n) ⟨A75 n,A75 n,Lb n,Lb n,trivial⟩

def Uu {α:Type} (n:Nat) (e:LR) (c:LN) (g b h:Int) (d:List (Rq × LR × Unit × Rq)) (f:LR->LN->Int->Int->Int->(List (Rq × LR × Unit × Rq))->Option α) (k0:Int->Option α) (k1:(List (Rq × LR × Unit × Rq))->Option α):Option α :=
 bif (decide (b<g)) then
  gd (decide (0<=b)&&decide (b<(c.length:Int))) (
   let i:=c.getD b.toNat (0,0,0,0)
   ob (A0v n (h,()) i e d) λa =>
   gd (Nat.beq a.2.length d.length&&true) (
    bif (a.1.2 != 0) then
     k0 a.1.2
    else
     ob (f180 n a.1.1) λj =>
     bif (!j) then
      k0 7
     else
      gd (decide ((a.2.length+1)*160<=140737488355328)) (
       f e c g (W (b+1)) h (a.2++[a.1.1]))))
 else
  k1 d
abbrev Ut:Tm:=⟨[(2,.d hRs),(3,.k (.hp 3 0 0)),(8,.k (.hw 13)),(14,.d hNs),(15,.d hI),(16,.d hI)],[(3,.var 94 true false [.d hI,.d .nil]),(13,.arr 91 (.st (.pair hR (.pair hRs (.pair .nil hR)))) false)],[10,11,36],[]⟩
abbrev Ayu:Tm:=⟨[(6,.d .nil),(7,.d hI)],[],[3,10,11,13],[]⟩
abbrev Ayt:Tm:=⟨[(8,.k (.hw 13))],[(13,.arr 91 (.st (.pair hR (.pair hRs (.pair .nil hR)))) false)],[3],[]⟩
abbrev A5n:List (Exit × Tm):=[(.ret,Ayu),(.exit 0,Ayt)]
def A5m {α:Type} (n:Nat) (v:Ut.den) (f:Ut.den->Option α) (ks:KS α A5n):Option α:=Uu n v.1.1 v.1.2.2.2.1 v.1.2.2.2.2.1 v.1.2.2.2.2.2.1 v.2.1.1 v.2.2.1 (λa b c d e g=>f ((a,(),(),b,c,d,()),((e,(),()),g,()))) (λw0=>ks.1 (((),w0,()),())) (λw0=>ks.2.1 (((),()),(w0,())))
def S8 {α:Type} (n m:Nat) (a:LR) (b:LN) (c d e:Int) (f:List (Rq × LR × Unit × Rq)) (k0:Int->Option α) (k1:(List (Rq × LR × Unit × Rq))->Option α):Option α:=A5 (A5m n) m ((a,(),(),b,c,d,()),((e,(),()),f,())) (λw=>k0 w.1.2.1,λw=>k1 w.2.1,())
theorem Ad9 {α n m a b c d e f k0 k1}:S8 (α:=α) n (m+1) a b c d e f k0 k1=Uu n a b c d e f (λa b c d e f=>S8 n m a b c d e f k0 k1) k0 k1:=rfl
def f113 (n:Nat) (a0:Int × Unit) (a1:LN) (a2:LR):Option ((List (Rq × LR × Unit × Rq)) × Int) :=
 S8 n n a2 a1 (a1.length:Int) 0 a0.1 []
  (λa=>(
   some ([],a)))
  (λb=>(
   some (b,0)))
def Ayv (n:Nat):Ent:=⟨113,[(.st (.pair hI .nil)),hNs,hRs],[(.sl (.st (.pair hR (.pair hRs (.pair .nil hR))))),hI],λx=>f113 n x.1 x.2.1 x.2.2⟩
def Aj3 (α:Type) (n:Nat):D3 α:={ reg:=[(1,⟨0,[],[(0,{ sh:=some (.st (.pair hR (.pair hRs (.pair .nil hR)))) })]⟩),(5,⟨0,[],[(4,{ alt:=[(Aok n)],hb:=310 })]⟩),(8,⟨0,[],[(1,{ ent:=some (Awf n) })]⟩),(10,⟨0,[],[(2,{ sh:=some (.st (.pair hR (.pair hRs (.pair .nil hR)))) })]⟩)],join:=[],loop:=[(3,⟨Ut,A5n,A5 (A5m n) n⟩)] }
theorem Ad8 (α:Type) (n:Nat):Ao PP (Ag (Aj3 α n).reg):=⟨B2y n,B6q n,trivial⟩
theorem As9 (α:Type) (n:Nat):LO.Sound (α:=α) PP ⟨40,[]⟩ ⟨Ut,A5n,A5 (A5m n) n⟩ (.loop ((A1 Tryz.f113).at [1,1,0,1,0,0])):=C5 (D:=Aj3 α n) (Ad8 α n) n
theorem Bde (α:Type) (n:Nat):D3.OK PP TT ⟨40,[]⟩ (Aj3 α n) (A1 Tryz.f113) :=
 D3.OK.mk3 (Ad8 α n) (show Ab (A1 Tryz.f113)=[(3,(.loop ((A1 Tryz.f113).at [1,1,0,1,0,0])))] by kernel_rfl) ⟨Ac rfl (As9 α n),trivial⟩
theorem B8h (n:Nat):(Ayv n).Sound PP:=fk (fn:=Tryz.f113) (Bde _ n)

def f68 (n:Nat) (a0:Int × Unit) (a1:LN) (a2:LR):Option ((Rq × LR × Unit × Rq) × Int) :=
 ob (f113 n a0 a1 a2) λa =>
 bif (a.2 != 0) then
  some (((false,[],[]),[],(),false,[],[]),a.2)
 else
  gd (decide (0<=(W ((a.1.length:Int)-1)))&&decide ((W ((a.1.length:Int)-1))<(a.1.length:Int))) (
   let b:=a.1.getD ((W ((a.1.length:Int)-1)).toNat) ((false,[],[]),[],(),(false,[],[]))
   some (b,0))
def Aq5 (n:Nat):Ent:=⟨68,[(.st (.pair hI .nil)),hE,hRs],[(.st (.pair hR (.pair hRs (.pair .nil hR)))),hI],λx=>f68 n x.1 x.2.1 x.2.2⟩
def Bev (α:Type) (n:Nat):D3 α:={ reg:=[(1,⟨0,[],[(4,{ ent:=some (Ayv n) })]⟩)],join:=[],loop:=[] }
theorem Aur (n:Nat):(Aq5 n).Sound PP:=B0 (fn:=Tryz.f68) (D:=Bev _ n) ⟨B8h n,trivial⟩

def f73 (n:Nat) (a0:Rq):Option Rq :=
 ob (f123 n a0.2.1) λa =>
 ob (f123 n a0.2.2) λb =>
 some (a0.1,a,b)
def A71 (n:Nat):Ent:=⟨73,[hR],[hR],λx=>f73 n x⟩
def Beq (α:Type) (n:Nat):D3 α:={ reg:=[(1,⟨8,[],[(4,{ ent:=some (Lp n) }),(7,{ ent:=some (Lp n) })]⟩)],join:=[],loop:=[] }
theorem A70 (n:Nat):(A71 n).Sound PP:=B0 (fn:=Tryz.f73) (D:=Beq _ n) ⟨Ki n,Ki n,trivial⟩

def f28 (n:Nat) (a0:LN) (a1:LR):Option (Rq × Int) :=
 ob (f67 n a0 a1) λb =>
 bif (b != 0) then
  some ((false,[],[]),b)
 else
  ob (f68 n (0,()) a0 a1) λa =>
  bif (a.2 != 0) then
   some ((false,[],[]),a.2)
  else
   ob (f73 n a.1.1) λc =>
   some (c,0)
def B4a (n:Nat):Ent:=⟨28,[hE,hRs],[hR,hI],λx=>f28 n x.1 x.2⟩
def Bf8 (α:Type) (n:Nat):D3 α:={ reg:=[(1,⟨0,[],[(2,{ ent:=some (Q3 n) })]⟩),(4,⟨0,[],[(3,{ ent:=some (Aq5 n) })]⟩),(7,⟨0,[],[(2,{ ent:=some (A71 n) })]⟩)],join:=[],loop:=[] }
theorem Bau (n:Nat):(B4a n).Sound PP:=B0 (fn:=Tryz.f28) (D:=Bf8 _ n) ⟨Agr n,Aur n,A70 n,trivial⟩

def f146 (n:Nat) (a0:Int):Option Bool :=
 ob (f181 n a0 3 6) λa =>
 some a
def A87 (n:Nat):Ent:=⟨146,[hI],[.bool],λx=>f146 n x⟩
def Bcs (α:Type) (n:Nat):D3 α:={ reg:=[(1,⟨0,[],[(1,{ ent:=some (Ex n) })]⟩)],join:=[],loop:=[] }
theorem Aan (n:Nat):(A87 n).Sound PP:=B0 (fn:=Tryz.f146) (D:=Bcs _ n) ⟨Dy n,trivial⟩

def f147 (n:Nat) (a0:Int):Option Bool :=
 bif (a0==7) then
  some true
 else
  some (a0==8)
def A86 (n:Nat):Ent:=⟨147,[hI],[.bool],λx=>f147 n x⟩
def Bcr (α:Type) (n:Nat):D3 α:={ reg:=[],join:=[],loop:=[] }
theorem Aal (n:Nat):(A86 n).Sound PP:=B0 (fn:=Tryz.f147) (D:=Bcr _ n) trivial

def f186 (n:Nat) (a0:Nq) (a1:Int):Option Bool :=
 ob (f181 n a0.1 1 8) λa =>
 bif (!a) then
  some false
 else
  ob (f146 n a0.1) λb =>
  bif b then
   ob (f181 n a0.2.1 0 (W (a1-1))) λc =>
   bif c then
    ob (f181 n a0.2.2.1 (W (a0.2.1+1)) (W (a1-1))) λd =>
    bif d then
     some (a0.2.2.2==0)
    else
     some false
   else
    some false
  else
   ob (f147 n a0.1) λe =>
   bif e then
    bif (a0.2.1==(W (a1-1))) then
     bif (decide (a1>0)) then
      bif (a0.2.2.1==0) then
       ob (f174 n (a0.1==8)) λf =>
       ob (f181 n a0.2.2.2 0 (W (8*f))) λg =>
       some g
      else
       some false
     else
      some false
    else
     some false
   else
    bif (a0.1==2) then
     bif (a0.2.1==0) then
      bif (a0.2.2.1==0) then
       ob (f181 n a0.2.2.2 0 3) λh =>
       some h
      else
       some false
     else
      some false
    else
     bif (a0.2.1==0) then
      bif (a0.2.2.1==0) then
       ob (f181 n a0.2.2.2 0 999999999) λi =>
       some i
      else
       some false
     else
      some false
def Awc (n:Nat):Ent:=⟨186,[hN,hI],[.bool],λx=>f186 n x.1 x.2⟩
def Bby (α:Type) (n:Nat):D3 α:={ reg:=[(1,⟨0,[],[(2,{ ent:=some (Ex n) })]⟩),(3,⟨0,[],[(2,{ ent:=some (A87 n) })]⟩),(4,⟨0,[],[(4,{ ent:=some (Ex n) }),(13,{ ent:=some (Ex n) })]⟩),(5,⟨0,[],[(2,{ ent:=some (A86 n) })]⟩),(6,⟨22,[],[(20,{ ent:=some (Rr n) }),(22,{ ent:=some (Ex n) })]⟩),(8,⟨0,[],[(11,{ ent:=some (Ex n) })]⟩),(9,⟨0,[],[(11,{ ent:=some (Ex n) })]⟩)],join:=[],loop:=[] }
theorem B6i (n:Nat):(Awc n).Sound PP:=B0 (fn:=Tryz.f186) (D:=Bby _ n) ⟨Dy n,Aan n,Dy n,Dy n,Aal n,Rp n,Dy n,Dy n,Dy n,trivial⟩

def A40 {α:Type} (n:Nat) (g:Int) (c:LN) (d a j k:Int) (f:Int->LN->Int->Int->Int->Int->Option α) (k0:Int->Option α):Option α :=
 let e:=λ(_:Unit)=>(
  gd (decide (0<=a)&&decide (a<(c.length:Int))) (
   let b:=c.getD a.toNat (0,0,0,0)
   f a c b.1 b.2.1 b.2.2.1 b.2.2.2))
 ob (f146 n d) λh =>
 bif h then
  e ()
 else
  ob (f147 n d) λi =>
  bif i then
   e ()
  else
   k0 g
abbrev U1:Tm:=⟨[(1,.d hI),(2,.k (.hp 2 0 0)),(5,.k (.hp 5 0 0))],[(2,.var 43 true false [.d hNs]),(5,.var 85 true false [.d hI,.d hI,.d hI,.d hI])],[],[]⟩
abbrev Awb:Tm:=⟨[(1,.d hI)],[],[2,5],[]⟩
abbrev A3z:List (Exit × Tm):=[(.exit 0,Awb)]
def A3y {α:Type} (n:Nat) (v:U1.den) (f:U1.den->Option α) (ks:KS α A3z):Option α:=A40 n v.1.1 v.2.1.1 v.2.2.1.1 v.2.2.1.2.1 v.2.2.1.2.2.1 v.2.2.1.2.2.2.1 (λa b c d e g=>f ((a,(),(),()),((b,()),(c,d,e,g,()),()))) (λw0=>ks.1 ((w0,()),()))
def A0e {α:Type} (n m:Nat) (a:Int) (b:LN) (c d e f:Int) (k0:Int->Option α):Option α:=A5 (A3y n) m ((a,(),(),()),((b,()),(c,d,e,f,()),())) (λw=>k0 w.1.1,())
theorem Awa {α n m a b c d e f k0}:A0e (α:=α) n (m+1) a b c d e f k0=A40 n a b c d e f (λa b c d e f=>A0e n m a b c d e f k0) k0:=rfl
abbrev B6h:Tm:=⟨[(2,.k (.hp 2 0 0)),(5,.k (.hp 5 0 0))],[(2,.var 43 true false [.d hNs]),(5,.var 85 true false [.d hI,.d hI,.d hI,.d hI])],[],[]⟩
def f187 (n:Nat) (a0:LN) (a1:Int):Option Int :=
 gd (decide (0<=a1)&&decide (a1<(a0.length:Int))) (
  let a:=a0.getD a1.toNat (0,0,0,0)
  A0e n n a1 a0 a.1 a.2.1 a.2.2.1 a.2.2.2
   (λb=>(
    some b)))
def Ahr (n:Nat):Ent:=⟨187,[hE,hI],[hI],λx=>f187 n x.1 x.2⟩
def Ahs (α:Type) (n:Nat):D3 α:={ reg:=[(2,⟨0,[],[(2,{ ent:=some (A87 n) }),(6,{ ent:=some (A86 n) })]⟩)],join:=[(3,B6h)],loop:=[(2,⟨U1,A3z,A5 (A3y n) n⟩)] }
theorem Acg (α:Type) (n:Nat):Ao PP (Ag (Ahs α n).reg):=⟨Aan n,Aal n,trivial⟩
theorem Ar0 (α:Type) (n:Nat):LO.Sound (α:=α) PP ⟨27,[]⟩ ⟨U1,A3z,A5 (A3y n) n⟩ (.loop ((A1 Tryz.f187).at [1,1,0,0,0])):=C5 (D:=Ahs α n) (Acg α n) n
theorem Bbx (α:Type) (n:Nat):D3.OK PP TT ⟨27,[]⟩ (Ahs α n) (A1 Tryz.f187) :=
 D3.OK.mk3 (Acg α n) (show Ab (A1 Tryz.f187)=[(2,(.loop ((A1 Tryz.f187).at [1,1,0,0,0])))] by kernel_rfl) ⟨Ac rfl (Ar0 α n),trivial⟩
theorem Ang (n:Nat):(Ahr n).Sound PP:=fk (fn:=Tryz.f187) (Bbx _ n)

def Pc {α:Type} (n:Nat) (c:Int) (d:LN) (b:LI) (f:Int->LN->LI->Option α) (k0:Bool->Option α) (k1:LN->Option α):Option α :=
 bif (decide (c<(d.length:Int))) then
  gd (decide (0<=c)&&decide (c<(d.length:Int))) (
   let a:=d.getD c.toNat (0,0,0,0)
   ob (f186 n a c) λi =>
   bif (!i) then
    k0 false
   else
    let e:=λ(j:Int)=>(
     let g:=λ(h:Int)=>(
      bif (decide (h>12)) then
       k0 false
      else
       gd (decide ((b.length+1)*8<=140737488355328)) (
        f (W (c+1)) d (b++[h])))
     ob (f147 n a.1) λk =>
     bif k then
      gd (decide (0<=a.2.1)&&decide (a.2.1<(b.length:Int))) (
       gd (decide (a.2.1.toNat<b.length)) (
        g (W (1+(b.getD a.2.1.toNat 0)))))
     else
      g j)
    ob (f146 n a.1) λl =>
    bif l then
     bif (a.2.2.1 != (W (c-1))) then
      k0 false
     else
      ob (f187 n d a.2.2.1) λm =>
      bif (m != (W (a.2.1+1))) then
       k0 false
      else
       gd (decide (0<=a.2.1)&&decide (a.2.1<(b.length:Int))) (
        gd (decide (a.2.1.toNat<b.length)) (
         gd (decide (0<=a.2.2.1)&&decide (a.2.2.1<(b.length:Int))) (
          gd (decide (a.2.2.1.toNat<b.length)) (
           e (W (1+(max (b.getD a.2.1.toNat 0) (b.getD a.2.2.1.toNat 0))))))))
    else
     e 1)
 else
  k1 d
abbrev Um:Tm:=⟨[(1,.k (.hp 1 0 0)),(3,.k (.hw 12)),(4,.d hI)],[(1,.var 43 true false [.d hNs]),(12,.arr 3 hI false)],[72],[]⟩
abbrev Ayd:Tm:=⟨[(2,.d .bool)],[],[1,5,12],[]⟩
abbrev Ayc:Tm:=⟨[(1,.k (.hp 1 0 0))],[(1,.var 43 true false [.d hNs])],[12],[]⟩
abbrev A59:List (Exit × Tm):=[(.ret,Ayd),(.exit 0,Ayc)]
def A58 {α:Type} (n:Nat) (v:Um.den) (f:Um.den->Option α) (ks:KS α A59):Option α:=Pc n v.1.2.2.1 v.2.1.1 v.2.2.1 (λa b c=>f (((),(),a,()),((b,()),c,()))) (λw0=>ks.1 ((w0,()),())) (λw0=>ks.2.1 (((),()),((w0,()),())))
def A0r {α:Type} (n m:Nat) (a:Int) (b:LN) (c:LI) (k0:Bool->Option α) (k1:LN->Option α):Option α:=A5 (A58 n) m (((),(),a,()),((b,()),c,())) (λw=>k0 w.1.1,λw=>k1 w.2.1.1,())
theorem Ad1 {α n m a b c k0 k1}:A0r (α:=α) n (m+1) a b c k0 k1=Pc n a b c (λa b c=>A0r n m a b c k0 k1) k0 k1:=rfl
abbrev B2q:Tm:=⟨[(1,.k (.hp 1 0 0)),(3,.k (.hw 12)),(4,.d hI),(5,.k (.hp 5 0 0)),(6,.d hI)],[(1,.var 43 true false [.d hNs]),(5,.var 85 true false [.d hI,.d hI,.d hI,.d hI]),(12,.arr 3 hI false)],[],[]⟩
abbrev B2p:Tm:=⟨[(1,.k (.hp 1 0 0)),(3,.k (.hw 12)),(4,.d hI),(6,.d hI)],[(1,.var 43 true false [.d hNs]),(12,.arr 3 hI false)],[5],[]⟩
def f124 (n:Nat) (a0:LN):Option Bool :=
 ob (f181 n (a0.length:Int) 1 60) λb =>
 bif (!b) then
  some false
 else
  A0r n n 0 a0 []
   (λc=>(
    some c))
   (λa=>(
    ob (f187 n a (W ((a.length:Int)-1))) λd =>
    some (d==0)))
def Aye (n:Nat):Ent:=⟨124,[hE],[.bool],λx=>f124 n x⟩
def Aiw (α:Type) (n:Nat):D3 α:={ reg:=[(1,⟨0,[],[(3,{ ent:=some (Ex n) })]⟩),(3,⟨0,[],[(0,{ sh:=some hI })]⟩),(8,⟨0,[],[(2,{ ent:=some (Awc n) })]⟩),(11,⟨0,[],[(2,{ ent:=some (A87 n) })]⟩),(12,⟨13,[],[(9,{ ent:=some (Ahr n) })]⟩),(14,⟨10,[],[]⟩),(15,⟨0,[],[(2,{ ent:=some (A86 n) })]⟩),(19,⟨0,[],[(2,{ sh:=some hI })]⟩),(20,⟨0,[],[(5,{ ent:=some (Ahr n) })]⟩)],join:=[(15,B2q),(17,B2p)],loop:=[(5,⟨Um,A59,A5 (A58 n) n⟩)] }
theorem Ad0 (α:Type) (n:Nat):Ao PP (Ag (Aiw α n).reg):=⟨Dy n,B6i n,Aan n,Ang n,Aal n,Ang n,trivial⟩
theorem Ary (α:Type) (n:Nat):LO.Sound (α:=α) PP ⟨81,[]⟩ ⟨Um,A59,A5 (A58 n) n⟩ (.loop ((A1 Tryz.f124).at [1,1,1,0,1,0,0])):=C5 (D:=Aiw α n) (Ad0 α n) n
theorem Bd7 (α:Type) (n:Nat):D3.OK PP TT ⟨81,[]⟩ (Aiw α n) (A1 Tryz.f124) :=
 D3.OK.mk3 (Ad0 α n) (show Ab (A1 Tryz.f124)=[(5,(.loop ((A1 Tryz.f124).at [1,1,1,0,1,0,0])))] by kernel_rfl) ⟨Ac rfl (Ary α n),trivial⟩
theorem B84 (n:Nat):(Aye n).Sound PP:=fk (fn:=Tryz.f124) (Bd7 _ n)

def A34 {α:Type} (n:Nat) (a:LI) (b:Int) (f:LI->Int->Option α) (k0:Bool->Option α) (k1:LI->Option α):Option α :=
 bif (decide (b<(a.length:Int))) then
  gd (decide (0<=b)&&decide (b<(a.length:Int))) (
   ob (f181 n (a.getD b.toNat 0) 0 9999) λc =>
   bif (!c) then
    k0 false
   else
    f a (W (b+1)))
 else
  k1 a
abbrev Tp:Tm:=⟨[(0,.d hIs),(3,.d hI)],[],[],[]⟩
abbrev Avg:Tm:=⟨[(2,.d .bool)],[],[],[]⟩
abbrev Avf:Tm:=⟨[(0,.d hIs)],[],[],[]⟩
abbrev A33:List (Exit × Tm):=[(.ret,Avg),(.exit 0,Avf)]
def A32 {α:Type} (n:Nat) (v:Tp.den) (f:Tp.den->Option α) (ks:KS α A33):Option α:=A34 n v.1.1 v.1.2.1 (λa b=>f ((a,b,()),())) (λw0=>ks.1 ((w0,()),())) (λw0=>ks.2.1 ((w0,()),()))
def Rk {α:Type} (n m:Nat) (a:LI) (b:Int) (k0:Bool->Option α) (k1:LI->Option α):Option α:=A5 (A32 n) m ((a,b,()),()) (λw=>k0 w.1.1,λw=>k1 w.1.1,())
theorem Ave {α n m a b k0 k1}:Rk (α:=α) n (m+1) a b k0 k1=A34 n a b (λa b=>Rk n m a b k0 k1) k0 k1:=rfl
def f212 (n:Nat) (a0:LI):Option Bool :=
 bif (decide ((a0.length:Int)>4096)) then
  some false
 else
  Rk n n a0 0
   (λb=>(
    some b))
   (λa=>(
    bif (decide ((a.length:Int)<=40)) then
     bif ((a.length:Int)==0) then
      some true
     else
      gd (decide (0<=(W ((a.length:Int)-1)))&&decide ((W ((a.length:Int)-1))<(a.length:Int))) (
       some (decide ((a.getD ((W ((a.length:Int)-1)).toNat) 0)>0)))
    else
     some false))
def Ah7 (n:Nat):Ent:=⟨212,[hIs],[.bool],λx=>f212 n x⟩
def Ah8 (α:Type) (n:Nat):D3 α:={ reg:=[(6,⟨0,[],[(4,{ ent:=some (Ex n) })]⟩)],join:=[],loop:=[(4,⟨Tp,A33,A5 (A32 n) n⟩)] }
theorem Ac8 (α:Type) (n:Nat):Ao PP (Ag (Ah8 α n).reg):=⟨Dy n,trivial⟩
theorem Aql (α:Type) (n:Nat):LO.Sound (α:=α) PP ⟨36,[]⟩ ⟨Tp,A33,A5 (A32 n) n⟩ (.loop ((A1 Tryz.f212).at [1,1,0,1,0,0])):=C5 (D:=Ah8 α n) (Ac8 α n) n
theorem Bb9 (α:Type) (n:Nat):D3.OK PP TT ⟨36,[]⟩ (Ah8 α n) (A1 Tryz.f212) :=
 D3.OK.mk3 (Ac8 α n) (show Ab (A1 Tryz.f212)=[(4,(.loop ((A1 Tryz.f212).at [1,1,0,1,0,0])))] by kernel_rfl) ⟨Ac rfl (Aql α n),trivial⟩
theorem An1 (n:Nat):(Ah7 n).Sound PP:=fk (fn:=Tryz.f212) (Bb9 _ n)

abbrev B6o:Tm:=⟨[(1,.k (.hp 1 0 0))],[(1,.var 54 true false [.d .bool,.d hIs,.d hIs])],[],[]⟩
def f184 (n:Nat) (a0:Rq):Option Bool :=
 let a:=λ(_:Unit)=>(
  ob (f213 n a0.2.1 a0.2.2) λb =>
  ob (f199 n b [1]) λc =>
  some (c==0))
 ob (f212 n a0.2.1) λd =>
 bif (!d) then
  some false
 else
  ob (f212 n a0.2.2) λe =>
  bif (!e) then
   some false
  else
   bif ((a0.2.2.length:Int)==0) then
    some false
   else
    bif ((a0.2.1.length:Int)==0) then
     bif a0.1 then
      some false
     else
      a ()
    else
     a ()
def Awe (n:Nat):Ent:=⟨184,[hR],[.bool],λx=>f184 n x⟩
def Bc0 (α:Type) (n:Nat):D3 α:={ reg:=[(1,⟨0,[],[(2,{ ent:=some (Ah7 n) }),(7,{ ent:=some (Ah7 n) })]⟩),(3,⟨0,[],[(4,{ ent:=some (Ah5 n) }),(5,{ sh:=some hI }),(6,{ ent:=some (Y9 n) })]⟩)],join:=[(3,B6o)],loop:=[] }
theorem B6m (n:Nat):(Awe n).Sound PP:=B0 (fn:=Tryz.f184) (D:=Bc0 _ n) ⟨An1 n,An1 n,An0 n,A0a n,trivial⟩

def A5l {α:Type} (n:Nat) (a:LR) (b:Int) (f:LR->Int->Option α) (k0:Bool->Option α) (k1:LR->Option α):Option α :=
 bif (decide (b<(a.length:Int))) then
  gd (decide (0<=b)&&decide (b<(a.length:Int))) (
   let c:=a.getD b.toNat (false,[],[])
   ob (f184 n c) λd =>
   bif (!d) then
    k0 false
   else
    f a (W (b+1)))
 else
  k1 a
abbrev Ur:Tm:=⟨[(0,.d hRs),(3,.d hI)],[],[],[]⟩
abbrev Ayr:Tm:=⟨[(2,.d .bool)],[],[],[]⟩
abbrev Ayq:Tm:=⟨[(0,.d hRs)],[],[],[]⟩
abbrev A5k:List (Exit × Tm):=[(.ret,Ayr),(.exit 0,Ayq)]
def A5j {α:Type} (n:Nat) (v:Ur.den) (f:Ur.den->Option α) (ks:KS α A5k):Option α:=A5l n v.1.1 v.1.2.1 (λa b=>f ((a,b,()),())) (λw0=>ks.1 ((w0,()),())) (λw0=>ks.2.1 ((w0,()),()))
def S7 {α:Type} (n m:Nat) (a:LR) (b:Int) (k0:Bool->Option α) (k1:LR->Option α):Option α:=A5 (A5j n) m ((a,b,()),()) (λw=>k0 w.1.1,λw=>k1 w.1.1,())
theorem Ayp {α n m a b k0 k1}:S7 (α:=α) n (m+1) a b k0 k1=A5l n a b (λa b=>S7 n m a b k0 k1) k0 k1:=rfl
def f116 (n:Nat) (a0:LR):Option Bool :=
 bif (decide ((a0.length:Int)>4096)) then
  some false
 else
  S7 n n a0 0
   (λa=>(
    some a))
   (λb=>(
    ob (f181 n (b.length:Int) 1 4) λc =>
    some c))
def Ays (n:Nat):Ent:=⟨116,[hRs],[.bool],λx=>f116 n x⟩
def Aj2 (α:Type) (n:Nat):D3 α:={ reg:=[(6,⟨0,[],[(4,{ ent:=some (Awe n) })]⟩),(8,⟨0,[],[(2,{ ent:=some (Ex n) })]⟩)],join:=[],loop:=[(4,⟨Ur,A5k,A5 (A5j n) n⟩)] }
theorem Ad7 (α:Type) (n:Nat):Ao PP (Ag (Aj2 α n).reg):=⟨B6m n,Dy n,trivial⟩
theorem As5 (α:Type) (n:Nat):LO.Sound (α:=α) PP ⟨22,[]⟩ ⟨Ur,A5k,A5 (A5j n) n⟩ (.loop ((A1 Tryz.f116).at [1,1,0,1,0,0])):=C5 (D:=Aj2 α n) (Ad7 α n) n
theorem Bdd (α:Type) (n:Nat):D3.OK PP TT ⟨22,[]⟩ (Aj2 α n) (A1 Tryz.f116) :=
 D3.OK.mk3 (Ad7 α n) (show Ab (A1 Tryz.f116)=[(4,(.loop ((A1 Tryz.f116).at [1,1,0,1,0,0])))] by kernel_rfl) ⟨Ac rfl (As5 α n),trivial⟩
theorem B8e (n:Nat):(Ays n).Sound PP:=fk (fn:=Tryz.f116) (Bdd _ n)

def A57 {α:Type} (n:Nat) (c a:Int) (b:LN) (f:Int->Int->LN->Option α) (k0:Int->Option α):Option α :=
 bif (decide (a<(b.length:Int))) then
  gd (decide (0<=a)&&decide (a<(b.length:Int))) (
   let d:=b.getD a.toNat (0,0,0,0)
   bif (d.1==2) then
    gd (decide (0<=a)&&decide (a<(b.length:Int))) (
     let e:=b.getD a.toNat (0,0,0,0)
     f (max c (W (e.2.2.2+1))) (W (a+1)) b)
   else
    f c (W (a+1)) b)
 else
  k0 c
abbrev Ul:Tm:=⟨[(1,.k (.hp 1 0 0)),(3,.d hI),(4,.d hI)],[(1,.var 43 true false [.d hNs])],[],[]⟩
abbrev Aya:Tm:=⟨[(3,.d hI)],[],[1],[]⟩
abbrev A56:List (Exit × Tm):=[(.exit 0,Aya)]
def A55 {α:Type} (n:Nat) (v:Ul.den) (f:Ul.den->Option α) (ks:KS α A56):Option α:=A57 n v.1.2.1 v.1.2.2.1 v.2.1.1 (λa b c=>f (((),a,b,()),((c,()),()))) (λw0=>ks.1 ((w0,()),()))
def A0q {α:Type} (n m:Nat) (a b:Int) (c:LN) (k0:Int->Option α):Option α:=A5 (A55 n) m (((),a,b,()),((c,()),())) (λw=>k0 w.1.1,())
theorem Ay9 {α n m a b c k0}:A0q (α:=α) n (m+1) a b c k0=A57 n a b c (λa b c=>A0q n m a b c k0) k0:=rfl
def f125 (n:Nat) (a0:LN):Option Int :=
 A0q n n 0 0 a0
  (λa=>(
   some a))
def Ayb (n:Nat):Ent:=⟨125,[hE],[hI],λx=>f125 n x⟩
def Aiv (α:Type) (n:Nat):D3 α:={ reg:=[],join:=[],loop:=[(3,⟨Ul,A56,A5 (A55 n) n⟩)] }
theorem Acz (α:Type) (n:Nat):Ao PP (Ag (Aiv α n).reg):=trivial
theorem Arx (α:Type) (n:Nat):LO.Sound (α:=α) PP ⟨29,[]⟩ ⟨Ul,A56,A5 (A55 n) n⟩ (.loop ((A1 Tryz.f125).at [1,1,0,1,0,0])):=C5 (D:=Aiv α n) (Acz α n) n
theorem Bd6 (α:Type) (n:Nat):D3.OK PP TT ⟨29,[]⟩ (Aiv α n) (A1 Tryz.f125) :=
 D3.OK.mk3 (Acz α n) (show Ab (A1 Tryz.f125)=[(3,(.loop ((A1 Tryz.f125).at [1,1,0,1,0,0])))] by kernel_rfl) ⟨Ac rfl (Arx α n),trivial⟩
theorem B82 (n:Nat):(Ayb n).Sound PP:=fk (fn:=Tryz.f125) (Bd6 _ n)

abbrev Bad:Tm:=⟨[(1,.d hRs),(2,.k (.hp 2 0 0)),(9,.d .bool)],[(2,.var 43 true false [.d hNs])],[],[]⟩
def f74 (n:Nat) (a0:LN) (a1:LR):Option Int :=
 bif (decide ((a1.length:Int)>4096)) then
  some 2
 else
  let a:=λ(b:Bool)=>(
   bif b then
    some 1
   else
    ob (f125 n a0) λc =>
    bif (decide ((a1.length:Int)<c)) then
     some 8
    else
     some 0)
  ob (f124 n a0) λd =>
  bif (!d) then
   a true
  else
   ob (f116 n a1) λe =>
   a (!e)
def Aq1 (n:Nat):Ent:=⟨74,[hE,hRs],[hI],λx=>f74 n x.1 x.2⟩
def Bep (α:Type) (n:Nat):D3 α:={ reg:=[(3,⟨0,[],[(1,{ ent:=some (Aye n) }),(5,{ ent:=some (Ays n) })]⟩),(5,⟨0,[],[(3,{ ent:=some (Ayb n) })]⟩)],join:=[(4,Bad)],loop:=[] }
theorem Aum (n:Nat):(Aq1 n).Sound PP:=B0 (fn:=Tryz.f74) (D:=Bep _ n) ⟨B84 n,B8e n,B82 n,trivial⟩

def A5i {α:Type} (n:Nat) (b c:Int) (a:LR) (f:Int->Int->LR->Option α) (k0:LR->Option α):Option α :=
 bif (decide (c<b)) then
  ob (f131 n 0) λd =>
  gd (decide ((a.length+1)*56<=140737488355328)) (
   f b (W (c+1)) (a++[d]))
 else
  k0 a
abbrev Up:Tm:=⟨[(0,.d hI),(3,.k (.hw 5)),(4,.d hI)],[(5,.arr 54 hR false)],[13],[]⟩
abbrev Ayo:Tm:=⟨[(3,.k (.hw 5))],[(5,.arr 54 hR false)],[],[]⟩
abbrev A5h:List (Exit × Tm):=[(.exit 0,Ayo)]
def A5g {α:Type} (n:Nat) (v:Up.den) (f:Up.den->Option α) (ks:KS α A5h):Option α:=A5i n v.1.1 v.1.2.2.1 v.2.1 (λa b c=>f ((a,(),b,()),(c,()))) (λw0=>ks.1 (((),()),(w0,())))
def A0t {α:Type} (n m:Nat) (a b:Int) (c:LR) (k0:LR->Option α):Option α:=A5 (A5g n) m ((a,(),b,()),(c,())) (λw=>k0 w.2.1,())
theorem Ayn {α n m a b c k0}:A0t (α:=α) n (m+1) a b c k0=A5i n a b c (λa b c=>A0t n m a b c k0) k0:=rfl
def f118 (n:Nat) (a0:Int):Option LR :=
 A0t n n a0 0 []
  (λa=>(
   some a))
def Pe (n:Nat):Ent:=⟨118,[hI],[hRs],λx=>f118 n x⟩
def Aj1 (α:Type) (n:Nat):D3 α:={ reg:=[(1,⟨0,[],[(0,{ sh:=some hR })]⟩),(5,⟨0,[],[(1,{ ent:=some (C2 n) }),(2,{ sh:=some hR })]⟩)],join:=[],loop:=[(3,⟨Up,A5h,A5 (A5g n) n⟩)] }
theorem Ad5 (α:Type) (n:Nat):Ao PP (Ag (Aj1 α n).reg):=⟨D2 n,trivial⟩
theorem As2 (α:Type) (n:Nat):LO.Sound (α:=α) PP ⟨16,[]⟩ ⟨Up,A5h,A5 (A5g n) n⟩ (.loop ((A1 Tryz.f118).at [1,1,0,1,0,0])):=C5 (D:=Aj1 α n) (Ad5 α n) n
theorem Bdc (α:Type) (n:Nat):D3.OK PP TT ⟨16,[]⟩ (Aj1 α n) (A1 Tryz.f118) :=
 D3.OK.mk3 (Ad5 α n) (show Ab (A1 Tryz.f118)=[(3,(.loop ((A1 Tryz.f118).at [1,1,0,1,0,0])))] by kernel_rfl) ⟨Ac rfl (As2 α n),trivial⟩
theorem Aof (n:Nat):(Pe n).Sound PP:=fk (fn:=Tryz.f118) (Bdc _ n)

def f188 (n:Nat) (a0:Rq):Option (Rq × Rq × Rq × Rq) :=
 ob (f131 n 0) λa =>
 ob (f131 n 0) λb =>
 ob (f131 n 0) λc =>
 some (a0,a,b,c)
def A7n (n:Nat):Ent:=⟨188,[hR],[(.st (.pair hR (.pair hR (.pair hR hR))))],λx=>f188 n x⟩
def Bbw (α:Type) (n:Nat):D3 α:={ reg:=[(1,⟨4,[],[(1,{ ent:=some (C2 n) }),(2,{ ent:=some (C2 n) }),(3,{ ent:=some (C2 n) })]⟩)],join:=[],loop:=[] }
theorem Aab (n:Nat):(A7n n).Sound PP:=B0 (fn:=Tryz.f188) (D:=Bbw _ n) ⟨D2 n,D2 n,D2 n,trivial⟩

def A3o {α:Type} (n:Nat) (b c:LI) (d a:Int) (e:LI) (f:LI->LI->Int->Int->LI->Option α) (k0:LI->Option α):Option α :=
 let g:=λ(_:Unit)=>(
  let h:=λ(i:Int)=>(
   let j:=λ(k:Int)=>(
    gd (decide ((e.length+1)*8<=140737488355328)) (
     f b c (W (Int.tdiv k 10000)) (W (a+1)) (e++[(Int.tmod k 10000)])))
   bif (decide (a<(c.length:Int))) then
    gd (decide (0<=a)&&decide (a<(c.length:Int))) (
     j (W (i+(c.getD a.toNat 0))))
   else
    j i)
  bif (decide (a<(b.length:Int))) then
   gd (decide (0<=a)&&decide (a<(b.length:Int))) (
    h (W (d+(b.getD a.toNat 0))))
  else
   h d)
 bif (decide (a<(b.length:Int))) then
  g ()
 else
  bif (decide (a<(c.length:Int))) then
   g ()
  else
   bif (decide (d>0)) then
    g ()
   else
    k0 e
abbrev Tw:Tm:=⟨[(0,.d hIs),(1,.d hIs),(5,.k (.hw 8)),(6,.d hI),(7,.d hI)],[(8,.arr 3 hI false)],[48],[]⟩
abbrev Avx:Tm:=⟨[(5,.k (.hw 8))],[(8,.arr 3 hI false)],[],[]⟩
abbrev A3n:List (Exit × Tm):=[(.exit 0,Avx)]
def A3m {α:Type} (n:Nat) (v:Tw.den) (f:Tw.den->Option α) (ks:KS α A3n):Option α:=A3o n v.1.1 v.1.2.1 v.1.2.2.2.1 v.1.2.2.2.2.1 v.2.1 (λa b c d e=>f ((a,b,(),c,d,()),(e,()))) (λw0=>ks.1 (((),()),(w0,())))
def Rn {α:Type} (n m:Nat) (a b:LI) (c d:Int) (e:LI) (k0:LI->Option α):Option α:=A5 (A3m n) m ((a,b,(),c,d,()),(e,())) (λw=>k0 w.2.1,())
theorem Avw {α n m a b c d e k0}:Rn (α:=α) n (m+1) a b c d e k0=A3o n a b c d e (λa b c d e=>Rn n m a b c d e k0) k0:=rfl
abbrev B6a:Tm:=⟨[(0,.d hIs),(1,.d hIs),(5,.k (.hw 8)),(6,.d hI),(7,.d hI)],[(8,.arr 3 hI false)],[],[]⟩
abbrev B69:Tm:=⟨[(0,.d hIs),(1,.d hIs),(5,.k (.hw 8)),(6,.d hI),(7,.d hI)],[(8,.arr 3 hI false)],[],[]⟩
abbrev B20:Tm:=⟨[(0,.d hIs),(1,.d hIs),(5,.k (.hw 8)),(6,.d hI),(7,.d hI)],[(8,.arr 3 hI false)],[],[]⟩
def f198 (n:Nat) (a0 a1:LI):Option LI :=
 Rn n n a0 a1 0 0 []
  (λa=>(
   some a))
def Avy (n:Nat):Ent:=⟨198,[hIs,hIs],[hIs],λx=>f198 n x.1 x.2⟩
def Ahn (α:Type) (n:Nat):D3 α:={ reg:=[(1,⟨0,[],[(0,{ sh:=some hI })]⟩),(10,⟨0,[],[(3,{ sh:=some hI })]⟩)],join:=[(6,B6a),(8,B69),(10,B20)],loop:=[(4,⟨Tw,A3n,A5 (A3m n) n⟩)] }
theorem Ace (α:Type) (n:Nat):Ao PP (Ag (Ahn α n).reg):=trivial
theorem Aqw (α:Type) (n:Nat):LO.Sound (α:=α) PP ⟨53,[]⟩ ⟨Tw,A3n,A5 (A3m n) n⟩ (.loop ((A1 Tryz.f198).at [1,1,1,0,1,0,0])):=C5 (D:=Ahn α n) (Ace α n) n
theorem Bbn (α:Type) (n:Nat):D3.OK PP TT ⟨53,[]⟩ (Ahn α n) (A1 Tryz.f198) :=
 D3.OK.mk3 (Ace α n) (show Ab (A1 Tryz.f198)=[(4,(.loop ((A1 Tryz.f198).at [1,1,1,0,1,0,0])))] by kernel_rfl) ⟨Ac rfl (Aqw α n),trivial⟩
theorem B67 (n:Nat):(Avy n).Sound PP:=fk (fn:=Tryz.f198) (Bbn _ n)

def f138 (n:Nat) (a0 a1:Rq):Option Rq :=
 ob (f196 n a0.2.1 a1.2.2) λa =>
 ob (f196 n a1.2.1 a0.2.2) λb =>
 ob (f196 n a0.2.2 a1.2.2) λc =>
 bif (a0.1==a1.1) then
  ob (f198 n a b) λd =>
  ob (f197 n a0.1 d c) λe =>
  some e
 else
  ob (f199 n a b) λf =>
  bif (decide (f>=0)) then
   ob (f200 n a b) λg =>
   ob (f197 n a0.1 g c) λh =>
   some h
  else
   ob (f200 n b a) λi =>
   ob (f197 n a1.1 i c) λj =>
   some j
def Gb (n:Nat):Ent:=⟨138,[hR,hR],[hR],λx=>f138 n x.1 x.2⟩
def Bcz (α:Type) (n:Nat):D3 α:={ reg:=[(1,⟨0,[],[(4,{ ent:=some (Hl n) })]⟩),(2,⟨0,[],[(4,{ ent:=some (Hl n) })]⟩),(3,⟨0,[],[(4,{ ent:=some (Hl n) })]⟩),(5,⟨6,[],[(4,{ ent:=some (Avy n) }),(6,{ ent:=some (Ow n) })]⟩),(6,⟨0,[],[(2,{ ent:=some (Y9 n) })]⟩),(7,⟨6,[],[(4,{ ent:=some (A7k n) }),(6,{ ent:=some (Ow n) })]⟩),(8,⟨6,[],[(4,{ ent:=some (A7k n) }),(6,{ ent:=some (Ow n) })]⟩)],join:=[],loop:=[] }
theorem Ft (n:Nat):(Gb n).Sound PP:=B0 (fn:=Tryz.f138) (D:=Bcz _ n) ⟨Gu n,Gu n,Gu n,B67 n,Nf n,A0a n,Aa9 n,Nf n,Aa9 n,Nf n,trivial⟩

def f189 (n:Nat) (a0 a1:Rq × Rq × Rq × Rq):Option (Rq × Rq × Rq × Rq) :=
 ob (f138 n a0.1 a1.1) λa =>
 ob (f138 n a0.2.1 a1.2.1) λb =>
 ob (f138 n a0.2.2.1 a1.2.2.1) λc =>
 ob (f138 n a0.2.2.2 a1.2.2.2) λd =>
 some (a,b,c,d)
def Ahq (n:Nat):Ent:=⟨189,[(.st (.pair hR (.pair hR (.pair hR hR)))),(.st (.pair hR (.pair hR (.pair hR hR))))],[(.st (.pair hR (.pair hR (.pair hR hR))))],λx=>f189 n x.1 x.2⟩
def Bbv (α:Type) (n:Nat):D3 α:={ reg:=[(1,⟨19,[],[(4,{ ent:=some (Gb n) }),(9,{ ent:=some (Gb n) }),(14,{ ent:=some (Gb n) }),(19,{ ent:=some (Gb n) })]⟩)],join:=[],loop:=[] }
theorem Anf (n:Nat):(Ahq n).Sound PP:=B0 (fn:=Tryz.f189) (D:=Bbv _ n) ⟨Ft n,Ft n,Ft n,Ft n,trivial⟩

def f143 (n:Nat) (a0:Rq):Option Rq :=
 bif (!a0.1) then
  some ((decide ((a0.2.1.length:Int)>0)),a0.2)
 else
  some (false,a0.2)
def Lo (n:Nat):Ent:=⟨143,[hR],[hR],λx=>f143 n x⟩
def Bcu (α:Type) (n:Nat):D3 α:={ reg:=[],join:=[],loop:=[] }
theorem Kg (n:Nat):(Lo n).Sound PP:=B0 (fn:=Tryz.f143) (D:=Bcu _ n) trivial

def f190 (n:Nat) (a0:Rq × Rq × Rq × Rq):Option (Rq × Rq × Rq × Rq) :=
 ob (f143 n a0.1) λa =>
 ob (f143 n a0.2.1) λb =>
 ob (f143 n a0.2.2.1) λc =>
 ob (f143 n a0.2.2.2) λd =>
 some (a,b,c,d)
def Ahp (n:Nat):Ent:=⟨190,[(.st (.pair hR (.pair hR (.pair hR hR))))],[(.st (.pair hR (.pair hR (.pair hR hR))))],λx=>f190 n x⟩
def Bbu (α:Type) (n:Nat):D3 α:={ reg:=[(1,⟨11,[],[(2,{ ent:=some (Lo n) }),(5,{ ent:=some (Lo n) }),(8,{ ent:=some (Lo n) }),(11,{ ent:=some (Lo n) })]⟩)],join:=[],loop:=[] }
theorem Ane (n:Nat):(Ahp n).Sound PP:=B0 (fn:=Tryz.f190) (D:=Bbu _ n) ⟨Kg n,Kg n,Kg n,Kg n,trivial⟩

def f140 (n:Nat) (a0 a1:Rq):Option Rq :=
 ob (f196 n a0.2.1 a1.2.1) λa =>
 ob (f196 n a0.2.2 a1.2.2) λb =>
 ob (f197 n (!(a0.1==a1.1)) a b) λc =>
 some c
def Bn (n:Nat):Ent:=⟨140,[hR,hR],[hR],λx=>f140 n x.1 x.2⟩
def Bcx (α:Type) (n:Nat):D3 α:={ reg:=[(1,⟨15,[],[(9,{ ent:=some (Hl n) }),(14,{ ent:=some (Hl n) }),(15,{ ent:=some (Ow n) })]⟩)],join:=[],loop:=[] }
theorem Cg (n:Nat):(Bn n).Sound PP:=B0 (fn:=Tryz.f140) (D:=Bcx _ n) ⟨Gu n,Gu n,Nf n,trivial⟩

def f191 (n:Nat) (a0 a1:Rq × Rq × Rq × Rq):Option (Rq × Rq × Rq × Rq) :=
 ob (f140 n a0.1 a1.1) λa =>
 ob (f140 n a0.2.1 a1.1) λb =>
 ob (f140 n a0.1 a1.2.1) λc =>
 ob (f138 n b c) λd =>
 ob (f140 n a0.2.2.1 a1.1) λe =>
 ob (f140 n a0.1 a1.2.2.1) λf =>
 ob (f138 n e f) λg =>
 ob (f140 n a0.2.2.2 a1.1) λh =>
 ob (f140 n a0.1 a1.2.2.2) λi =>
 ob (f138 n h i) λj =>
 ob (f140 n a0.2.1 a1.2.2.1) λk =>
 ob (f140 n a0.2.2.1 a1.2.1) λl =>
 ob (f138 n k l) λm =>
 ob (f138 n j m) λo =>
 some (a,d,g,o)
def A7m (n:Nat):Ent:=⟨191,[(.st (.pair hR (.pair hR (.pair hR hR)))),(.st (.pair hR (.pair hR (.pair hR hR))))],[(.st (.pair hR (.pair hR (.pair hR hR))))],λx=>f191 n x.1 x.2⟩
def Bbt (α:Type) (n:Nat):D3 α:={ reg:=[(1,⟨47,[],[(4,{ ent:=some (Bn n) }),(9,{ ent:=some (Bn n) }),(14,{ ent:=some (Bn n) }),(15,{ ent:=some (Gb n) }),(20,{ ent:=some (Bn n) }),(25,{ ent:=some (Bn n) }),(26,{ ent:=some (Gb n) }),(31,{ ent:=some (Bn n) }),(36,{ ent:=some (Bn n) }),(37,{ ent:=some (Gb n) }),(42,{ ent:=some (Bn n) }),(47,{ ent:=some (Bn n) }),(48,{ ent:=some (Gb n) }),(49,{ ent:=some (Gb n) })]⟩)],join:=[],loop:=[] }
theorem Aaa (n:Nat):(A7m n).Sound PP:=B0 (fn:=Tryz.f191) (D:=Bbt _ n) ⟨Cg n,Cg n,Cg n,Ft n,Cg n,Cg n,Ft n,Cg n,Cg n,Ft n,Cg n,Cg n,Ft n,Ft n,trivial⟩

def f141 (n:Nat) (a0:Rq):Option Bool :=
 some ((a0.2.1.length:Int)==0)
def Axs (n:Nat):Ent:=⟨141,[hR],[.bool],λx=>f141 n x⟩
def Bcw (α:Type) (n:Nat):D3 α:={ reg:=[],join:=[],loop:=[] }
theorem B7v (n:Nat):(Axs n).Sound PP:=B0 (fn:=Tryz.f141) (D:=Bcw _ n) trivial

def f142 (n:Nat) (a0 a1:Rq):Option Rq :=
 ob (f196 n a0.2.1 a1.2.2) λa =>
 ob (f196 n a0.2.2 a1.2.1) λb =>
 ob (f197 n (!(a0.1==a1.1)) a b) λc =>
 some c
def S1 (n:Nat):Ent:=⟨142,[hR,hR],[hR],λx=>f142 n x.1 x.2⟩
def Bcv (α:Type) (n:Nat):D3 α:={ reg:=[(1,⟨15,[],[(9,{ ent:=some (Hl n) }),(14,{ ent:=some (Hl n) }),(15,{ ent:=some (Ow n) })]⟩)],join:=[],loop:=[] }
theorem B7u (n:Nat):(S1 n).Sound PP:=B0 (fn:=Tryz.f142) (D:=Bcv _ n) ⟨Gu n,Gu n,Nf n,trivial⟩

def f139 (n:Nat) (a0 a1:Rq):Option Rq :=
 ob (f143 n a1) λa =>
 ob (f138 n a0 a) λb =>
 some b
def Axt (n:Nat):Ent:=⟨139,[hR,hR],[hR],λx=>f139 n x.1 x.2⟩
def Bcy (α:Type) (n:Nat):D3 α:={ reg:=[(1,⟨3,[],[(2,{ ent:=some (Lo n) }),(3,{ ent:=some (Gb n) })]⟩)],join:=[],loop:=[] }
theorem B7w (n:Nat):(Axt n).Sound PP:=B0 (fn:=Tryz.f139) (D:=Bcy _ n) ⟨Kg n,Ft n,trivial⟩

abbrev Anc:Tm:=⟨[(1,.k (.hp 1 0 0)),(2,.k (.hp 2 0 0))],[(1,.var 140 true false [.d .bool,.d hIs,.d hIs,.d .bool,.d hIs,.d hIs,.d .bool,.d hIs,.d hIs,.d .bool,.d hIs,.d hIs]),(2,.var 140 true false [.d .bool,.d .nil,.d .nil,.d .bool,.d .nil,.d .nil,.d .bool,.d .nil,.d .nil,.d .bool,.d .nil,.d .nil])],[],[]⟩
abbrev Anb:Tm:=⟨[(1,.k (.hp 1 0 0)),(2,.k (.hp 2 0 0)),(3,.k (.hp 3 0 0)),(4,.k (.hp 4 0 0))],[(1,.var 140 true false [.d .bool,.d hIs,.d hIs,.d .bool,.d hIs,.d hIs,.d .bool,.d hIs,.d hIs,.d .bool,.d hIs,.d hIs]),(2,.var 140 true false [.d .bool,.d .nil,.d .nil,.d .bool,.d .nil,.d .nil,.d .bool,.d .nil,.d .nil,.d .bool,.d .nil,.d .nil]),(3,.var 54 true false [.d .bool,.d hIs,.d hIs]),(4,.var 54 true false [.d .bool,.d hIs,.d hIs])],[],[]⟩
def f192 (n:Nat) (a0:Rq × Rq × Rq × Rq):Option (Rq × Rq × Rq × Rq) :=
 ob (f131 n 1) λc =>
 ob (f142 n c a0.1) λa =>
 ob (f140 n a a) λb =>
 ob (f131 n 2) λd =>
 ob (f140 n b a) λe =>
 ob (f140 n d e) λf =>
 ob (f140 n a0.2.1 b) λg =>
 ob (f143 n g) λh =>
 ob (f140 n a0.2.2.1 b) λi =>
 ob (f143 n i) λj =>
 ob (f140 n a0.2.1 a0.2.2.1) λk =>
 ob (f140 n f k) λl =>
 ob (f140 n a0.2.2.2 b) λm =>
 ob (f139 n l m) λo =>
 some (a,h,j,o)
def Aw8 (n:Nat):Ent:=⟨192,[(.st (.pair hR (.pair hR (.pair hR hR))))],[(.st (.pair hR (.pair hR (.pair hR hR))))],λx=>f192 n x⟩
def Aw9 (α:Type) (n:Nat):D3 α:={ reg:=[(1,⟨0,[],[(0,{ ent:=some (C2 n) }),(3,{ ent:=some (S1 n) })]⟩),(2,⟨0,[],[(2,{ ent:=some (Bn n) })]⟩),(3,⟨0,[],[(0,{ ent:=some (C2 n) }),(3,{ ent:=some (Bn n) }),(4,{ ent:=some (Bn n) })]⟩),(4,⟨23,[],[(4,{ ent:=some (Bn n) }),(5,{ ent:=some (Lo n) }),(9,{ ent:=some (Bn n) }),(10,{ ent:=some (Lo n) }),(16,{ ent:=some (Bn n) }),(17,{ ent:=some (Bn n) }),(21,{ ent:=some (Bn n) }),(22,{ ent:=some (Axt n) })]⟩)],join:=[],loop:=[],any:=[(1,Anc),(3,Anb)] }
set_option maxHeartbeats 8000000 in
theorem B6g (n:Nat):Al TT ⟨42,[]⟩ [(0,{ ent:=some (C2 n) }),(3,{ ent:=some (S1 n) })] Anc (A4 ((A1 Tryz.f192).at [1,0])):=by
 refine ⟨by kernel_rfl,λw q hq=>?_⟩
 have e:WT [(0,{ ent:=some (C2 n) }),(3,{ ent:=some (S1 n) })] (A8 (A4 ((A1 Tryz.f192).at [1,0])).toList) q=(∃ (y0:HL (C2 n).rs) (q0:List (Nat × RV)),q=(0,.sv (Ae (C2 n).rs y0))::q0 /\ ∃ (y1:HL (S1 n).rs) (q1:List (Nat × RV)),q0=(3,.sv (Ae (S1 n).rs y1))::q1/\q1=[]):=by kernel_rfl
 rw [e] at hq;obtain ⟨y0,q0,rfl,y1,q1,rfl,rfl⟩:=hq
 all_goals exact .inr ⟨5,by kernel_rfl,by kernel_rfl,by kernel_rfl⟩
set_option maxHeartbeats 8000000 in
theorem B6f (n:Nat):Al TT ⟨42,[]⟩ [(0,{ ent:=some (C2 n) }),(3,{ ent:=some (Bn n) }),(4,{ ent:=some (Bn n) })] Anb (A4 ((A1 Tryz.f192).at [1,1,1,0])):=by
 refine ⟨by kernel_rfl,λw q hq=>?_⟩
 have e:WT [(0,{ ent:=some (C2 n) }),(3,{ ent:=some (Bn n) }),(4,{ ent:=some (Bn n) })] (A8 (A4 ((A1 Tryz.f192).at [1,1,1,0])).toList) q=(∃ (y0:HL (C2 n).rs) (q0:List (Nat × RV)),q=(0,.sv (Ae (C2 n).rs y0))::q0 /\ ∃ (y1:HL (Bn n).rs) (q1:List (Nat × RV)),q0=(3,.sv (Ae (Bn n).rs y1))::q1 /\ ∃ (y2:HL (Bn n).rs) (q2:List (Nat × RV)),q1=(4,.sv (Ae (Bn n).rs y2))::q2/\q2=[]):=by kernel_rfl
 rw [e] at hq;obtain ⟨y0,q0,rfl,y1,q1,rfl,y2,q2,rfl,rfl⟩:=hq
 all_goals exact .inr ⟨6,by kernel_rfl,by kernel_rfl,by kernel_rfl⟩
theorem Aw7 (α:Type) (n:Nat):Ao PP (Ag (Aw9 α n).reg):=⟨D2 n,B7u n,Cg n,D2 n,Cg n,Cg n,Cg n,Kg n,Cg n,Kg n,Cg n,Cg n,Cg n,B7w n,trivial⟩
theorem Bbs (α:Type) (n:Nat):D3.OK PP TT ⟨42,[]⟩ (Aw9 α n) (A1 Tryz.f192) :=
 D3.OK.mk3a (Aw7 α n) (show Ab (A1 Tryz.f192)=[] by kernel_rfl) trivial (show Ar (A1 Tryz.f192)=[(1,A4 ((A1 Tryz.f192).at [1,0])),(3,A4 ((A1 Tryz.f192).at [1,1,1,0])),(4,A4 ((A1 Tryz.f192).at [1,1,1,1,0]))] by kernel_rfl) ⟨⟨B6g n,trivial⟩,⟨B6f n,trivial⟩,trivial,trivial⟩
theorem B6e (n:Nat):(Aw8 n).Sound PP:=fk (fn:=Tryz.f192) (Bbs _ n)

def f145 (n:Nat) (a0:Rq):Option Bool :=
 bif (decide ((a0.2.1.length:Int)<=40)) then
  some (decide ((a0.2.2.length:Int)<=40))
 else
  some false
def Yj (n:Nat):Ent:=⟨145,[hR],[.bool],λx=>f145 n x⟩
def Bct (α:Type) (n:Nat):D3 α:={ reg:=[],join:=[],loop:=[] }
theorem A0o (n:Nat):(Yj n).Sound PP:=B0 (fn:=Tryz.f145) (D:=Bct _ n) trivial

def f193 (n:Nat) (a0:Rq × Rq × Rq × Rq):Option Bool :=
 ob (f145 n a0.1) λa =>
 bif a then
  ob (f145 n a0.2.1) λb =>
  bif b then
   ob (f145 n a0.2.2.1) λc =>
   bif c then
    ob (f145 n a0.2.2.2) λd =>
    some d
   else
    some false
  else
   some false
 else
  some false
def Aw6 (n:Nat):Ent:=⟨193,[(.st (.pair hR (.pair hR (.pair hR hR))))],[.bool],λx=>f193 n x⟩
def Bbr (α:Type) (n:Nat):D3 α:={ reg:=[(1,⟨0,[],[(2,{ ent:=some (Yj n) }),(6,{ ent:=some (Yj n) }),(11,{ ent:=some (Yj n) }),(16,{ ent:=some (Yj n) })]⟩)],join:=[],loop:=[] }
theorem B6d (n:Nat):(Aw6 n).Sound PP:=B0 (fn:=Tryz.f193) (D:=Bbr _ n) ⟨A0o n,A0o n,A0o n,A0o n,trivial⟩

def Yr {α:Type} (n:Nat) (d e g:LR) (h i:Int) (j:LN) (k l m o:Bool) (d2 b d3 p:Int) (q:Bool) (r s:LI) (t:Bool) (u v:LI) (w:Bool) (x y:LI) (z:Bool) (d0 d1:LI) (c:List (Rq × Rq × Rq × Rq)) (f:LR->LR->LR->Int->Int->LN->Bool->Bool->Bool->Bool->Int->Int->Int->Int->Bool->LI->LI->Bool->LI->LI->Bool->LI->LI->Bool->LI->LI->(List (Rq × Rq × Rq × Rq))->Option α) (k0:LR->LR->LR->Int->LN->Bool->Bool->Bool->Bool->Bool->LI->LI->Bool->LI->LI->Bool->LI->LI->Bool->LI->LI->(List (Rq × Rq × Rq × Rq))->Option α):Option α :=
 bif (decide (i<p)) then
  gd (decide (0<=b)&&decide (b<(c.length:Int))) (
   gd (decide (b.toNat<c.length)) (
    let d4:=c.getD b.toNat ((false,[],[]),(false,[],[]),(false,[],[]),(false,[],[]))
    ob (f191 n ((q,r,s),(t,u,v),(w,x,y),z,d0,d1) d4) λa =>
    f d e g h (W (i+1)) j k l m o d2 b d3 p a.1.1 a.1.2.1 a.1.2.2 a.2.1.1 a.2.1.2.1 a.2.1.2.2 a.2.2.1.1 a.2.2.1.2.1 a.2.2.1.2.2 a.2.2.2.1 a.2.2.2.2.1 a.2.2.2.2.2 c))
 else
  k0 d e g h j k l m o q r s t u v w x y z d0 d1 c
abbrev Qh:Tm:=⟨[(1,.d hRs),(2,.d hRs),(3,.d hRs),(4,.k (.hp 4 0 0)),(8,.k (.hp 8 0 0)),(10,.k (.hw 15)),(11,.d hI),(12,.k (.hp 12 0 0)),(13,.k (.hp 13 0 0)),(14,.d hI)],[(4,.var 43 true false [.d hNs]),(8,.var 140 true false [.d .bool,.d .nil,.d .nil,.d .bool,.d .nil,.d .nil,.d .bool,.d .nil,.d .nil,.d .bool,.d .nil,.d .nil]),(12,.var 85 true false [.d hI,.d hI,.d hI,.d hI]),(13,.var 140 true false [.d .bool,.d hIs,.d hIs,.d .bool,.d hIs,.d hIs,.d .bool,.d hIs,.d hIs,.d .bool,.d hIs,.d hIs]),(15,.arr 140 (.st (.pair hR (.pair hR (.pair hR hR)))) false)],[],[]⟩
abbrev Arw:Tm:=⟨[(1,.d hRs),(2,.d hRs),(3,.d hRs),(4,.k (.hp 4 0 0)),(8,.k (.hp 8 0 0)),(10,.k (.hw 15)),(11,.d hI),(13,.k (.hp 13 0 0))],[(4,.var 43 true false [.d hNs]),(8,.var 140 true false [.d .bool,.d .nil,.d .nil,.d .bool,.d .nil,.d .nil,.d .bool,.d .nil,.d .nil,.d .bool,.d .nil,.d .nil]),(13,.var 140 true false [.d .bool,.d hIs,.d hIs,.d .bool,.d hIs,.d hIs,.d .bool,.d hIs,.d hIs,.d .bool,.d hIs,.d hIs]),(15,.arr 140 (.st (.pair hR (.pair hR (.pair hR hR)))) false)],[12],[]⟩
abbrev Yq:List (Exit × Tm):=[(.exit 3,Arw)]
def Yp {α:Type} (n:Nat) (v:Qh.den) (f:Qh.den->Option α) (ks:KS α Yq):Option α:=Yr n v.1.1 v.1.2.1 v.1.2.2.1 v.1.2.2.2.2.2.2.1 v.1.2.2.2.2.2.2.2.2.2.1 v.2.1.1 v.2.2.1.1 v.2.2.1.2.2.2.1 v.2.2.1.2.2.2.2.2.2.1 v.2.2.1.2.2.2.2.2.2.2.2.2.1 v.2.2.2.1.1 v.2.2.2.1.2.1 v.2.2.2.1.2.2.1 v.2.2.2.1.2.2.2.1 v.2.2.2.2.1.1 v.2.2.2.2.1.2.1 v.2.2.2.2.1.2.2.1 v.2.2.2.2.1.2.2.2.1 v.2.2.2.2.1.2.2.2.2.1 v.2.2.2.2.1.2.2.2.2.2.1 v.2.2.2.2.1.2.2.2.2.2.2.1 v.2.2.2.2.1.2.2.2.2.2.2.2.1 v.2.2.2.2.1.2.2.2.2.2.2.2.2.1 v.2.2.2.2.1.2.2.2.2.2.2.2.2.2.1 v.2.2.2.2.1.2.2.2.2.2.2.2.2.2.2.1 v.2.2.2.2.1.2.2.2.2.2.2.2.2.2.2.2.1 v.2.2.2.2.2.1 (λa b c d e g h i j k l m o p q r s t u w x y z d0 d1 d2 d3=>f ((a,b,c,(),(),(),d,(),(),e,()),((g,()),(h,(),(),i,(),(),j,(),(),k,(),(),()),(l,m,o,p,()),(q,r,s,t,u,w,x,y,z,d0,d1,d2,()),d3,()))) (λw0 w1 w2 w3 w4 w5 w6 w7 w8 w9 w10 w11 w12 w13 w14 w15 w16 w17 w18 w19 w20 w21=>ks.1 ((w0,w1,w2,(),(),(),w3,(),()),((w4,()),(w5,(),(),w6,(),(),w7,(),(),w8,(),(),()),(w9,w10,w11,w12,w13,w14,w15,w16,w17,w18,w19,w20,()),w21,())))
def Uk {α:Type} (n m:Nat) (a b c:LR) (d e:Int) (f:LN) (g h i j:Bool) (k l o p:Int) (q:Bool) (r s:LI) (t:Bool) (u v:LI) (x:Bool) (y z:LI) (d0:Bool) (d1 d2:LI) (d3:List (Rq × Rq × Rq × Rq)) (k0:LR->LR->LR->Int->LN->Bool->Bool->Bool->Bool->Bool->LI->LI->Bool->LI->LI->Bool->LI->LI->Bool->LI->LI->(List (Rq × Rq × Rq × Rq))->Option α):Option α:=A5 (Yp n) m ((a,b,c,(),(),(),d,(),(),e,()),((f,()),(g,(),(),h,(),(),i,(),(),j,(),(),()),(k,l,o,p,()),(q,r,s,t,u,v,x,y,z,d0,d1,d2,()),d3,())) (λw=>k0 w.1.1 w.1.2.1 w.1.2.2.1 w.1.2.2.2.2.2.2.1 w.2.1.1 w.2.2.1.1 w.2.2.1.2.2.2.1 w.2.2.1.2.2.2.2.2.2.1 w.2.2.1.2.2.2.2.2.2.2.2.2.1 w.2.2.2.1.1 w.2.2.2.1.2.1 w.2.2.2.1.2.2.1 w.2.2.2.1.2.2.2.1 w.2.2.2.1.2.2.2.2.1 w.2.2.2.1.2.2.2.2.2.1 w.2.2.2.1.2.2.2.2.2.2.1 w.2.2.2.1.2.2.2.2.2.2.2.1 w.2.2.2.1.2.2.2.2.2.2.2.2.1 w.2.2.2.1.2.2.2.2.2.2.2.2.2.1 w.2.2.2.1.2.2.2.2.2.2.2.2.2.2.1 w.2.2.2.1.2.2.2.2.2.2.2.2.2.2.2.1 w.2.2.2.2.1,())
theorem Arv {α n m a b c d e f g h i j k l o p q r s t u v w x y z d0 d1 d2 k0}:Uk (α:=α) n (m+1) a b c d e f g h i j k l o p q r s t u v w x y z d0 d1 d2 k0=Yr n a b c d e f g h i j k l o p q r s t u v w x y z d0 d1 d2 (λa b c d e f g h i j k l o p q r s t u v w x y z d0 d1 d2=>Uk n m a b c d e f g h i j k l o p q r s t u v w x y z d0 d1 d2 k0) k0:=rfl
def Pa {α:Type} (n:Nat) (m o p:LR) (c:Int) (l:LN) (q r s t:Bool) (b:List (Rq × Rq × Rq × Rq)) (f:LR->LR->LR->Int->LN->Bool->Bool->Bool->Bool->(List (Rq × Rq × Rq × Rq))->Option α) (k0:Int->Bool->Bool->Bool->Bool->Option α) (k1:Bool->Bool->Bool->Bool->(List (Rq × Rq × Rq × Rq))->Option α):Option α :=
 bif (decide (c<(l.length:Int))) then
  gd (decide (0<=c)&&decide (c<(l.length:Int))) (
   let a:=l.getD c.toNat (0,0,0,0)
   ob (f131 n 0) λe2 =>
   ob (f188 n e2) λj0 =>
   let u:=λ(e3:LR) (e4:LR) (e5:LR) (e6:Int) (e7:LN) (e8:Bool) (e9:Bool) (f0:Bool) (f1:Bool) (z:Bool) (d0:LI) (d1:LI) (d2:Bool) (d3:LI) (d4:LI) (d5:Bool) (d6:LI) (d7:LI) (d8:Bool) (d9:LI) (e0:LI) (e1:List (Rq × Rq × Rq × Rq))=>(
    ob (f193 n ((z,d0,d1),(d2,d3,d4),(d5,d6,d7),d8,d9,e0)) λf2 =>
    bif (!f2) then
     k0 7 false false false false
    else
     gd (decide ((e1.length+1)*224<=140737488355328)) (
      f e3 e4 e5 (W (e6+1)) e7 e8 e9 f0 f1 (e1++[((z,d0,d1),(d2,d3,d4),(d5,d6,d7),d8,d9,e0)])))
   bif (a.1==1) then
    ob (f131 n a.2.2.2) λf3 =>
    ob (f188 n f3) λd =>
    u m o p c l q r s t d.1.1 d.1.2.1 d.1.2.2 d.2.1.1 d.2.1.2.1 d.2.1.2.2 d.2.2.1.1 d.2.2.1.2.1 d.2.2.1.2.2 d.2.2.2.1 d.2.2.2.2.1 d.2.2.2.2.2 b
   else
    bif (a.1==2) then
     gd (decide (0<=a.2.2.2)&&decide (a.2.2.2<(m.length:Int))) (
      let v:=m.getD a.2.2.2.toNat (false,[],[])
      gd (decide (0<=a.2.2.2)&&decide (a.2.2.2<(o.length:Int))) (
       let w:=o.getD a.2.2.2.toNat (false,[],[])
       gd (decide (0<=a.2.2.2)&&decide (a.2.2.2<(p.length:Int))) (
        let x:=p.getD a.2.2.2.toNat (false,[],[])
        ob (f131 n 0) λy =>
        u m o p c l q r s t v.1 v.2.1 v.2.2 w.1 w.2.1 w.2.2 x.1 x.2.1 x.2.2 y.1 y.2.1 y.2.2 b)))
    else
     bif (a.1==3) then
      gd (decide (0<=a.2.1)&&decide (a.2.1<(b.length:Int))) (
       gd (decide (a.2.1.toNat<b.length)) (
        let f4:=b.getD a.2.1.toNat ((false,[],[]),(false,[],[]),(false,[],[]),(false,[],[]))
        gd (decide (0<=a.2.2.1)&&decide (a.2.2.1<(b.length:Int))) (
         gd (decide (a.2.2.1.toNat<b.length)) (
          let f5:=b.getD a.2.2.1.toNat ((false,[],[]),(false,[],[]),(false,[],[]),(false,[],[]))
          ob (f189 n f4 f5) λe =>
          u m o p c l q r s t e.1.1 e.1.2.1 e.1.2.2 e.2.1.1 e.2.1.2.1 e.2.1.2.2 e.2.2.1.1 e.2.2.1.2.1 e.2.2.1.2.2 e.2.2.2.1 e.2.2.2.2.1 e.2.2.2.2.2 b))))
     else
      bif (a.1==4) then
       gd (decide (0<=a.2.1)&&decide (a.2.1<(b.length:Int))) (
        gd (decide (a.2.1.toNat<b.length)) (
         let f6:=b.getD a.2.1.toNat ((false,[],[]),(false,[],[]),(false,[],[]),(false,[],[]))
         gd (decide (0<=a.2.2.1)&&decide (a.2.2.1<(b.length:Int))) (
          gd (decide (a.2.2.1.toNat<b.length)) (
           let f7:=b.getD a.2.2.1.toNat ((false,[],[]),(false,[],[]),(false,[],[]),(false,[],[]))
           ob (f190 n f7) λf8 =>
           ob (f189 n f6 f8) λg =>
           u m o p c l q r s t g.1.1 g.1.2.1 g.1.2.2 g.2.1.1 g.2.1.2.1 g.2.1.2.2 g.2.2.1.1 g.2.2.1.2.1 g.2.2.1.2.2 g.2.2.2.1 g.2.2.2.2.1 g.2.2.2.2.2 b))))
      else
       bif (a.1==5) then
        gd (decide (0<=a.2.1)&&decide (a.2.1<(b.length:Int))) (
         gd (decide (a.2.1.toNat<b.length)) (
          let f9:=b.getD a.2.1.toNat ((false,[],[]),(false,[],[]),(false,[],[]),(false,[],[]))
          gd (decide (0<=a.2.2.1)&&decide (a.2.2.1<(b.length:Int))) (
           gd (decide (a.2.2.1.toNat<b.length)) (
            let g0:=b.getD a.2.2.1.toNat ((false,[],[]),(false,[],[]),(false,[],[]),(false,[],[]))
            ob (f191 n f9 g0) λh =>
            u m o p c l q r s t h.1.1 h.1.2.1 h.1.2.2 h.2.1.1 h.2.1.2.1 h.2.1.2.2 h.2.2.1.1 h.2.2.1.2.1 h.2.2.1.2.2 h.2.2.2.1 h.2.2.2.2.1 h.2.2.2.2.2 b))))
       else
        bif (a.1==6) then
         gd (decide (0<=a.2.2.1)&&decide (a.2.2.1<(b.length:Int))) (
          gd (decide (a.2.2.1.toNat<b.length)) (
           let g1:=b.getD a.2.2.1.toNat ((false,[],[]),(false,[],[]),(false,[],[]),(false,[],[]))
           ob (f141 n g1.1) λg2 =>
           bif g2 then
            k0 10 false false false false
           else
            gd (decide (0<=a.2.1)&&decide (a.2.1<(b.length:Int))) (
             gd (decide (a.2.1.toNat<b.length)) (
              let g3:=b.getD a.2.1.toNat ((false,[],[]),(false,[],[]),(false,[],[]),(false,[],[]))
              gd (decide (0<=a.2.2.1)&&decide (a.2.2.1<(b.length:Int))) (
               gd (decide (a.2.2.1.toNat<b.length)) (
                let g4:=b.getD a.2.2.1.toNat ((false,[],[]),(false,[],[]),(false,[],[]),(false,[],[]))
                ob (f192 n g4) λg5 =>
                ob (f191 n g3 g5) λi =>
                u m o p c l q r s t i.1.1 i.1.2.1 i.1.2.2 i.2.1.1 i.2.1.2.1 i.2.1.2.2 i.2.2.1.1 i.2.2.1.2.1 i.2.2.1.2.2 i.2.2.2.1 i.2.2.2.2.1 i.2.2.2.2.2 b))))))
        else
         bif (a.1==7) then
          gd (decide (0<=a.2.1)&&decide (a.2.1<(b.length:Int))) (
           gd (decide (a.2.1.toNat<b.length)) (
            let g6:=b.getD a.2.1.toNat ((false,[],[]),(false,[],[]),(false,[],[]),(false,[],[]))
            ob (f190 n g6) λj =>
            u m o p c l q r s t j.1.1 j.1.2.1 j.1.2.2 j.2.1.1 j.2.1.2.1 j.2.1.2.2 j.2.2.1.1 j.2.2.1.2.1 j.2.2.1.2.2 j.2.2.2.1 j.2.2.2.2.1 j.2.2.2.2.2 b))
         else
          ob (f131 n 1) λg7 =>
          ob (f188 n g7) λk =>
          Uk n n m o p c 0 l q r s t a.1 a.2.1 a.2.2.1 a.2.2.2 k.1.1 k.1.2.1 k.1.2.2 k.2.1.1 k.2.1.2.1 k.2.1.2.2 k.2.2.1.1 k.2.2.1.2.1 k.2.2.1.2.2 k.2.2.2.1 k.2.2.2.2.1 k.2.2.2.2.2 b
           (λg8 g9 h0 h1 h2 h3 h4 h5 h6 h7 h8 h9 i0 i1 i2 i3 i4 i5 i6 i7 i8 i9=>(
            u g8 g9 h0 h1 h2 h3 h4 h5 h6 h7 h8 h9 i0 i1 i2 i3 i4 i5 i6 i7 i8 i9)))
 else
  k1 q r s t b
abbrev Uj:Tm:=⟨[(1,.d hRs),(2,.d hRs),(3,.d hRs),(4,.k (.hp 4 0 0)),(8,.k (.hp 8 0 0)),(10,.k (.hw 15)),(11,.d hI)],[(4,.var 43 true false [.d hNs]),(8,.var 140 true false [.d .bool,.d .nil,.d .nil,.d .bool,.d .nil,.d .nil,.d .bool,.d .nil,.d .nil,.d .bool,.d .nil,.d .nil]),(15,.arr 140 (.st (.pair hR (.pair hR (.pair hR hR)))) false)],[13,148],[]⟩
abbrev Ay8:Tm:=⟨[(8,.k (.hp 8 0 0)),(9,.d hI)],[(8,.var 140 true false [.d .bool,.d .nil,.d .nil,.d .bool,.d .nil,.d .nil,.d .bool,.d .nil,.d .nil,.d .bool,.d .nil,.d .nil])],[4,12,13,15],[]⟩
abbrev Ay7:Tm:=⟨[(8,.k (.hp 8 0 0)),(10,.k (.hw 15))],[(8,.var 140 true false [.d .bool,.d .nil,.d .nil,.d .bool,.d .nil,.d .nil,.d .bool,.d .nil,.d .nil,.d .bool,.d .nil,.d .nil]),(15,.arr 140 (.st (.pair hR (.pair hR (.pair hR hR)))) false)],[4],[]⟩
abbrev A54:List (Exit × Tm):=[(.ret,Ay8),(.exit 0,Ay7)]
def A53 {α:Type} (n:Nat) (v:Uj.den) (f:Uj.den->Option α) (ks:KS α A54):Option α:=Pa n v.1.1 v.1.2.1 v.1.2.2.1 v.1.2.2.2.2.2.2.1 v.2.1.1 v.2.2.1.1 v.2.2.1.2.2.2.1 v.2.2.1.2.2.2.2.2.2.1 v.2.2.1.2.2.2.2.2.2.2.2.2.1 v.2.2.2.1 (λa b c d e g h i j k=>f ((a,b,c,(),(),(),d,()),((e,()),(g,(),(),h,(),(),i,(),(),j,(),(),()),k,()))) (λw0 w1 w2 w3 w4=>ks.1 (((),w0,()),((w1,(),(),w2,(),(),w3,(),(),w4,(),(),()),()))) (λw0 w1 w2 w3 w4=>ks.2.1 (((),(),()),((w0,(),(),w1,(),(),w2,(),(),w3,(),(),()),w4,())))
def A0p {α:Type} (n m:Nat) (a b c:LR) (d:Int) (e:LN) (f g h i:Bool) (j:List (Rq × Rq × Rq × Rq)) (k0:Int->Bool->Bool->Bool->Bool->Option α) (k1:Bool->Bool->Bool->Bool->(List (Rq × Rq × Rq × Rq))->Option α):Option α:=A5 (A53 n) m ((a,b,c,(),(),(),d,()),((e,()),(f,(),(),g,(),(),h,(),(),i,(),(),()),j,())) (λw=>k0 w.1.2.1 w.2.1.1 w.2.1.2.2.2.1 w.2.1.2.2.2.2.2.2.1 w.2.1.2.2.2.2.2.2.2.2.2.1,λw=>k1 w.2.1.1 w.2.1.2.2.2.1 w.2.1.2.2.2.2.2.2.1 w.2.1.2.2.2.2.2.2.2.2.2.1 w.2.2.1,())
theorem Ay5 {α n m a b c d e f g h i j k0 k1}:A0p (α:=α) n (m+1) a b c d e f g h i j k0 k1=Pa n a b c d e f g h i j (λa b c d e f g h i j=>A0p n m a b c d e f g h i j k0 k1) k0 k1:=rfl
abbrev B2o:Tm:=⟨[(1,.d hRs),(2,.d hRs),(3,.d hRs),(4,.k (.hp 4 0 0)),(8,.k (.hp 8 0 0)),(10,.k (.hw 15)),(11,.d hI),(13,.k (.hp 13 0 0))],[(4,.var 43 true false [.d hNs]),(8,.var 140 true false [.d .bool,.d .nil,.d .nil,.d .bool,.d .nil,.d .nil,.d .bool,.d .nil,.d .nil,.d .bool,.d .nil,.d .nil]),(13,.var 140 true false [.d .bool,.d hIs,.d hIs,.d .bool,.d hIs,.d hIs,.d .bool,.d hIs,.d hIs,.d .bool,.d hIs,.d hIs]),(15,.arr 140 (.st (.pair hR (.pair hR (.pair hR hR)))) false)],[12],[]⟩
def f126 (n:Nat) (a0:LN) (a1 a2 a3:LR):Option ((Rq × Rq × Rq × Rq) × Int) :=
 A0p n n a1 a2 a3 0 a0 false false false false []
  (λb c d e f=>(
   some (((c,[],[]),(d,[],[]),(e,[],[]),f,[],[]),b)))
  (λh i j k a=>(
   gd (decide (0<=(W ((a.length:Int)-1)))&&decide ((W ((a.length:Int)-1))<(a.length:Int))) (
    gd (decide ((W ((a.length:Int)-1)).toNat<a.length)) (
     let g:=a.getD ((W ((a.length:Int)-1)).toNat) ((false,[],[]),(false,[],[]),(false,[],[]),(false,[],[]))
     some (g,0)))))
def Pb (n:Nat):Ent:=⟨126,[hE,hRs,hRs,hRs],[(.st (.pair hR (.pair hR (.pair hR hR)))),hI],λx=>f126 n x.1 x.2.1 x.2.2.1 x.2.2.2⟩
def A8a (α:Type) (n:Nat):D3 α:={ reg:=[(1,⟨0,[],[(0,{ sh:=some (.st (.pair hR (.pair hR (.pair hR hR)))) })]⟩),(6,⟨0,[],[(0,{ ent:=some (C2 n) }),(1,{ ent:=some (A7n n) })]⟩),(8,⟨0,[],[(0,{ ent:=some (C2 n) }),(1,{ ent:=some (A7n n) })]⟩),(12,⟨6,[],[(6,{ ent:=some (A7m n) })]⟩),(14,⟨0,[],[(2,{ ent:=some (C2 n) }),(3,{ ent:=some (A7n n) })]⟩),(16,⟨16,[],[(15,{ ent:=some (C2 n) })]⟩),(18,⟨10,[],[(10,{ ent:=some (Ahq n) })]⟩),(20,⟨11,[],[(10,{ ent:=some (Ahp n) }),(11,{ ent:=some (Ahq n) })]⟩),(22,⟨10,[],[(10,{ ent:=some (A7m n) })]⟩),(24,⟨0,[],[(6,{ ent:=some (Axs n) })]⟩),(26,⟨11,[],[(10,{ ent:=some (Aw8 n) }),(11,{ ent:=some (A7m n) })]⟩),(28,⟨0,[],[(5,{ ent:=some (Ahp n) })]⟩),(29,⟨0,[],[(1,{ ent:=some (Aw6 n) })]⟩),(31,⟨0,[],[(2,{ sh:=some (.st (.pair hR (.pair hR (.pair hR hR)))) })]⟩)],join:=[(29,B2o)],loop:=[(10,⟨Qh,Yq,A5 (Yp n) n⟩),(3,⟨Uj,A54,A5 (A53 n) n⟩)] }
theorem Yo (α:Type) (n:Nat):Ao PP (Ag (A8a α n).reg):=⟨D2 n,Aab n,D2 n,Aab n,Aaa n,D2 n,Aab n,D2 n,Anf n,Ane n,Anf n,Aaa n,B7v n,B6e n,Aaa n,Ane n,B6d n,trivial⟩
theorem Ald (α:Type) (n:Nat):LO.Sound (α:=α) PP ⟨156,[]⟩ ⟨Qh,Yq,A5 (Yp n) n⟩ (.loop ((A1 Tryz.f126).at [1,1,0,1,0,0,1,0,0,1,1,0,1,0,1,1,1,1,1,1,1,1,1,1,1,1,1,1,1,1,0,0])):=C5 (D:=A8a α n) (Yo α n) n
theorem Ay6 (α:Type) (n:Nat):D3.OK PP TT ⟨156,[]⟩ (A8a α n) ((A1 Tryz.f126).at [1,1,0,1,0,0]) :=
 D3.OK.mk3 (Yo α n) (show Ab ((A1 Tryz.f126).at [1,1,0,1,0,0])=[(10,(.loop ((A1 Tryz.f126).at [1,1,0,1,0,0,1,0,0,1,1,0,1,0,1,1,1,1,1,1,1,1,1,1,1,1,1,1,1,1,0,0])))] by kernel_rfl) ⟨Ac rfl (Ald α n),trivial⟩
theorem Aru (α:Type) (n:Nat):LO.Sound (α:=α) PP ⟨156,[]⟩ ⟨Uj,A54,A5 (A53 n) n⟩ (.loop ((A1 Tryz.f126).at [1,1,0,1,0,0])):=lk (Ay6 α n) n
theorem Bd5 (α:Type) (n:Nat):D3.OK PP TT ⟨156,[]⟩ (A8a α n) (A1 Tryz.f126) :=
 D3.OK.mk3 (Yo α n) (show Ab (A1 Tryz.f126)=[(3,(.loop ((A1 Tryz.f126).at [1,1,0,1,0,0])))] by kernel_rfl) ⟨Ac rfl (Aru α n),trivial⟩
theorem Aoe (n:Nat):(Pb n).Sound PP:=fk (fn:=Tryz.f126) (Bd5 _ n)

end Go.Ev
