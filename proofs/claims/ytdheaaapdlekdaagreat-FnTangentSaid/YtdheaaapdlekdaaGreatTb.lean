/- DERIVED. What the functions compute, and that they do. -/
import Derived.Test.YtdheaaapdlekdaaGreatTa

set_option linter.all false
set_option linter.unusedVariables false
set_option linter.unusedSimpArgs false

namespace Go.Ev
open Go Go.Proofs Go.RowKit Go.Shelf
def f162 (n:Nat) (a0 a1:Rq):Option Rq :=
 ob (f152 n a0.2.1 a1.2.1) λa =>
 ob (f152 n a0.2.2 a1.2.2) λb =>
 ob (f153 n (!(a0.1==a1.1)) a b) λc =>
 some c
def A8 (n:Nat):Ent:=⟨162,[hR,hR],[hR],λx=>f162 n x.1 x.2⟩
def Bf2 (α:Type) (n:Nat):D3 α:={ reg:=[(1,⟨15,[],[(9,{ ent:=some (I0 n) }),(14,{ ent:=some (I0 n) }),(15,{ ent:=some (S4 n) })]⟩)],join:=[],loop:=[] }
theorem At (n:Nat):(A8 n).Sound PP:=B0 (fn:=Tryz.f162) (D:=Bf2 _ n) ⟨H3 n,H3 n,S2 n,trivial⟩

def f208 (n:Nat) (a0 a1:Rq):Option Rq :=
 ob (f162 n a0 a1) λa =>
 some a
def Cl (n:Nat):Ent:=⟨208,[hR,(.ref hR)],[hR],λx=>f208 n x.1 x.2⟩
def Be6 (α:Type) (n:Nat):D3 α:={ reg:=[(1,⟨0,[],[(2,{ ent:=some (A8 n) })]⟩)],join:=[],loop:=[] }
theorem Ani (n:Nat):(Cl n).Sound PP:=B0 (fn:=Tryz.f208) (D:=Be6 _ n) ⟨At n,trivial⟩

def A2u {α:Type} (n:Nat) (d:Rq) (p:(Bool × LI × LI × LR × Unit × Bool × LI × LI) × Rq) (b:LR) (e a:Int) (q:Bool) (r s:LI) (t:LR) (u:Bool) (v w:LI) (g h i:Bool) (j k:LI) (l:Bool) (m o:LI) (c:LR) (f:Rq->((Bool × LI × LI × LR × Unit × Bool × LI × LI) × Rq)->LR->Int->Int->Bool->LI->LI->LR->Bool->LI->LI->Bool->Bool->Bool->LI->LI->Bool->LI->LI->LR->Option α) (k0:Bool->Bool->Bool->LI->LI->Bool->LI->LI->LR->Option α):Option α :=
 bif (decide (a<e)) then
  gd (decide (0<=a)&&decide (a<(b.length:Int))) (
   let x:=b.getD a.toNat (false,[],[])
   ob (f208 n x d) λy =>
   gd (decide ((c.length+1)*56<=140737488355328)) (
    f d p b e (W (a+1)) q r s t u v w g h i j k l m o (c++[y])))
 else
  k0 g h i j k l m o c
abbrev Fk:Tm:=⟨[(3,.d (.clo 208 (.ref hR))),(4,.d (.clo 209 (.pair (.ref (.st (.pair .bool (.pair hIs (.pair hIs (.pair hRs (.pair .nil (.pair .bool (.pair hIs hIs))))))))) (.ref hR)))),(5,.k (.hp 5 0 0)),(10,.k (.hp 10 0 0)),(11,.k (.hp 11 0 0)),(18,.d hRs),(19,.d hI),(20,.d hI)],[(5,.var 91 true false [.d .bool,.d hIs,.d hIs,.d hRs,.d .nil,.d .bool,.d hIs,.d hIs]),(10,.var 91 true false [.d .bool,.d .nil,.d .nil,.d .nil,.d .nil,.d .bool,.d .nil,.d .nil]),(11,.var 91 false false [.d .bool,.d hIs,.d hIs,.k (.hw 31),.d .nil,.d .bool,.d hIs,.d hIs]),(31,.arr 54 hR false)],[13,30],[]⟩
abbrev A12:Tm:=⟨[(10,.k (.hp 10 0 0)),(11,.k (.hp 11 0 0))],[(10,.var 91 true false [.d .bool,.d .nil,.d .nil,.d .nil,.d .nil,.d .bool,.d .nil,.d .nil]),(11,.var 91 false false [.d .bool,.d hIs,.d hIs,.k (.hw 31),.d .nil,.d .bool,.d hIs,.d hIs]),(31,.arr 54 hR false)],[5],[]⟩
abbrev Ij:List (Exit × Tm):=[(.exit 0,A12)]
def Ii {α:Type} (n:Nat) (v:Fk.den) (f:Fk.den->Option α) (ks:KS α Ij):Option α:=A2u n v.1.1 v.1.2.1 v.1.2.2.2.2.2.1 v.1.2.2.2.2.2.2.1 v.1.2.2.2.2.2.2.2.1 v.2.1.1 v.2.1.2.1 v.2.1.2.2.1 v.2.1.2.2.2.1 v.2.1.2.2.2.2.2.1 v.2.1.2.2.2.2.2.2.1 v.2.1.2.2.2.2.2.2.2.1 v.2.2.1.1 v.2.2.1.2.2.2.2.2.1 v.2.2.2.1.1 v.2.2.2.1.2.1 v.2.2.2.1.2.2.1 v.2.2.2.1.2.2.2.2.2.1 v.2.2.2.1.2.2.2.2.2.2.1 v.2.2.2.1.2.2.2.2.2.2.2.1 v.2.2.2.2.1 (λa b c d e g h i j k l m o p q r s t u w x=>f ((a,b,(),(),(),c,d,e,()),((g,h,i,j,(),k,l,m,()),(o,(),(),(),(),p,(),(),()),(q,r,s,(),(),t,u,w,()),x,()))) (λw0 w1 w2 w3 w4 w5 w6 w7 w8=>ks.1 (((),(),()),((w0,(),(),(),(),w1,(),(),()),(w2,w3,w4,(),(),w5,w6,w7,()),w8,())))
def A71 {α:Type} (n m:Nat) (a:Rq) (b:(Bool × LI × LI × LR × Unit × Bool × LI × LI) × Rq) (c:LR) (d e:Int) (f:Bool) (g h:LI) (i:LR) (j:Bool) (k l:LI) (o p q:Bool) (r s:LI) (t:Bool) (u v:LI) (x:LR) (k0:Bool->Bool->Bool->LI->LI->Bool->LI->LI->LR->Option α):Option α:=A5 (Ii n) m ((a,b,(),(),(),c,d,e,()),((f,g,h,i,(),j,k,l,()),(o,(),(),(),(),p,(),(),()),(q,r,s,(),(),t,u,v,()),x,())) (λw=>k0 w.2.1.1 w.2.1.2.2.2.2.2.1 w.2.2.1.1 w.2.2.1.2.1 w.2.2.1.2.2.1 w.2.2.1.2.2.2.2.2.1 w.2.2.1.2.2.2.2.2.2.1 w.2.2.1.2.2.2.2.2.2.2.1 w.2.2.2.1,())
abbrev Qd:Tm:=⟨[(3,.d (.clo 208 (.ref hR))),(4,.d (.clo 209 (.pair (.ref (.st (.pair .bool (.pair hIs (.pair hIs (.pair hRs (.pair .nil (.pair .bool (.pair hIs hIs))))))))) (.ref hR)))),(5,.k (.hp 5 0 0)),(10,.k (.hp 10 0 0)),(11,.k (.hp 11 0 0)),(12,.d hI),(13,.k (.hp 13 0 0)),(18,.d hRs),(19,.d hI),(20,.d hI)],[(5,.var 91 true false [.d .bool,.d hIs,.d hIs,.d hRs,.d .nil,.d .bool,.d hIs,.d hIs]),(10,.var 91 true false [.d .bool,.d .nil,.d .nil,.d .nil,.d .nil,.d .bool,.d .nil,.d .nil]),(11,.var 91 true false [.d .bool,.d hIs,.d hIs,.d .nil,.d .nil,.d .bool,.d hIs,.d hIs]),(13,.var 54 true false [.d .bool,.d hIs,.d hIs])],[6,7],[]⟩
abbrev Mq:Tm:=⟨[(3,.d (.clo 208 (.ref hR))),(4,.d (.clo 209 (.pair (.ref (.st (.pair .bool (.pair hIs (.pair hIs (.pair hRs (.pair .nil (.pair .bool (.pair hIs hIs))))))))) (.ref hR)))),(5,.k (.hp 5 0 0)),(10,.k (.hp 10 0 0)),(11,.k (.hp 11 0 0)),(12,.d hI),(13,.k (.hp 13 0 0)),(18,.d hRs),(19,.d hI),(20,.d hI)],[(5,.var 91 true false [.d .bool,.d hIs,.d hIs,.d hRs,.d .nil,.d .bool,.d hIs,.d hIs]),(10,.var 91 true false [.d .bool,.d .nil,.d .nil,.d .nil,.d .nil,.d .bool,.d .nil,.d .nil]),(11,.var 91 false false [.d .bool,.d hIs,.d hIs,.k (.hw 31),.d .nil,.d .bool,.d hIs,.d hIs]),(13,.var 54 true false [.d .bool,.d hIs,.d hIs]),(31,.arr 54 hR false)],[],[]⟩
def Y3 (n:Nat) (a0:Rq × LR × Unit × Rq) (a1 a2 a3:Rq) (a4:(Bool × LI × LI × LR × Unit × Bool × LI × LI) × Rq):Option (Rq × LR × Unit × Rq) :=
 bif (decide (0<(a0.2.1.length:Int))) then
  gd (decide (0<(a0.2.1.length:Int))) (
   let a:=a0.2.1.getD 0 (false,[],[])
   ob (f208 n a a3) λb =>
   A71 n n a3 a4 a0.2.1 (a0.2.1.length:Int) 1 a0.1.1 a0.1.2.1 a0.1.2.2 a0.2.1 a0.2.2.2.1 a0.2.2.2.2.1 a0.2.2.2.2.2 false false a1.1 a1.2.1 a1.2.2 a2.1 a2.2.1 a2.2.2 [b]
    (λj k c d e f g h i=>(
     some ((c,d,e),i,(),f,g,h))))
 else
  some (a1,[],(),a2)
def Dt (n:Nat):Ent:=⟨207,[(.st (.pair hR (.pair hRs (.pair .nil hR)))),hR,hR,(.clo 208 (.ref hR)),(.clo 209 (.pair (.ref (.st (.pair .bool (.pair hIs (.pair hIs (.pair hRs (.pair .nil (.pair .bool (.pair hIs hIs))))))))) (.ref hR)))],[(.st (.pair hR (.pair hRs (.pair .nil hR))))],λx=>Y3 n x.1 x.2.1 x.2.2.1 x.2.2.2.1 x.2.2.2.2⟩
def Kr (α:Type) (n:Nat):D3 α:={ reg:=[(5,⟨0,[],[(4,{ ent:=some (Cl n) }),(5,{ sh:=some hR }),(6,{ sh:=some hR })]⟩)],join:=[],loop:=[(3,⟨Fk,Ij,A5 (Ii n) n⟩)],any:=[(5,Qd),(5,Mq)] }
set_option maxHeartbeats 8000000 in
theorem Qe (n:Nat):Ag TT ⟨46,[]⟩ [(4,{ ent:=some (Cl n) }),(5,{ sh:=some hR }),(6,{ sh:=some hR })] Qd (A4 ((A0 Tryz.f207).at [1,1,0,1,0,0,1,1,0,0,1,0])):=by
 refine ⟨by kernel_rfl,λw q hq=>?_⟩
 have e:WT [(4,{ ent:=some (Cl n) }),(5,{ sh:=some hR }),(6,{ sh:=some hR })] (A7 (A4 ((A0 Tryz.f207).at [1,1,0,1,0,0,1,1,0,0,1,0])).toList) q=(∃ (y0:HL (Cl n).rs) (q0:List (Nat × RV)),q=(4,.sv (Ae (Cl n).rs y0))::q0/\q0=[]):=by kernel_rfl
 rw [e] at hq;obtain ⟨y0,q0,rfl,rfl⟩:=hq
 all_goals exact .inr ⟨6,by kernel_rfl,by kernel_rfl,by kernel_rfl⟩
set_option maxHeartbeats 8000000 in
theorem Mr (n:Nat):Ag TT ⟨46,[]⟩ [(4,{ ent:=some (Cl n) }),(5,{ sh:=some hR }),(6,{ sh:=some hR })] Mq (A4 ((A0 Tryz.f207).at [1,1,0,1,0,0,1,1,0,0,1,0])):=by
 refine ⟨by kernel_rfl,λw q hq=>?_⟩
 have e:WT [(4,{ ent:=some (Cl n) }),(5,{ sh:=some hR }),(6,{ sh:=some hR })] (A7 (A4 ((A0 Tryz.f207).at [1,1,0,1,0,0,1,1,0,0,1,0])).toList) q=(∃ (y0:HL (Cl n).rs) (q0:List (Nat × RV)),q=(4,.sv (Ae (Cl n).rs y0))::q0/\q0=[]):=by kernel_rfl
 rw [e] at hq;obtain ⟨y0,q0,rfl,rfl⟩:=hq
 all_goals exact .inr ⟨6,by kernel_rfl,by kernel_rfl,by kernel_rfl⟩
theorem Mp (α:Type) (n:Nat):Al PP (Af (Kr α n).reg):=⟨Ani n,trivial⟩
theorem A11 (α:Type) (n:Nat):D3.OK PP TT ⟨46,[]⟩ (Kr α n) ((A0 Tryz.f207).at [1,1,0,1,0,0]) :=
 D3.OK.mk3a (Mp α n) (show Aa ((A0 Tryz.f207).at [1,1,0,1,0,0])=[] by kernel_rfl) trivial (show As ((A0 Tryz.f207).at [1,1,0,1,0,0])=[(5,A4 ((A0 Tryz.f207).at [1,1,0,1,0,0,1,1,0,0,1,0])),(7,A4 ((A0 Tryz.f207).at [1,1,0,1,0,0,1,1,0,0,1,1,1,0]))] by kernel_rfl) ⟨⟨Qe n,Mr n,trivial⟩,trivial,trivial⟩
theorem Y2 (α:Type) (n:Nat):LO.Sound (α:=α) PP ⟨46,[]⟩ ⟨Fk,Ij,A5 (Ii n) n⟩ (.loop ((A0 Tryz.f207).at [1,1,0,1,0,0])):=lk (A11 α n) n
theorem Aa3 (α:Type) (n:Nat):D3.OK PP TT ⟨46,[]⟩ (Kr α n) (A0 Tryz.f207) :=
 D3.OK.mk3a (Mp α n) (show Aa (A0 Tryz.f207)=[(3,(.loop ((A0 Tryz.f207).at [1,1,0,1,0,0])))] by kernel_rfl) ⟨Ac rfl (Y2 α n),trivial⟩ (show As (A0 Tryz.f207)=[(5,A4 ((A0 Tryz.f207).at [1,1,0,1,0,0,1,1,0,0,1,0])),(7,A4 ((A0 Tryz.f207).at [1,1,0,1,0,0,1,1,0,0,1,1,1,0]))] by kernel_rfl) ⟨⟨Qe n,Mr n,trivial⟩,trivial,trivial⟩
theorem A70 (n:Nat):(Dt n).Sound PP:=fk (fn:=Tryz.f207) (Aa3 _ n)

abbrev Anz:Tm:=⟨[(2,.k (.hp 2 0 0)),(3,.k (.hp 3 0 0)),(4,.k (.hp 4 0 0))],[(2,.var 91 true false [.d .bool,.d hIs,.d hIs,.d hRs,.d .nil,.d .bool,.d hIs,.d hIs]),(3,.var 54 true false [.d .bool,.d hIs,.d hIs]),(4,.var 91 true false [.d .bool,.d .nil,.d .nil,.d .nil,.d .nil,.d .bool,.d .nil,.d .nil])],[],[]⟩
def f166 (n:Nat) (a0:Rq × LR × Unit × Rq) (a1:Rq):Option (Rq × LR × Unit × Rq) :=
 ob (f162 n a0.1 a1) λa =>
 ob (f162 n a0.2.2.2 a1) λb =>
 ob (Y3 n (a0.1,a0.2.1,(),a0.2.2.2) a b a1 ((a0.1.1,a0.1.2.1,a0.1.2.2,a0.2.1,(),a0.2.2.2),a1)) λc =>
 some c
def Ai9 (n:Nat):Ent:=⟨166,[(.st (.pair hR (.pair hRs (.pair .nil hR)))),hR],[(.st (.pair hR (.pair hRs (.pair .nil hR))))],λx=>f166 n x.1 x.2⟩
def Axl (α:Type) (n:Nat):D3 α:={ reg:=[(1,⟨0,[],[(4,{ ent:=some (A8 n) }),(8,{ ent:=some (A8 n) }),(9,{ sh:=some (.ref hR) }),(10,{ sh:=some (.pair (.ref (.st (.pair .bool (.pair hIs (.pair hIs (.pair hRs (.pair .nil (.pair .bool (.pair hIs hIs))))))))) (.ref hR)) }),(11,{ ent:=some (Dt n) })]⟩)],join:=[],loop:=[],any:=[(1,Anz)] }
set_option maxHeartbeats 8000000 in
theorem B9e (n:Nat):Ag TT ⟨17,[]⟩ [(4,{ ent:=some (A8 n) }),(8,{ ent:=some (A8 n) }),(9,{ sh:=some (.ref hR) }),(10,{ sh:=some (.pair (.ref (.st (.pair .bool (.pair hIs (.pair hIs (.pair hRs (.pair .nil (.pair .bool (.pair hIs hIs))))))))) (.ref hR)) }),(11,{ ent:=some (Dt n) })] Anz (A4 ((A0 Tryz.f166).at [1,0])):=by
 refine ⟨by kernel_rfl,λw q hq=>?_⟩
 have e:WT [(4,{ ent:=some (A8 n) }),(8,{ ent:=some (A8 n) }),(9,{ sh:=some (.ref hR) }),(10,{ sh:=some (.pair (.ref (.st (.pair .bool (.pair hIs (.pair hIs (.pair hRs (.pair .nil (.pair .bool (.pair hIs hIs))))))))) (.ref hR)) }),(11,{ ent:=some (Dt n) })] (A7 (A4 ((A0 Tryz.f166).at [1,0])).toList) q=(∃ (y0:HL (A8 n).rs) (q0:List (Nat × RV)),q=(4,.sv (Ae (A8 n).rs y0))::q0 /\ ∃ (y1:HL (A8 n).rs) (q1:List (Nat × RV)),q0=(8,.sv (Ae (A8 n).rs y1))::q1 /\ ∃ (y2:HL (Dt n).rs) (q2:List (Nat × RV)),q1=(11,.sv (Ae (Dt n).rs y2))::q2/\q2=[]):=by kernel_rfl
 rw [e] at hq;obtain ⟨y0,q0,rfl,y1,q1,rfl,y2,q2,rfl,rfl⟩:=hq
 all_goals exact .inl (Ia.mk (by kernel_rfl))
theorem Axk (α:Type) (n:Nat):Al PP (Af (Axl α n).reg):=⟨At n,At n,A70 n,trivial⟩
theorem Bey (α:Type) (n:Nat):D3.OK PP TT ⟨17,[]⟩ (Axl α n) (A0 Tryz.f166) :=
 D3.OK.mk3a (Axk α n) (show Aa (A0 Tryz.f166)=[] by kernel_rfl) trivial (show As (A0 Tryz.f166)=[(1,A4 ((A0 Tryz.f166).at [1,0]))] by kernel_rfl) ⟨⟨B9e n,trivial⟩,trivial⟩
theorem Any (n:Nat):(Ai9 n).Sound PP:=fk (fn:=Tryz.f166) (Bey _ n)

def B3m {α:Type} (n:Nat) (b:LR) (e a:Int) (g:Bool) (h i:LI) (v:LR) (w:Bool) (x y:LI) (j:Bool) (k l:LI) (c:LR) (z:Bool) (d0 d1:LI) (m o p:Bool) (q r:LI) (s:Bool) (t u:LI) (d:LR) (f:LR->Int->Int->Bool->LI->LI->LR->Bool->LI->LI->Bool->LI->LI->LR->Bool->LI->LI->Bool->Bool->Bool->LI->LI->Bool->LI->LI->LR->Option α) (k0:Bool->Bool->Bool->LI->LI->Bool->LI->LI->LR->Option α):Option α :=
 bif (decide (a<e)) then
  gd (decide (0<=a)&&decide (a<(b.length:Int))) (
   let d2:=b.getD a.toNat (false,[],[])
   gd (decide (0<=a)&&decide (a<(c.length:Int))) (
    let d3:=c.getD a.toNat (false,[],[])
    ob (f162 n d2 (j,k,l)) λd4 =>
    ob (f162 n (g,h,i) d3) λd5 =>
    ob (f99 n d4 d5) λd6 =>
    gd (decide ((d.length+1)*56<=140737488355328)) (
     f b e (W (a+1)) g h i v w x y j k l c z d0 d1 m o p q r s t u (d++[d6]))))
 else
  k0 m o p q r s t u d
abbrev Uc:Tm:=⟨[(2,.k (.hp 2 0 0)),(3,.k (.hp 3 0 0)),(4,.k (.hp 4 0 0)),(5,.k (.hp 5 0 0)),(28,.d hRs),(29,.d hI),(30,.d hI)],[(2,.var 91 true false [.d .bool,.d hIs,.d hIs,.d hRs,.d .nil,.d .bool,.d hIs,.d hIs]),(3,.var 91 true false [.d .bool,.d hIs,.d hIs,.d hRs,.d .nil,.d .bool,.d hIs,.d hIs]),(4,.var 91 true false [.d .bool,.d .nil,.d .nil,.d .nil,.d .nil,.d .bool,.d .nil,.d .nil]),(5,.var 91 false false [.d .bool,.d hIs,.d hIs,.k (.hw 52),.d .nil,.d .bool,.d hIs,.d hIs]),(52,.arr 54 hR false)],[7,8,51],[]⟩
abbrev Axj:Tm:=⟨[(4,.k (.hp 4 0 0)),(5,.k (.hp 5 0 0))],[(4,.var 91 true false [.d .bool,.d .nil,.d .nil,.d .nil,.d .nil,.d .bool,.d .nil,.d .nil]),(5,.var 91 false false [.d .bool,.d hIs,.d hIs,.k (.hw 52),.d .nil,.d .bool,.d hIs,.d hIs]),(52,.arr 54 hR false)],[2,3],[]⟩
abbrev A3w:List (Exit × Tm):=[(.exit 0,Axj)]
def A3v {α:Type} (n:Nat) (v:Uc.den) (f:Uc.den->Option α) (ks:KS α A3w):Option α:=B3m n v.1.2.2.2.2.1 v.1.2.2.2.2.2.1 v.1.2.2.2.2.2.2.1 v.2.1.1 v.2.1.2.1 v.2.1.2.2.1 v.2.1.2.2.2.1 v.2.1.2.2.2.2.2.1 v.2.1.2.2.2.2.2.2.1 v.2.1.2.2.2.2.2.2.2.1 v.2.2.1.1 v.2.2.1.2.1 v.2.2.1.2.2.1 v.2.2.1.2.2.2.1 v.2.2.1.2.2.2.2.2.1 v.2.2.1.2.2.2.2.2.2.1 v.2.2.1.2.2.2.2.2.2.2.1 v.2.2.2.1.1 v.2.2.2.1.2.2.2.2.2.1 v.2.2.2.2.1.1 v.2.2.2.2.1.2.1 v.2.2.2.2.1.2.2.1 v.2.2.2.2.1.2.2.2.2.2.1 v.2.2.2.2.1.2.2.2.2.2.2.1 v.2.2.2.2.1.2.2.2.2.2.2.2.1 v.2.2.2.2.2.1 (λa b c d e g h i j k l m o p q r s t u w x y z d0 d1 d2=>f (((),(),(),(),a,b,c,()),((d,e,g,h,(),i,j,k,()),(l,m,o,p,(),q,r,s,()),(t,(),(),(),(),u,(),(),()),(w,x,y,(),(),z,d0,d1,()),d2,()))) (λw0 w1 w2 w3 w4 w5 w6 w7 w8=>ks.1 (((),(),()),((w0,(),(),(),(),w1,(),(),()),(w2,w3,w4,(),(),w5,w6,w7,()),w8,())))
def B9b {α:Type} (n m:Nat) (a:LR) (b c:Int) (d:Bool) (e f:LI) (g:LR) (h:Bool) (i j:LI) (k:Bool) (l o:LI) (p:LR) (q:Bool) (r s:LI) (t u v:Bool) (x y:LI) (z:Bool) (d0 d1:LI) (d2:LR) (k0:Bool->Bool->Bool->LI->LI->Bool->LI->LI->LR->Option α):Option α:=A5 (A3v n) m (((),(),(),(),a,b,c,()),((d,e,f,g,(),h,i,j,()),(k,l,o,p,(),q,r,s,()),(t,(),(),(),(),u,(),(),()),(v,x,y,(),(),z,d0,d1,()),d2,())) (λw=>k0 w.2.1.1 w.2.1.2.2.2.2.2.1 w.2.2.1.1 w.2.2.1.2.1 w.2.2.1.2.2.1 w.2.2.1.2.2.2.2.2.1 w.2.2.1.2.2.2.2.2.2.1 w.2.2.1.2.2.2.2.2.2.2.1 w.2.2.2.1,())
abbrev Anv:Tm:=⟨[(2,.k (.hp 2 0 0)),(3,.k (.hp 3 0 0)),(4,.k (.hp 4 0 0))],[(2,.var 91 true false [.d .bool,.d hIs,.d hIs,.d hRs,.d .nil,.d .bool,.d hIs,.d hIs]),(3,.var 91 true false [.d .bool,.d hIs,.d hIs,.d hRs,.d .nil,.d .bool,.d hIs,.d hIs]),(4,.var 91 true false [.d .bool,.d .nil,.d .nil,.d .nil,.d .nil,.d .bool,.d .nil,.d .nil])],[],[]⟩
abbrev Anu:Tm:=⟨[(2,.k (.hp 2 0 0)),(3,.k (.hp 3 0 0)),(4,.k (.hp 4 0 0)),(5,.k (.hp 5 0 0)),(6,.d hI),(7,.k (.hp 7 0 0)),(8,.k (.hp 8 0 0)),(28,.d hRs),(29,.d hI),(30,.d hI)],[(2,.var 91 true false [.d .bool,.d hIs,.d hIs,.d hRs,.d .nil,.d .bool,.d hIs,.d hIs]),(3,.var 91 true false [.d .bool,.d hIs,.d hIs,.d hRs,.d .nil,.d .bool,.d hIs,.d hIs]),(4,.var 91 true false [.d .bool,.d .nil,.d .nil,.d .nil,.d .nil,.d .bool,.d .nil,.d .nil]),(5,.var 91 true false [.d .bool,.d hIs,.d hIs,.d .nil,.d .nil,.d .bool,.d hIs,.d hIs]),(7,.var 54 true false [.d .bool,.d hIs,.d hIs]),(8,.var 54 true false [.d .bool,.d hIs,.d hIs])],[],[]⟩
abbrev Ach:Tm:=⟨[(2,.k (.hp 2 0 0)),(3,.k (.hp 3 0 0)),(4,.k (.hp 4 0 0)),(5,.k (.hp 5 0 0)),(6,.d hI),(7,.k (.hp 7 0 0)),(8,.k (.hp 8 0 0)),(28,.d hRs),(29,.d hI),(30,.d hI)],[(2,.var 91 true false [.d .bool,.d hIs,.d hIs,.d hRs,.d .nil,.d .bool,.d hIs,.d hIs]),(3,.var 91 true false [.d .bool,.d hIs,.d hIs,.d hRs,.d .nil,.d .bool,.d hIs,.d hIs]),(4,.var 91 true false [.d .bool,.d .nil,.d .nil,.d .nil,.d .nil,.d .bool,.d .nil,.d .nil]),(5,.var 91 false false [.d .bool,.d hIs,.d hIs,.k (.hw 52),.d .nil,.d .bool,.d hIs,.d hIs]),(7,.var 54 true false [.d .bool,.d hIs,.d hIs]),(8,.var 54 true false [.d .bool,.d hIs,.d hIs]),(52,.arr 54 hR false)],[],[]⟩
def f167 (n:Nat) (a0 a1:Rq × LR × Unit × Rq):Option (Rq × LR × Unit × Rq) :=
 ob (f162 n a0.1 a1.1) λa =>
 ob (f162 n a0.2.2.2 a1.1) λc =>
 ob (f162 n a0.1 a1.2.2.2) λd =>
 ob (f99 n c d) λb =>
 bif (decide (0<(a0.2.1.length:Int))) then
  gd (decide (0<(a0.2.1.length:Int))) (
   let e:=a0.2.1.getD 0 (false,[],[])
   gd (decide (0<(a1.2.1.length:Int))) (
    let f:=a1.2.1.getD 0 (false,[],[])
    ob (f162 n e a1.1) λg =>
    ob (f162 n a0.1 f) λh =>
    ob (f99 n g h) λi =>
    B9b n n a0.2.1 (a0.2.1.length:Int) 1 a0.1.1 a0.1.2.1 a0.1.2.2 a0.2.1 a0.2.2.2.1 a0.2.2.2.2.1 a0.2.2.2.2.2 a1.1.1 a1.1.2.1 a1.1.2.2 a1.2.1 a1.2.2.2.1 a1.2.2.2.2.1 a1.2.2.2.2.2 false false a.1 a.2.1 a.2.2 b.1 b.2.1 b.2.2 [i]
     (λr s j k l m o p q=>(
      some ((j,k,l),q,(),m,o,p)))))
 else
  some (a,[],(),b)
def Ai5 (n:Nat):Ent:=⟨167,[(.st (.pair hR (.pair hRs (.pair .nil hR)))),(.st (.pair hR (.pair hRs (.pair .nil hR))))],[(.st (.pair hR (.pair hRs (.pair .nil hR))))],λx=>f167 n x.1 x.2⟩
def Ai6 (α:Type) (n:Nat):D3 α:={ reg:=[(1,⟨0,[],[(4,{ ent:=some (A8 n) }),(9,{ ent:=some (A8 n) }),(14,{ ent:=some (A8 n) }),(15,{ ent:=some (Ad n) })]⟩),(6,⟨0,[],[(5,{ ent:=some (A8 n) }),(9,{ ent:=some (A8 n) }),(10,{ ent:=some (Ad n) }),(11,{ sh:=some hR }),(12,{ sh:=some hR })]⟩)],join:=[],loop:=[(3,⟨Uc,A3w,A5 (A3v n) n⟩)],any:=[(1,Anv),(6,Anu),(6,Ach)] }
set_option maxHeartbeats 8000000 in
theorem B9c (n:Nat):Ag TT ⟨92,[]⟩ [(4,{ ent:=some (A8 n) }),(9,{ ent:=some (A8 n) }),(14,{ ent:=some (A8 n) }),(15,{ ent:=some (Ad n) })] Anv (A4 ((A0 Tryz.f167).at [1,0])):=by
 refine ⟨by kernel_rfl,λw q hq=>?_⟩
 have e:WT [(4,{ ent:=some (A8 n) }),(9,{ ent:=some (A8 n) }),(14,{ ent:=some (A8 n) }),(15,{ ent:=some (Ad n) })] (A7 (A4 ((A0 Tryz.f167).at [1,0])).toList) q=(∃ (y0:HL (A8 n).rs) (q0:List (Nat × RV)),q=(4,.sv (Ae (A8 n).rs y0))::q0 /\ ∃ (y1:HL (A8 n).rs) (q1:List (Nat × RV)),q0=(9,.sv (Ae (A8 n).rs y1))::q1 /\ ∃ (y2:HL (A8 n).rs) (q2:List (Nat × RV)),q1=(14,.sv (Ae (A8 n).rs y2))::q2 /\ ∃ (y3:HL (Ad n).rs) (q3:List (Nat × RV)),q2=(15,.sv (Ae (Ad n).rs y3))::q3/\q3=[]):=by kernel_rfl
 rw [e] at hq;obtain ⟨y0,q0,rfl,y1,q1,rfl,y2,q2,rfl,y3,q3,rfl,rfl⟩:=hq
 all_goals exact .inr ⟨18,by kernel_rfl,by kernel_rfl,by kernel_rfl⟩
set_option maxHeartbeats 8000000 in
theorem Anw (n:Nat):Ag TT ⟨92,[]⟩ [(5,{ ent:=some (A8 n) }),(9,{ ent:=some (A8 n) }),(10,{ ent:=some (Ad n) }),(11,{ sh:=some hR }),(12,{ sh:=some hR })] Anu (A4 ((A0 Tryz.f167).at [1,1,0,1,0,0,1,1,0,0,1,1,0])):=by
 refine ⟨by kernel_rfl,λw q hq=>?_⟩
 have e:WT [(5,{ ent:=some (A8 n) }),(9,{ ent:=some (A8 n) }),(10,{ ent:=some (Ad n) }),(11,{ sh:=some hR }),(12,{ sh:=some hR })] (A7 (A4 ((A0 Tryz.f167).at [1,1,0,1,0,0,1,1,0,0,1,1,0])).toList) q=(∃ (y0:HL (A8 n).rs) (q0:List (Nat × RV)),q=(5,.sv (Ae (A8 n).rs y0))::q0 /\ ∃ (y1:HL (A8 n).rs) (q1:List (Nat × RV)),q0=(9,.sv (Ae (A8 n).rs y1))::q1 /\ ∃ (y2:HL (Ad n).rs) (q2:List (Nat × RV)),q1=(10,.sv (Ae (Ad n).rs y2))::q2/\q2=[]):=by kernel_rfl
 rw [e] at hq;obtain ⟨y0,q0,rfl,y1,q1,rfl,y2,q2,rfl,rfl⟩:=hq
 all_goals exact .inr ⟨12,by kernel_rfl,by kernel_rfl,by kernel_rfl⟩
set_option maxHeartbeats 8000000 in
theorem Aci (n:Nat):Ag TT ⟨92,[]⟩ [(5,{ ent:=some (A8 n) }),(9,{ ent:=some (A8 n) }),(10,{ ent:=some (Ad n) }),(11,{ sh:=some hR }),(12,{ sh:=some hR })] Ach (A4 ((A0 Tryz.f167).at [1,1,0,1,0,0,1,1,0,0,1,1,0])):=by
 refine ⟨by kernel_rfl,λw q hq=>?_⟩
 have e:WT [(5,{ ent:=some (A8 n) }),(9,{ ent:=some (A8 n) }),(10,{ ent:=some (Ad n) }),(11,{ sh:=some hR }),(12,{ sh:=some hR })] (A7 (A4 ((A0 Tryz.f167).at [1,1,0,1,0,0,1,1,0,0,1,1,0])).toList) q=(∃ (y0:HL (A8 n).rs) (q0:List (Nat × RV)),q=(5,.sv (Ae (A8 n).rs y0))::q0 /\ ∃ (y1:HL (A8 n).rs) (q1:List (Nat × RV)),q0=(9,.sv (Ae (A8 n).rs y1))::q1 /\ ∃ (y2:HL (Ad n).rs) (q2:List (Nat × RV)),q1=(10,.sv (Ae (Ad n).rs y2))::q2/\q2=[]):=by kernel_rfl
 rw [e] at hq;obtain ⟨y0,q0,rfl,y1,q1,rfl,y2,q2,rfl,rfl⟩:=hq
 all_goals exact .inr ⟨12,by kernel_rfl,by kernel_rfl,by kernel_rfl⟩
theorem Acg (α:Type) (n:Nat):Al PP (Af (Ai6 α n).reg):=⟨At n,At n,At n,Cd n,At n,At n,Cd n,trivial⟩
theorem Axi (α:Type) (n:Nat):D3.OK PP TT ⟨92,[]⟩ (Ai6 α n) ((A0 Tryz.f167).at [1,1,0,1,0,0]) :=
 D3.OK.mk3a (Acg α n) (show Aa ((A0 Tryz.f167).at [1,1,0,1,0,0])=[] by kernel_rfl) trivial (show As ((A0 Tryz.f167).at [1,1,0,1,0,0])=[(6,A4 ((A0 Tryz.f167).at [1,1,0,1,0,0,1,1,0,0,1,1,0])),(8,A4 ((A0 Tryz.f167).at [1,1,0,1,0,0,1,1,0,0,1,1,1,1,0,0])),(9,A4 ((A0 Tryz.f167).at [1,1,0,1,0,0,1,1,0,0,1,1,1,1,0,1]))] by kernel_rfl) ⟨⟨Anw n,Aci n,trivial⟩,trivial,trivial,trivial⟩
theorem Arj (α:Type) (n:Nat):LO.Sound (α:=α) PP ⟨92,[]⟩ ⟨Uc,A3w,A5 (A3v n) n⟩ (.loop ((A0 Tryz.f167).at [1,1,0,1,0,0])):=lk (Axi α n) n
theorem Bex (α:Type) (n:Nat):D3.OK PP TT ⟨92,[]⟩ (Ai6 α n) (A0 Tryz.f167) :=
 D3.OK.mk3a (Acg α n) (show Aa (A0 Tryz.f167)=[(3,(.loop ((A0 Tryz.f167).at [1,1,0,1,0,0])))] by kernel_rfl) ⟨Ac rfl (Arj α n),trivial⟩ (show As (A0 Tryz.f167)=[(1,A4 ((A0 Tryz.f167).at [1,0])),(6,A4 ((A0 Tryz.f167).at [1,1,0,1,0,0,1,1,0,0,1,1,0])),(8,A4 ((A0 Tryz.f167).at [1,1,0,1,0,0,1,1,0,0,1,1,1,1,0,0])),(9,A4 ((A0 Tryz.f167).at [1,1,0,1,0,0,1,1,0,0,1,1,1,1,0,1]))] by kernel_rfl) ⟨⟨B9c n,trivial⟩,⟨Anw n,Aci n,trivial⟩,trivial,trivial,trivial⟩
theorem Ant (n:Nat):(Ai5 n).Sound PP:=fk (fn:=Tryz.f167) (Bex _ n)

def f206 (n:Nat) (a0 a1:Rq):Option Rq :=
 ob (f152 n a0.2.1 a1.2.2) λa =>
 ob (f152 n a0.2.2 a1.2.1) λb =>
 ob (f153 n (!(a0.1==a1.1)) a b) λc =>
 some c
def Df (n:Nat):Ent:=⟨206,[hR,hR],[hR],λx=>f206 n x.1 x.2⟩
def Be7 (α:Type) (n:Nat):D3 α:={ reg:=[(1,⟨15,[],[(9,{ ent:=some (I0 n) }),(14,{ ent:=some (I0 n) }),(15,{ ent:=some (S4 n) })]⟩)],join:=[],loop:=[] }
theorem Aa4 (n:Nat):(Df n).Sound PP:=B0 (fn:=Tryz.f206) (D:=Be7 _ n) ⟨H3 n,H3 n,S2 n,trivial⟩

def f158 (n:Nat) (a0:Rq):Option Rq :=
 bif (!a0.1) then
  ob (f168 n a0) λa =>
  ob (f123 n a0.2.1) λb =>
  ob (f123 n a0.2.2) λc =>
  some ((!a),b,c)
 else
  ob (f123 n a0.2.1) λd =>
  ob (f123 n a0.2.2) λe =>
  some (false,d,e)
def Hz (n:Nat):Ent:=⟨158,[hR],[hR],λx=>f158 n x⟩
def Bf5 (α:Type) (n:Nat):D3 α:={ reg:=[(1,⟨14,[],[(5,{ ent:=some (Pb n) }),(10,{ ent:=some (M6 n) }),(13,{ ent:=some (M6 n) })]⟩)],join:=[],loop:=[] }
theorem H0 (n:Nat):(Hz n).Sound PP:=B0 (fn:=Tryz.f158) (D:=Bf5 _ n) ⟨Nv n,L3 n,L3 n,trivial⟩

def f221 (n:Nat) (a0 a1:Rq):Option Rq :=
 ob (f162 n a1 a0) λa =>
 some a
def Ck (n:Nat):Ent:=⟨221,[hR,(.ref hR)],[hR],λx=>f221 n x.1 x.2⟩
def Bdu (α:Type) (n:Nat):D3 α:={ reg:=[(1,⟨0,[],[(2,{ ent:=some (A8 n) })]⟩)],join:=[],loop:=[] }
theorem Ana (n:Nat):(Ck n).Sound PP:=B0 (fn:=Tryz.f221) (D:=Bdu _ n) ⟨At n,trivial⟩

def A2r {α:Type} (n:Nat) (d:Rq) (p:Rq × (Bool × LI × LI × LR × Unit × Bool × LI × LI) × Rq) (b:LR) (e a:Int) (q:Bool) (r s:LI) (t:LR) (u:Bool) (v w:LI) (g h i:Bool) (j k:LI) (l:Bool) (m o:LI) (c:LR) (f:Rq->(Rq × (Bool × LI × LI × LR × Unit × Bool × LI × LI) × Rq)->LR->Int->Int->Bool->LI->LI->LR->Bool->LI->LI->Bool->Bool->Bool->LI->LI->Bool->LI->LI->LR->Option α) (k0:Bool->Bool->Bool->LI->LI->Bool->LI->LI->LR->Option α):Option α :=
 bif (decide (a<e)) then
  gd (decide (0<=a)&&decide (a<(b.length:Int))) (
   let x:=b.getD a.toNat (false,[],[])
   ob (f221 n x d) λy =>
   gd (decide ((c.length+1)*56<=140737488355328)) (
    f d p b e (W (a+1)) q r s t u v w g h i j k l m o (c++[y])))
 else
  k0 g h i j k l m o c
abbrev Fj:Tm:=⟨[(3,.d (.clo 221 (.ref hR))),(4,.d (.clo 222 (.pair (.ref hR) (.pair (.ref (.st (.pair .bool (.pair hIs (.pair hIs (.pair hRs (.pair .nil (.pair .bool (.pair hIs hIs))))))))) (.ref hR))))),(5,.k (.hp 5 0 0)),(10,.k (.hp 10 0 0)),(11,.k (.hp 11 0 0)),(18,.d hRs),(19,.d hI),(20,.d hI)],[(5,.var 91 true false [.d .bool,.d hIs,.d hIs,.d hRs,.d .nil,.d .bool,.d hIs,.d hIs]),(10,.var 91 true false [.d .bool,.d .nil,.d .nil,.d .nil,.d .nil,.d .bool,.d .nil,.d .nil]),(11,.var 91 false false [.d .bool,.d hIs,.d hIs,.k (.hw 31),.d .nil,.d .bool,.d hIs,.d hIs]),(31,.arr 54 hR false)],[13,30],[]⟩
abbrev A0z:Tm:=⟨[(10,.k (.hp 10 0 0)),(11,.k (.hp 11 0 0))],[(10,.var 91 true false [.d .bool,.d .nil,.d .nil,.d .nil,.d .nil,.d .bool,.d .nil,.d .nil]),(11,.var 91 false false [.d .bool,.d hIs,.d hIs,.k (.hw 31),.d .nil,.d .bool,.d hIs,.d hIs]),(31,.arr 54 hR false)],[5],[]⟩
abbrev Ih:List (Exit × Tm):=[(.exit 0,A0z)]
def Ig {α:Type} (n:Nat) (v:Fj.den) (f:Fj.den->Option α) (ks:KS α Ih):Option α:=A2r n v.1.1 v.1.2.1 v.1.2.2.2.2.2.1 v.1.2.2.2.2.2.2.1 v.1.2.2.2.2.2.2.2.1 v.2.1.1 v.2.1.2.1 v.2.1.2.2.1 v.2.1.2.2.2.1 v.2.1.2.2.2.2.2.1 v.2.1.2.2.2.2.2.2.1 v.2.1.2.2.2.2.2.2.2.1 v.2.2.1.1 v.2.2.1.2.2.2.2.2.1 v.2.2.2.1.1 v.2.2.2.1.2.1 v.2.2.2.1.2.2.1 v.2.2.2.1.2.2.2.2.2.1 v.2.2.2.1.2.2.2.2.2.2.1 v.2.2.2.1.2.2.2.2.2.2.2.1 v.2.2.2.2.1 (λa b c d e g h i j k l m o p q r s t u w x=>f ((a,b,(),(),(),c,d,e,()),((g,h,i,j,(),k,l,m,()),(o,(),(),(),(),p,(),(),()),(q,r,s,(),(),t,u,w,()),x,()))) (λw0 w1 w2 w3 w4 w5 w6 w7 w8=>ks.1 (((),(),()),((w0,(),(),(),(),w1,(),(),()),(w2,w3,w4,(),(),w5,w6,w7,()),w8,())))
def A6y {α:Type} (n m:Nat) (a:Rq) (b:Rq × (Bool × LI × LI × LR × Unit × Bool × LI × LI) × Rq) (c:LR) (d e:Int) (f:Bool) (g h:LI) (i:LR) (j:Bool) (k l:LI) (o p q:Bool) (r s:LI) (t:Bool) (u v:LI) (x:LR) (k0:Bool->Bool->Bool->LI->LI->Bool->LI->LI->LR->Option α):Option α:=A5 (Ig n) m ((a,b,(),(),(),c,d,e,()),((f,g,h,i,(),j,k,l,()),(o,(),(),(),(),p,(),(),()),(q,r,s,(),(),t,u,v,()),x,())) (λw=>k0 w.2.1.1 w.2.1.2.2.2.2.2.1 w.2.2.1.1 w.2.2.1.2.1 w.2.2.1.2.2.1 w.2.2.1.2.2.2.2.2.1 w.2.2.1.2.2.2.2.2.2.1 w.2.2.1.2.2.2.2.2.2.2.1 w.2.2.2.1,())
abbrev Qb:Tm:=⟨[(3,.d (.clo 221 (.ref hR))),(4,.d (.clo 222 (.pair (.ref hR) (.pair (.ref (.st (.pair .bool (.pair hIs (.pair hIs (.pair hRs (.pair .nil (.pair .bool (.pair hIs hIs))))))))) (.ref hR))))),(5,.k (.hp 5 0 0)),(10,.k (.hp 10 0 0)),(11,.k (.hp 11 0 0)),(12,.d hI),(13,.k (.hp 13 0 0)),(18,.d hRs),(19,.d hI),(20,.d hI)],[(5,.var 91 true false [.d .bool,.d hIs,.d hIs,.d hRs,.d .nil,.d .bool,.d hIs,.d hIs]),(10,.var 91 true false [.d .bool,.d .nil,.d .nil,.d .nil,.d .nil,.d .bool,.d .nil,.d .nil]),(11,.var 91 true false [.d .bool,.d hIs,.d hIs,.d .nil,.d .nil,.d .bool,.d hIs,.d hIs]),(13,.var 54 true false [.d .bool,.d hIs,.d hIs])],[6,7],[]⟩
abbrev Mn:Tm:=⟨[(3,.d (.clo 221 (.ref hR))),(4,.d (.clo 222 (.pair (.ref hR) (.pair (.ref (.st (.pair .bool (.pair hIs (.pair hIs (.pair hRs (.pair .nil (.pair .bool (.pair hIs hIs))))))))) (.ref hR))))),(5,.k (.hp 5 0 0)),(10,.k (.hp 10 0 0)),(11,.k (.hp 11 0 0)),(12,.d hI),(13,.k (.hp 13 0 0)),(18,.d hRs),(19,.d hI),(20,.d hI)],[(5,.var 91 true false [.d .bool,.d hIs,.d hIs,.d hRs,.d .nil,.d .bool,.d hIs,.d hIs]),(10,.var 91 true false [.d .bool,.d .nil,.d .nil,.d .nil,.d .nil,.d .bool,.d .nil,.d .nil]),(11,.var 91 false false [.d .bool,.d hIs,.d hIs,.k (.hw 31),.d .nil,.d .bool,.d hIs,.d hIs]),(13,.var 54 true false [.d .bool,.d hIs,.d hIs]),(31,.arr 54 hR false)],[],[]⟩
def Xz (n:Nat) (a0:Rq × LR × Unit × Rq) (a1 a2 a3:Rq) (a4:Rq × (Bool × LI × LI × LR × Unit × Bool × LI × LI) × Rq):Option (Rq × LR × Unit × Rq) :=
 bif (decide (0<(a0.2.1.length:Int))) then
  gd (decide (0<(a0.2.1.length:Int))) (
   let a:=a0.2.1.getD 0 (false,[],[])
   ob (f221 n a a3) λb =>
   A6y n n a3 a4 a0.2.1 (a0.2.1.length:Int) 1 a0.1.1 a0.1.2.1 a0.1.2.2 a0.2.1 a0.2.2.2.1 a0.2.2.2.2.1 a0.2.2.2.2.2 false false a1.1 a1.2.1 a1.2.2 a2.1 a2.2.1 a2.2.2 [b]
    (λj k c d e f g h i=>(
     some ((c,d,e),i,(),f,g,h))))
 else
  some (a1,[],(),a2)
def Dr (n:Nat):Ent:=⟨207,[(.st (.pair hR (.pair hRs (.pair .nil hR)))),hR,hR,(.clo 221 (.ref hR)),(.clo 222 (.pair (.ref hR) (.pair (.ref (.st (.pair .bool (.pair hIs (.pair hIs (.pair hRs (.pair .nil (.pair .bool (.pair hIs hIs))))))))) (.ref hR))))],[(.st (.pair hR (.pair hRs (.pair .nil hR))))],λx=>Xz n x.1 x.2.1 x.2.2.1 x.2.2.2.1 x.2.2.2.2⟩
def Kq (α:Type) (n:Nat):D3 α:={ reg:=[(5,⟨0,[],[(4,{ ent:=some (Ck n) }),(5,{ sh:=some hR }),(6,{ sh:=some hR })]⟩)],join:=[],loop:=[(3,⟨Fj,Ih,A5 (Ig n) n⟩)],any:=[(5,Qb),(5,Mn)] }
set_option maxHeartbeats 8000000 in
theorem Qc (n:Nat):Ag TT ⟨46,[]⟩ [(4,{ ent:=some (Ck n) }),(5,{ sh:=some hR }),(6,{ sh:=some hR })] Qb (A4 ((A0 Tryz.f207).at [1,1,0,1,0,0,1,1,0,0,1,0])):=by
 refine ⟨by kernel_rfl,λw q hq=>?_⟩
 have e:WT [(4,{ ent:=some (Ck n) }),(5,{ sh:=some hR }),(6,{ sh:=some hR })] (A7 (A4 ((A0 Tryz.f207).at [1,1,0,1,0,0,1,1,0,0,1,0])).toList) q=(∃ (y0:HL (Ck n).rs) (q0:List (Nat × RV)),q=(4,.sv (Ae (Ck n).rs y0))::q0/\q0=[]):=by kernel_rfl
 rw [e] at hq;obtain ⟨y0,q0,rfl,rfl⟩:=hq
 all_goals exact .inr ⟨6,by kernel_rfl,by kernel_rfl,by kernel_rfl⟩
set_option maxHeartbeats 8000000 in
theorem Mo (n:Nat):Ag TT ⟨46,[]⟩ [(4,{ ent:=some (Ck n) }),(5,{ sh:=some hR }),(6,{ sh:=some hR })] Mn (A4 ((A0 Tryz.f207).at [1,1,0,1,0,0,1,1,0,0,1,0])):=by
 refine ⟨by kernel_rfl,λw q hq=>?_⟩
 have e:WT [(4,{ ent:=some (Ck n) }),(5,{ sh:=some hR }),(6,{ sh:=some hR })] (A7 (A4 ((A0 Tryz.f207).at [1,1,0,1,0,0,1,1,0,0,1,0])).toList) q=(∃ (y0:HL (Ck n).rs) (q0:List (Nat × RV)),q=(4,.sv (Ae (Ck n).rs y0))::q0/\q0=[]):=by kernel_rfl
 rw [e] at hq;obtain ⟨y0,q0,rfl,rfl⟩:=hq
 all_goals exact .inr ⟨6,by kernel_rfl,by kernel_rfl,by kernel_rfl⟩
theorem Mm (α:Type) (n:Nat):Al PP (Af (Kq α n).reg):=⟨Ana n,trivial⟩
theorem A0y (α:Type) (n:Nat):D3.OK PP TT ⟨46,[]⟩ (Kq α n) ((A0 Tryz.f207).at [1,1,0,1,0,0]) :=
 D3.OK.mk3a (Mm α n) (show Aa ((A0 Tryz.f207).at [1,1,0,1,0,0])=[] by kernel_rfl) trivial (show As ((A0 Tryz.f207).at [1,1,0,1,0,0])=[(5,A4 ((A0 Tryz.f207).at [1,1,0,1,0,0,1,1,0,0,1,0])),(7,A4 ((A0 Tryz.f207).at [1,1,0,1,0,0,1,1,0,0,1,1,1,0]))] by kernel_rfl) ⟨⟨Qc n,Mo n,trivial⟩,trivial,trivial⟩
theorem Xy (α:Type) (n:Nat):LO.Sound (α:=α) PP ⟨46,[]⟩ ⟨Fj,Ih,A5 (Ig n) n⟩ (.loop ((A0 Tryz.f207).at [1,1,0,1,0,0])):=lk (A0y α n) n
theorem Aa2 (α:Type) (n:Nat):D3.OK PP TT ⟨46,[]⟩ (Kq α n) (A0 Tryz.f207) :=
 D3.OK.mk3a (Mm α n) (show Aa (A0 Tryz.f207)=[(3,(.loop ((A0 Tryz.f207).at [1,1,0,1,0,0])))] by kernel_rfl) ⟨Ac rfl (Xy α n),trivial⟩ (show As (A0 Tryz.f207)=[(5,A4 ((A0 Tryz.f207).at [1,1,0,1,0,0,1,1,0,0,1,0])),(7,A4 ((A0 Tryz.f207).at [1,1,0,1,0,0,1,1,0,0,1,1,1,0]))] by kernel_rfl) ⟨⟨Qc n,Mo n,trivial⟩,trivial,trivial⟩
theorem A6x (n:Nat):(Dr n).Sound PP:=fk (fn:=Tryz.f207) (Aa2 _ n)

abbrev Anh:Tm:=⟨[(4,.k (.hp 4 0 0)),(5,.k (.hp 5 0 0)),(6,.k (.hp 6 0 0)),(7,.k (.hp 7 0 0)),(8,.k (.hp 8 0 0))],[(4,.var 91 true false [.d .bool,.d hIs,.d hIs,.d hRs,.d .nil,.d .bool,.d hIs,.d hIs]),(5,.var 54 true false [.d .bool,.d hIs,.d hIs]),(6,.var 54 true false [.d .bool,.d hIs,.d hIs]),(7,.var 54 true false [.d .bool,.d hIs,.d hIs]),(8,.var 91 true false [.d .bool,.d .nil,.d .nil,.d .nil,.d .nil,.d .bool,.d .nil,.d .nil])],[],[]⟩
def f210 (n:Nat) (a0:Rq × LR × Unit × Rq) (a1 a2 a3:Rq):Option (Rq × LR × Unit × Rq) :=
 ob (f162 n a2 a0.2.2.2) λa =>
 ob (Xz n (a0.1,a0.2.1,(),a0.2.2.2) a1 a a2 (a3,(a0.1.1,a0.1.2.1,a0.1.2.2,a0.2.1,(),a0.2.2.2),a2)) λb =>
 some b
def Ahe (n:Nat):Ent:=⟨210,[(.st (.pair hR (.pair hRs (.pair .nil hR)))),hR,hR,hR],[(.st (.pair hR (.pair hRs (.pair .nil hR))))],λx=>f210 n x.1 x.2.1 x.2.2.1 x.2.2.2⟩
def Awc (α:Type) (n:Nat):D3 α:={ reg:=[(1,⟨0,[],[(5,{ ent:=some (A8 n) }),(6,{ sh:=some (.ref hR) }),(7,{ sh:=some (.pair (.ref hR) (.pair (.ref (.st (.pair .bool (.pair hIs (.pair hIs (.pair hRs (.pair .nil (.pair .bool (.pair hIs hIs))))))))) (.ref hR))) }),(8,{ ent:=some (Dr n) })]⟩)],join:=[],loop:=[],any:=[(1,Anh)] }
set_option maxHeartbeats 8000000 in
theorem B8e (n:Nat):Ag TT ⟨18,[]⟩ [(5,{ ent:=some (A8 n) }),(6,{ sh:=some (.ref hR) }),(7,{ sh:=some (.pair (.ref hR) (.pair (.ref (.st (.pair .bool (.pair hIs (.pair hIs (.pair hRs (.pair .nil (.pair .bool (.pair hIs hIs))))))))) (.ref hR))) }),(8,{ ent:=some (Dr n) })] Anh (A4 ((A0 Tryz.f210).at [1,0])):=by
 refine ⟨by kernel_rfl,λw q hq=>?_⟩
 have e:WT [(5,{ ent:=some (A8 n) }),(6,{ sh:=some (.ref hR) }),(7,{ sh:=some (.pair (.ref hR) (.pair (.ref (.st (.pair .bool (.pair hIs (.pair hIs (.pair hRs (.pair .nil (.pair .bool (.pair hIs hIs))))))))) (.ref hR))) }),(8,{ ent:=some (Dr n) })] (A7 (A4 ((A0 Tryz.f210).at [1,0])).toList) q=(∃ (y0:HL (A8 n).rs) (q0:List (Nat × RV)),q=(5,.sv (Ae (A8 n).rs y0))::q0 /\ ∃ (y1:HL (Dr n).rs) (q1:List (Nat × RV)),q0=(8,.sv (Ae (Dr n).rs y1))::q1/\q1=[]):=by kernel_rfl
 rw [e] at hq;obtain ⟨y0,q0,rfl,y1,q1,rfl,rfl⟩:=hq
 all_goals exact .inl (Ia.mk (by kernel_rfl))
theorem Awb (α:Type) (n:Nat):Al PP (Af (Awc α n).reg):=⟨At n,A6x n,trivial⟩
theorem Be4 (α:Type) (n:Nat):D3.OK PP TT ⟨18,[]⟩ (Awc α n) (A0 Tryz.f210) :=
 D3.OK.mk3a (Awb α n) (show Aa (A0 Tryz.f210)=[] by kernel_rfl) trivial (show As (A0 Tryz.f210)=[(1,A4 ((A0 Tryz.f210).at [1,0]))] by kernel_rfl) ⟨⟨B8e n,trivial⟩,trivial⟩
theorem Ang (n:Nat):(Ahe n).Sound PP:=fk (fn:=Tryz.f210) (Be4 _ n)

abbrev Ans:Tm:=⟨[(1,.k (.hp 1 0 0)),(2,.k (.hp 2 0 0))],[(1,.var 91 true false [.d .bool,.d hIs,.d hIs,.d hRs,.d .nil,.d .bool,.d hIs,.d hIs]),(2,.var 91 true false [.d .bool,.d .nil,.d .nil,.d .nil,.d .nil,.d .bool,.d .nil,.d .nil])],[],[]⟩
def f169 (n:Nat) (a0:Rq × LR × Unit × Rq):Option (Rq × LR × Unit × Rq) :=
 ob (f97 n 1) λc =>
 ob (f206 n c a0.1) λa =>
 ob (f162 n a a) λb =>
 ob (f158 n b) λd =>
 ob (f162 n b a) λe =>
 ob (f97 n 2) λf =>
 ob (f162 n e f) λg =>
 ob (f210 n (a0.1,a0.2.1,(),a0.2.2.2) a d g) λh =>
 some h
def Axf (n:Nat):Ent:=⟨169,[(.st (.pair hR (.pair hRs (.pair .nil hR))))],[(.st (.pair hR (.pair hRs (.pair .nil hR))))],λx=>f169 n x⟩
def Axg (α:Type) (n:Nat):D3 α:={ reg:=[(1,⟨0,[],[(0,{ ent:=some (Au n) }),(3,{ ent:=some (Df n) })]⟩),(2,⟨0,[],[(2,{ ent:=some (A8 n) })]⟩),(3,⟨9,[],[(3,{ ent:=some (Hz n) }),(6,{ ent:=some (A8 n) }),(7,{ ent:=some (Au n) }),(8,{ ent:=some (A8 n) }),(9,{ ent:=some (Ahe n) })]⟩)],join:=[],loop:=[],any:=[(1,Ans)] }
set_option maxHeartbeats 8000000 in
theorem B99 (n:Nat):Ag TT ⟨22,[]⟩ [(0,{ ent:=some (Au n) }),(3,{ ent:=some (Df n) })] Ans (A4 ((A0 Tryz.f169).at [1,0])):=by
 refine ⟨by kernel_rfl,λw q hq=>?_⟩
 have e:WT [(0,{ ent:=some (Au n) }),(3,{ ent:=some (Df n) })] (A7 (A4 ((A0 Tryz.f169).at [1,0])).toList) q=(∃ (y0:HL (Au n).rs) (q0:List (Nat × RV)),q=(0,.sv (Ae (Au n).rs y0))::q0 /\ ∃ (y1:HL (Df n).rs) (q1:List (Nat × RV)),q0=(3,.sv (Ae (Df n).rs y1))::q1/\q1=[]):=by kernel_rfl
 rw [e] at hq;obtain ⟨y0,q0,rfl,y1,q1,rfl,rfl⟩:=hq
 all_goals exact .inr ⟨5,by kernel_rfl,by kernel_rfl,by kernel_rfl⟩
theorem Axe (α:Type) (n:Nat):Al PP (Af (Axg α n).reg):=⟨B4 n,Aa4 n,At n,H0 n,At n,B4 n,At n,Ang n,trivial⟩
theorem Bev (α:Type) (n:Nat):D3.OK PP TT ⟨22,[]⟩ (Axg α n) (A0 Tryz.f169) :=
 D3.OK.mk3a (Axe α n) (show Aa (A0 Tryz.f169)=[] by kernel_rfl) trivial (show As (A0 Tryz.f169)=[(1,A4 ((A0 Tryz.f169).at [1,0])),(3,A4 ((A0 Tryz.f169).at [1,1,1,0]))] by kernel_rfl) ⟨⟨B99 n,trivial⟩,trivial,trivial⟩
theorem B98 (n:Nat):(Axf n).Sound PP:=fk (fn:=Tryz.f169) (Bev _ n)

def A3u {α:Type} (n:Nat) (a b:Int) (c:Bool) (d e:LI) (g h:Bool) (i j:LI) (f:Int->Int->Bool->LI->LI->Bool->Bool->LI->LI->Option α) (k0:Bool->Bool->LI->LI->Option α):Option α :=
 bif (decide (b<a)) then
  ob (f152 n i d) λk =>
  ob (f152 n j e) λl =>
  f a (W (b+1)) c d e g (!(h==c)) k l
 else
  k0 g h i j
abbrev Ub:Tm:=⟨[(2,.k (.hp 2 0 0)),(4,.k (.hp 4 0 0)),(5,.k (.hp 5 0 0)),(7,.d hI),(8,.d hI)],[(2,.var 54 true false [.d .bool,.d hIs,.d hIs]),(4,.var 54 true false [.d .bool,.d .nil,.d .nil]),(5,.var 54 true false [.d .bool,.d hIs,.d hIs])],[],[]⟩
abbrev Axd:Tm:=⟨[(4,.k (.hp 4 0 0)),(5,.k (.hp 5 0 0))],[(4,.var 54 true false [.d .bool,.d .nil,.d .nil]),(5,.var 54 true false [.d .bool,.d hIs,.d hIs])],[2],[]⟩
abbrev A3t:List (Exit × Tm):=[(.exit 0,Axd)]
def A3s {α:Type} (n:Nat) (v:Ub.den) (f:Ub.den->Option α) (ks:KS α A3t):Option α:=A3u n v.1.2.2.2.1 v.1.2.2.2.2.1 v.2.1.1 v.2.1.2.1 v.2.1.2.2.1 v.2.2.1.1 v.2.2.2.1.1 v.2.2.2.1.2.1 v.2.2.2.1.2.2.1 (λa b c d e g h i j=>f (((),(),(),a,b,()),((c,d,e,()),(g,(),(),()),(h,i,j,()),()))) (λw0 w1 w2 w3=>ks.1 (((),(),()),((w0,(),(),()),(w1,w2,w3,()),())))
def S0 {α:Type} (n m:Nat) (a b:Int) (c:Bool) (d e:LI) (f g:Bool) (h i:LI) (k0:Bool->Bool->LI->LI->Option α):Option α:=A5 (A3s n) m (((),(),(),a,b,()),((c,d,e,()),(f,(),(),()),(g,h,i,()),())) (λw=>k0 w.2.1.1 w.2.2.1.1 w.2.2.1.2.1 w.2.2.1.2.2.1,())
theorem Axc {α n m a b c d e f g h i k0}:S0 (α:=α) n (m+1) a b c d e f g h i k0=A3u n a b c d e f g h i (λa b c d e f g h i=>S0 n m a b c d e f g h i k0) k0:=rfl
def f170 (n:Nat) (a0:Rq) (a1:Int):Option Rq :=
 ob (f97 n 1) λc =>
 S0 n n a1 0 a0.1 a0.2.1 a0.2.2 false c.1 c.2.1 c.2.2
  (λj e a b=>(
   bif e then
    ob (f168 n (e,a,b)) λd =>
    ob (f168 n ((!d),a,b)) λf =>
    bif f then
     ob (f151 n) λg =>
     some ((!d),a,g)
    else
     some ((!d),a,b)
   else
    ob (f168 n (false,a,b)) λh =>
    bif h then
     ob (f151 n) λi =>
     some (false,a,i)
    else
     some (false,a,b)))
def Gi (n:Nat):Ent:=⟨170,[hR,hI],[hR],λx=>f170 n x.1 x.2⟩
def Ahv (α:Type) (n:Nat):D3 α:={ reg:=[(1,⟨0,[],[(0,{ ent:=some (Au n) })]⟩),(4,⟨15,[],[(9,{ ent:=some (I0 n) }),(14,{ ent:=some (I0 n) })]⟩),(6,⟨0,[],[(4,{ ent:=some (Pb n) })]⟩),(7,⟨0,[],[(1,{ ent:=some (Pb n) })]⟩),(8,⟨0,[],[(0,{ ent:=some (S6 n) })]⟩)],join:=[],loop:=[(3,⟨Ub,A3t,A5 (A3s n) n⟩)] }
theorem Acf (α:Type) (n:Nat):Al PP (Af (Ahv α n).reg):=⟨B4 n,H3 n,H3 n,Nv n,Nv n,S5 n,trivial⟩
theorem Arf (α:Type) (n:Nat):LO.Sound (α:=α) PP ⟨40,[]⟩ ⟨Ub,A3t,A5 (A3s n) n⟩ (.loop ((A0 Tryz.f170).at [1,1,0,1,0,0])):=C1 (D:=Ahv α n) (Acf α n) n
theorem Beu (α:Type) (n:Nat):D3.OK PP TT ⟨40,[]⟩ (Ahv α n) (A0 Tryz.f170) :=
 D3.OK.mk3 (Acf α n) (show Aa (A0 Tryz.f170)=[(3,(.loop ((A0 Tryz.f170).at [1,1,0,1,0,0])))] by kernel_rfl) ⟨Ac rfl (Arf α n),trivial⟩
theorem G1 (n:Nat):(Gi n).Sound PP:=fk (fn:=Tryz.f170) (Beu _ n)

def f98 (n:Nat) (a0:Rq):Option Bool :=
 bif (decide ((a0.2.1.length:Int)<=40)) then
  some (decide ((a0.2.2.length:Int)<=40))
 else
  some false
def N0 (n:Nat):Ent:=⟨98,[hR],[.bool],λx=>f98 n x⟩
def Bh8 (α:Type) (n:Nat):D3 α:={ reg:=[],join:=[],loop:=[] }
theorem Lt (n:Nat):(N0 n).Sound PP:=B0 (fn:=Tryz.f98) (D:=Bh8 _ n) trivial

abbrev Aoe:Tm:=⟨[(4,.k (.hp 4 0 0)),(5,.k (.hp 5 0 0)),(6,.k (.hp 6 0 0)),(7,.k (.hp 7 0 0))],[(4,.var 54 true false [.d .bool,.d .nil,.d .nil]),(5,.var 54 true false [.d .bool,.d .nil,.d .nil]),(6,.var 54 true false [.d .bool,.d hIs,.d hIs]),(7,.var 54 true false [.d .bool,.d hIs,.d hIs])],[2],[]⟩
abbrev B9s:Tm:=⟨[(1,.d hI),(2,.k (.hp 2 0 0)),(4,.k (.hp 4 0 0)),(5,.k (.hp 5 0 0)),(6,.k (.hp 6 0 0)),(7,.k (.hp 7 0 0))],[(2,.var 91 true false [.d .bool,.d hIs,.d hIs,.d hRs,.d .nil,.d .bool,.d hIs,.d hIs]),(4,.var 54 true false [.d .bool,.d .nil,.d .nil]),(5,.var 54 true false [.d .bool,.d .nil,.d .nil]),(6,.var 54 true false [.d .bool,.d hIs,.d hIs]),(7,.var 54 true false [.d .bool,.d hIs,.d hIs])],[],[]⟩
def f161 (n:Nat) (a0:Rq × LR × Unit × Rq) (a1:Int):Option (Rq × Rq) :=
 ob (f97 n 0) λa =>
 ob (f97 n 0) λg =>
 let c:=λ(d:Bool) (e:LI) (f:LI)=>(
  bif (decide (a1>=2)) then
   ob (f170 n a0.1 (W (a1-2))) λh =>
   ob (f97 n (W (a1*(W (a1-1))))) λi =>
   ob (f162 n h i) λj =>
   some ((d,e,f),j)
  else
   some ((d,e,f),g))
 bif (decide (a1>=1)) then
  ob (f170 n a0.1 (W (a1-1))) λk =>
  ob (f97 n a1) λl =>
  ob (f162 n k l) λb =>
  c b.1 b.2.1 b.2.2
 else
  c a.1 a.2.1 a.2.2
def Axw (n:Nat):Ent:=⟨161,[(.st (.pair hR (.pair hRs (.pair .nil hR)))),hI],[hR,hR],λx=>f161 n x.1 x.2⟩
def Axx (α:Type) (n:Nat):D3 α:={ reg:=[(1,⟨0,[],[(0,{ ent:=some (Au n) }),(1,{ ent:=some (Au n) })]⟩),(3,⟨0,[],[(4,{ ent:=some (Gi n) }),(6,{ ent:=some (Au n) }),(7,{ ent:=some (A8 n) })]⟩),(5,⟨0,[],[(4,{ ent:=some (Gi n) }),(9,{ ent:=some (Au n) }),(10,{ ent:=some (A8 n) })]⟩)],join:=[(4,B9s)],loop:=[],any:=[(6,Aoe)] }
set_option maxHeartbeats 8000000 in
theorem B9t (n:Nat):Ag TT ⟨35,[]⟩ [] Aoe (A4 ((A0 Tryz.f161).at [1,1,1,1,0])):=by
 refine ⟨by kernel_rfl,λw q hq=>?_⟩
 have e:WT [] (A7 (A4 ((A0 Tryz.f161).at [1,1,1,1,0])).toList) q=(q=[]):=by kernel_rfl
 rw [e] at hq;obtain rfl:=hq
 all_goals exact .inr ⟨3,by kernel_rfl,by kernel_rfl,by kernel_rfl⟩
theorem Axv (α:Type) (n:Nat):Al PP (Af (Axx α n).reg):=⟨B4 n,B4 n,G1 n,B4 n,At n,G1 n,B4 n,At n,trivial⟩
theorem Bf3 (α:Type) (n:Nat):D3.OK PP TT ⟨35,[]⟩ (Axx α n) (A0 Tryz.f161) :=
 D3.OK.mk3a (Axv α n) (show Aa (A0 Tryz.f161)=[] by kernel_rfl) trivial (show As (A0 Tryz.f161)=[(6,A4 ((A0 Tryz.f161).at [1,1,1,1,0]))] by kernel_rfl) ⟨⟨B9t n,trivial⟩,trivial⟩
theorem B9r (n:Nat):(Axw n).Sound PP:=fk (fn:=Tryz.f161) (Bf3 _ n)

def f171 (n:Nat) (a0:Rq × LR × Unit × Rq) (a1:Int):Option (Rq × LR × Unit × Rq) :=
 ob (f161 n a0 a1) λa =>
 ob (f170 n a0.1 a1) λb =>
 ob (f210 n a0 b a.1 a.2) λc =>
 some c
def Axb (n:Nat):Ent:=⟨171,[(.st (.pair hR (.pair hRs (.pair .nil hR)))),hI],[(.st (.pair hR (.pair hRs (.pair .nil hR))))],λx=>f171 n x.1 x.2⟩
def Bet (α:Type) (n:Nat):D3 α:={ reg:=[(1,⟨0,[],[(2,{ ent:=some (Axw n) })]⟩),(2,⟨7,[],[(4,{ ent:=some (Gi n) }),(7,{ ent:=some (Ahe n) })]⟩)],join:=[],loop:=[] }
theorem B96 (n:Nat):(Axb n).Sound PP:=B0 (fn:=Tryz.f171) (D:=Bet _ n) ⟨B9r n,G1 n,Ang n,trivial⟩

abbrev Ajl:Tm:=⟨[(2,.d hRs),(3,.k (.hw 1003)),(4,.k (.hp 4 0 0)),(5,.k (.hp 5 0 0)),(8,.k (.hp 8 0 0)),(10,.k (.hp 10 0 0)),(11,.k (.hp 11 0 0))],[(4,.var 94 true false [.d hI,.d .nil]),(5,.var 85 true false [.d hI,.d hI,.d hI,.d hI]),(8,.var 91 true false [.d .bool,.d .nil,.d .nil,.d .nil,.d .nil,.d .bool,.d .nil,.d .nil]),(10,.var 91 true false [.d .bool,.d .nil,.d .nil,.d .nil,.d .nil,.d .bool,.d .nil,.d .nil]),(11,.var 91 true false [.d .bool,.d .nil,.d .nil,.d .nil,.d .nil,.d .bool,.d .nil,.d .nil]),(1003,.arr 91 (.st (.pair hR (.pair hRs (.pair .nil hR)))) false)],[],[]⟩
abbrev B4r:Tm:=⟨[(2,.d hRs),(4,.k (.hp 4 0 0)),(5,.k (.hp 5 0 0)),(8,.k (.hp 8 0 0)),(10,.k (.hp 10 0 0)),(11,.k (.hp 11 0 0))],[(4,.var 94 true false [.d hI,.d .nil]),(5,.var 85 true false [.d hI,.d hI,.d hI,.d hI]),(8,.var 91 true false [.d .bool,.d .nil,.d .nil,.d .nil,.d .nil,.d .bool,.d .nil,.d .nil]),(10,.var 91 true false [.d .bool,.d hIs,.d hIs,.d hRs,.d .nil,.d .bool,.d hIs,.d hIs]),(11,.var 91 true false [.d .bool,.d hIs,.d hIs,.d hRs,.d .nil,.d .bool,.d hIs,.d hIs]),(1003,.arr 91 (.st (.pair hR (.pair hRs (.pair .nil hR)))) false)],[],[]⟩
def Aej (n:Nat) (a0:Int × Unit) (a1:Nq) (a2:LR) (a3:List (Rq × LR × Unit × Rq)):Option (((Rq × LR × Unit × Rq) × Int) × (List (Rq × LR × Unit × Rq))) :=
 let r:=λ(a:Bool) (b:LI) (c:LI) (f:LR) (g:Bool) (h:LI) (i:LI) (j:Bool) (k:LI) (l:LI) (m:LR) (o:Bool) (p:LI) (q:LI)=>(
  bif (a1.1==1) then
   ob (f97 n a1.2.2.2) λs =>
   ob (f163 n (a0.1,()) s) λt =>
   some ((t,0),a3)
  else
   bif (a1.1==2) then
    gd (decide (0<=a1.2.2.2)&&decide (a1.2.2.2<(a2.length:Int))) (
     let u:=a2.getD a1.2.2.2.toNat (false,[],[])
     ob (f164 n (a0.1,()) u a1.2.2.2) λv =>
     some ((v,0),a3))
   else
    bif (a1.1==3) then
     ob (f165 n ((a,b,c),f,(),g,h,i) ((j,k,l),m,(),o,p,q)) λw =>
     some ((w,0),a3)
    else
     bif (a1.1==4) then
      ob (f97 n (-1)) λx =>
      ob (f166 n ((j,k,l),m,(),o,p,q) x) λy =>
      ob (f165 n ((a,b,c),f,(),g,h,i) y) λz =>
      some ((z,0),a3)
     else
      bif (a1.1==5) then
       ob (f167 n ((a,b,c),f,(),g,h,i) ((j,k,l),m,(),o,p,q)) λd0 =>
       some ((d0,0),a3)
      else
       bif (a1.1==6) then
        ob (f168 n (j,k,l)) λd1 =>
        bif d1 then
         some ((((false,[],[]),[],(),false,[],[]),10),a3)
        else
         ob (f169 n ((j,k,l),m,(),o,p,q)) λd2 =>
         ob (f167 n ((a,b,c),f,(),g,h,i) d2) λd3 =>
         some ((d3,0),a3)
       else
        bif (a1.1==7) then
         ob (f97 n (-1)) λd4 =>
         ob (f166 n ((a,b,c),f,(),g,h,i) d4) λd5 =>
         some ((d5,0),a3)
        else
         ob (f170 n (a,b,c) a1.2.2.2) λd6 =>
         ob (f98 n d6) λd7 =>
         bif (!d7) then
          some ((((false,[],[]),[],(),false,[],[]),7),a3)
         else
          ob (f171 n ((a,b,c),f,(),g,h,i) a1.2.2.2) λd8 =>
          some ((d8,0),a3))
 ob (f61 n a1) λd9 =>
 bif (decide (d9>0)) then
  gd (decide (0<=a1.2.1)&&decide (a1.2.1<(a3.length:Int))) (
   gd (decide (a1.2.1.toNat<a3.length)) (
    let d:=a3.getD a1.2.1.toNat ((false,[],[]),[],(),(false,[],[]))
    gd (decide (0<=a1.2.2.1)&&decide (a1.2.2.1<(a3.length:Int))) (
     gd (decide (a1.2.2.1.toNat<a3.length)) (
      let e:=a3.getD a1.2.2.1.toNat ((false,[],[]),[],(),(false,[],[]))
      r d.1.1 d.1.2.1 d.1.2.2 d.2.1 d.2.2.2.1 d.2.2.2.2.1 d.2.2.2.2.2 e.1.1 e.1.2.1 e.1.2.2 e.2.1 e.2.2.2.1 e.2.2.2.2.1 e.2.2.2.2.2))))
 else
  r false [] [] [] false [] [] false [] [] [] false [] []
def Aot (n:Nat):Ent3:=⟨101,[.im (.st (.pair hI .nil)),.im hN,.im hRs,.one (.own 91 (.st (.pair hR (.pair hRs (.pair .nil hR)))))],[[.im (.st (.pair hR (.pair hRs (.pair .nil hR)))),.im hI]],λx=>Aej n x.1 x.2.1 x.2.2.1 x.2.2.2,[]⟩
def Aou (α:Type) (n:Nat):D3 α:={ reg:=[(2,⟨0,[],[(1,{ ent:=some (A6n n) })]⟩),(6,⟨4,[],[(3,{ ent:=some (Au n) }),(4,{ ent:=some (Axr n) })]⟩),(8,⟨8,[],[(8,{ ent:=some (Axp n) })]⟩),(10,⟨0,[],[(2,{ ent:=some (Aig n) })]⟩),(12,⟨4,[],[(2,{ ent:=some (Au n) }),(3,{ ent:=some (Ai9 n) }),(4,{ ent:=some (Aig n) })]⟩),(14,⟨0,[],[(2,{ ent:=some (Ai5 n) })]⟩),(16,⟨0,[],[(2,{ ent:=some (Pb n) })]⟩),(18,⟨3,[],[(2,{ ent:=some (Axf n) }),(3,{ ent:=some (Ai5 n) })]⟩),(20,⟨2,[],[(1,{ ent:=some (Au n) }),(2,{ ent:=some (Ai9 n) })]⟩),(21,⟨0,[],[(4,{ ent:=some (Gi n) }),(5,{ ent:=some (N0 n) })]⟩),(23,⟨0,[],[(3,{ ent:=some (Axb n) })]⟩)],join:=[(4,B4r)],loop:=[],any:=[(3,Ajl)] }
set_option maxHeartbeats 8000000 in
theorem B4s (n:Nat):Ag TT ⟨89,[]⟩ [] Ajl (A4 ((A0 Tryz.f101).at [1,1,0,1,0])):=by
 refine ⟨by kernel_rfl,λw q hq=>?_⟩
 have e:WT [] (A7 (A4 ((A0 Tryz.f101).at [1,1,0,1,0])).toList) q=(q=[]):=by kernel_rfl
 rw [e] at hq;obtain rfl:=hq
 all_goals exact .inr ⟨11,by kernel_rfl,by kernel_rfl,by kernel_rfl⟩
theorem Asn (α:Type) (n:Nat):Al PP (Af (Aou α n).reg):=⟨A6m n,B4 n,B9m n,B9j n,Ao0 n,B4 n,Any n,Ao0 n,Ant n,Nv n,B98 n,Ant n,B4 n,Any n,G1 n,Lt n,B96 n,trivial⟩
theorem Bb6 (α:Type) (n:Nat):D3.OK PP TT ⟨89,[]⟩ (Aou α n) (A0 Tryz.f101) :=
 D3.OK.mk3a (Asn α n) (show Aa (A0 Tryz.f101)=[] by kernel_rfl) trivial (show As (A0 Tryz.f101)=[(3,A4 ((A0 Tryz.f101).at [1,1,0,1,0])),(6,A4 ((A0 Tryz.f101).at [1,1,1,0,1,0,1,0,0])),(8,A4 ((A0 Tryz.f101).at [1,1,1,0,1,0,1,1,1,0,0])),(12,A4 ((A0 Tryz.f101).at [1,1,1,0,1,0,1,1,1,1,1,1,1,0,0])),(18,A4 ((A0 Tryz.f101).at [1,1,1,0,1,0,1,1,1,1,1,1,1,1,1,1,1,0,1,0])),(20,A4 ((A0 Tryz.f101).at [1,1,1,0,1,0,1,1,1,1,1,1,1,1,1,1,1,1,1,0,0]))] by kernel_rfl) ⟨⟨B4s n,trivial⟩,trivial,trivial,trivial,trivial,trivial,trivial⟩
theorem B4q (n:Nat):(Aot n).Sound PP:=Vt (fn:=Tryz.f101) (Bb6 _ n)

def f105 (n:Nat) (a0:Rq):Option Bool :=
 ob (f98 n a0) λa =>
 some (!a)
def Azo (n:Nat):Ent:=⟨105,[hR],[.bool],λx=>f105 n x⟩
def Bg6 (α:Type) (n:Nat):D3 α:={ reg:=[(1,⟨0,[],[(1,{ ent:=some (N0 n) })]⟩)],join:=[],loop:=[] }
theorem Bb2 (n:Nat):(Azo n).Sound PP:=B0 (fn:=Tryz.f105) (D:=Bg6 _ n) ⟨Lt n,trivial⟩

def Pa {α:Type} (n:Nat) (b:LR) (c a:Int) (f:LR->Int->Int->Option α) (k0:Int->Option α) (k1:Unit->Option α):Option α :=
 bif (decide (a<c)) then
  gd (decide (0<=a)&&decide (a<(b.length:Int))) (
   let d:=b.getD a.toNat (false,[],[])
   ob (f105 n d) λe =>
   bif e then
    k0 a
   else
    f b c (W (a+1)))
 else
  k1 ()
abbrev Jo:Tm:=⟨[(0,.d hRs),(1,.d (.fn 105)),(7,.d hI),(8,.d hI)],[],[],[]⟩
abbrev Ady:Tm:=⟨[(4,.d hI)],[],[],[]⟩
abbrev Adx:Tm:=⟨[],[],[],[]⟩
abbrev P9:List (Exit × Tm):=[(.ret,Ady),(.exit 0,Adx)]
def P8 {α:Type} (n:Nat) (v:Jo.den) (f:Jo.den->Option α) (ks:KS α P9):Option α:=Pa n v.1.1 v.1.2.2.1 v.1.2.2.2.1 (λa b c=>f ((a,(),b,c,()),())) (λw0=>ks.1 ((w0,()),())) (λ_=>ks.2.1 ((),()))
def Hy {α:Type} (n m:Nat) (a:LR) (b c:Int) (k0:Int->Option α) (k1:Unit->Option α):Option α:=A5 (P8 n) m ((a,(),b,c,()),()) (λw=>k0 w.1.1,λw=>k1 (),())
theorem Adw {α n m a b c k0 k1}:Hy (α:=α) n (m+1) a b c k0 k1=Pa n a b c (λa b c=>Hy n m a b c k0 k1) k0 k1:=rfl
def A3r (n:Nat) (a0:LR) (a1:Unit):Option Int :=
 Hy n n a0 (a0.length:Int) 0
  (λa=>(
   some a))
  (λ(_:Unit)=>(
   some (-1)))
def A78 (n:Nat):Ent:=⟨172,[hRs,(.fn 105)],[hI],λx=>A3r n x.1 x.2⟩
def Ua (α:Type) (n:Nat):D3 α:={ reg:=[(4,⟨0,[],[(5,{ ent:=some (Azo n) })]⟩)],join:=[],loop:=[(2,⟨Jo,P9,A5 (P8 n) n⟩)] }
theorem W7 (α:Type) (n:Nat):Al PP (Af (Ua α n).reg):=⟨Bb2 n,trivial⟩
theorem Aaa (α:Type) (n:Nat):LO.Sound (α:=α) PP ⟨19,[]⟩ ⟨Jo,P9,A5 (P8 n) n⟩ (.loop ((A0 Tryz.f172).at [1,0,1,0,0])):=C1 (D:=Ua α n) (W7 α n) n
theorem Are (α:Type) (n:Nat):D3.OK PP TT ⟨19,[]⟩ (Ua α n) (A0 Tryz.f172) :=
 D3.OK.mk3 (W7 α n) (show Aa (A0 Tryz.f172)=[(2,(.loop ((A0 Tryz.f172).at [1,0,1,0,0])))] by kernel_rfl) ⟨Ac rfl (Aaa α n),trivial⟩
theorem Alm (n:Nat):(A78 n).Sound PP:=fk (fn:=Tryz.f172) (Are _ n)

def A5b (n:Nat) (a0:LR) (a1:Unit):Option Bool :=
 ob (A3r n a0 a1) λa =>
 some (decide (a>=0))
def A7t (n:Nat):Ent:=⟨104,[hRs,(.fn 105)],[.bool],λx=>A5b n x.1 x.2⟩
def Ask (α:Type) (n:Nat):D3 α:={ reg:=[(1,⟨0,[],[(2,{ ent:=some (A78 n) })]⟩)],join:=[],loop:=[] }
theorem Alt (n:Nat):(A7t n).Sound PP:=B0 (fn:=Tryz.f104) (D:=Ask _ n) ⟨Alm n,trivial⟩

def f51 (n:Nat) (a0:LR):Option (LR × Int) :=
 ob (A5b n a0 ()) λa =>
 bif a then
  some ([],7)
 else
  some (a0,0)
def A6p (n:Nat):Ent:=⟨51,[hRs],[hRs,hI],λx=>f51 n x⟩
def Bhs (α:Type) (n:Nat):D3 α:={ reg:=[(1,⟨0,[],[(1,{ ent:=some (A7t n) })]⟩)],join:=[],loop:=[] }
theorem A6o (n:Nat):(A6p n).Sound PP:=B0 (fn:=Tryz.f51) (D:=Bhs _ n) ⟨Alt n,trivial⟩

def f180 (n:Nat) (a0:Rq × LR × Unit × Rq):Option Bool :=
 ob (f51 n a0.2.1) λa =>
 ob (f51 n []) λb =>
 ob (f98 n a0.1) λc =>
 bif c then
  ob (f98 n a0.2.2.2) λd =>
  bif d then
   bif (a.2==0) then
    some (b.2==0)
   else
    some false
  else
   some false
 else
  some false
def Ax9 (n:Nat):Ent:=⟨180,[(.st (.pair hR (.pair hRs (.pair .nil hR))))],[.bool],λx=>f180 n x⟩
def Bep (α:Type) (n:Nat):D3 α:={ reg:=[(1,⟨0,[],[(2,{ ent:=some (A6p n) })]⟩),(2,⟨0,[],[(2,{ ent:=some (A6p n) })]⟩),(3,⟨0,[],[(2,{ ent:=some (N0 n) }),(6,{ ent:=some (N0 n) })]⟩)],join:=[],loop:=[] }
theorem B90 (n:Nat):(Ax9 n).Sound PP:=B0 (fn:=Tryz.f180) (D:=Bep _ n) ⟨A6o n,A6o n,Lt n,Lt n,trivial⟩

def A5a {α:Type} (n:Nat) (e:LR) (c:LN) (g b h:Int) (d:List (Rq × LR × Unit × Rq)) (f:LR->LN->Int->Int->Int->(List (Rq × LR × Unit × Rq))->Option α) (k0:Int->Option α) (k1:(List (Rq × LR × Unit × Rq))->Option α):Option α :=
 bif (decide (b<g)) then
  gd (decide (0<=b)&&decide (b<(c.length:Int))) (
   let i:=c.getD b.toNat (0,0,0,0)
   ob (Aej n (h,()) i e d) λa =>
   gd (Nat.beq a.2.length d.length&&true) (
    bif (a.1.2 != 0) then
     k0 a.1.2
    else
     ob (f180 n a.1.1) λj =>
     bif (!j) then
      k0 7
     else
      gd (decide ((a.2.length+1)*160<=140737488355328)) (
       f e c g (W (b+1)) h (a.2++[a.1.1]))))
 else
  k1 d
abbrev Uu:Tm:=⟨[(2,.d hRs),(3,.k (.hp 3 0 0)),(8,.k (.hw 13)),(14,.d hNs),(15,.d hI),(16,.d hI)],[(3,.var 94 true false [.d hI,.d .nil]),(13,.arr 91 (.st (.pair hR (.pair hRs (.pair .nil hR)))) false)],[10,11,36],[]⟩
abbrev Azm:Tm:=⟨[(6,.d .nil),(7,.d hI)],[],[3,10,11,13],[]⟩
abbrev Azl:Tm:=⟨[(8,.k (.hw 13))],[(13,.arr 91 (.st (.pair hR (.pair hRs (.pair .nil hR)))) false)],[3],[]⟩
abbrev A59:List (Exit × Tm):=[(.ret,Azm),(.exit 0,Azl)]
def A58 {α:Type} (n:Nat) (v:Uu.den) (f:Uu.den->Option α) (ks:KS α A59):Option α:=A5a n v.1.1 v.1.2.2.2.1 v.1.2.2.2.2.1 v.1.2.2.2.2.2.1 v.2.1.1 v.2.2.1 (λa b c d e g=>f ((a,(),(),b,c,d,()),((e,(),()),g,()))) (λw0=>ks.1 (((),w0,()),())) (λw0=>ks.2.1 (((),()),(w0,())))
def A0k {α:Type} (n m:Nat) (a:LR) (b:LN) (c d e:Int) (f:List (Rq × LR × Unit × Rq)) (k0:Int->Option α) (k1:(List (Rq × LR × Unit × Rq))->Option α):Option α:=A5 (A58 n) m ((a,(),(),b,c,d,()),((e,(),()),f,())) (λw=>k0 w.1.2.1,λw=>k1 w.2.1,())
theorem Azk {α n m a b c d e f k0 k1}:A0k (α:=α) n (m+1) a b c d e f k0 k1=A5a n a b c d e f (λa b c d e f=>A0k n m a b c d e f k0 k1) k0 k1:=rfl
def f113 (n:Nat) (a0:Int × Unit) (a1:LN) (a2:LR):Option ((List (Rq × LR × Unit × Rq)) × Int) :=
 A0k n n a2 a1 (a1.length:Int) 0 a0.1 []
  (λa=>(
   some ([],a)))
  (λb=>(
   some (b,0)))
def Azn (n:Nat):Ent:=⟨113,[(.st (.pair hI .nil)),hNs,hRs],[(.sl (.st (.pair hR (.pair hRs (.pair .nil hR))))),hI],λx=>f113 n x.1 x.2.1 x.2.2⟩
def Aji (α:Type) (n:Nat):D3 α:={ reg:=[(1,⟨0,[],[(0,{ sh:=some (.st (.pair hR (.pair hRs (.pair .nil hR)))) })]⟩),(5,⟨0,[],[(4,{ alt:=[(Aot n)],hb:=310 })]⟩),(8,⟨0,[],[(1,{ ent:=some (Ax9 n) })]⟩),(10,⟨0,[],[(2,{ sh:=some (.st (.pair hR (.pair hRs (.pair .nil hR)))) })]⟩)],join:=[],loop:=[(3,⟨Uu,A59,A5 (A58 n) n⟩)] }
theorem Ad5 (α:Type) (n:Nat):Al PP (Af (Aji α n).reg):=⟨B4q n,B90 n,trivial⟩
theorem Ash (α:Type) (n:Nat):LO.Sound (α:=α) PP ⟨40,[]⟩ ⟨Uu,A59,A5 (A58 n) n⟩ (.loop ((A0 Tryz.f113).at [1,1,0,1,0,0])):=C1 (D:=Aji α n) (Ad5 α n) n
theorem Bg4 (α:Type) (n:Nat):D3.OK PP TT ⟨40,[]⟩ (Aji α n) (A0 Tryz.f113) :=
 D3.OK.mk3 (Ad5 α n) (show Aa (A0 Tryz.f113)=[(3,(.loop ((A0 Tryz.f113).at [1,1,0,1,0,0])))] by kernel_rfl) ⟨Ac rfl (Ash α n),trivial⟩
theorem Bax (n:Nat):(Azn n).Sound PP:=fk (fn:=Tryz.f113) (Bg4 _ n)

def f114 (n:Nat) (a0:Int) (a1:List (Rq × LR × Unit × Rq)):Option Rq :=
 gd (decide (0<=a0)&&decide (a0<(a1.length:Int))) (
  let a:=a1.getD a0.toNat ((false,[],[]),[],(),(false,[],[]))
  some a.1)
def Azj (n:Nat):Ent:=⟨114,[hI,(.ref (.sl (.st (.pair hR (.pair hRs (.pair .nil hR))))))],[hR],λx=>f114 n x.1 x.2⟩
def Bg3 (α:Type) (n:Nat):D3 α:={ reg:=[],join:=[],loop:=[] }
theorem Bav (n:Nat):(Azj n).Sound PP:=B0 (fn:=Tryz.f114) (D:=Bg3 _ n) trivial

def f73 (n:Nat) (a0:Rq):Option Rq :=
 ob (f123 n a0.2.1) λa =>
 ob (f123 n a0.2.2) λb =>
 some (a0.1,a,b)
def Aq9 (n:Nat):Ent:=⟨73,[hR],[hR],λx=>f73 n x⟩
def Bhj (α:Type) (n:Nat):D3 α:={ reg:=[(1,⟨8,[],[(4,{ ent:=some (M6 n) }),(7,{ ent:=some (M6 n) })]⟩)],join:=[],loop:=[] }
theorem Avb (n:Nat):(Aq9 n).Sound PP:=B0 (fn:=Tryz.f73) (D:=Bhj _ n) ⟨L3 n,L3 n,trivial⟩

def Pl {α:Type} (n:Nat) (c:List (Rq × LR × Unit × Rq)) (d a:Int) (b:LR) (f:(List (Rq × LR × Unit × Rq))->Int->Int->LR->Option α) (k0:LR->Option α):Option α :=
 bif (decide (a<d)) then
  ob (f114 n a c) λe =>
  ob (f73 n e) λg =>
  gd (decide ((b.length+1)*56<=140737488355328)) (
   f c d (W (a+1)) (b++[g]))
 else
  k0 b
abbrev Jq:Tm:=⟨[(1,.d (.clo 114 (.ref (.sl (.st (.pair hR (.pair hRs (.pair .nil hR)))))))),(5,.k (.hw 7)),(8,.d hI),(9,.d hI)],[(7,.arr 54 hR false)],[17],[]⟩
abbrev Ae0:Tm:=⟨[(5,.k (.hw 7))],[(7,.arr 54 hR false)],[],[]⟩
abbrev Pk:List (Exit × Tm):=[(.exit 0,Ae0)]
def Pj {α:Type} (n:Nat) (v:Jq.den) (f:Jq.den->Option α) (ks:KS α Pk):Option α:=Pl n v.1.1 v.1.2.2.1 v.1.2.2.2.1 v.2.1 (λa b c d=>f ((a,(),b,c,()),(d,()))) (λw0=>ks.1 (((),()),(w0,())))
def Lk {α:Type} (n m:Nat) (a:List (Rq × LR × Unit × Rq)) (b c:Int) (d:LR) (k0:LR->Option α):Option α:=A5 (Pj n) m ((a,(),b,c,()),(d,())) (λw=>k0 w.2.1,())
theorem Adz {α n m a b c d k0}:Lk (α:=α) n (m+1) a b c d k0=Pl n a b c d (λa b c d=>Lk n m a b c d k0) k0:=rfl
def Ux (n:Nat) (a0:Int) (a1:List (Rq × LR × Unit × Rq)):Option LR :=
 Lk n n a1 a0 0 []
  (λa=>(
   some a))
def A7v (n:Nat):Ent:=⟨102,[hI,(.clo 114 (.ref (.sl (.st (.pair hR (.pair hRs (.pair .nil hR)))))))],[hRs],λx=>Ux n x.1 x.2⟩
def Uw (α:Type) (n:Nat):D3 α:={ reg:=[(1,⟨0,[],[(0,{ sh:=some hR })]⟩),(5,⟨0,[],[(3,{ ent:=some (Azj n) }),(4,{ ent:=some (Aq9 n) }),(5,{ sh:=some hR })]⟩)],join:=[],loop:=[(3,⟨Jq,Pk,A5 (Pj n) n⟩)] }
theorem W8 (α:Type) (n:Nat):Al PP (Af (Uw α n).reg):=⟨Bav n,Avb n,trivial⟩
theorem Aan (α:Type) (n:Nat):LO.Sound (α:=α) PP ⟨21,[]⟩ ⟨Jq,Pk,A5 (Pj n) n⟩ (.loop ((A0 Tryz.f102).at [1,1,0,1,0,0])):=C1 (D:=Uw α n) (W8 α n) n
theorem Asl (α:Type) (n:Nat):D3.OK PP TT ⟨21,[]⟩ (Uw α n) (A0 Tryz.f102) :=
 D3.OK.mk3 (W8 α n) (show Aa (A0 Tryz.f102)=[(3,(.loop ((A0 Tryz.f102).at [1,1,0,1,0,0])))] by kernel_rfl) ⟨Ac rfl (Aan α n),trivial⟩
theorem Alu (n:Nat):(A7v n).Sound PP:=fk (fn:=Tryz.f102) (Asl _ n)

def f63 (n:Nat) (a0:LN × Int) (a1:LR):Option (LR × Int) :=
 ob (f96 n a0 a1) λb =>
 bif (b != 0) then
  some ([],b)
 else
  ob (f113 n (0,()) a0.1 a1) λa =>
  bif (a.2 != 0) then
   some ([],a.2)
  else
   ob (Ux n (a.1.length:Int) a.1) λc =>
   some (c,0)
def Aqe (n:Nat):Ent:=⟨63,[(.st (.pair hNs hI)),hRs],[hRs,hI],λx=>f63 n x.1 x.2⟩
def Bhp (α:Type) (n:Nat):D3 α:={ reg:=[(1,⟨0,[],[(2,{ ent:=some (Te n) })]⟩),(4,⟨0,[],[(4,{ ent:=some (Azn n) })]⟩),(7,⟨0,[],[(2,{ sh:=some (.ref (.sl (.st (.pair hR (.pair hRs (.pair .nil hR)))))) }),(3,{ ent:=some (A7v n) })]⟩)],join:=[],loop:=[] }
theorem Avi (n:Nat):(Aqe n).Sound PP:=B0 (fn:=Tryz.f63) (D:=Bhp _ n) ⟨Av2 n,Bax n,Alu n,trivial⟩

abbrev Avp:Tm:=⟨[(1,.d hRs),(2,.d hRs),(3,.k (.hp 3 0 0))],[(3,.var 33 true false [.d hNs,.d hI])],[],[]⟩
def f48 (n:Nat) (a0:LN × Int) (a1 a2:LR):Option (LR × Int) :=
 ob (f71 n [a1,a2]) λc =>
 ob (f96 n a0 a1) λd =>
 ob (f72 n a1 a2) λe =>
 ob (f70 n [c,d,e]) λa =>
 bif (a != 0) then
  some ([],a)
 else
  ob (f63 n a0 a1) λb =>
  some (b.1,b.2)
def B67 (n:Nat):Ent:=⟨48,[(.st (.pair hNs hI)),hRs,hRs],[hRs,hI],λx=>f48 n x.1 x.2.1 x.2.2⟩
def B68 (α:Type) (n:Nat):D3 α:={ reg:=[(1,⟨0,[],[(2,{ sh:=some hRs }),(3,{ ent:=some (I6 n) }),(6,{ ent:=some (Te n) }),(9,{ ent:=some (Zn n) }),(10,{ sh:=some hI }),(11,{ ent:=some (Gx n) })]⟩),(4,⟨0,[],[(2,{ ent:=some (Aqe n) })]⟩)],join:=[],loop:=[],any:=[(1,Avp)] }
set_option maxHeartbeats 8000000 in
theorem Bdg (n:Nat):Ag TT ⟨29,[]⟩ [(2,{ sh:=some hRs }),(3,{ ent:=some (I6 n) }),(6,{ ent:=some (Te n) }),(9,{ ent:=some (Zn n) }),(10,{ sh:=some hI }),(11,{ ent:=some (Gx n) })] Avp (A4 ((A0 Tryz.f48).at [1,0,0])):=by
 refine ⟨by kernel_rfl,λw q hq=>?_⟩
 have e:WT [(2,{ sh:=some hRs }),(3,{ ent:=some (I6 n) }),(6,{ ent:=some (Te n) }),(9,{ ent:=some (Zn n) }),(10,{ sh:=some hI }),(11,{ ent:=some (Gx n) })] (A7 (A4 ((A0 Tryz.f48).at [1,0,0])).toList) q=(∃ (y0:HL (I6 n).rs) (q0:List (Nat × RV)),q=(3,.sv (Ae (I6 n).rs y0))::q0 /\ ∃ (y1:HL (Te n).rs) (q1:List (Nat × RV)),q0=(6,.sv (Ae (Te n).rs y1))::q1 /\ ∃ (y2:HL (Zn n).rs) (q2:List (Nat × RV)),q1=(9,.sv (Ae (Zn n).rs y2))::q2 /\ ∃ (y3:HL (Gx n).rs) (q3:List (Nat × RV)),q2=(11,.sv (Ae (Gx n).rs y3))::q3/\q3=[]):=by kernel_rfl
 rw [e] at hq;obtain ⟨y0,q0,rfl,y1,q1,rfl,y2,q2,rfl,y3,q3,rfl,rfl⟩:=hq
 all_goals exact .inr ⟨9,by kernel_rfl,by kernel_rfl,by kernel_rfl⟩
theorem B32 (α:Type) (n:Nat):Al PP (Af (B68 α n).reg):=⟨Agl n,Av2 n,Bd5 n,A6i n,Avi n,trivial⟩
theorem Bhv (α:Type) (n:Nat):D3.OK PP TT ⟨29,[]⟩ (B68 α n) (A0 Tryz.f48) :=
 D3.OK.mk3a (B32 α n) (show Aa (A0 Tryz.f48)=[] by kernel_rfl) trivial (show As (A0 Tryz.f48)=[(1,A4 ((A0 Tryz.f48).at [1,0,0]))] by kernel_rfl) ⟨⟨Bdg n,trivial⟩,trivial⟩
theorem Bdf (n:Nat):(B67 n).Sound PP:=fk (fn:=Tryz.f48) (Bhv _ n)

abbrev Aii:Tm:=⟨[(2,.k (.hp 2 0 0)),(3,.k (.hp 3 0 0)),(4,.k (.hp 4 0 0))],[(2,.var 94 true false [.d hI,.d hRs]),(3,.var 54 true false [.d .bool,.d hIs,.d hIs]),(4,.var 91 true false [.d .bool,.d .nil,.d .nil,.d .nil,.d .nil,.d .bool,.d .nil,.d .nil])],[],[]⟩
def Aeg (n:Nat) (a0:Int × LR) (a1:Rq):Option (Rq × LR × LR × Rq) :=
 ob (f64 n a0.1) λa =>
 ob (f97 n 0) λb =>
 gd ((!a0.2.isEmpty)) (
  ob (f64 n a0.1) λc =>
  some (a1,a,c,b))
def Ao5 (n:Nat):Ent:=⟨163,[(.st (.pair hI hRs)),hR],[(.st (.pair hR (.pair hRs (.pair hRs hR))))],λx=>Aeg n x.1 x.2⟩
def Ao6 (α:Type) (n:Nat):D3 α:={ reg:=[(1,⟨0,[],[(3,{ ent:=some (Gy n) }),(4,{ ent:=some (Au n) })]⟩),(3,⟨0,[],[(2,{ ent:=some (Gy n) })]⟩)],join:=[],loop:=[],any:=[(1,Aii)] }
set_option maxHeartbeats 8000000 in
theorem B3u (n:Nat):Ag TT ⟨20,[]⟩ [(3,{ ent:=some (Gy n) }),(4,{ ent:=some (Au n) })] Aii (A4 ((A0 Tryz.f163).at [1,0])):=by
 refine ⟨by kernel_rfl,λw q hq=>?_⟩
 have e:WT [(3,{ ent:=some (Gy n) }),(4,{ ent:=some (Au n) })] (A7 (A4 ((A0 Tryz.f163).at [1,0])).toList) q=(∃ (y0:HL (Gy n).rs) (q0:List (Nat × RV)),q=(3,.sv (Ae (Gy n).rs y0))::q0 /\ ∃ (y1:HL (Au n).rs) (q1:List (Nat × RV)),q0=(4,.sv (Ae (Au n).rs y1))::q1/\q1=[]):=by kernel_rfl
 rw [e] at hq;obtain ⟨y0,q0,rfl,y1,q1,rfl,rfl⟩:=hq
 all_goals exact .inr ⟨7,by kernel_rfl,by kernel_rfl,by kernel_rfl⟩
theorem Aro (α:Type) (n:Nat):Al PP (Af (Ao6 α n).reg):=⟨A6k n,B4 n,A6k n,trivial⟩
theorem B9l (α:Type) (n:Nat):D3.OK PP TT ⟨20,[]⟩ (Ao6 α n) (A0 Tryz.f163) :=
 D3.OK.mk3a (Aro α n) (show Aa (A0 Tryz.f163)=[] by kernel_rfl) trivial (show As (A0 Tryz.f163)=[(1,A4 ((A0 Tryz.f163).at [1,0]))] by kernel_rfl) ⟨⟨B3u n,trivial⟩,trivial⟩
theorem B3t (n:Nat):(Ao5 n).Sound PP:=fk (fn:=Tryz.f163) (B9l _ n)

abbrev Acm:Tm:=⟨[(2,.k (.hp 2 0 0)),(3,.k (.hp 3 0 0)),(4,.k (.hp 4 0 0))],[(2,.var 94 true false [.d hI,.d hRs]),(3,.var 54 true false [.d .bool,.d hIs,.d hIs]),(4,.var 91 true false [.d .bool,.d .nil,.d .nil,.d .nil,.d .nil,.d .bool,.d .nil,.d .nil])],[],[]⟩
def Aim (n:Nat) (a0:Int × LR) (a1:Rq):Option (Bool × LI × LI × LR × LR × Bool × LI × LI) :=
 ob (Mk n a0.1) λb =>
 ob (f97 n 0) λa =>
 gd ((!a0.2.isEmpty)) (
  ob (Mk n a0.1) λc =>
  some (a1.1,a1.2.1,a1.2.2,b,c,a.1,a.2.1,a.2.2))
def Aik (n:Nat):Ent3:=⟨163,[.im (.st (.pair hI hRs)),.im hR],[[.mix [.im .bool,.im hIs,.im hIs,.own 54 hR,.own 54 hR,.im .bool,.im hIs,.im hIs]]],λx=>Aim n x.1 x.2,[]⟩
def Ail (α:Type) (n:Nat):D3 α:={ reg:=[(1,⟨0,[],[(3,{ entB:=some (Cr n),hb:=310 }),(4,{ ent:=some (Au n) })]⟩),(3,⟨0,[],[(2,{ entB:=some (Cr n),hb:=320 })]⟩)],join:=[],loop:=[],any:=[(1,Acm)] }
set_option maxHeartbeats 8000000 in
theorem Axu (n:Nat):Ag TT ⟨20,[]⟩ [(3,{ entB:=some (Cr n),hb:=310 }),(4,{ ent:=some (Au n) })] Acm (A4 ((A0 Tryz.f163).at [1,0])):=by
 refine ⟨by kernel_rfl,λw q hq=>?_⟩
 have e:WT [(3,{ entB:=some (Cr n),hb:=310 }),(4,{ ent:=some (Au n) })] (A7 (A4 ((A0 Tryz.f163).at [1,0])).toList) q=(∃ (y0:HF (Am 1000 (Cr n).ts) (Cr n).forms) (q0:List (Nat × RV)),q=(3,.bx (Cr n) y0)::q0 /\ ∃ (y1:HL (Au n).rs) (q1:List (Nat × RV)),q0=(4,.sv (Ae (Au n).rs y1))::q1/\q1=[]):=by kernel_rfl
 rw [e] at hq;obtain ⟨y0,q0,rfl,y1,q1,rfl,rfl⟩:=hq
 all_goals exact .inl (Ia.mk (by kernel_rfl))
theorem Alp (α:Type) (n:Nat):Al PP (Af (Ail α n).reg):=⟨Km n,B4 n,Km n,trivial⟩
theorem B3x (α:Type) (n:Nat):D3.OK PP TT ⟨20,[]⟩ (Ail α n) (A0 Tryz.f163) :=
 D3.OK.mk3a (Alp α n) (show Aa (A0 Tryz.f163)=[] by kernel_rfl) trivial (show As (A0 Tryz.f163)=[(1,A4 ((A0 Tryz.f163).at [1,0]))] by kernel_rfl) ⟨⟨Axu n,trivial⟩,trivial⟩
theorem Axt (n:Nat):(Aik n).Sound PP:=Vt (fn:=Tryz.f163) (B3x _ n)

abbrev B3s:Tm:=⟨[(2,.d hI),(3,.k (.hp 3 0 0)),(6,.k (.hp 6 0 0)),(7,.k (.hp 7 0 0))],[(3,.var 94 true false [.d hI,.d hRs]),(6,.var 91 true false [.d .bool,.d .nil,.d .nil,.d .nil,.d .nil,.d .bool,.d .nil,.d .nil]),(7,.var 91 false false [.d .bool,.d hIs,.d hIs,.k (.hw 313),.k (.hw 314),.d .bool,.d hIs,.d hIs]),(313,.arr 54 hR false),(314,.arr 54 hR false)],[4],[]⟩
def Aef (n:Nat) (a0:Int × LR) (a1:Rq) (a2:Int):Option (Rq × LR × LR × Rq) :=
 ob (Aim n a0 a1) λa =>
 let b:=λ(c:LR)=>(
  gd ((!a0.2.isEmpty)) (
   gd (decide (0<=a2)&&decide (a2<(a0.2.length:Int))) (
    let d:=a0.2.getD a2.toNat (false,[],[])
    some ((a.1,a.2.1,a.2.2.1),c,a.2.2.2.2.1,d))))
 bif (decide (a2<a0.1)) then
  ob (f97 n 1) λe =>
  gd (decide (0<=a2)&&decide (a2<(a.2.2.2.1.length:Int))) (
   gd (decide (a2.toNat<a.2.2.2.1.length)) (
    b (a.2.2.2.1.set a2.toNat e)))
 else
  b a.2.2.2.1
def Ao4 (n:Nat):Ent:=⟨164,[(.st (.pair hI hRs)),hR,hI],[(.st (.pair hR (.pair hRs (.pair hRs hR))))],λx=>Aef n x.1 x.2.1 x.2.2⟩
def B9i (α:Type) (n:Nat):D3 α:={ reg:=[(1,⟨0,[],[(2,{ alt:=[(Aik n)],hb:=310 })]⟩),(3,⟨4,[],[(3,{ ent:=some (Au n) })]⟩)],join:=[(4,B3s)],loop:=[] }
theorem B3r (n:Nat):(Ao4 n).Sound PP:=B0 (fn:=Tryz.f164) (D:=B9i _ n) ⟨Axt n,B4 n,trivial⟩

def Axm {α:Type} (n:Nat) (c:LR) (i a:Int) (s:Bool) (t u:LI) (v b:LR) (w:Bool) (x y:LI) (z:Bool) (d0 d1:LI) (d e:LR) (d2:Bool) (d3 d4:LI) (j k l:Bool) (m o:LI) (p:Bool) (q r:LI) (g h:LR) (f:LR->Int->Int->Bool->LI->LI->LR->LR->Bool->LI->LI->Bool->LI->LI->LR->LR->Bool->LI->LI->Bool->Bool->Bool->LI->LI->Bool->LI->LI->LR->LR->Option α) (k0:Bool->Bool->Bool->LI->LI->Bool->LI->LI->LR->LR->Option α):Option α :=
 bif (decide (a<i)) then
  gd (decide (0<=a)&&decide (a<(c.length:Int))) (
   let d5:=c.getD a.toNat (false,[],[])
   gd (decide (0<=a)&&decide (a<(d.length:Int))) (
    let d6:=d.getD a.toNat (false,[],[])
    ob (f99 n d5 d6) λd7 =>
    gd (decide ((g.length+1)*56<=140737488355328)) (
     gd ((!b.isEmpty)) (
      gd (decide (0<=a)&&decide (a<(b.length:Int))) (
       let d8:=b.getD a.toNat (false,[],[])
       gd (decide (0<=a)&&decide (a<(e.length:Int))) (
        let d9:=e.getD a.toNat (false,[],[])
        ob (f99 n d8 d9) λe0 =>
        gd (decide ((h.length+1)*56<=140737488355328)) (
         f c i (W (a+1)) s t u v b w x y z d0 d1 d e d2 d3 d4 j k l m o p q r (g++[d7]) (h++[e0]))))))))
 else
  k0 j k l m o p q r g h
abbrev Qk:Tm:=⟨[(2,.k (.hp 2 0 0)),(3,.k (.hp 3 0 0)),(4,.k (.hp 4 0 0)),(5,.k (.hp 5 0 0)),(20,.d hRs),(21,.d hI),(22,.d hI)],[(2,.var 91 true false [.d .bool,.d hIs,.d hIs,.d hRs,.d hRs,.d .bool,.d hIs,.d hIs]),(3,.var 91 true false [.d .bool,.d hIs,.d hIs,.d hRs,.d hRs,.d .bool,.d hIs,.d hIs]),(4,.var 91 true false [.d .bool,.d .nil,.d .nil,.d .nil,.d .nil,.d .bool,.d .nil,.d .nil]),(5,.var 91 false false [.d .bool,.d hIs,.d hIs,.k (.hw 37),.k (.hw 56),.d .bool,.d hIs,.d hIs]),(37,.arr 54 hR false),(56,.arr 54 hR false)],[55],[]⟩
abbrev Arm:Tm:=⟨[(4,.k (.hp 4 0 0)),(5,.k (.hp 5 0 0))],[(4,.var 91 true false [.d .bool,.d .nil,.d .nil,.d .nil,.d .nil,.d .bool,.d .nil,.d .nil]),(5,.var 91 false false [.d .bool,.d hIs,.d hIs,.k (.hw 37),.k (.hw 56),.d .bool,.d hIs,.d hIs]),(37,.arr 54 hR false),(56,.arr 54 hR false)],[2,3],[]⟩
abbrev Ye:List (Exit × Tm):=[(.exit 0,Arm)]
def Yd {α:Type} (n:Nat) (v:Qk.den) (f:Qk.den->Option α) (ks:KS α Ye):Option α:=Axm n v.1.2.2.2.2.1 v.1.2.2.2.2.2.1 v.1.2.2.2.2.2.2.1 v.2.1.1 v.2.1.2.1 v.2.1.2.2.1 v.2.1.2.2.2.1 v.2.1.2.2.2.2.1 v.2.1.2.2.2.2.2.1 v.2.1.2.2.2.2.2.2.1 v.2.1.2.2.2.2.2.2.2.1 v.2.2.1.1 v.2.2.1.2.1 v.2.2.1.2.2.1 v.2.2.1.2.2.2.1 v.2.2.1.2.2.2.2.1 v.2.2.1.2.2.2.2.2.1 v.2.2.1.2.2.2.2.2.2.1 v.2.2.1.2.2.2.2.2.2.2.1 v.2.2.2.1.1 v.2.2.2.1.2.2.2.2.2.1 v.2.2.2.2.1.1 v.2.2.2.2.1.2.1 v.2.2.2.2.1.2.2.1 v.2.2.2.2.1.2.2.2.2.2.1 v.2.2.2.2.1.2.2.2.2.2.2.1 v.2.2.2.2.1.2.2.2.2.2.2.2.1 v.2.2.2.2.2.1 v.2.2.2.2.2.2.1 (λa b c d e g h i j k l m o p q r s t u w x y z d0 d1 d2 d3 d4 d5=>f (((),(),(),(),a,b,c,()),((d,e,g,h,i,j,k,l,()),(m,o,p,q,r,s,t,u,()),(w,(),(),(),(),x,(),(),()),(y,z,d0,(),(),d1,d2,d3,()),d4,d5,()))) (λw0 w1 w2 w3 w4 w5 w6 w7 w8 w9=>ks.1 (((),(),()),((w0,(),(),(),(),w1,(),(),()),(w2,w3,w4,(),(),w5,w6,w7,()),w8,w9,())))
def B3o {α:Type} (n m:Nat) (a:LR) (b c:Int) (d:Bool) (e f:LI) (g h:LR) (i:Bool) (j k:LI) (l:Bool) (o p:LI) (q r:LR) (s:Bool) (t u:LI) (v x y:Bool) (z d0:LI) (d1:Bool) (d2 d3:LI) (d4 d5:LR) (k0:Bool->Bool->Bool->LI->LI->Bool->LI->LI->LR->LR->Option α):Option α:=A5 (Yd n) m (((),(),(),(),a,b,c,()),((d,e,f,g,h,i,j,k,()),(l,o,p,q,r,s,t,u,()),(v,(),(),(),(),x,(),(),()),(y,z,d0,(),(),d1,d2,d3,()),d4,d5,())) (λw=>k0 w.2.1.1 w.2.1.2.2.2.2.2.1 w.2.2.1.1 w.2.2.1.2.1 w.2.2.1.2.2.1 w.2.2.1.2.2.2.2.2.1 w.2.2.1.2.2.2.2.2.2.1 w.2.2.1.2.2.2.2.2.2.2.1 w.2.2.2.1 w.2.2.2.2.1,())
abbrev Aid:Tm:=⟨[(2,.k (.hp 2 0 0)),(3,.k (.hp 3 0 0)),(4,.k (.hp 4 0 0))],[(2,.var 91 true false [.d .bool,.d hIs,.d hIs,.d hRs,.d hRs,.d .bool,.d hIs,.d hIs]),(3,.var 91 true false [.d .bool,.d hIs,.d hIs,.d hRs,.d hRs,.d .bool,.d hIs,.d hIs]),(4,.var 91 true false [.d .bool,.d .nil,.d .nil,.d .nil,.d .nil,.d .bool,.d .nil,.d .nil])],[],[]⟩
abbrev Aic:Tm:=⟨[(2,.k (.hp 2 0 0)),(3,.k (.hp 3 0 0)),(4,.k (.hp 4 0 0)),(5,.k (.hp 5 0 0)),(6,.d hI),(7,.k (.hp 7 0 0)),(20,.d hRs),(21,.d hI),(22,.d hI)],[(2,.var 91 true false [.d .bool,.d hIs,.d hIs,.d hRs,.d hRs,.d .bool,.d hIs,.d hIs]),(3,.var 91 true false [.d .bool,.d hIs,.d hIs,.d hRs,.d hRs,.d .bool,.d hIs,.d hIs]),(4,.var 91 true false [.d .bool,.d .nil,.d .nil,.d .nil,.d .nil,.d .bool,.d .nil,.d .nil]),(5,.var 91 true false [.d .bool,.d hIs,.d hIs,.d .nil,.d .nil,.d .bool,.d hIs,.d hIs]),(7,.var 54 true false [.d .bool,.d hIs,.d hIs])],[],[]⟩
abbrev A7i:Tm:=⟨[(2,.k (.hp 2 0 0)),(3,.k (.hp 3 0 0)),(4,.k (.hp 4 0 0)),(5,.k (.hp 5 0 0)),(6,.d hI),(7,.k (.hp 7 0 0)),(20,.d hRs),(21,.d hI),(22,.d hI)],[(2,.var 91 true false [.d .bool,.d hIs,.d hIs,.d hRs,.d hRs,.d .bool,.d hIs,.d hIs]),(3,.var 91 true false [.d .bool,.d hIs,.d hIs,.d hRs,.d hRs,.d .bool,.d hIs,.d hIs]),(4,.var 91 true false [.d .bool,.d .nil,.d .nil,.d .nil,.d .nil,.d .bool,.d .nil,.d .nil]),(5,.var 91 false false [.d .bool,.d hIs,.d hIs,.k (.hw 37),.k (.hw 56),.d .bool,.d hIs,.d hIs]),(7,.var 54 true false [.d .bool,.d hIs,.d hIs]),(37,.arr 54 hR false),(56,.arr 54 hR false)],[],[]⟩
abbrev Aib:Tm:=⟨[(2,.k (.hp 2 0 0)),(3,.k (.hp 3 0 0)),(4,.k (.hp 4 0 0)),(5,.k (.hp 5 0 0)),(6,.d hI),(20,.d hRs),(21,.d hI),(22,.d hI)],[(2,.var 91 true false [.d .bool,.d hIs,.d hIs,.d hRs,.d hRs,.d .bool,.d hIs,.d hIs]),(3,.var 91 true false [.d .bool,.d hIs,.d hIs,.d hRs,.d hRs,.d .bool,.d hIs,.d hIs]),(4,.var 91 true false [.d .bool,.d .nil,.d .nil,.d .nil,.d .nil,.d .bool,.d .nil,.d .nil]),(5,.var 91 false false [.d .bool,.d hIs,.d hIs,.k (.hw 37),.d .nil,.d .bool,.d hIs,.d hIs]),(37,.arr 54 hR false)],[7,36],[]⟩
abbrev A7h:Tm:=⟨[(2,.k (.hp 2 0 0)),(3,.k (.hp 3 0 0)),(4,.k (.hp 4 0 0)),(5,.k (.hp 5 0 0)),(6,.d hI),(20,.d hRs),(21,.d hI),(22,.d hI)],[(2,.var 91 true false [.d .bool,.d hIs,.d hIs,.d hRs,.d hRs,.d .bool,.d hIs,.d hIs]),(3,.var 91 true false [.d .bool,.d hIs,.d hIs,.d hRs,.d hRs,.d .bool,.d hIs,.d hIs]),(4,.var 91 true false [.d .bool,.d .nil,.d .nil,.d .nil,.d .nil,.d .bool,.d .nil,.d .nil]),(5,.var 91 false false [.d .bool,.d hIs,.d hIs,.k (.hw 37),.k (.hw 56),.d .bool,.d hIs,.d hIs]),(37,.arr 54 hR false),(56,.arr 54 hR false)],[7,36],[]⟩
def N7 (n:Nat) (a0 a1:Rq × LR × LR × Rq):Option (Rq × LR × LR × Rq) :=
 ob (f99 n a0.1 a1.1) λa =>
 ob (f99 n a0.2.2.2 a1.2.2.2) λb =>
 bif (decide (0<(a0.2.1.length:Int))) then
  gd (decide (0<(a0.2.1.length:Int))) (
   let c:=a0.2.1.getD 0 (false,[],[])
   gd (decide (0<(a1.2.1.length:Int))) (
    let d:=a1.2.1.getD 0 (false,[],[])
    ob (f99 n c d) λe =>
    gd ((!a0.2.2.1.isEmpty)) (
     gd (decide (0<(a0.2.2.1.length:Int))) (
      let f:=a0.2.2.1.getD 0 (false,[],[])
      gd (decide (0<(a1.2.2.1.length:Int))) (
       let g:=a1.2.2.1.getD 0 (false,[],[])
       ob (f99 n f g) λh =>
       B3o n n a0.2.1 (a0.2.1.length:Int) 1 a0.1.1 a0.1.2.1 a0.1.2.2 a0.2.1 a0.2.2.1 a0.2.2.2.1 a0.2.2.2.2.1 a0.2.2.2.2.2 a1.1.1 a1.1.2.1 a1.1.2.2 a1.2.1 a1.2.2.1 a1.2.2.2.1 a1.2.2.2.2.1 a1.2.2.2.2.2 false false a.1 a.2.1 a.2.2 b.1 b.2.1 b.2.2 [e] [h]
        (λr s i j k l m o p q=>(
         some ((i,j,k),p,q,l,m,o))))))))
 else
  some (a,[],[],b)
def Aae (n:Nat):Ent:=⟨165,[(.st (.pair hR (.pair hRs (.pair hRs hR)))),(.st (.pair hR (.pair hRs (.pair hRs hR))))],[(.st (.pair hR (.pair hRs (.pair hRs hR))))],λx=>N7 n x.1 x.2⟩
def Aaf (α:Type) (n:Nat):D3 α:={ reg:=[(1,⟨0,[],[(4,{ ent:=some (Ad n) }),(9,{ ent:=some (Ad n) })]⟩),(5,⟨0,[],[(8,{ ent:=some (Ad n) }),(9,{ sh:=some hR }),(10,{ sh:=some hR })]⟩),(7,⟨0,[],[(12,{ ent:=some (Ad n) }),(13,{ sh:=some hR }),(14,{ sh:=some hR })]⟩)],join:=[],loop:=[(3,⟨Qk,Ye,A5 (Yd n) n⟩)],any:=[(1,Aid),(5,Aic),(5,A7i),(7,Aib),(7,A7h)] }
set_option maxHeartbeats 8000000 in
theorem B3p (n:Nat):Ag TT ⟨60,[]⟩ [(4,{ ent:=some (Ad n) }),(9,{ ent:=some (Ad n) })] Aid (A4 ((A0 Tryz.f165).at [1,0])):=by
 refine ⟨by kernel_rfl,λw q hq=>?_⟩
 have e:WT [(4,{ ent:=some (Ad n) }),(9,{ ent:=some (Ad n) })] (A7 (A4 ((A0 Tryz.f165).at [1,0])).toList) q=(∃ (y0:HL (Ad n).rs) (q0:List (Nat × RV)),q=(4,.sv (Ae (Ad n).rs y0))::q0 /\ ∃ (y1:HL (Ad n).rs) (q1:List (Nat × RV)),q0=(9,.sv (Ae (Ad n).rs y1))::q1/\q1=[]):=by kernel_rfl
 rw [e] at hq;obtain ⟨y0,q0,rfl,y1,q1,rfl,rfl⟩:=hq
 all_goals exact .inr ⟨12,by kernel_rfl,by kernel_rfl,by kernel_rfl⟩
set_option maxHeartbeats 8000000 in
theorem Aif (n:Nat):Ag TT ⟨60,[]⟩ [(8,{ ent:=some (Ad n) }),(9,{ sh:=some hR }),(10,{ sh:=some hR })] Aic (A4 ((A0 Tryz.f165).at [1,1,0,1,0,0,1,1,0,0,1,0])):=by
 refine ⟨by kernel_rfl,λw q hq=>?_⟩
 have e:WT [(8,{ ent:=some (Ad n) }),(9,{ sh:=some hR }),(10,{ sh:=some hR })] (A7 (A4 ((A0 Tryz.f165).at [1,1,0,1,0,0,1,1,0,0,1,0])).toList) q=(∃ (y0:HL (Ad n).rs) (q0:List (Nat × RV)),q=(8,.sv (Ae (Ad n).rs y0))::q0/\q0=[]):=by kernel_rfl
 rw [e] at hq;obtain ⟨y0,q0,rfl,rfl⟩:=hq
 all_goals exact .inr ⟨10,by kernel_rfl,by kernel_rfl,by kernel_rfl⟩
set_option maxHeartbeats 8000000 in
theorem A7k (n:Nat):Ag TT ⟨60,[]⟩ [(8,{ ent:=some (Ad n) }),(9,{ sh:=some hR }),(10,{ sh:=some hR })] A7i (A4 ((A0 Tryz.f165).at [1,1,0,1,0,0,1,1,0,0,1,0])):=by
 refine ⟨by kernel_rfl,λw q hq=>?_⟩
 have e:WT [(8,{ ent:=some (Ad n) }),(9,{ sh:=some hR }),(10,{ sh:=some hR })] (A7 (A4 ((A0 Tryz.f165).at [1,1,0,1,0,0,1,1,0,0,1,0])).toList) q=(∃ (y0:HL (Ad n).rs) (q0:List (Nat × RV)),q=(8,.sv (Ae (Ad n).rs y0))::q0/\q0=[]):=by kernel_rfl
 rw [e] at hq;obtain ⟨y0,q0,rfl,rfl⟩:=hq
 all_goals exact .inr ⟨10,by kernel_rfl,by kernel_rfl,by kernel_rfl⟩
set_option maxHeartbeats 8000000 in
theorem Aie (n:Nat):Ag TT ⟨60,[]⟩ [(12,{ ent:=some (Ad n) }),(13,{ sh:=some hR }),(14,{ sh:=some hR })] Aib (A4 ((A0 Tryz.f165).at [1,1,0,1,0,0,1,1,0,0,1,1,1,0])):=by
 refine ⟨by kernel_rfl,λw q hq=>?_⟩
 have e:WT [(12,{ ent:=some (Ad n) }),(13,{ sh:=some hR }),(14,{ sh:=some hR })] (A7 (A4 ((A0 Tryz.f165).at [1,1,0,1,0,0,1,1,0,0,1,1,1,0])).toList) q=(∃ (y0:HL (Ad n).rs) (q0:List (Nat × RV)),q=(12,.sv (Ae (Ad n).rs y0))::q0/\q0=[]):=by kernel_rfl
 rw [e] at hq;obtain ⟨y0,q0,rfl,rfl⟩:=hq
 all_goals exact .inr ⟨14,by kernel_rfl,by kernel_rfl,by kernel_rfl⟩
set_option maxHeartbeats 8000000 in
theorem A7j (n:Nat):Ag TT ⟨60,[]⟩ [(12,{ ent:=some (Ad n) }),(13,{ sh:=some hR }),(14,{ sh:=some hR })] A7h (A4 ((A0 Tryz.f165).at [1,1,0,1,0,0,1,1,0,0,1,1,1,0])):=by
 refine ⟨by kernel_rfl,λw q hq=>?_⟩
 have e:WT [(12,{ ent:=some (Ad n) }),(13,{ sh:=some hR }),(14,{ sh:=some hR })] (A7 (A4 ((A0 Tryz.f165).at [1,1,0,1,0,0,1,1,0,0,1,1,1,0])).toList) q=(∃ (y0:HL (Ad n).rs) (q0:List (Nat × RV)),q=(12,.sv (Ae (Ad n).rs y0))::q0/\q0=[]):=by kernel_rfl
 rw [e] at hq;obtain ⟨y0,q0,rfl,rfl⟩:=hq
 all_goals exact .inr ⟨14,by kernel_rfl,by kernel_rfl,by kernel_rfl⟩
theorem A7g (α:Type) (n:Nat):Al PP (Af (Aaf α n).reg):=⟨Cd n,Cd n,Cd n,Cd n,trivial⟩
theorem Arl (α:Type) (n:Nat):D3.OK PP TT ⟨60,[]⟩ (Aaf α n) ((A0 Tryz.f165).at [1,1,0,1,0,0]) :=
 D3.OK.mk3a (A7g α n) (show Aa ((A0 Tryz.f165).at [1,1,0,1,0,0])=[] by kernel_rfl) trivial (show As ((A0 Tryz.f165).at [1,1,0,1,0,0])=[(5,A4 ((A0 Tryz.f165).at [1,1,0,1,0,0,1,1,0,0,1,0])),(7,A4 ((A0 Tryz.f165).at [1,1,0,1,0,0,1,1,0,0,1,1,1,0]))] by kernel_rfl) ⟨⟨Aif n,A7k n,trivial⟩,⟨Aie n,A7j n,trivial⟩,trivial⟩
theorem Alo (α:Type) (n:Nat):LO.Sound (α:=α) PP ⟨60,[]⟩ ⟨Qk,Ye,A5 (Yd n) n⟩ (.loop ((A0 Tryz.f165).at [1,1,0,1,0,0])):=lk (Arl α n) n
theorem B9f (α:Type) (n:Nat):D3.OK PP TT ⟨60,[]⟩ (Aaf α n) (A0 Tryz.f165) :=
 D3.OK.mk3a (A7g α n) (show Aa (A0 Tryz.f165)=[(3,(.loop ((A0 Tryz.f165).at [1,1,0,1,0,0])))] by kernel_rfl) ⟨Ac rfl (Alo α n),trivial⟩ (show As (A0 Tryz.f165)=[(1,A4 ((A0 Tryz.f165).at [1,0])),(5,A4 ((A0 Tryz.f165).at [1,1,0,1,0,0,1,1,0,0,1,0])),(7,A4 ((A0 Tryz.f165).at [1,1,0,1,0,0,1,1,0,0,1,1,1,0]))] by kernel_rfl) ⟨⟨B3p n,trivial⟩,⟨Aif n,A7k n,trivial⟩,⟨Aie n,A7j n,trivial⟩,trivial⟩
theorem Aia (n:Nat):(Aae n).Sound PP:=fk (fn:=Tryz.f165) (B9f _ n)

def f209 (n:Nat) (a0:Int) (a1:Bool × LI × LI × LR × LR × Bool × LI × LI) (a2:Rq):Option Rq :=
 gd (decide (0<=a0)&&decide (a0<(a1.2.2.2.2.1.length:Int))) (
  let a:=a1.2.2.2.2.1.getD a0.toNat (false,[],[])
  ob (f162 n a a2) λb =>
  some b)
def Hu (n:Nat):Ent:=⟨209,[hI,(.ref (.st (.pair .bool (.pair hIs (.pair hIs (.pair hRs (.pair hRs (.pair .bool (.pair hIs hIs))))))))),(.ref hR)],[hR],λx=>f209 n x.1 x.2.1 x.2.2⟩
def Be5 (α:Type) (n:Nat):D3 α:={ reg:=[(1,⟨6,[],[(6,{ ent:=some (A8 n) })]⟩)],join:=[],loop:=[] }
theorem B8f (n:Nat):(Hu n).Sound PP:=B0 (fn:=Tryz.f209) (D:=Be5 _ n) ⟨At n,trivial⟩

def A10 {α:Type} (n:Nat) (g:Rq) (b:(Bool × LI × LI × LR × LR × Bool × LI × LI) × Rq) (c:LR) (h a:Int) (s:Bool) (t u:LI) (v i:LR) (w:Bool) (x y:LI) (j k l:Bool) (m o:LI) (p:Bool) (q r:LI) (d e:LR) (f:Rq->((Bool × LI × LI × LR × LR × Bool × LI × LI) × Rq)->LR->Int->Int->Bool->LI->LI->LR->LR->Bool->LI->LI->Bool->Bool->Bool->LI->LI->Bool->LI->LI->LR->LR->Option α) (k0:Bool->Bool->Bool->LI->LI->Bool->LI->LI->LR->LR->Option α):Option α :=
 bif (decide (a<h)) then
  gd (decide (0<=a)&&decide (a<(c.length:Int))) (
   let z:=c.getD a.toNat (false,[],[])
   ob (f208 n z g) λd0 =>
   gd (decide ((d.length+1)*56<=140737488355328)) (
    gd ((!i.isEmpty)) (
     ob (f209 n a b.1 b.2) λd1 =>
     gd (decide ((e.length+1)*56<=140737488355328)) (
      f g b c h (W (a+1)) s t u v i w x y j k l m o p q r (d++[d0]) (e++[d1])))))
 else
  k0 j k l m o p q r d e
abbrev F4:Tm:=⟨[(3,.d (.clo 208 (.ref hR))),(4,.d (.clo 209 (.pair (.ref (.st (.pair .bool (.pair hIs (.pair hIs (.pair hRs (.pair hRs (.pair .bool (.pair hIs hIs))))))))) (.ref hR)))),(5,.k (.hp 5 0 0)),(10,.k (.hp 10 0 0)),(11,.k (.hp 11 0 0)),(18,.d hRs),(19,.d hI),(20,.d hI)],[(5,.var 91 true false [.d .bool,.d hIs,.d hIs,.d hRs,.d hRs,.d .bool,.d hIs,.d hIs]),(10,.var 91 true false [.d .bool,.d .nil,.d .nil,.d .nil,.d .nil,.d .bool,.d .nil,.d .nil]),(11,.var 91 false false [.d .bool,.d hIs,.d hIs,.k (.hw 31),.k (.hw 42),.d .bool,.d hIs,.d hIs]),(31,.arr 54 hR false),(42,.arr 54 hR false)],[41],[]⟩
abbrev Y1:Tm:=⟨[(10,.k (.hp 10 0 0)),(11,.k (.hp 11 0 0))],[(10,.var 91 true false [.d .bool,.d .nil,.d .nil,.d .nil,.d .nil,.d .bool,.d .nil,.d .nil]),(11,.var 91 false false [.d .bool,.d hIs,.d hIs,.k (.hw 31),.k (.hw 42),.d .bool,.d hIs,.d hIs]),(31,.arr 54 hR false),(42,.arr 54 hR false)],[5],[]⟩
abbrev Hf:List (Exit × Tm):=[(.exit 0,Y1)]
def He {α:Type} (n:Nat) (v:F4.den) (f:F4.den->Option α) (ks:KS α Hf):Option α:=A10 n v.1.1 v.1.2.1 v.1.2.2.2.2.2.1 v.1.2.2.2.2.2.2.1 v.1.2.2.2.2.2.2.2.1 v.2.1.1 v.2.1.2.1 v.2.1.2.2.1 v.2.1.2.2.2.1 v.2.1.2.2.2.2.1 v.2.1.2.2.2.2.2.1 v.2.1.2.2.2.2.2.2.1 v.2.1.2.2.2.2.2.2.2.1 v.2.2.1.1 v.2.2.1.2.2.2.2.2.1 v.2.2.2.1.1 v.2.2.2.1.2.1 v.2.2.2.1.2.2.1 v.2.2.2.1.2.2.2.2.2.1 v.2.2.2.1.2.2.2.2.2.2.1 v.2.2.2.1.2.2.2.2.2.2.2.1 v.2.2.2.2.1 v.2.2.2.2.2.1 (λa b c d e g h i j k l m o p q r s t u w x y z=>f ((a,b,(),(),(),c,d,e,()),((g,h,i,j,k,l,m,o,()),(p,(),(),(),(),q,(),(),()),(r,s,t,(),(),u,w,x,()),y,z,()))) (λw0 w1 w2 w3 w4 w5 w6 w7 w8 w9=>ks.1 (((),(),()),((w0,(),(),(),(),w1,(),(),()),(w2,w3,w4,(),(),w5,w6,w7,()),w8,w9,())))
def A2t {α:Type} (n m:Nat) (a:Rq) (b:(Bool × LI × LI × LR × LR × Bool × LI × LI) × Rq) (c:LR) (d e:Int) (f:Bool) (g h:LI) (i j:LR) (k:Bool) (l o:LI) (p q r:Bool) (s t:LI) (u:Bool) (v x:LI) (y z:LR) (k0:Bool->Bool->Bool->LI->LI->Bool->LI->LI->LR->LR->Option α):Option α:=A5 (He n) m ((a,b,(),(),(),c,d,e,()),((f,g,h,i,j,k,l,o,()),(p,(),(),(),(),q,(),(),()),(r,s,t,(),(),u,v,x,()),y,z,())) (λw=>k0 w.2.1.1 w.2.1.2.2.2.2.2.1 w.2.2.1.1 w.2.2.1.2.1 w.2.2.1.2.2.1 w.2.2.1.2.2.2.2.2.1 w.2.2.1.2.2.2.2.2.2.1 w.2.2.1.2.2.2.2.2.2.2.1 w.2.2.2.1 w.2.2.2.2.1,())
abbrev Ov:Tm:=⟨[(3,.d (.clo 208 (.ref hR))),(4,.d (.clo 209 (.pair (.ref (.st (.pair .bool (.pair hIs (.pair hIs (.pair hRs (.pair hRs (.pair .bool (.pair hIs hIs))))))))) (.ref hR)))),(5,.k (.hp 5 0 0)),(10,.k (.hp 10 0 0)),(11,.k (.hp 11 0 0)),(12,.d hI),(13,.k (.hp 13 0 0)),(18,.d hRs),(19,.d hI),(20,.d hI)],[(5,.var 91 true false [.d .bool,.d hIs,.d hIs,.d hRs,.d hRs,.d .bool,.d hIs,.d hIs]),(10,.var 91 true false [.d .bool,.d .nil,.d .nil,.d .nil,.d .nil,.d .bool,.d .nil,.d .nil]),(11,.var 91 true false [.d .bool,.d hIs,.d hIs,.d .nil,.d .nil,.d .bool,.d hIs,.d hIs]),(13,.var 54 true false [.d .bool,.d hIs,.d hIs])],[6,7],[]⟩
abbrev M1:Tm:=⟨[(3,.d (.clo 208 (.ref hR))),(4,.d (.clo 209 (.pair (.ref (.st (.pair .bool (.pair hIs (.pair hIs (.pair hRs (.pair hRs (.pair .bool (.pair hIs hIs))))))))) (.ref hR)))),(5,.k (.hp 5 0 0)),(10,.k (.hp 10 0 0)),(11,.k (.hp 11 0 0)),(12,.d hI),(13,.k (.hp 13 0 0)),(18,.d hRs),(19,.d hI),(20,.d hI)],[(5,.var 91 true false [.d .bool,.d hIs,.d hIs,.d hRs,.d hRs,.d .bool,.d hIs,.d hIs]),(10,.var 91 true false [.d .bool,.d .nil,.d .nil,.d .nil,.d .nil,.d .bool,.d .nil,.d .nil]),(11,.var 91 false false [.d .bool,.d hIs,.d hIs,.k (.hw 31),.k (.hw 42),.d .bool,.d hIs,.d hIs]),(13,.var 54 true false [.d .bool,.d hIs,.d hIs]),(31,.arr 54 hR false),(42,.arr 54 hR false)],[],[]⟩
abbrev Ou:Tm:=⟨[(3,.d (.clo 208 (.ref hR))),(4,.d (.clo 209 (.pair (.ref (.st (.pair .bool (.pair hIs (.pair hIs (.pair hRs (.pair hRs (.pair .bool (.pair hIs hIs))))))))) (.ref hR)))),(5,.k (.hp 5 0 0)),(10,.k (.hp 10 0 0)),(11,.k (.hp 11 0 0)),(12,.d hI),(18,.d hRs),(19,.d hI),(20,.d hI)],[(5,.var 91 true false [.d .bool,.d hIs,.d hIs,.d hRs,.d hRs,.d .bool,.d hIs,.d hIs]),(10,.var 91 true false [.d .bool,.d .nil,.d .nil,.d .nil,.d .nil,.d .bool,.d .nil,.d .nil]),(11,.var 91 false false [.d .bool,.d hIs,.d hIs,.k (.hw 31),.d .nil,.d .bool,.d hIs,.d hIs]),(31,.arr 54 hR false)],[13,30],[]⟩
abbrev M0:Tm:=⟨[(3,.d (.clo 208 (.ref hR))),(4,.d (.clo 209 (.pair (.ref (.st (.pair .bool (.pair hIs (.pair hIs (.pair hRs (.pair hRs (.pair .bool (.pair hIs hIs))))))))) (.ref hR)))),(5,.k (.hp 5 0 0)),(10,.k (.hp 10 0 0)),(11,.k (.hp 11 0 0)),(12,.d hI),(18,.d hRs),(19,.d hI),(20,.d hI)],[(5,.var 91 true false [.d .bool,.d hIs,.d hIs,.d hRs,.d hRs,.d .bool,.d hIs,.d hIs]),(10,.var 91 true false [.d .bool,.d .nil,.d .nil,.d .nil,.d .nil,.d .bool,.d .nil,.d .nil]),(11,.var 91 false false [.d .bool,.d hIs,.d hIs,.k (.hw 31),.k (.hw 42),.d .bool,.d hIs,.d hIs]),(31,.arr 54 hR false),(42,.arr 54 hR false)],[13,30],[]⟩
def Vy (n:Nat) (a0:Rq × LR × LR × Rq) (a1 a2 a3:Rq) (a4:(Bool × LI × LI × LR × LR × Bool × LI × LI) × Rq):Option (Rq × LR × LR × Rq) :=
 bif (decide (0<(a0.2.1.length:Int))) then
  gd (decide (0<(a0.2.1.length:Int))) (
   let a:=a0.2.1.getD 0 (false,[],[])
   ob (f208 n a a3) λb =>
   gd ((!a0.2.2.1.isEmpty)) (
    ob (f209 n 0 a4.1 a4.2) λc =>
    A2t n n a3 a4 a0.2.1 (a0.2.1.length:Int) 1 a0.1.1 a0.1.2.1 a0.1.2.2 a0.2.1 a0.2.2.1 a0.2.2.2.1 a0.2.2.2.2.1 a0.2.2.2.2.2 false false a1.1 a1.2.1 a1.2.2 a2.1 a2.2.1 a2.2.2 [b] [c]
     (λl m d e f g h i j k=>(
      some ((d,e,f),j,k,g,h,i)))))
 else
  some (a1,[],[],a2)
def Da (n:Nat):Ent:=⟨207,[(.st (.pair hR (.pair hRs (.pair hRs hR)))),hR,hR,(.clo 208 (.ref hR)),(.clo 209 (.pair (.ref (.st (.pair .bool (.pair hIs (.pair hIs (.pair hRs (.pair hRs (.pair .bool (.pair hIs hIs))))))))) (.ref hR)))],[(.st (.pair hR (.pair hRs (.pair hRs hR))))],λx=>Vy n x.1 x.2.1 x.2.2.1 x.2.2.2.1 x.2.2.2.2⟩
def Jl (α:Type) (n:Nat):D3 α:={ reg:=[(5,⟨0,[],[(4,{ ent:=some (Cl n) }),(5,{ sh:=some hR }),(6,{ sh:=some hR })]⟩),(7,⟨0,[],[(4,{ ent:=some (Hu n) }),(5,{ sh:=some hR }),(6,{ sh:=some hR })]⟩)],join:=[],loop:=[(3,⟨F4,Hf,A5 (He n) n⟩)],any:=[(5,Ov),(5,M1),(7,Ou),(7,M0)] }
set_option maxHeartbeats 8000000 in
theorem Ox (n:Nat):Ag TT ⟨46,[]⟩ [(4,{ ent:=some (Cl n) }),(5,{ sh:=some hR }),(6,{ sh:=some hR })] Ov (A4 ((A0 Tryz.f207).at [1,1,0,1,0,0,1,1,0,0,1,0])):=by
 refine ⟨by kernel_rfl,λw q hq=>?_⟩
 have e:WT [(4,{ ent:=some (Cl n) }),(5,{ sh:=some hR }),(6,{ sh:=some hR })] (A7 (A4 ((A0 Tryz.f207).at [1,1,0,1,0,0,1,1,0,0,1,0])).toList) q=(∃ (y0:HL (Cl n).rs) (q0:List (Nat × RV)),q=(4,.sv (Ae (Cl n).rs y0))::q0/\q0=[]):=by kernel_rfl
 rw [e] at hq;obtain ⟨y0,q0,rfl,rfl⟩:=hq
 all_goals exact .inr ⟨6,by kernel_rfl,by kernel_rfl,by kernel_rfl⟩
set_option maxHeartbeats 8000000 in
theorem M3 (n:Nat):Ag TT ⟨46,[]⟩ [(4,{ ent:=some (Cl n) }),(5,{ sh:=some hR }),(6,{ sh:=some hR })] M1 (A4 ((A0 Tryz.f207).at [1,1,0,1,0,0,1,1,0,0,1,0])):=by
 refine ⟨by kernel_rfl,λw q hq=>?_⟩
 have e:WT [(4,{ ent:=some (Cl n) }),(5,{ sh:=some hR }),(6,{ sh:=some hR })] (A7 (A4 ((A0 Tryz.f207).at [1,1,0,1,0,0,1,1,0,0,1,0])).toList) q=(∃ (y0:HL (Cl n).rs) (q0:List (Nat × RV)),q=(4,.sv (Ae (Cl n).rs y0))::q0/\q0=[]):=by kernel_rfl
 rw [e] at hq;obtain ⟨y0,q0,rfl,rfl⟩:=hq
 all_goals exact .inr ⟨6,by kernel_rfl,by kernel_rfl,by kernel_rfl⟩
set_option maxHeartbeats 8000000 in
theorem Ow (n:Nat):Ag TT ⟨46,[]⟩ [(4,{ ent:=some (Hu n) }),(5,{ sh:=some hR }),(6,{ sh:=some hR })] Ou (A4 ((A0 Tryz.f207).at [1,1,0,1,0,0,1,1,0,0,1,1,1,0])):=by
 refine ⟨by kernel_rfl,λw q hq=>?_⟩
 have e:WT [(4,{ ent:=some (Hu n) }),(5,{ sh:=some hR }),(6,{ sh:=some hR })] (A7 (A4 ((A0 Tryz.f207).at [1,1,0,1,0,0,1,1,0,0,1,1,1,0])).toList) q=(∃ (y0:HL (Hu n).rs) (q0:List (Nat × RV)),q=(4,.sv (Ae (Hu n).rs y0))::q0/\q0=[]):=by kernel_rfl
 rw [e] at hq;obtain ⟨y0,q0,rfl,rfl⟩:=hq
 all_goals exact .inr ⟨6,by kernel_rfl,by kernel_rfl,by kernel_rfl⟩
set_option maxHeartbeats 8000000 in
theorem M2 (n:Nat):Ag TT ⟨46,[]⟩ [(4,{ ent:=some (Hu n) }),(5,{ sh:=some hR }),(6,{ sh:=some hR })] M0 (A4 ((A0 Tryz.f207).at [1,1,0,1,0,0,1,1,0,0,1,1,1,0])):=by
 refine ⟨by kernel_rfl,λw q hq=>?_⟩
 have e:WT [(4,{ ent:=some (Hu n) }),(5,{ sh:=some hR }),(6,{ sh:=some hR })] (A7 (A4 ((A0 Tryz.f207).at [1,1,0,1,0,0,1,1,0,0,1,1,1,0])).toList) q=(∃ (y0:HL (Hu n).rs) (q0:List (Nat × RV)),q=(4,.sv (Ae (Hu n).rs y0))::q0/\q0=[]):=by kernel_rfl
 rw [e] at hq;obtain ⟨y0,q0,rfl,rfl⟩:=hq
 all_goals exact .inr ⟨6,by kernel_rfl,by kernel_rfl,by kernel_rfl⟩
theorem Lz (α:Type) (n:Nat):Al PP (Af (Jl α n).reg):=⟨Ani n,B8f n,trivial⟩
theorem Y0 (α:Type) (n:Nat):D3.OK PP TT ⟨46,[]⟩ (Jl α n) ((A0 Tryz.f207).at [1,1,0,1,0,0]) :=
 D3.OK.mk3a (Lz α n) (show Aa ((A0 Tryz.f207).at [1,1,0,1,0,0])=[] by kernel_rfl) trivial (show As ((A0 Tryz.f207).at [1,1,0,1,0,0])=[(5,A4 ((A0 Tryz.f207).at [1,1,0,1,0,0,1,1,0,0,1,0])),(7,A4 ((A0 Tryz.f207).at [1,1,0,1,0,0,1,1,0,0,1,1,1,0]))] by kernel_rfl) ⟨⟨Ox n,M3 n,trivial⟩,⟨Ow n,M2 n,trivial⟩,trivial⟩
theorem Wd (α:Type) (n:Nat):LO.Sound (α:=α) PP ⟨46,[]⟩ ⟨F4,Hf,A5 (He n) n⟩ (.loop ((A0 Tryz.f207).at [1,1,0,1,0,0])):=lk (Y0 α n) n
theorem A6z (α:Type) (n:Nat):D3.OK PP TT ⟨46,[]⟩ (Jl α n) (A0 Tryz.f207) :=
 D3.OK.mk3a (Lz α n) (show Aa (A0 Tryz.f207)=[(3,(.loop ((A0 Tryz.f207).at [1,1,0,1,0,0])))] by kernel_rfl) ⟨Ac rfl (Wd α n),trivial⟩ (show As (A0 Tryz.f207)=[(5,A4 ((A0 Tryz.f207).at [1,1,0,1,0,0,1,1,0,0,1,0])),(7,A4 ((A0 Tryz.f207).at [1,1,0,1,0,0,1,1,0,0,1,1,1,0]))] by kernel_rfl) ⟨⟨Ox n,M3 n,trivial⟩,⟨Ow n,M2 n,trivial⟩,trivial⟩
theorem A2s (n:Nat):(Da n).Sound PP:=fk (fn:=Tryz.f207) (A6z _ n)

abbrev Ai8:Tm:=⟨[(2,.k (.hp 2 0 0)),(3,.k (.hp 3 0 0)),(4,.k (.hp 4 0 0))],[(2,.var 91 true false [.d .bool,.d hIs,.d hIs,.d hRs,.d hRs,.d .bool,.d hIs,.d hIs]),(3,.var 54 true false [.d .bool,.d hIs,.d hIs]),(4,.var 91 true false [.d .bool,.d .nil,.d .nil,.d .nil,.d .nil,.d .bool,.d .nil,.d .nil])],[],[]⟩
def N6 (n:Nat) (a0:Rq × LR × LR × Rq) (a1:Rq):Option (Rq × LR × LR × Rq) :=
 ob (f162 n a0.1 a1) λa =>
 ob (f162 n a0.2.2.2 a1) λb =>
 ob (Vy n a0 a b a1 ((a0.1.1,a0.1.2.1,a0.1.2.2,a0.2),a1)) λc =>
 some c
def Aad (n:Nat):Ent:=⟨166,[(.st (.pair hR (.pair hRs (.pair hRs hR)))),hR],[(.st (.pair hR (.pair hRs (.pair hRs hR))))],λx=>N6 n x.1 x.2⟩
def Anx (α:Type) (n:Nat):D3 α:={ reg:=[(1,⟨0,[],[(4,{ ent:=some (A8 n) }),(8,{ ent:=some (A8 n) }),(9,{ sh:=some (.ref hR) }),(10,{ sh:=some (.pair (.ref (.st (.pair .bool (.pair hIs (.pair hIs (.pair hRs (.pair hRs (.pair .bool (.pair hIs hIs))))))))) (.ref hR)) }),(11,{ ent:=some (Da n) })]⟩)],join:=[],loop:=[],any:=[(1,Ai8)] }
set_option maxHeartbeats 8000000 in
theorem B3n (n:Nat):Ag TT ⟨17,[]⟩ [(4,{ ent:=some (A8 n) }),(8,{ ent:=some (A8 n) }),(9,{ sh:=some (.ref hR) }),(10,{ sh:=some (.pair (.ref (.st (.pair .bool (.pair hIs (.pair hIs (.pair hRs (.pair hRs (.pair .bool (.pair hIs hIs))))))))) (.ref hR)) }),(11,{ ent:=some (Da n) })] Ai8 (A4 ((A0 Tryz.f166).at [1,0])):=by
 refine ⟨by kernel_rfl,λw q hq=>?_⟩
 have e:WT [(4,{ ent:=some (A8 n) }),(8,{ ent:=some (A8 n) }),(9,{ sh:=some (.ref hR) }),(10,{ sh:=some (.pair (.ref (.st (.pair .bool (.pair hIs (.pair hIs (.pair hRs (.pair hRs (.pair .bool (.pair hIs hIs))))))))) (.ref hR)) }),(11,{ ent:=some (Da n) })] (A7 (A4 ((A0 Tryz.f166).at [1,0])).toList) q=(∃ (y0:HL (A8 n).rs) (q0:List (Nat × RV)),q=(4,.sv (Ae (A8 n).rs y0))::q0 /\ ∃ (y1:HL (A8 n).rs) (q1:List (Nat × RV)),q0=(8,.sv (Ae (A8 n).rs y1))::q1 /\ ∃ (y2:HL (Da n).rs) (q2:List (Nat × RV)),q1=(11,.sv (Ae (Da n).rs y2))::q2/\q2=[]):=by kernel_rfl
 rw [e] at hq;obtain ⟨y0,q0,rfl,y1,q1,rfl,y2,q2,rfl,rfl⟩:=hq
 all_goals exact .inl (Ia.mk (by kernel_rfl))
theorem Ark (α:Type) (n:Nat):Al PP (Af (Anx α n).reg):=⟨At n,At n,A2s n,trivial⟩
theorem B9d (α:Type) (n:Nat):D3.OK PP TT ⟨17,[]⟩ (Anx α n) (A0 Tryz.f166) :=
 D3.OK.mk3a (Ark α n) (show Aa (A0 Tryz.f166)=[] by kernel_rfl) trivial (show As (A0 Tryz.f166)=[(1,A4 ((A0 Tryz.f166).at [1,0]))] by kernel_rfl) ⟨⟨B3n n,trivial⟩,trivial⟩
theorem Ai7 (n:Nat):(Aad n).Sound PP:=fk (fn:=Tryz.f166) (B9d _ n)

def Axh {α:Type} (n:Nat) (c:LR) (p a:Int) (d:Bool) (e g:LI) (d6 b:LR) (q:Bool) (r s:LI) (h:Bool) (i j:LI) (k l:LR) (t:Bool) (u v:LI) (w x y:Bool) (z d0:LI) (d1:Bool) (d2 d3:LI) (m o:LR) (f:LR->Int->Int->Bool->LI->LI->LR->LR->Bool->LI->LI->Bool->LI->LI->LR->LR->Bool->LI->LI->Bool->Bool->Bool->LI->LI->Bool->LI->LI->LR->LR->Option α) (k0:Bool->Bool->Bool->LI->LI->Bool->LI->LI->LR->LR->Option α):Option α :=
 bif (decide (a<p)) then
  gd (decide (0<=a)&&decide (a<(c.length:Int))) (
   let d4:=c.getD a.toNat (false,[],[])
   gd (decide (0<=a)&&decide (a<(k.length:Int))) (
    let d5:=k.getD a.toNat (false,[],[])
    ob (f162 n d4 (h,i,j)) λd7 =>
    ob (f162 n (d,e,g) d5) λd8 =>
    ob (f99 n d7 d8) λd9 =>
    gd (decide ((m.length+1)*56<=140737488355328)) (
     gd ((!b.isEmpty)) (
      gd (decide (0<=a)&&decide (a<(b.length:Int))) (
       let e0:=b.getD a.toNat (false,[],[])
       ob (f162 n e0 (h,i,j)) λe1 =>
       ob (f162 n d4 (t,u,v)) λe2 =>
       ob (f99 n e1 e2) λe3 =>
       ob (f162 n (q,r,s) d5) λe4 =>
       ob (f99 n e3 e4) λe5 =>
       gd (decide (0<=a)&&decide (a<(l.length:Int))) (
        let e6:=l.getD a.toNat (false,[],[])
        ob (f162 n (d,e,g) e6) λe7 =>
        ob (f99 n e5 e7) λe8 =>
        gd (decide ((o.length+1)*56<=140737488355328)) (
         f c p (W (a+1)) d e g d6 b q r s h i j k l t u v w x y z d0 d1 d2 d3 (m++[d9]) (o++[e8]))))))))
 else
  k0 w x y z d0 d1 d2 d3 m o
abbrev Qj:Tm:=⟨[(2,.k (.hp 2 0 0)),(3,.k (.hp 3 0 0)),(4,.k (.hp 4 0 0)),(5,.k (.hp 5 0 0)),(28,.d hRs),(29,.d hI),(30,.d hI)],[(2,.var 91 true false [.d .bool,.d hIs,.d hIs,.d hRs,.d hRs,.d .bool,.d hIs,.d hIs]),(3,.var 91 true false [.d .bool,.d hIs,.d hIs,.d hRs,.d hRs,.d .bool,.d hIs,.d hIs]),(4,.var 91 true false [.d .bool,.d .nil,.d .nil,.d .nil,.d .nil,.d .bool,.d .nil,.d .nil]),(5,.var 91 false false [.d .bool,.d hIs,.d hIs,.k (.hw 52),.k (.hw 88),.d .bool,.d hIs,.d hIs]),(52,.arr 54 hR false),(88,.arr 54 hR false)],[8,9,87],[]⟩
abbrev Ari:Tm:=⟨[(4,.k (.hp 4 0 0)),(5,.k (.hp 5 0 0))],[(4,.var 91 true false [.d .bool,.d .nil,.d .nil,.d .nil,.d .nil,.d .bool,.d .nil,.d .nil]),(5,.var 91 false false [.d .bool,.d hIs,.d hIs,.k (.hw 52),.k (.hw 88),.d .bool,.d hIs,.d hIs]),(52,.arr 54 hR false),(88,.arr 54 hR false)],[2,3],[]⟩
abbrev Yc:List (Exit × Tm):=[(.exit 0,Ari)]
def Yb {α:Type} (n:Nat) (v:Qj.den) (f:Qj.den->Option α) (ks:KS α Yc):Option α:=Axh n v.1.2.2.2.2.1 v.1.2.2.2.2.2.1 v.1.2.2.2.2.2.2.1 v.2.1.1 v.2.1.2.1 v.2.1.2.2.1 v.2.1.2.2.2.1 v.2.1.2.2.2.2.1 v.2.1.2.2.2.2.2.1 v.2.1.2.2.2.2.2.2.1 v.2.1.2.2.2.2.2.2.2.1 v.2.2.1.1 v.2.2.1.2.1 v.2.2.1.2.2.1 v.2.2.1.2.2.2.1 v.2.2.1.2.2.2.2.1 v.2.2.1.2.2.2.2.2.1 v.2.2.1.2.2.2.2.2.2.1 v.2.2.1.2.2.2.2.2.2.2.1 v.2.2.2.1.1 v.2.2.2.1.2.2.2.2.2.1 v.2.2.2.2.1.1 v.2.2.2.2.1.2.1 v.2.2.2.2.1.2.2.1 v.2.2.2.2.1.2.2.2.2.2.1 v.2.2.2.2.1.2.2.2.2.2.2.1 v.2.2.2.2.1.2.2.2.2.2.2.2.1 v.2.2.2.2.2.1 v.2.2.2.2.2.2.1 (λa b c d e g h i j k l m o p q r s t u w x y z d0 d1 d2 d3 d4 d5=>f (((),(),(),(),a,b,c,()),((d,e,g,h,i,j,k,l,()),(m,o,p,q,r,s,t,u,()),(w,(),(),(),(),x,(),(),()),(y,z,d0,(),(),d1,d2,d3,()),d4,d5,()))) (λw0 w1 w2 w3 w4 w5 w6 w7 w8 w9=>ks.1 (((),(),()),((w0,(),(),(),(),w1,(),(),()),(w2,w3,w4,(),(),w5,w6,w7,()),w8,w9,())))
def B3k {α:Type} (n m:Nat) (a:LR) (b c:Int) (d:Bool) (e f:LI) (g h:LR) (i:Bool) (j k:LI) (l:Bool) (o p:LI) (q r:LR) (s:Bool) (t u:LI) (v x y:Bool) (z d0:LI) (d1:Bool) (d2 d3:LI) (d4 d5:LR) (k0:Bool->Bool->Bool->LI->LI->Bool->LI->LI->LR->LR->Option α):Option α:=A5 (Yb n) m (((),(),(),(),a,b,c,()),((d,e,f,g,h,i,j,k,()),(l,o,p,q,r,s,t,u,()),(v,(),(),(),(),x,(),(),()),(y,z,d0,(),(),d1,d2,d3,()),d4,d5,())) (λw=>k0 w.2.1.1 w.2.1.2.2.2.2.2.1 w.2.2.1.1 w.2.2.1.2.1 w.2.2.1.2.2.1 w.2.2.1.2.2.2.2.2.1 w.2.2.1.2.2.2.2.2.2.1 w.2.2.1.2.2.2.2.2.2.2.1 w.2.2.2.1 w.2.2.2.2.1,())
abbrev Ai1:Tm:=⟨[(2,.k (.hp 2 0 0)),(3,.k (.hp 3 0 0)),(4,.k (.hp 4 0 0))],[(2,.var 91 true false [.d .bool,.d hIs,.d hIs,.d hRs,.d hRs,.d .bool,.d hIs,.d hIs]),(3,.var 91 true false [.d .bool,.d hIs,.d hIs,.d hRs,.d hRs,.d .bool,.d hIs,.d hIs]),(4,.var 91 true false [.d .bool,.d .nil,.d .nil,.d .nil,.d .nil,.d .bool,.d .nil,.d .nil])],[],[]⟩
abbrev Ai0:Tm:=⟨[(2,.k (.hp 2 0 0)),(3,.k (.hp 3 0 0)),(4,.k (.hp 4 0 0)),(5,.k (.hp 5 0 0)),(6,.d hI),(7,.k (.hp 7 0 0)),(8,.k (.hp 8 0 0)),(28,.d hRs),(29,.d hI),(30,.d hI)],[(2,.var 91 true false [.d .bool,.d hIs,.d hIs,.d hRs,.d hRs,.d .bool,.d hIs,.d hIs]),(3,.var 91 true false [.d .bool,.d hIs,.d hIs,.d hRs,.d hRs,.d .bool,.d hIs,.d hIs]),(4,.var 91 true false [.d .bool,.d .nil,.d .nil,.d .nil,.d .nil,.d .bool,.d .nil,.d .nil]),(5,.var 91 true false [.d .bool,.d hIs,.d hIs,.d .nil,.d .nil,.d .bool,.d hIs,.d hIs]),(7,.var 54 true false [.d .bool,.d hIs,.d hIs]),(8,.var 54 true false [.d .bool,.d hIs,.d hIs])],[],[]⟩
abbrev A7c:Tm:=⟨[(2,.k (.hp 2 0 0)),(3,.k (.hp 3 0 0)),(4,.k (.hp 4 0 0)),(5,.k (.hp 5 0 0)),(6,.d hI),(7,.k (.hp 7 0 0)),(8,.k (.hp 8 0 0)),(28,.d hRs),(29,.d hI),(30,.d hI)],[(2,.var 91 true false [.d .bool,.d hIs,.d hIs,.d hRs,.d hRs,.d .bool,.d hIs,.d hIs]),(3,.var 91 true false [.d .bool,.d hIs,.d hIs,.d hRs,.d hRs,.d .bool,.d hIs,.d hIs]),(4,.var 91 true false [.d .bool,.d .nil,.d .nil,.d .nil,.d .nil,.d .bool,.d .nil,.d .nil]),(5,.var 91 false false [.d .bool,.d hIs,.d hIs,.k (.hw 52),.k (.hw 88),.d .bool,.d hIs,.d hIs]),(7,.var 54 true false [.d .bool,.d hIs,.d hIs]),(8,.var 54 true false [.d .bool,.d hIs,.d hIs]),(52,.arr 54 hR false),(88,.arr 54 hR false)],[],[]⟩
abbrev Ahz:Tm:=⟨[(2,.k (.hp 2 0 0)),(3,.k (.hp 3 0 0)),(4,.k (.hp 4 0 0)),(5,.k (.hp 5 0 0)),(6,.d hI),(7,.k (.hp 7 0 0)),(8,.k (.hp 8 0 0)),(28,.d hRs),(29,.d hI),(30,.d hI)],[(2,.var 91 true false [.d .bool,.d hIs,.d hIs,.d hRs,.d hRs,.d .bool,.d hIs,.d hIs]),(3,.var 91 true false [.d .bool,.d hIs,.d hIs,.d hRs,.d hRs,.d .bool,.d hIs,.d hIs]),(4,.var 91 true false [.d .bool,.d .nil,.d .nil,.d .nil,.d .nil,.d .bool,.d .nil,.d .nil]),(5,.var 91 false false [.d .bool,.d hIs,.d hIs,.k (.hw 52),.d .nil,.d .bool,.d hIs,.d hIs]),(7,.var 54 true false [.d .bool,.d hIs,.d hIs]),(8,.var 54 true false [.d .bool,.d hIs,.d hIs]),(52,.arr 54 hR false)],[51],[]⟩
abbrev A7b:Tm:=⟨[(2,.k (.hp 2 0 0)),(3,.k (.hp 3 0 0)),(4,.k (.hp 4 0 0)),(5,.k (.hp 5 0 0)),(6,.d hI),(7,.k (.hp 7 0 0)),(8,.k (.hp 8 0 0)),(28,.d hRs),(29,.d hI),(30,.d hI)],[(2,.var 91 true false [.d .bool,.d hIs,.d hIs,.d hRs,.d hRs,.d .bool,.d hIs,.d hIs]),(3,.var 91 true false [.d .bool,.d hIs,.d hIs,.d hRs,.d hRs,.d .bool,.d hIs,.d hIs]),(4,.var 91 true false [.d .bool,.d .nil,.d .nil,.d .nil,.d .nil,.d .bool,.d .nil,.d .nil]),(5,.var 91 false false [.d .bool,.d hIs,.d hIs,.k (.hw 52),.k (.hw 88),.d .bool,.d hIs,.d hIs]),(7,.var 54 true false [.d .bool,.d hIs,.d hIs]),(8,.var 54 true false [.d .bool,.d hIs,.d hIs]),(52,.arr 54 hR false),(88,.arr 54 hR false)],[51],[]⟩
abbrev Ahy:Tm:=⟨[(2,.k (.hp 2 0 0)),(3,.k (.hp 3 0 0)),(4,.k (.hp 4 0 0)),(5,.k (.hp 5 0 0)),(6,.d hI),(8,.k (.hp 8 0 0)),(9,.k (.hp 9 0 0)),(28,.d hRs),(29,.d hI),(30,.d hI)],[(2,.var 91 true false [.d .bool,.d hIs,.d hIs,.d hRs,.d hRs,.d .bool,.d hIs,.d hIs]),(3,.var 91 true false [.d .bool,.d hIs,.d hIs,.d hRs,.d hRs,.d .bool,.d hIs,.d hIs]),(4,.var 91 true false [.d .bool,.d .nil,.d .nil,.d .nil,.d .nil,.d .bool,.d .nil,.d .nil]),(5,.var 91 false false [.d .bool,.d hIs,.d hIs,.k (.hw 52),.d .nil,.d .bool,.d hIs,.d hIs]),(8,.var 54 true false [.d .bool,.d hIs,.d hIs]),(9,.var 54 true false [.d .bool,.d hIs,.d hIs]),(52,.arr 54 hR false)],[7],[]⟩
abbrev A7a:Tm:=⟨[(2,.k (.hp 2 0 0)),(3,.k (.hp 3 0 0)),(4,.k (.hp 4 0 0)),(5,.k (.hp 5 0 0)),(6,.d hI),(8,.k (.hp 8 0 0)),(9,.k (.hp 9 0 0)),(28,.d hRs),(29,.d hI),(30,.d hI)],[(2,.var 91 true false [.d .bool,.d hIs,.d hIs,.d hRs,.d hRs,.d .bool,.d hIs,.d hIs]),(3,.var 91 true false [.d .bool,.d hIs,.d hIs,.d hRs,.d hRs,.d .bool,.d hIs,.d hIs]),(4,.var 91 true false [.d .bool,.d .nil,.d .nil,.d .nil,.d .nil,.d .bool,.d .nil,.d .nil]),(5,.var 91 false false [.d .bool,.d hIs,.d hIs,.k (.hw 52),.k (.hw 88),.d .bool,.d hIs,.d hIs]),(8,.var 54 true false [.d .bool,.d hIs,.d hIs]),(9,.var 54 true false [.d .bool,.d hIs,.d hIs]),(52,.arr 54 hR false),(88,.arr 54 hR false)],[7],[]⟩
def N5 (n:Nat) (a0 a1:Rq × LR × LR × Rq):Option (Rq × LR × LR × Rq) :=
 ob (f162 n a0.1 a1.1) λa =>
 ob (f162 n a0.2.2.2 a1.1) λe =>
 ob (f162 n a0.1 a1.2.2.2) λf =>
 ob (f99 n e f) λb =>
 bif (decide (0<(a0.2.1.length:Int))) then
  gd (decide (0<(a0.2.1.length:Int))) (
   let c:=a0.2.1.getD 0 (false,[],[])
   gd (decide (0<(a1.2.1.length:Int))) (
    let d:=a1.2.1.getD 0 (false,[],[])
    ob (f162 n c a1.1) λg =>
    ob (f162 n a0.1 d) λh =>
    ob (f99 n g h) λi =>
    gd ((!a0.2.2.1.isEmpty)) (
     gd (decide (0<(a0.2.2.1.length:Int))) (
      let j:=a0.2.2.1.getD 0 (false,[],[])
      ob (f162 n j a1.1) λk =>
      ob (f162 n c a1.2.2.2) λl =>
      ob (f99 n k l) λm =>
      ob (f162 n a0.2.2.2 d) λo =>
      ob (f99 n m o) λp =>
      gd (decide (0<(a1.2.2.1.length:Int))) (
       let q:=a1.2.2.1.getD 0 (false,[],[])
       ob (f162 n a0.1 q) λr =>
       ob (f99 n p r) λs =>
       B3k n n a0.2.1 (a0.2.1.length:Int) 1 a0.1.1 a0.1.2.1 a0.1.2.2 a0.2.1 a0.2.2.1 a0.2.2.2.1 a0.2.2.2.2.1 a0.2.2.2.2.2 a1.1.1 a1.1.2.1 a1.1.2.2 a1.2.1 a1.2.2.1 a1.2.2.2.1 a1.2.2.2.2.1 a1.2.2.2.2.2 false false a.1 a.2.1 a.2.2 b.1 b.2.1 b.2.2 [i] [s]
        (λd1 d2 t u v w x y z d0=>(
         some ((t,u,v),z,d0,w,x,y))))))))
 else
  some (a,[],[],b)
def Aab (n:Nat):Ent:=⟨167,[(.st (.pair hR (.pair hRs (.pair hRs hR)))),(.st (.pair hR (.pair hRs (.pair hRs hR))))],[(.st (.pair hR (.pair hRs (.pair hRs hR))))],λx=>N5 n x.1 x.2⟩
def Aac (α:Type) (n:Nat):D3 α:={ reg:=[(1,⟨0,[],[(4,{ ent:=some (A8 n) }),(9,{ ent:=some (A8 n) }),(14,{ ent:=some (A8 n) }),(15,{ ent:=some (Ad n) })]⟩),(6,⟨0,[],[(5,{ ent:=some (A8 n) }),(9,{ ent:=some (A8 n) }),(10,{ ent:=some (Ad n) }),(11,{ sh:=some hR }),(12,{ sh:=some hR })]⟩),(8,⟨0,[],[(7,{ ent:=some (A8 n) }),(11,{ ent:=some (A8 n) }),(12,{ ent:=some (Ad n) })]⟩),(9,⟨0,[],[(6,{ ent:=some (A8 n) }),(7,{ ent:=some (Ad n) }),(15,{ ent:=some (A8 n) }),(16,{ ent:=some (Ad n) }),(17,{ sh:=some hR }),(18,{ sh:=some hR })]⟩)],join:=[],loop:=[(3,⟨Qj,Yc,A5 (Yb n) n⟩)],any:=[(1,Ai1),(6,Ai0),(6,A7c),(8,Ahz),(8,A7b),(9,Ahy),(9,A7a)] }
set_option maxHeartbeats 8000000 in
theorem B3l (n:Nat):Ag TT ⟨92,[]⟩ [(4,{ ent:=some (A8 n) }),(9,{ ent:=some (A8 n) }),(14,{ ent:=some (A8 n) }),(15,{ ent:=some (Ad n) })] Ai1 (A4 ((A0 Tryz.f167).at [1,0])):=by
 refine ⟨by kernel_rfl,λw q hq=>?_⟩
 have e:WT [(4,{ ent:=some (A8 n) }),(9,{ ent:=some (A8 n) }),(14,{ ent:=some (A8 n) }),(15,{ ent:=some (Ad n) })] (A7 (A4 ((A0 Tryz.f167).at [1,0])).toList) q=(∃ (y0:HL (A8 n).rs) (q0:List (Nat × RV)),q=(4,.sv (Ae (A8 n).rs y0))::q0 /\ ∃ (y1:HL (A8 n).rs) (q1:List (Nat × RV)),q0=(9,.sv (Ae (A8 n).rs y1))::q1 /\ ∃ (y2:HL (A8 n).rs) (q2:List (Nat × RV)),q1=(14,.sv (Ae (A8 n).rs y2))::q2 /\ ∃ (y3:HL (Ad n).rs) (q3:List (Nat × RV)),q2=(15,.sv (Ae (Ad n).rs y3))::q3/\q3=[]):=by kernel_rfl
 rw [e] at hq;obtain ⟨y0,q0,rfl,y1,q1,rfl,y2,q2,rfl,y3,q3,rfl,rfl⟩:=hq
 all_goals exact .inr ⟨18,by kernel_rfl,by kernel_rfl,by kernel_rfl⟩
set_option maxHeartbeats 8000000 in
theorem Ai4 (n:Nat):Ag TT ⟨92,[]⟩ [(5,{ ent:=some (A8 n) }),(9,{ ent:=some (A8 n) }),(10,{ ent:=some (Ad n) }),(11,{ sh:=some hR }),(12,{ sh:=some hR })] Ai0 (A4 ((A0 Tryz.f167).at [1,1,0,1,0,0,1,1,0,0,1,1,0])):=by
 refine ⟨by kernel_rfl,λw q hq=>?_⟩
 have e:WT [(5,{ ent:=some (A8 n) }),(9,{ ent:=some (A8 n) }),(10,{ ent:=some (Ad n) }),(11,{ sh:=some hR }),(12,{ sh:=some hR })] (A7 (A4 ((A0 Tryz.f167).at [1,1,0,1,0,0,1,1,0,0,1,1,0])).toList) q=(∃ (y0:HL (A8 n).rs) (q0:List (Nat × RV)),q=(5,.sv (Ae (A8 n).rs y0))::q0 /\ ∃ (y1:HL (A8 n).rs) (q1:List (Nat × RV)),q0=(9,.sv (Ae (A8 n).rs y1))::q1 /\ ∃ (y2:HL (Ad n).rs) (q2:List (Nat × RV)),q1=(10,.sv (Ae (Ad n).rs y2))::q2/\q2=[]):=by kernel_rfl
 rw [e] at hq;obtain ⟨y0,q0,rfl,y1,q1,rfl,y2,q2,rfl,rfl⟩:=hq
 all_goals exact .inr ⟨12,by kernel_rfl,by kernel_rfl,by kernel_rfl⟩
set_option maxHeartbeats 8000000 in
theorem A7f (n:Nat):Ag TT ⟨92,[]⟩ [(5,{ ent:=some (A8 n) }),(9,{ ent:=some (A8 n) }),(10,{ ent:=some (Ad n) }),(11,{ sh:=some hR }),(12,{ sh:=some hR })] A7c (A4 ((A0 Tryz.f167).at [1,1,0,1,0,0,1,1,0,0,1,1,0])):=by
 refine ⟨by kernel_rfl,λw q hq=>?_⟩
 have e:WT [(5,{ ent:=some (A8 n) }),(9,{ ent:=some (A8 n) }),(10,{ ent:=some (Ad n) }),(11,{ sh:=some hR }),(12,{ sh:=some hR })] (A7 (A4 ((A0 Tryz.f167).at [1,1,0,1,0,0,1,1,0,0,1,1,0])).toList) q=(∃ (y0:HL (A8 n).rs) (q0:List (Nat × RV)),q=(5,.sv (Ae (A8 n).rs y0))::q0 /\ ∃ (y1:HL (A8 n).rs) (q1:List (Nat × RV)),q0=(9,.sv (Ae (A8 n).rs y1))::q1 /\ ∃ (y2:HL (Ad n).rs) (q2:List (Nat × RV)),q1=(10,.sv (Ae (Ad n).rs y2))::q2/\q2=[]):=by kernel_rfl
 rw [e] at hq;obtain ⟨y0,q0,rfl,y1,q1,rfl,y2,q2,rfl,rfl⟩:=hq
 all_goals exact .inr ⟨12,by kernel_rfl,by kernel_rfl,by kernel_rfl⟩
set_option maxHeartbeats 8000000 in
theorem Ai3 (n:Nat):Ag TT ⟨92,[]⟩ [(7,{ ent:=some (A8 n) }),(11,{ ent:=some (A8 n) }),(12,{ ent:=some (Ad n) })] Ahz (A4 ((A0 Tryz.f167).at [1,1,0,1,0,0,1,1,0,0,1,1,1,1,0,0])):=by
 refine ⟨by kernel_rfl,λw q hq=>?_⟩
 have e:WT [(7,{ ent:=some (A8 n) }),(11,{ ent:=some (A8 n) }),(12,{ ent:=some (Ad n) })] (A7 (A4 ((A0 Tryz.f167).at [1,1,0,1,0,0,1,1,0,0,1,1,1,1,0,0])).toList) q=(∃ (y0:HL (A8 n).rs) (q0:List (Nat × RV)),q=(7,.sv (Ae (A8 n).rs y0))::q0 /\ ∃ (y1:HL (A8 n).rs) (q1:List (Nat × RV)),q0=(11,.sv (Ae (A8 n).rs y1))::q1 /\ ∃ (y2:HL (Ad n).rs) (q2:List (Nat × RV)),q1=(12,.sv (Ae (Ad n).rs y2))::q2/\q2=[]):=by kernel_rfl
 rw [e] at hq;obtain ⟨y0,q0,rfl,y1,q1,rfl,y2,q2,rfl,rfl⟩:=hq
 all_goals exact .inr ⟨14,by kernel_rfl,by kernel_rfl,by kernel_rfl⟩
set_option maxHeartbeats 8000000 in
theorem A7e (n:Nat):Ag TT ⟨92,[]⟩ [(7,{ ent:=some (A8 n) }),(11,{ ent:=some (A8 n) }),(12,{ ent:=some (Ad n) })] A7b (A4 ((A0 Tryz.f167).at [1,1,0,1,0,0,1,1,0,0,1,1,1,1,0,0])):=by
 refine ⟨by kernel_rfl,λw q hq=>?_⟩
 have e:WT [(7,{ ent:=some (A8 n) }),(11,{ ent:=some (A8 n) }),(12,{ ent:=some (Ad n) })] (A7 (A4 ((A0 Tryz.f167).at [1,1,0,1,0,0,1,1,0,0,1,1,1,1,0,0])).toList) q=(∃ (y0:HL (A8 n).rs) (q0:List (Nat × RV)),q=(7,.sv (Ae (A8 n).rs y0))::q0 /\ ∃ (y1:HL (A8 n).rs) (q1:List (Nat × RV)),q0=(11,.sv (Ae (A8 n).rs y1))::q1 /\ ∃ (y2:HL (Ad n).rs) (q2:List (Nat × RV)),q1=(12,.sv (Ae (Ad n).rs y2))::q2/\q2=[]):=by kernel_rfl
 rw [e] at hq;obtain ⟨y0,q0,rfl,y1,q1,rfl,y2,q2,rfl,rfl⟩:=hq
 all_goals exact .inr ⟨14,by kernel_rfl,by kernel_rfl,by kernel_rfl⟩
set_option maxHeartbeats 8000000 in
theorem Ai2 (n:Nat):Ag TT ⟨92,[]⟩ [(6,{ ent:=some (A8 n) }),(7,{ ent:=some (Ad n) }),(15,{ ent:=some (A8 n) }),(16,{ ent:=some (Ad n) }),(17,{ sh:=some hR }),(18,{ sh:=some hR })] Ahy (A4 ((A0 Tryz.f167).at [1,1,0,1,0,0,1,1,0,0,1,1,1,1,0,1])):=by
 refine ⟨by kernel_rfl,λw q hq=>?_⟩
 have e:WT [(6,{ ent:=some (A8 n) }),(7,{ ent:=some (Ad n) }),(15,{ ent:=some (A8 n) }),(16,{ ent:=some (Ad n) }),(17,{ sh:=some hR }),(18,{ sh:=some hR })] (A7 (A4 ((A0 Tryz.f167).at [1,1,0,1,0,0,1,1,0,0,1,1,1,1,0,1])).toList) q=(∃ (y0:HL (A8 n).rs) (q0:List (Nat × RV)),q=(6,.sv (Ae (A8 n).rs y0))::q0 /\ ∃ (y1:HL (Ad n).rs) (q1:List (Nat × RV)),q0=(7,.sv (Ae (Ad n).rs y1))::q1 /\ ∃ (y2:HL (A8 n).rs) (q2:List (Nat × RV)),q1=(15,.sv (Ae (A8 n).rs y2))::q2 /\ ∃ (y3:HL (Ad n).rs) (q3:List (Nat × RV)),q2=(16,.sv (Ae (Ad n).rs y3))::q3/\q3=[]):=by kernel_rfl
 rw [e] at hq;obtain ⟨y0,q0,rfl,y1,q1,rfl,y2,q2,rfl,y3,q3,rfl,rfl⟩:=hq
 all_goals exact .inr ⟨18,by kernel_rfl,by kernel_rfl,by kernel_rfl⟩
set_option maxHeartbeats 8000000 in
theorem A7d (n:Nat):Ag TT ⟨92,[]⟩ [(6,{ ent:=some (A8 n) }),(7,{ ent:=some (Ad n) }),(15,{ ent:=some (A8 n) }),(16,{ ent:=some (Ad n) }),(17,{ sh:=some hR }),(18,{ sh:=some hR })] A7a (A4 ((A0 Tryz.f167).at [1,1,0,1,0,0,1,1,0,0,1,1,1,1,0,1])):=by
 refine ⟨by kernel_rfl,λw q hq=>?_⟩
 have e:WT [(6,{ ent:=some (A8 n) }),(7,{ ent:=some (Ad n) }),(15,{ ent:=some (A8 n) }),(16,{ ent:=some (Ad n) }),(17,{ sh:=some hR }),(18,{ sh:=some hR })] (A7 (A4 ((A0 Tryz.f167).at [1,1,0,1,0,0,1,1,0,0,1,1,1,1,0,1])).toList) q=(∃ (y0:HL (A8 n).rs) (q0:List (Nat × RV)),q=(6,.sv (Ae (A8 n).rs y0))::q0 /\ ∃ (y1:HL (Ad n).rs) (q1:List (Nat × RV)),q0=(7,.sv (Ae (Ad n).rs y1))::q1 /\ ∃ (y2:HL (A8 n).rs) (q2:List (Nat × RV)),q1=(15,.sv (Ae (A8 n).rs y2))::q2 /\ ∃ (y3:HL (Ad n).rs) (q3:List (Nat × RV)),q2=(16,.sv (Ae (Ad n).rs y3))::q3/\q3=[]):=by kernel_rfl
 rw [e] at hq;obtain ⟨y0,q0,rfl,y1,q1,rfl,y2,q2,rfl,y3,q3,rfl,rfl⟩:=hq
 all_goals exact .inr ⟨18,by kernel_rfl,by kernel_rfl,by kernel_rfl⟩
theorem A79 (α:Type) (n:Nat):Al PP (Af (Aac α n).reg):=⟨At n,At n,At n,Cd n,At n,At n,Cd n,At n,At n,Cd n,At n,Cd n,At n,Cd n,trivial⟩
theorem Arh (α:Type) (n:Nat):D3.OK PP TT ⟨92,[]⟩ (Aac α n) ((A0 Tryz.f167).at [1,1,0,1,0,0]) :=
 D3.OK.mk3a (A79 α n) (show Aa ((A0 Tryz.f167).at [1,1,0,1,0,0])=[] by kernel_rfl) trivial (show As ((A0 Tryz.f167).at [1,1,0,1,0,0])=[(6,A4 ((A0 Tryz.f167).at [1,1,0,1,0,0,1,1,0,0,1,1,0])),(8,A4 ((A0 Tryz.f167).at [1,1,0,1,0,0,1,1,0,0,1,1,1,1,0,0])),(9,A4 ((A0 Tryz.f167).at [1,1,0,1,0,0,1,1,0,0,1,1,1,1,0,1]))] by kernel_rfl) ⟨⟨Ai4 n,A7f n,trivial⟩,⟨Ai3 n,A7e n,trivial⟩,⟨Ai2 n,A7d n,trivial⟩,trivial⟩
theorem Aln (α:Type) (n:Nat):LO.Sound (α:=α) PP ⟨92,[]⟩ ⟨Qj,Yc,A5 (Yb n) n⟩ (.loop ((A0 Tryz.f167).at [1,1,0,1,0,0])):=lk (Arh α n) n
theorem B9a (α:Type) (n:Nat):D3.OK PP TT ⟨92,[]⟩ (Aac α n) (A0 Tryz.f167) :=
 D3.OK.mk3a (A79 α n) (show Aa (A0 Tryz.f167)=[(3,(.loop ((A0 Tryz.f167).at [1,1,0,1,0,0])))] by kernel_rfl) ⟨Ac rfl (Aln α n),trivial⟩ (show As (A0 Tryz.f167)=[(1,A4 ((A0 Tryz.f167).at [1,0])),(6,A4 ((A0 Tryz.f167).at [1,1,0,1,0,0,1,1,0,0,1,1,0])),(8,A4 ((A0 Tryz.f167).at [1,1,0,1,0,0,1,1,0,0,1,1,1,1,0,0])),(9,A4 ((A0 Tryz.f167).at [1,1,0,1,0,0,1,1,0,0,1,1,1,1,0,1]))] by kernel_rfl) ⟨⟨B3l n,trivial⟩,⟨Ai4 n,A7f n,trivial⟩,⟨Ai3 n,A7e n,trivial⟩,⟨Ai2 n,A7d n,trivial⟩,trivial⟩
theorem Ahx (n:Nat):(Aab n).Sound PP:=fk (fn:=Tryz.f167) (B9a _ n)

def f222 (n:Nat) (a0:Int) (a1:Rq) (a2:Bool × LI × LI × LR × LR × Bool × LI × LI) (a3:Rq):Option Rq :=
 gd (decide (0<=a0)&&decide (a0<(a2.2.2.2.1.length:Int))) (
  let a:=a2.2.2.2.1.getD a0.toNat (false,[],[])
  ob (f162 n a1 a) λb =>
  ob (f162 n b a2.2.2.2.2.2) λc =>
  gd (decide (0<=a0)&&decide (a0<(a2.2.2.2.2.1.length:Int))) (
   let d:=a2.2.2.2.2.1.getD a0.toNat (false,[],[])
   ob (f162 n a3 d) λe =>
   ob (f99 n c e) λf =>
   some f))
def Ht (n:Nat):Ent:=⟨222,[hI,(.ref hR),(.ref (.st (.pair .bool (.pair hIs (.pair hIs (.pair hRs (.pair hRs (.pair .bool (.pair hIs hIs))))))))),(.ref hR)],[hR],λx=>f222 n x.1 x.2.1 x.2.2.1 x.2.2.2⟩
def Bdt (α:Type) (n:Nat):D3 α:={ reg:=[(1,⟨16,[],[(6,{ ent:=some (A8 n) }),(9,{ ent:=some (A8 n) }),(16,{ ent:=some (A8 n) }),(17,{ ent:=some (Ad n) })]⟩)],join:=[],loop:=[] }
theorem B82 (n:Nat):(Ht n).Sound PP:=B0 (fn:=Tryz.f222) (D:=Bdt _ n) ⟨At n,At n,At n,Cd n,trivial⟩

def A0x {α:Type} (n:Nat) (g:Rq) (b:Rq × (Bool × LI × LI × LR × LR × Bool × LI × LI) × Rq) (c:LR) (h a:Int) (s:Bool) (t u:LI) (v i:LR) (w:Bool) (x y:LI) (j k l:Bool) (m o:LI) (p:Bool) (q r:LI) (d e:LR) (f:Rq->(Rq × (Bool × LI × LI × LR × LR × Bool × LI × LI) × Rq)->LR->Int->Int->Bool->LI->LI->LR->LR->Bool->LI->LI->Bool->Bool->Bool->LI->LI->Bool->LI->LI->LR->LR->Option α) (k0:Bool->Bool->Bool->LI->LI->Bool->LI->LI->LR->LR->Option α):Option α :=
 bif (decide (a<h)) then
  gd (decide (0<=a)&&decide (a<(c.length:Int))) (
   let z:=c.getD a.toNat (false,[],[])
   ob (f221 n z g) λd0 =>
   gd (decide ((d.length+1)*56<=140737488355328)) (
    gd ((!i.isEmpty)) (
     ob (f222 n a b.1 b.2.1 b.2.2) λd1 =>
     gd (decide ((e.length+1)*56<=140737488355328)) (
      f g b c h (W (a+1)) s t u v i w x y j k l m o p q r (d++[d0]) (e++[d1])))))
 else
  k0 j k l m o p q r d e
abbrev F3:Tm:=⟨[(3,.d (.clo 221 (.ref hR))),(4,.d (.clo 222 (.pair (.ref hR) (.pair (.ref (.st (.pair .bool (.pair hIs (.pair hIs (.pair hRs (.pair hRs (.pair .bool (.pair hIs hIs))))))))) (.ref hR))))),(5,.k (.hp 5 0 0)),(10,.k (.hp 10 0 0)),(11,.k (.hp 11 0 0)),(18,.d hRs),(19,.d hI),(20,.d hI)],[(5,.var 91 true false [.d .bool,.d hIs,.d hIs,.d hRs,.d hRs,.d .bool,.d hIs,.d hIs]),(10,.var 91 true false [.d .bool,.d .nil,.d .nil,.d .nil,.d .nil,.d .bool,.d .nil,.d .nil]),(11,.var 91 false false [.d .bool,.d hIs,.d hIs,.k (.hw 31),.k (.hw 42),.d .bool,.d hIs,.d hIs]),(31,.arr 54 hR false),(42,.arr 54 hR false)],[41],[]⟩
abbrev Xx:Tm:=⟨[(10,.k (.hp 10 0 0)),(11,.k (.hp 11 0 0))],[(10,.var 91 true false [.d .bool,.d .nil,.d .nil,.d .nil,.d .nil,.d .bool,.d .nil,.d .nil]),(11,.var 91 false false [.d .bool,.d hIs,.d hIs,.k (.hw 31),.k (.hw 42),.d .bool,.d hIs,.d hIs]),(31,.arr 54 hR false),(42,.arr 54 hR false)],[5],[]⟩
abbrev Hd:List (Exit × Tm):=[(.exit 0,Xx)]
def Hc {α:Type} (n:Nat) (v:F3.den) (f:F3.den->Option α) (ks:KS α Hd):Option α:=A0x n v.1.1 v.1.2.1 v.1.2.2.2.2.2.1 v.1.2.2.2.2.2.2.1 v.1.2.2.2.2.2.2.2.1 v.2.1.1 v.2.1.2.1 v.2.1.2.2.1 v.2.1.2.2.2.1 v.2.1.2.2.2.2.1 v.2.1.2.2.2.2.2.1 v.2.1.2.2.2.2.2.2.1 v.2.1.2.2.2.2.2.2.2.1 v.2.2.1.1 v.2.2.1.2.2.2.2.2.1 v.2.2.2.1.1 v.2.2.2.1.2.1 v.2.2.2.1.2.2.1 v.2.2.2.1.2.2.2.2.2.1 v.2.2.2.1.2.2.2.2.2.2.1 v.2.2.2.1.2.2.2.2.2.2.2.1 v.2.2.2.2.1 v.2.2.2.2.2.1 (λa b c d e g h i j k l m o p q r s t u w x y z=>f ((a,b,(),(),(),c,d,e,()),((g,h,i,j,k,l,m,o,()),(p,(),(),(),(),q,(),(),()),(r,s,t,(),(),u,w,x,()),y,z,()))) (λw0 w1 w2 w3 w4 w5 w6 w7 w8 w9=>ks.1 (((),(),()),((w0,(),(),(),(),w1,(),(),()),(w2,w3,w4,(),(),w5,w6,w7,()),w8,w9,())))
def A2q {α:Type} (n m:Nat) (a:Rq) (b:Rq × (Bool × LI × LI × LR × LR × Bool × LI × LI) × Rq) (c:LR) (d e:Int) (f:Bool) (g h:LI) (i j:LR) (k:Bool) (l o:LI) (p q r:Bool) (s t:LI) (u:Bool) (v x:LI) (y z:LR) (k0:Bool->Bool->Bool->LI->LI->Bool->LI->LI->LR->LR->Option α):Option α:=A5 (Hc n) m ((a,b,(),(),(),c,d,e,()),((f,g,h,i,j,k,l,o,()),(p,(),(),(),(),q,(),(),()),(r,s,t,(),(),u,v,x,()),y,z,())) (λw=>k0 w.2.1.1 w.2.1.2.2.2.2.2.1 w.2.2.1.1 w.2.2.1.2.1 w.2.2.1.2.2.1 w.2.2.1.2.2.2.2.2.1 w.2.2.1.2.2.2.2.2.2.1 w.2.2.1.2.2.2.2.2.2.2.1 w.2.2.2.1 w.2.2.2.2.1,())
abbrev Oq:Tm:=⟨[(3,.d (.clo 221 (.ref hR))),(4,.d (.clo 222 (.pair (.ref hR) (.pair (.ref (.st (.pair .bool (.pair hIs (.pair hIs (.pair hRs (.pair hRs (.pair .bool (.pair hIs hIs))))))))) (.ref hR))))),(5,.k (.hp 5 0 0)),(10,.k (.hp 10 0 0)),(11,.k (.hp 11 0 0)),(12,.d hI),(13,.k (.hp 13 0 0)),(18,.d hRs),(19,.d hI),(20,.d hI)],[(5,.var 91 true false [.d .bool,.d hIs,.d hIs,.d hRs,.d hRs,.d .bool,.d hIs,.d hIs]),(10,.var 91 true false [.d .bool,.d .nil,.d .nil,.d .nil,.d .nil,.d .bool,.d .nil,.d .nil]),(11,.var 91 true false [.d .bool,.d hIs,.d hIs,.d .nil,.d .nil,.d .bool,.d hIs,.d hIs]),(13,.var 54 true false [.d .bool,.d hIs,.d hIs])],[6,7],[]⟩
abbrev Lw:Tm:=⟨[(3,.d (.clo 221 (.ref hR))),(4,.d (.clo 222 (.pair (.ref hR) (.pair (.ref (.st (.pair .bool (.pair hIs (.pair hIs (.pair hRs (.pair hRs (.pair .bool (.pair hIs hIs))))))))) (.ref hR))))),(5,.k (.hp 5 0 0)),(10,.k (.hp 10 0 0)),(11,.k (.hp 11 0 0)),(12,.d hI),(13,.k (.hp 13 0 0)),(18,.d hRs),(19,.d hI),(20,.d hI)],[(5,.var 91 true false [.d .bool,.d hIs,.d hIs,.d hRs,.d hRs,.d .bool,.d hIs,.d hIs]),(10,.var 91 true false [.d .bool,.d .nil,.d .nil,.d .nil,.d .nil,.d .bool,.d .nil,.d .nil]),(11,.var 91 false false [.d .bool,.d hIs,.d hIs,.k (.hw 31),.k (.hw 42),.d .bool,.d hIs,.d hIs]),(13,.var 54 true false [.d .bool,.d hIs,.d hIs]),(31,.arr 54 hR false),(42,.arr 54 hR false)],[],[]⟩
abbrev Oo:Tm:=⟨[(3,.d (.clo 221 (.ref hR))),(4,.d (.clo 222 (.pair (.ref hR) (.pair (.ref (.st (.pair .bool (.pair hIs (.pair hIs (.pair hRs (.pair hRs (.pair .bool (.pair hIs hIs))))))))) (.ref hR))))),(5,.k (.hp 5 0 0)),(10,.k (.hp 10 0 0)),(11,.k (.hp 11 0 0)),(12,.d hI),(18,.d hRs),(19,.d hI),(20,.d hI)],[(5,.var 91 true false [.d .bool,.d hIs,.d hIs,.d hRs,.d hRs,.d .bool,.d hIs,.d hIs]),(10,.var 91 true false [.d .bool,.d .nil,.d .nil,.d .nil,.d .nil,.d .bool,.d .nil,.d .nil]),(11,.var 91 false false [.d .bool,.d hIs,.d hIs,.k (.hw 31),.d .nil,.d .bool,.d hIs,.d hIs]),(31,.arr 54 hR false)],[13,30],[]⟩
abbrev Lv:Tm:=⟨[(3,.d (.clo 221 (.ref hR))),(4,.d (.clo 222 (.pair (.ref hR) (.pair (.ref (.st (.pair .bool (.pair hIs (.pair hIs (.pair hRs (.pair hRs (.pair .bool (.pair hIs hIs))))))))) (.ref hR))))),(5,.k (.hp 5 0 0)),(10,.k (.hp 10 0 0)),(11,.k (.hp 11 0 0)),(12,.d hI),(18,.d hRs),(19,.d hI),(20,.d hI)],[(5,.var 91 true false [.d .bool,.d hIs,.d hIs,.d hRs,.d hRs,.d .bool,.d hIs,.d hIs]),(10,.var 91 true false [.d .bool,.d .nil,.d .nil,.d .nil,.d .nil,.d .bool,.d .nil,.d .nil]),(11,.var 91 false false [.d .bool,.d hIs,.d hIs,.k (.hw 31),.k (.hw 42),.d .bool,.d hIs,.d hIs]),(31,.arr 54 hR false),(42,.arr 54 hR false)],[13,30],[]⟩
def Vx (n:Nat) (a0:Rq × LR × LR × Rq) (a1 a2 a3:Rq) (a4:Rq × (Bool × LI × LI × LR × LR × Bool × LI × LI) × Rq):Option (Rq × LR × LR × Rq) :=
 bif (decide (0<(a0.2.1.length:Int))) then
  gd (decide (0<(a0.2.1.length:Int))) (
   let a:=a0.2.1.getD 0 (false,[],[])
   ob (f221 n a a3) λb =>
   gd ((!a0.2.2.1.isEmpty)) (
    ob (f222 n 0 a4.1 a4.2.1 a4.2.2) λc =>
    A2q n n a3 a4 a0.2.1 (a0.2.1.length:Int) 1 a0.1.1 a0.1.2.1 a0.1.2.2 a0.2.1 a0.2.2.1 a0.2.2.2.1 a0.2.2.2.2.1 a0.2.2.2.2.2 false false a1.1 a1.2.1 a1.2.2 a2.1 a2.2.1 a2.2.2 [b] [c]
     (λl m d e f g h i j k=>(
      some ((d,e,f),j,k,g,h,i)))))
 else
  some (a1,[],[],a2)
def D9 (n:Nat):Ent:=⟨207,[(.st (.pair hR (.pair hRs (.pair hRs hR)))),hR,hR,(.clo 221 (.ref hR)),(.clo 222 (.pair (.ref hR) (.pair (.ref (.st (.pair .bool (.pair hIs (.pair hIs (.pair hRs (.pair hRs (.pair .bool (.pair hIs hIs))))))))) (.ref hR))))],[(.st (.pair hR (.pair hRs (.pair hRs hR))))],λx=>Vx n x.1 x.2.1 x.2.2.1 x.2.2.2.1 x.2.2.2.2⟩
def Jk (α:Type) (n:Nat):D3 α:={ reg:=[(5,⟨0,[],[(4,{ ent:=some (Ck n) }),(5,{ sh:=some hR }),(6,{ sh:=some hR })]⟩),(7,⟨0,[],[(4,{ ent:=some (Ht n) }),(5,{ sh:=some hR }),(6,{ sh:=some hR })]⟩)],join:=[],loop:=[(3,⟨F3,Hd,A5 (Hc n) n⟩)],any:=[(5,Oq),(5,Lw),(7,Oo),(7,Lv)] }
set_option maxHeartbeats 8000000 in
theorem Ot (n:Nat):Ag TT ⟨46,[]⟩ [(4,{ ent:=some (Ck n) }),(5,{ sh:=some hR }),(6,{ sh:=some hR })] Oq (A4 ((A0 Tryz.f207).at [1,1,0,1,0,0,1,1,0,0,1,0])):=by
 refine ⟨by kernel_rfl,λw q hq=>?_⟩
 have e:WT [(4,{ ent:=some (Ck n) }),(5,{ sh:=some hR }),(6,{ sh:=some hR })] (A7 (A4 ((A0 Tryz.f207).at [1,1,0,1,0,0,1,1,0,0,1,0])).toList) q=(∃ (y0:HL (Ck n).rs) (q0:List (Nat × RV)),q=(4,.sv (Ae (Ck n).rs y0))::q0/\q0=[]):=by kernel_rfl
 rw [e] at hq;obtain ⟨y0,q0,rfl,rfl⟩:=hq
 all_goals exact .inr ⟨6,by kernel_rfl,by kernel_rfl,by kernel_rfl⟩
set_option maxHeartbeats 8000000 in
theorem Ly (n:Nat):Ag TT ⟨46,[]⟩ [(4,{ ent:=some (Ck n) }),(5,{ sh:=some hR }),(6,{ sh:=some hR })] Lw (A4 ((A0 Tryz.f207).at [1,1,0,1,0,0,1,1,0,0,1,0])):=by
 refine ⟨by kernel_rfl,λw q hq=>?_⟩
 have e:WT [(4,{ ent:=some (Ck n) }),(5,{ sh:=some hR }),(6,{ sh:=some hR })] (A7 (A4 ((A0 Tryz.f207).at [1,1,0,1,0,0,1,1,0,0,1,0])).toList) q=(∃ (y0:HL (Ck n).rs) (q0:List (Nat × RV)),q=(4,.sv (Ae (Ck n).rs y0))::q0/\q0=[]):=by kernel_rfl
 rw [e] at hq;obtain ⟨y0,q0,rfl,rfl⟩:=hq
 all_goals exact .inr ⟨6,by kernel_rfl,by kernel_rfl,by kernel_rfl⟩
set_option maxHeartbeats 8000000 in
theorem Or (n:Nat):Ag TT ⟨46,[]⟩ [(4,{ ent:=some (Ht n) }),(5,{ sh:=some hR }),(6,{ sh:=some hR })] Oo (A4 ((A0 Tryz.f207).at [1,1,0,1,0,0,1,1,0,0,1,1,1,0])):=by
 refine ⟨by kernel_rfl,λw q hq=>?_⟩
 have e:WT [(4,{ ent:=some (Ht n) }),(5,{ sh:=some hR }),(6,{ sh:=some hR })] (A7 (A4 ((A0 Tryz.f207).at [1,1,0,1,0,0,1,1,0,0,1,1,1,0])).toList) q=(∃ (y0:HL (Ht n).rs) (q0:List (Nat × RV)),q=(4,.sv (Ae (Ht n).rs y0))::q0/\q0=[]):=by kernel_rfl
 rw [e] at hq;obtain ⟨y0,q0,rfl,rfl⟩:=hq
 all_goals exact .inr ⟨6,by kernel_rfl,by kernel_rfl,by kernel_rfl⟩
set_option maxHeartbeats 8000000 in
theorem Lx (n:Nat):Ag TT ⟨46,[]⟩ [(4,{ ent:=some (Ht n) }),(5,{ sh:=some hR }),(6,{ sh:=some hR })] Lv (A4 ((A0 Tryz.f207).at [1,1,0,1,0,0,1,1,0,0,1,1,1,0])):=by
 refine ⟨by kernel_rfl,λw q hq=>?_⟩
 have e:WT [(4,{ ent:=some (Ht n) }),(5,{ sh:=some hR }),(6,{ sh:=some hR })] (A7 (A4 ((A0 Tryz.f207).at [1,1,0,1,0,0,1,1,0,0,1,1,1,0])).toList) q=(∃ (y0:HL (Ht n).rs) (q0:List (Nat × RV)),q=(4,.sv (Ae (Ht n).rs y0))::q0/\q0=[]):=by kernel_rfl
 rw [e] at hq;obtain ⟨y0,q0,rfl,rfl⟩:=hq
 all_goals exact .inr ⟨6,by kernel_rfl,by kernel_rfl,by kernel_rfl⟩
theorem Lu (α:Type) (n:Nat):Al PP (Af (Jk α n).reg):=⟨Ana n,B82 n,trivial⟩
theorem Xw (α:Type) (n:Nat):D3.OK PP TT ⟨46,[]⟩ (Jk α n) ((A0 Tryz.f207).at [1,1,0,1,0,0]) :=
 D3.OK.mk3a (Lu α n) (show Aa ((A0 Tryz.f207).at [1,1,0,1,0,0])=[] by kernel_rfl) trivial (show As ((A0 Tryz.f207).at [1,1,0,1,0,0])=[(5,A4 ((A0 Tryz.f207).at [1,1,0,1,0,0,1,1,0,0,1,0])),(7,A4 ((A0 Tryz.f207).at [1,1,0,1,0,0,1,1,0,0,1,1,1,0]))] by kernel_rfl) ⟨⟨Ot n,Ly n,trivial⟩,⟨Or n,Lx n,trivial⟩,trivial⟩
theorem Wc (α:Type) (n:Nat):LO.Sound (α:=α) PP ⟨46,[]⟩ ⟨F3,Hd,A5 (Hc n) n⟩ (.loop ((A0 Tryz.f207).at [1,1,0,1,0,0])):=lk (Xw α n) n
theorem A6w (α:Type) (n:Nat):D3.OK PP TT ⟨46,[]⟩ (Jk α n) (A0 Tryz.f207) :=
 D3.OK.mk3a (Lu α n) (show Aa (A0 Tryz.f207)=[(3,(.loop ((A0 Tryz.f207).at [1,1,0,1,0,0])))] by kernel_rfl) ⟨Ac rfl (Wc α n),trivial⟩ (show As (A0 Tryz.f207)=[(5,A4 ((A0 Tryz.f207).at [1,1,0,1,0,0,1,1,0,0,1,0])),(7,A4 ((A0 Tryz.f207).at [1,1,0,1,0,0,1,1,0,0,1,1,1,0]))] by kernel_rfl) ⟨⟨Ot n,Ly n,trivial⟩,⟨Or n,Lx n,trivial⟩,trivial⟩
theorem A2p (n:Nat):(D9 n).Sound PP:=fk (fn:=Tryz.f207) (A6w _ n)

abbrev Ahd:Tm:=⟨[(4,.k (.hp 4 0 0)),(5,.k (.hp 5 0 0)),(6,.k (.hp 6 0 0)),(7,.k (.hp 7 0 0)),(8,.k (.hp 8 0 0))],[(4,.var 91 true false [.d .bool,.d hIs,.d hIs,.d hRs,.d hRs,.d .bool,.d hIs,.d hIs]),(5,.var 54 true false [.d .bool,.d hIs,.d hIs]),(6,.var 54 true false [.d .bool,.d hIs,.d hIs]),(7,.var 54 true false [.d .bool,.d hIs,.d hIs]),(8,.var 91 true false [.d .bool,.d .nil,.d .nil,.d .nil,.d .nil,.d .bool,.d .nil,.d .nil])],[],[]⟩
def A00 (n:Nat) (a0:Rq × LR × LR × Rq) (a1 a2 a3:Rq):Option (Rq × LR × LR × Rq) :=
 ob (f162 n a2 a0.2.2.2) λa =>
 ob (Vx n a0 a1 a a2 (a3,(a0.1.1,a0.1.2.1,a0.1.2.2,a0.2),a2)) λb =>
 some b
def Aa1 (n:Nat):Ent:=⟨210,[(.st (.pair hR (.pair hRs (.pair hRs hR)))),hR,hR,hR],[(.st (.pair hR (.pair hRs (.pair hRs hR))))],λx=>A00 n x.1 x.2.1 x.2.2.1 x.2.2.2⟩
def Anf (α:Type) (n:Nat):D3 α:={ reg:=[(1,⟨0,[],[(5,{ ent:=some (A8 n) }),(6,{ sh:=some (.ref hR) }),(7,{ sh:=some (.pair (.ref hR) (.pair (.ref (.st (.pair .bool (.pair hIs (.pair hIs (.pair hRs (.pair hRs (.pair .bool (.pair hIs hIs))))))))) (.ref hR))) }),(8,{ ent:=some (D9 n) })]⟩)],join:=[],loop:=[],any:=[(1,Ahd)] }
set_option maxHeartbeats 8000000 in
theorem B39 (n:Nat):Ag TT ⟨18,[]⟩ [(5,{ ent:=some (A8 n) }),(6,{ sh:=some (.ref hR) }),(7,{ sh:=some (.pair (.ref hR) (.pair (.ref (.st (.pair .bool (.pair hIs (.pair hIs (.pair hRs (.pair hRs (.pair .bool (.pair hIs hIs))))))))) (.ref hR))) }),(8,{ ent:=some (D9 n) })] Ahd (A4 ((A0 Tryz.f210).at [1,0])):=by
 refine ⟨by kernel_rfl,λw q hq=>?_⟩
 have e:WT [(5,{ ent:=some (A8 n) }),(6,{ sh:=some (.ref hR) }),(7,{ sh:=some (.pair (.ref hR) (.pair (.ref (.st (.pair .bool (.pair hIs (.pair hIs (.pair hRs (.pair hRs (.pair .bool (.pair hIs hIs))))))))) (.ref hR))) }),(8,{ ent:=some (D9 n) })] (A7 (A4 ((A0 Tryz.f210).at [1,0])).toList) q=(∃ (y0:HL (A8 n).rs) (q0:List (Nat × RV)),q=(5,.sv (Ae (A8 n).rs y0))::q0 /\ ∃ (y1:HL (D9 n).rs) (q1:List (Nat × RV)),q0=(8,.sv (Ae (D9 n).rs y1))::q1/\q1=[]):=by kernel_rfl
 rw [e] at hq;obtain ⟨y0,q0,rfl,y1,q1,rfl,rfl⟩:=hq
 all_goals exact .inl (Ia.mk (by kernel_rfl))
theorem Aqx (α:Type) (n:Nat):Al PP (Af (Anf α n).reg):=⟨At n,A2p n,trivial⟩
theorem B8d (α:Type) (n:Nat):D3.OK PP TT ⟨18,[]⟩ (Anf α n) (A0 Tryz.f210) :=
 D3.OK.mk3a (Aqx α n) (show Aa (A0 Tryz.f210)=[] by kernel_rfl) trivial (show As (A0 Tryz.f210)=[(1,A4 ((A0 Tryz.f210).at [1,0]))] by kernel_rfl) ⟨⟨B39 n,trivial⟩,trivial⟩
theorem Ahc (n:Nat):(Aa1 n).Sound PP:=fk (fn:=Tryz.f210) (B8d _ n)

end Go.Ev
