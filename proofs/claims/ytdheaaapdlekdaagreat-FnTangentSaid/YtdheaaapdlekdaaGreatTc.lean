/- DERIVED. What the functions compute, and that they do. -/
import Derived.Test.YtdheaaapdlekdaaGreatTb

set_option linter.all false
set_option linter.unusedVariables false
set_option linter.unusedSimpArgs false

namespace Go.Ev
open Go Go.Proofs Go.RowKit Go.Shelf
abbrev Ahw:Tm:=⟨[(1,.k (.hp 1 0 0)),(2,.k (.hp 2 0 0))],[(1,.var 91 true false [.d .bool,.d hIs,.d hIs,.d hRs,.d hRs,.d .bool,.d hIs,.d hIs]),(2,.var 91 true false [.d .bool,.d .nil,.d .nil,.d .nil,.d .nil,.d .bool,.d .nil,.d .nil])],[],[]⟩
def A09 (n:Nat) (a0:Rq × LR × LR × Rq):Option (Rq × LR × LR × Rq) :=
 ob (f97 n 1) λc =>
 ob (f206 n c a0.1) λa =>
 ob (f162 n a a) λb =>
 ob (f158 n b) λd =>
 ob (f162 n b a) λe =>
 ob (f97 n 2) λf =>
 ob (f162 n e f) λg =>
 ob (A00 n a0 a d g) λh =>
 some h
def Anq (n:Nat):Ent:=⟨169,[(.st (.pair hR (.pair hRs (.pair hRs hR))))],[(.st (.pair hR (.pair hRs (.pair hRs hR))))],λx=>A09 n x⟩
def Anr (α:Type) (n:Nat):D3 α:={ reg:=[(1,⟨0,[],[(0,{ ent:=some (Au n) }),(3,{ ent:=some (Df n) })]⟩),(2,⟨0,[],[(2,{ ent:=some (A8 n) })]⟩),(3,⟨9,[],[(3,{ ent:=some (Hz n) }),(6,{ ent:=some (A8 n) }),(7,{ ent:=some (Au n) }),(8,{ ent:=some (A8 n) }),(9,{ ent:=some (Aa1 n) })]⟩)],join:=[],loop:=[],any:=[(1,Ahw)] }
set_option maxHeartbeats 8000000 in
theorem B3j (n:Nat):Ag TT ⟨22,[]⟩ [(0,{ ent:=some (Au n) }),(3,{ ent:=some (Df n) })] Ahw (A4 ((A0 Tryz.f169).at [1,0])):=by
 refine ⟨by kernel_rfl,λw q hq=>?_⟩
 have e:WT [(0,{ ent:=some (Au n) }),(3,{ ent:=some (Df n) })] (A7 (A4 ((A0 Tryz.f169).at [1,0])).toList) q=(∃ (y0:HL (Au n).rs) (q0:List (Nat × RV)),q=(0,.sv (Ae (Au n).rs y0))::q0 /\ ∃ (y1:HL (Df n).rs) (q1:List (Nat × RV)),q0=(3,.sv (Ae (Df n).rs y1))::q1/\q1=[]):=by kernel_rfl
 rw [e] at hq;obtain ⟨y0,q0,rfl,y1,q1,rfl,rfl⟩:=hq
 all_goals exact .inr ⟨5,by kernel_rfl,by kernel_rfl,by kernel_rfl⟩
theorem Arg (α:Type) (n:Nat):Al PP (Af (Anr α n).reg):=⟨B4 n,Aa4 n,At n,H0 n,At n,B4 n,At n,Ahc n,trivial⟩
theorem B97 (α:Type) (n:Nat):D3.OK PP TT ⟨22,[]⟩ (Anr α n) (A0 Tryz.f169) :=
 D3.OK.mk3a (Arg α n) (show Aa (A0 Tryz.f169)=[] by kernel_rfl) trivial (show As (A0 Tryz.f169)=[(1,A4 ((A0 Tryz.f169).at [1,0])),(3,A4 ((A0 Tryz.f169).at [1,1,1,0]))] by kernel_rfl) ⟨⟨B3j n,trivial⟩,trivial,trivial⟩
theorem B3i (n:Nat):(Anq n).Sound PP:=fk (fn:=Tryz.f169) (B97 _ n)

abbrev Aio:Tm:=⟨[(4,.k (.hp 4 0 0)),(5,.k (.hp 5 0 0)),(6,.k (.hp 6 0 0)),(7,.k (.hp 7 0 0))],[(4,.var 54 true false [.d .bool,.d .nil,.d .nil]),(5,.var 54 true false [.d .bool,.d .nil,.d .nil]),(6,.var 54 true false [.d .bool,.d hIs,.d hIs]),(7,.var 54 true false [.d .bool,.d hIs,.d hIs])],[2],[]⟩
abbrev B42:Tm:=⟨[(1,.d hI),(2,.k (.hp 2 0 0)),(4,.k (.hp 4 0 0)),(5,.k (.hp 5 0 0)),(6,.k (.hp 6 0 0)),(7,.k (.hp 7 0 0))],[(2,.var 91 true false [.d .bool,.d hIs,.d hIs,.d hRs,.d hRs,.d .bool,.d hIs,.d hIs]),(4,.var 54 true false [.d .bool,.d .nil,.d .nil]),(5,.var 54 true false [.d .bool,.d .nil,.d .nil]),(6,.var 54 true false [.d .bool,.d hIs,.d hIs]),(7,.var 54 true false [.d .bool,.d hIs,.d hIs])],[],[]⟩
def Aeh (n:Nat) (a0:Rq × LR × LR × Rq) (a1:Int):Option (Rq × Rq) :=
 ob (f97 n 0) λa =>
 ob (f97 n 0) λg =>
 let c:=λ(d:Bool) (e:LI) (f:LI)=>(
  bif (decide (a1>=2)) then
   ob (f170 n a0.1 (W (a1-2))) λh =>
   ob (f97 n (W (a1*(W (a1-1))))) λi =>
   ob (f162 n h i) λj =>
   some ((d,e,f),j)
  else
   some ((d,e,f),g))
 bif (decide (a1>=1)) then
  ob (f170 n a0.1 (W (a1-1))) λk =>
  ob (f97 n a1) λl =>
  ob (f162 n k l) λb =>
  c b.1 b.2.1 b.2.2
 else
  c a.1 a.2.1 a.2.2
def Aoc (n:Nat):Ent:=⟨161,[(.st (.pair hR (.pair hRs (.pair hRs hR)))),hI],[hR,hR],λx=>Aeh n x.1 x.2⟩
def Aod (α:Type) (n:Nat):D3 α:={ reg:=[(1,⟨0,[],[(0,{ ent:=some (Au n) }),(1,{ ent:=some (Au n) })]⟩),(3,⟨0,[],[(4,{ ent:=some (Gi n) }),(6,{ ent:=some (Au n) }),(7,{ ent:=some (A8 n) })]⟩),(5,⟨0,[],[(4,{ ent:=some (Gi n) }),(9,{ ent:=some (Au n) }),(10,{ ent:=some (A8 n) })]⟩)],join:=[(4,B42)],loop:=[],any:=[(6,Aio)] }
set_option maxHeartbeats 8000000 in
theorem B43 (n:Nat):Ag TT ⟨35,[]⟩ [] Aio (A4 ((A0 Tryz.f161).at [1,1,1,1,0])):=by
 refine ⟨by kernel_rfl,λw q hq=>?_⟩
 have e:WT [] (A7 (A4 ((A0 Tryz.f161).at [1,1,1,1,0])).toList) q=(q=[]):=by kernel_rfl
 rw [e] at hq;obtain rfl:=hq
 all_goals exact .inr ⟨3,by kernel_rfl,by kernel_rfl,by kernel_rfl⟩
theorem Ars (α:Type) (n:Nat):Al PP (Af (Aod α n).reg):=⟨B4 n,B4 n,G1 n,B4 n,At n,G1 n,B4 n,At n,trivial⟩
theorem B9q (α:Type) (n:Nat):D3.OK PP TT ⟨35,[]⟩ (Aod α n) (A0 Tryz.f161) :=
 D3.OK.mk3a (Ars α n) (show Aa (A0 Tryz.f161)=[] by kernel_rfl) trivial (show As (A0 Tryz.f161)=[(6,A4 ((A0 Tryz.f161).at [1,1,1,1,0]))] by kernel_rfl) ⟨⟨B43 n,trivial⟩,trivial⟩
theorem B41 (n:Nat):(Aoc n).Sound PP:=fk (fn:=Tryz.f161) (B9q _ n)

def A08 (n:Nat) (a0:Rq × LR × LR × Rq) (a1:Int):Option (Rq × LR × LR × Rq) :=
 ob (Aeh n a0 a1) λa =>
 ob (f170 n a0.1 a1) λb =>
 ob (A00 n a0 b a.1 a.2) λc =>
 some c
def Anp (n:Nat):Ent:=⟨171,[(.st (.pair hR (.pair hRs (.pair hRs hR)))),hI],[(.st (.pair hR (.pair hRs (.pair hRs hR))))],λx=>A08 n x.1 x.2⟩
def B95 (α:Type) (n:Nat):D3 α:={ reg:=[(1,⟨0,[],[(2,{ ent:=some (Aoc n) })]⟩),(2,⟨7,[],[(4,{ ent:=some (Gi n) }),(7,{ ent:=some (Aa1 n) })]⟩)],join:=[],loop:=[] }
theorem B3h (n:Nat):(Anp n).Sound PP:=B0 (fn:=Tryz.f171) (D:=B95 _ n) ⟨B41 n,G1 n,Ahc n,trivial⟩

abbrev Ad7:Tm:=⟨[(2,.d hRs),(3,.k (.hw 1003)),(4,.k (.hp 4 0 0)),(5,.k (.hp 5 0 0)),(8,.k (.hp 8 0 0)),(10,.k (.hp 10 0 0)),(11,.k (.hp 11 0 0))],[(4,.var 94 true false [.d hI,.d hRs]),(5,.var 85 true false [.d hI,.d hI,.d hI,.d hI]),(8,.var 91 true false [.d .bool,.d .nil,.d .nil,.d .nil,.d .nil,.d .bool,.d .nil,.d .nil]),(10,.var 91 true false [.d .bool,.d .nil,.d .nil,.d .nil,.d .nil,.d .bool,.d .nil,.d .nil]),(11,.var 91 true false [.d .bool,.d .nil,.d .nil,.d .nil,.d .nil,.d .bool,.d .nil,.d .nil]),(1003,.arr 91 (.st (.pair hR (.pair hRs (.pair hRs hR)))) false)],[],[]⟩
abbrev Azr:Tm:=⟨[(2,.d hRs),(4,.k (.hp 4 0 0)),(5,.k (.hp 5 0 0)),(8,.k (.hp 8 0 0)),(10,.k (.hp 10 0 0)),(11,.k (.hp 11 0 0))],[(4,.var 94 true false [.d hI,.d hRs]),(5,.var 85 true false [.d hI,.d hI,.d hI,.d hI]),(8,.var 91 true false [.d .bool,.d .nil,.d .nil,.d .nil,.d .nil,.d .bool,.d .nil,.d .nil]),(10,.var 91 true false [.d .bool,.d hIs,.d hIs,.d hRs,.d hRs,.d .bool,.d hIs,.d hIs]),(11,.var 91 true false [.d .bool,.d hIs,.d hIs,.d hRs,.d hRs,.d .bool,.d hIs,.d hIs]),(1003,.arr 91 (.st (.pair hR (.pair hRs (.pair hRs hR)))) false)],[],[]⟩
def Yp (n:Nat) (a0:Int × LR) (a1:Nq) (a2:LR) (a3:List (Rq × LR × LR × Rq)):Option (((Rq × LR × LR × Rq) × Int) × (List (Rq × LR × LR × Rq))) :=
 let t:=λ(c:Bool) (d:LI) (e:LI) (f:LR) (g:LR) (h:Bool) (i:LI) (j:LI) (k:Bool) (l:LI) (m:LI) (o:LR) (p:LR) (q:Bool) (r:LI) (s:LI)=>(
  bif (a1.1==1) then
   ob (f97 n a1.2.2.2) λu =>
   ob (Aeg n a0 u) λv =>
   some ((v,0),a3)
  else
   bif (a1.1==2) then
    gd (decide (0<=a1.2.2.2)&&decide (a1.2.2.2<(a2.length:Int))) (
     let w:=a2.getD a1.2.2.2.toNat (false,[],[])
     ob (Aef n a0 w a1.2.2.2) λx =>
     some ((x,0),a3))
   else
    bif (a1.1==3) then
     ob (N7 n ((c,d,e),f,g,h,i,j) ((k,l,m),o,p,q,r,s)) λy =>
     some ((y,0),a3)
    else
     bif (a1.1==4) then
      ob (f97 n (-1)) λz =>
      ob (N6 n ((k,l,m),o,p,q,r,s) z) λd0 =>
      ob (N7 n ((c,d,e),f,g,h,i,j) d0) λd1 =>
      some ((d1,0),a3)
     else
      bif (a1.1==5) then
       ob (N5 n ((c,d,e),f,g,h,i,j) ((k,l,m),o,p,q,r,s)) λd2 =>
       some ((d2,0),a3)
      else
       bif (a1.1==6) then
        ob (f168 n (k,l,m)) λd3 =>
        bif d3 then
         some ((((false,[],[]),[],[],false,[],[]),10),a3)
        else
         ob (A09 n ((k,l,m),o,p,q,r,s)) λd4 =>
         ob (N5 n ((c,d,e),f,g,h,i,j) d4) λd5 =>
         some ((d5,0),a3)
       else
        bif (a1.1==7) then
         ob (f97 n (-1)) λd6 =>
         ob (N6 n ((c,d,e),f,g,h,i,j) d6) λd7 =>
         some ((d7,0),a3)
        else
         ob (f170 n (c,d,e) a1.2.2.2) λd8 =>
         ob (f98 n d8) λd9 =>
         bif (!d9) then
          some ((((false,[],[]),[],[],false,[],[]),7),a3)
         else
          ob (A08 n ((c,d,e),f,g,h,i,j) a1.2.2.2) λe0 =>
          some ((e0,0),a3))
 ob (f61 n a1) λe1 =>
 bif (decide (e1>0)) then
  gd (decide (0<=a1.2.1)&&decide (a1.2.1<(a3.length:Int))) (
   gd (decide (a1.2.1.toNat<a3.length)) (
    let a:=a3.getD a1.2.1.toNat ((false,[],[]),[],[],(false,[],[]))
    gd (decide (0<=a1.2.2.1)&&decide (a1.2.2.1<(a3.length:Int))) (
     gd (decide (a1.2.2.1.toNat<a3.length)) (
      let b:=a3.getD a1.2.2.1.toNat ((false,[],[]),[],[],(false,[],[]))
      t a.1.1 a.1.2.1 a.1.2.2 a.2.1 a.2.2.1 a.2.2.2.1 a.2.2.2.2.1 a.2.2.2.2.2 b.1.1 b.1.2.1 b.1.2.2 b.2.1 b.2.2.1 b.2.2.2.1 b.2.2.2.2.1 b.2.2.2.2.2))))
 else
  t false [] [] [] [] false [] [] false [] [] [] [] false [] []
def Ajm (n:Nat):Ent3:=⟨101,[.im (.st (.pair hI hRs)),.im hN,.im hRs,.one (.own 91 (.st (.pair hR (.pair hRs (.pair hRs hR)))))],[[.im (.st (.pair hR (.pair hRs (.pair hRs hR)))),.im hI]],λx=>Yp n x.1 x.2.1 x.2.2.1 x.2.2.2,[]⟩
def Ajn (α:Type) (n:Nat):D3 α:={ reg:=[(2,⟨0,[],[(1,{ ent:=some (A6n n) })]⟩),(6,⟨4,[],[(3,{ ent:=some (Au n) }),(4,{ ent:=some (Ao5 n) })]⟩),(8,⟨8,[],[(8,{ ent:=some (Ao4 n) })]⟩),(10,⟨0,[],[(2,{ ent:=some (Aae n) })]⟩),(12,⟨4,[],[(2,{ ent:=some (Au n) }),(3,{ ent:=some (Aad n) }),(4,{ ent:=some (Aae n) })]⟩),(14,⟨0,[],[(2,{ ent:=some (Aab n) })]⟩),(16,⟨0,[],[(2,{ ent:=some (Pb n) })]⟩),(18,⟨3,[],[(2,{ ent:=some (Anq n) }),(3,{ ent:=some (Aab n) })]⟩),(20,⟨2,[],[(1,{ ent:=some (Au n) }),(2,{ ent:=some (Aad n) })]⟩),(21,⟨0,[],[(4,{ ent:=some (Gi n) }),(5,{ ent:=some (N0 n) })]⟩),(23,⟨0,[],[(3,{ ent:=some (Anp n) })]⟩)],join:=[(4,Azr)],loop:=[],any:=[(3,Ad7)] }
set_option maxHeartbeats 8000000 in
theorem Azs (n:Nat):Ag TT ⟨89,[]⟩ [] Ad7 (A4 ((A0 Tryz.f101).at [1,1,0,1,0])):=by
 refine ⟨by kernel_rfl,λw q hq=>?_⟩
 have e:WT [] (A7 (A4 ((A0 Tryz.f101).at [1,1,0,1,0])).toList) q=(q=[]):=by kernel_rfl
 rw [e] at hq;obtain rfl:=hq
 all_goals exact .inr ⟨11,by kernel_rfl,by kernel_rfl,by kernel_rfl⟩
theorem Alw (α:Type) (n:Nat):Al PP (Af (Ajn α n).reg):=⟨A6m n,B4 n,B3t n,B3r n,Aia n,B4 n,Ai7 n,Aia n,Ahx n,Nv n,B3i n,Ahx n,B4 n,Ai7 n,G1 n,Lt n,B3h n,trivial⟩
theorem B4t (α:Type) (n:Nat):D3.OK PP TT ⟨89,[]⟩ (Ajn α n) (A0 Tryz.f101) :=
 D3.OK.mk3a (Alw α n) (show Aa (A0 Tryz.f101)=[] by kernel_rfl) trivial (show As (A0 Tryz.f101)=[(3,A4 ((A0 Tryz.f101).at [1,1,0,1,0])),(6,A4 ((A0 Tryz.f101).at [1,1,1,0,1,0,1,0,0])),(8,A4 ((A0 Tryz.f101).at [1,1,1,0,1,0,1,1,1,0,0])),(12,A4 ((A0 Tryz.f101).at [1,1,1,0,1,0,1,1,1,1,1,1,1,0,0])),(18,A4 ((A0 Tryz.f101).at [1,1,1,0,1,0,1,1,1,1,1,1,1,1,1,1,1,0,1,0])),(20,A4 ((A0 Tryz.f101).at [1,1,1,0,1,0,1,1,1,1,1,1,1,1,1,1,1,1,1,0,0]))] by kernel_rfl) ⟨⟨Azs n,trivial⟩,trivial,trivial,trivial,trivial,trivial,trivial⟩
theorem Azq (n:Nat):(Ajm n).Sound PP:=Vt (fn:=Tryz.f101) (B4t _ n)

def f103 (n:Nat) (a0:Int) (a1:List (Rq × LR × LR × Rq)):Option Rq :=
 gd (decide (0<=a0)&&decide (a0<(a1.length:Int))) (
  let a:=a1.getD a0.toNat ((false,[],[]),[],[],(false,[],[]))
  some a.2.2.2)
def Azp (n:Nat):Ent:=⟨103,[hI,(.ref (.sl (.st (.pair hR (.pair hRs (.pair hRs hR))))))],[hR],λx=>f103 n x.1 x.2⟩
def Bg7 (α:Type) (n:Nat):D3 α:={ reg:=[],join:=[],loop:=[] }
theorem Bb3 (n:Nat):(Azp n).Sound PP:=B0 (fn:=Tryz.f103) (D:=Bg7 _ n) trivial

def Po {α:Type} (n:Nat) (c:List (Rq × LR × LR × Rq)) (d a:Int) (b:LR) (f:(List (Rq × LR × LR × Rq))->Int->Int->LR->Option α) (k0:LR->Option α):Option α :=
 bif (decide (a<d)) then
  ob (f103 n a c) λe =>
  ob (f73 n e) λg =>
  gd (decide ((b.length+1)*56<=140737488355328)) (
   f c d (W (a+1)) (b++[g]))
 else
  k0 b
abbrev Jr:Tm:=⟨[(1,.d (.clo 103 (.ref (.sl (.st (.pair hR (.pair hRs (.pair hRs hR)))))))),(5,.k (.hw 7)),(8,.d hI),(9,.d hI)],[(7,.arr 54 hR false)],[17],[]⟩
abbrev Ae2:Tm:=⟨[(5,.k (.hw 7))],[(7,.arr 54 hR false)],[],[]⟩
abbrev Pn:List (Exit × Tm):=[(.exit 0,Ae2)]
def Pm {α:Type} (n:Nat) (v:Jr.den) (f:Jr.den->Option α) (ks:KS α Pn):Option α:=Po n v.1.1 v.1.2.2.1 v.1.2.2.2.1 v.2.1 (λa b c d=>f ((a,(),b,c,()),(d,()))) (λw0=>ks.1 (((),()),(w0,())))
def I1 {α:Type} (n m:Nat) (a:List (Rq × LR × LR × Rq)) (b c:Int) (d:LR) (k0:LR->Option α):Option α:=A5 (Pm n) m ((a,(),b,c,()),(d,())) (λw=>k0 w.2.1,())
theorem Ae1 {α n m a b c d k0}:I1 (α:=α) n (m+1) a b c d k0=Po n a b c d (λa b c d=>I1 n m a b c d k0) k0:=rfl
def Uz (n:Nat) (a0:Int) (a1:List (Rq × LR × LR × Rq)):Option LR :=
 I1 n n a1 a0 0 []
  (λa=>(
   some a))
def A7w (n:Nat):Ent:=⟨102,[hI,(.clo 103 (.ref (.sl (.st (.pair hR (.pair hRs (.pair hRs hR)))))))],[hRs],λx=>Uz n x.1 x.2⟩
def Uy (α:Type) (n:Nat):D3 α:={ reg:=[(1,⟨0,[],[(0,{ sh:=some hR })]⟩),(5,⟨0,[],[(3,{ ent:=some (Azp n) }),(4,{ ent:=some (Aq9 n) }),(5,{ sh:=some hR })]⟩)],join:=[],loop:=[(3,⟨Jr,Pn,A5 (Pm n) n⟩)] }
theorem W9 (α:Type) (n:Nat):Al PP (Af (Uy α n).reg):=⟨Bb3 n,Avb n,trivial⟩
theorem Aao (α:Type) (n:Nat):LO.Sound (α:=α) PP ⟨21,[]⟩ ⟨Jr,Pn,A5 (Pm n) n⟩ (.loop ((A0 Tryz.f102).at [1,1,0,1,0,0])):=C1 (D:=Uy α n) (W9 α n) n
theorem Asm (α:Type) (n:Nat):D3.OK PP TT ⟨21,[]⟩ (Uy α n) (A0 Tryz.f102) :=
 D3.OK.mk3 (W9 α n) (show Aa (A0 Tryz.f102)=[(3,(.loop ((A0 Tryz.f102).at [1,1,0,1,0,0])))] by kernel_rfl) ⟨Ac rfl (Aao α n),trivial⟩
theorem Alv (n:Nat):(A7w n).Sound PP:=fk (fn:=Tryz.f102) (Asm _ n)

def A9t {α:Type} (n:Nat) (e:LR) (c:LN) (g a h:Int) (i:LR) (d:List (Rq × LR × LR × Rq)) (f:LR->LN->Int->Int->Int->LR->(List (Rq × LR × LR × Rq))->Option α) (k0:(List (Rq × LR × LR × Rq))->Option α):Option α :=
 bif (decide (a<g)) then
  gd (decide (0<=a)&&decide (a<(c.length:Int))) (
   let j:=c.getD a.toNat (0,0,0,0)
   ob (Yp n (h,i) j e d) λb =>
   gd (Nat.beq b.2.length d.length&&true) (
    gd (decide ((b.2.length+1)*160<=140737488355328)) (
     f e c g (W (a+1)) h i (b.2++[b.1.1]))))
 else
  k0 d
abbrev Zt:Tm:=⟨[(1,.d hRs),(7,.k (.hp 7 0 0)),(8,.k (.hp 8 0 0)),(17,.d hNs),(18,.d hI),(19,.d hI)],[(7,.var 119 false false [.k (.hw 13)]),(8,.var 94 true false [.d hI,.d hRs]),(13,.arr 91 (.st (.pair hR (.pair hRs (.pair hRs hR)))) false)],[3,10,11,33],[]⟩
abbrev B2y:Tm:=⟨[(7,.k (.hp 7 0 0))],[(7,.var 119 false false [.k (.hw 13)]),(13,.arr 91 (.st (.pair hR (.pair hRs (.pair hRs hR)))) false)],[8],[]⟩
abbrev A9s:List (Exit × Tm):=[(.exit 0,B2y)]
def A9r {α:Type} (n:Nat) (v:Zt.den) (f:Zt.den->Option α) (ks:KS α A9s):Option α:=A9t n v.1.1 v.1.2.2.2.1 v.1.2.2.2.2.1 v.1.2.2.2.2.2.1 v.2.2.1.1 v.2.2.1.2.1 v.2.2.2.1 (λa b c d e g h=>f ((a,(),(),b,c,d,()),(((),()),(e,g,()),h,()))) (λw0=>ks.1 (((),()),(((),()),w0,())))
def A6q {α:Type} (n m:Nat) (a:LR) (b:LN) (c d e:Int) (f:LR) (g:List (Rq × LR × LR × Rq)) (k0:(List (Rq × LR × LR × Rq))->Option α):Option α:=A5 (A9r n) m ((a,(),(),b,c,d,()),(((),()),(e,f,()),g,())) (λw=>k0 w.2.2.1,())
theorem B2x {α n m a b c d e f g k0}:A6q (α:=α) n (m+1) a b c d e f g k0=A9t n a b c d e f g (λa b c d e f g=>A6q n m a b c d e f g k0) k0:=rfl
def f50 (n:Nat) (a0:LN × Int) (a1 a2:LR):Option LR :=
 A6q n n a1 a0.1 (a0.1.length:Int) 0 0 a2 []
  (λa=>(
   ob (Uz n (a.length:Int) a) λb =>
   some b))
def B65 (n:Nat):Ent:=⟨50,[(.st (.pair hNs hI)),hRs,hRs],[hRs],λx=>f50 n x.1 x.2.1 x.2.2⟩
def Aqi (α:Type) (n:Nat):D3 α:={ reg:=[(1,⟨0,[],[(0,{ sh:=some (.st (.pair hR (.pair hRs (.pair hRs hR)))) })]⟩),(5,⟨0,[],[(4,{ alt:=[(Ajm n)],hb:=310 })]⟩),(6,⟨0,[],[(2,{ sh:=some (.st (.pair hR (.pair hRs (.pair hRs hR)))) })]⟩),(8,⟨0,[],[(0,{ shut:=some (.stl 7 0 (.sl (.st (.pair hR (.pair hRs (.pair hRs hR)))))) }),(2,{ sh:=some (.ref (.sl (.st (.pair hR (.pair hRs (.pair hRs hR)))))) }),(3,{ ent:=some (A7w n) })]⟩)],join:=[],loop:=[(3,⟨Zt,A9s,A5 (A9r n) n⟩)] }
theorem Agy (α:Type) (n:Nat):Al PP (Af (Aqi α n).reg):=⟨Azq n,Alv n,trivial⟩
theorem Avn (α:Type) (n:Nat):LO.Sound (α:=α) PP ⟨40,[]⟩ ⟨Zt,A9s,A5 (A9r n) n⟩ (.loop ((A0 Tryz.f50).at [1,1,0,1,0,0])):=C1 (D:=Aqi α n) (Agy α n) n
theorem Bht (α:Type) (n:Nat):D3.OK PP TT ⟨40,[]⟩ (Aqi α n) (A0 Tryz.f50) :=
 D3.OK.mk3 (Agy α n) (show Aa (A0 Tryz.f50)=[(3,(.loop ((A0 Tryz.f50).at [1,1,0,1,0,0])))] by kernel_rfl) ⟨Ac rfl (Avn α n),trivial⟩
theorem Bdd (n:Nat):(B65 n).Sound PP:=fk (fn:=Tryz.f50) (Bht _ n)

def f40 (n:Nat) (a0:LN × Int) (a1 a2:LR):Option (LR × Int) :=
 ob (f48 n a0 a1 a2) λa =>
 bif (a.2 != 0) then
  some ([],a.2)
 else
  ob (f50 n a0 a1 a2) λc =>
  ob (f51 n c) λb =>
  some (b.1,b.2)
def B6b (n:Nat):Ent:=⟨40,[(.st (.pair hNs hI)),hRs,hRs],[hRs,hI],λx=>f40 n x.1 x.2.1 x.2.2⟩
def Bhy (α:Type) (n:Nat):D3 α:={ reg:=[(1,⟨0,[],[(3,{ ent:=some (B67 n) })]⟩),(4,⟨0,[],[(3,{ ent:=some (B65 n) }),(4,{ ent:=some (A6p n) })]⟩)],join:=[],loop:=[] }
theorem Bdj (n:Nat):(B6b n).Sound PP:=B0 (fn:=Tryz.f40) (D:=Bhy _ n) ⟨Bdf n,Bdd n,A6o n,trivial⟩

def f186 (n:Nat) (a0:Nq) (a1:Int):Option Bool :=
 ob (f181 n a0.1 1 8) λa =>
 bif (!a) then
  some false
 else
  ob (f146 n a0.1) λb =>
  bif b then
   ob (f181 n a0.2.1 0 (W (a1-1))) λc =>
   bif c then
    ob (f181 n a0.2.2.1 (W (a0.2.1+1)) (W (a1-1))) λd =>
    bif d then
     some (a0.2.2.2==0)
    else
     some false
   else
    some false
  else
   ob (f147 n a0.1) λe =>
   bif e then
    bif (a0.2.1==(W (a1-1))) then
     bif (decide (a1>0)) then
      bif (a0.2.2.1==0) then
       ob (f174 n (a0.1==8)) λf =>
       ob (f181 n a0.2.2.2 0 (W (8*f))) λg =>
       some g
      else
       some false
     else
      some false
    else
     some false
   else
    bif (a0.1==2) then
     bif (a0.2.1==0) then
      bif (a0.2.2.1==0) then
       ob (f181 n a0.2.2.2 0 3) λh =>
       some h
      else
       some false
     else
      some false
    else
     bif (a0.2.1==0) then
      bif (a0.2.2.1==0) then
       ob (f181 n a0.2.2.2 0 999999999) λi =>
       some i
      else
       some false
     else
      some false
def Ax3 (n:Nat):Ent:=⟨186,[hN,hI],[.bool],λx=>f186 n x.1 x.2⟩
def Bej (α:Type) (n:Nat):D3 α:={ reg:=[(1,⟨0,[],[(2,{ ent:=some (D6 n) })]⟩),(3,⟨0,[],[(2,{ ent:=some (Sa n) })]⟩),(4,⟨0,[],[(4,{ ent:=some (D6 n) }),(13,{ ent:=some (D6 n) })]⟩),(5,⟨0,[],[(2,{ ent:=some (Yi n) })]⟩),(6,⟨22,[],[(20,{ ent:=some (P4 n) }),(22,{ ent:=some (D6 n) })]⟩),(8,⟨0,[],[(11,{ ent:=some (D6 n) })]⟩),(9,⟨0,[],[(11,{ ent:=some (D6 n) })]⟩)],join:=[],loop:=[] }
theorem B8r (n:Nat):(Ax3 n).Sound PP:=B0 (fn:=Tryz.f186) (D:=Bej _ n) ⟨Co n,S9 n,Co n,Co n,A0c n,Nu n,Co n,Co n,Co n,trivial⟩

def f182 (n:Nat) (a0:Nq) (a1:Int):Option Bool :=
 ob (f146 n a0.1) λa =>
 bif a then
  ob (f181 n a0.2.1 0 (W (a1-1))) λb =>
  bif b then
   ob (f181 n a0.2.2.1 0 (W (a1-1))) λc =>
   bif c then
    some (a0.2.2.2==0)
   else
    some false
  else
   some false
 else
  ob (f147 n a0.1) λd =>
  bif d then
   ob (f181 n a0.2.1 0 (W (a1-1))) λe =>
   bif e then
    bif (a0.2.2.1==0) then
     ob (f174 n (a0.1==8)) λf =>
     ob (f181 n a0.2.2.2 0 (W (8*f))) λg =>
     some g
    else
     some false
   else
    some false
  else
   ob (f186 n a0 a1) λh =>
   some h
def Ax8 (n:Nat):Ent:=⟨182,[hN,hI],[.bool],λx=>f182 n x.1 x.2⟩
def Ben (α:Type) (n:Nat):D3 α:={ reg:=[(1,⟨0,[],[(2,{ ent:=some (Sa n) })]⟩),(2,⟨0,[],[(4,{ ent:=some (D6 n) }),(10,{ ent:=some (D6 n) })]⟩),(3,⟨0,[],[(2,{ ent:=some (Yi n) })]⟩),(4,⟨18,[],[(4,{ ent:=some (D6 n) }),(16,{ ent:=some (P4 n) }),(18,{ ent:=some (D6 n) })]⟩),(5,⟨0,[],[(2,{ ent:=some (Ax3 n) })]⟩)],join:=[],loop:=[] }
theorem B8y (n:Nat):(Ax8 n).Sound PP:=B0 (fn:=Tryz.f182) (D:=Ben _ n) ⟨S9 n,Co n,Co n,A0c n,Co n,Nu n,Co n,B8r n,trivial⟩

def A57 {α:Type} (n:Nat) (a:Int) (b:LN) (c:Int) (f:Int->LN->Int->Option α) (k0:Bool->Option α) (k1:Unit->Option α):Option α :=
 bif (decide (a<(b.length:Int))) then
  gd (decide (0<=a)&&decide (a<(b.length:Int))) (
   let d:=b.getD a.toNat (0,0,0,0)
   ob (f182 n d a) λe =>
   bif (!e) then
    k0 false
   else
    gd (decide (0<=a)&&decide (a<=(b.length:Int))) (
     gd (decide (0<=a)&&decide (a<(b.length:Int))) (
      let g:=b.getD a.toNat (0,0,0,0)
      ob (f183 n ((b.drop 0).take (a.toNat-0)) g) λh =>
      bif (decide (h>=0)) then
       k0 false
      else
       f (W (a+1)) b c)))
 else
  k1 ()
abbrev Ut:Tm:=⟨[(1,.k (.hp 1 0 0)),(3,.d hI)],[(1,.var 33 true false [.d hNs,.d hI])],[],[]⟩
abbrev Azh:Tm:=⟨[(2,.d .bool)],[],[1],[]⟩
abbrev Azg:Tm:=⟨[],[],[1],[]⟩
abbrev A56:List (Exit × Tm):=[(.ret,Azh),(.exit 0,Azg)]
def A55 {α:Type} (n:Nat) (v:Ut.den) (f:Ut.den->Option α) (ks:KS α A56):Option α:=A57 n v.1.2.1 v.2.1.1 v.2.1.2.1 (λa b c=>f (((),a,()),((b,c,()),()))) (λw0=>ks.1 ((w0,()),())) (λ_=>ks.2.1 ((),()))
def A0j {α:Type} (n m:Nat) (a:Int) (b:LN) (c:Int) (k0:Bool->Option α) (k1:Unit->Option α):Option α:=A5 (A55 n) m (((),a,()),((b,c,()),())) (λw=>k0 w.1.1,λw=>k1 (),())
theorem Azf {α n m a b c k0 k1}:A0j (α:=α) n (m+1) a b c k0 k1=A57 n a b c (λa b c=>A0j n m a b c k0 k1) k0 k1:=rfl
def f115 (n:Nat) (a0:LN × Int):Option Bool :=
 ob (f181 n (a0.1.length:Int) 1 60) λa =>
 bif (!a) then
  some false
 else
  bif (a0.2 != (W ((a0.1.length:Int)-1))) then
   some false
  else
   A0j n n 0 a0.1 a0.2
    (λb=>(
     some b))
    (λ(_:Unit)=>(
     some true))
def Azi (n:Nat):Ent:=⟨115,[(.st (.pair hNs hI))],[.bool],λx=>f115 n x⟩
def Ajh (α:Type) (n:Nat):D3 α:={ reg:=[(1,⟨0,[],[(3,{ ent:=some (D6 n) })]⟩),(6,⟨18,[],[(6,{ ent:=some (Ax8 n) }),(18,{ ent:=some (Aht n) })]⟩)],join:=[],loop:=[(4,⟨Ut,A56,A5 (A55 n) n⟩)] }
theorem Ad4 (α:Type) (n:Nat):Al PP (Af (Ajh α n).reg):=⟨Co n,B8y n,Anm n,trivial⟩
theorem Asg (α:Type) (n:Nat):LO.Sound (α:=α) PP ⟨46,[]⟩ ⟨Ut,A56,A5 (A55 n) n⟩ (.loop ((A0 Tryz.f115).at [1,1,0,1,0,0])):=C1 (D:=Ajh α n) (Ad4 α n) n
theorem Bg2 (α:Type) (n:Nat):D3.OK PP TT ⟨46,[]⟩ (Ajh α n) (A0 Tryz.f115) :=
 D3.OK.mk3 (Ad4 α n) (show Aa (A0 Tryz.f115)=[(4,(.loop ((A0 Tryz.f115).at [1,1,0,1,0,0])))] by kernel_rfl) ⟨Ac rfl (Asg α n),trivial⟩
theorem Bat (n:Nat):(Azi n).Sound PP:=fk (fn:=Tryz.f115) (Bg2 _ n)

def A2o {α:Type} (n:Nat) (a:LI) (b:Int) (f:LI->Int->Option α) (k0:Bool->Option α) (k1:LI->Option α):Option α :=
 bif (decide (b<(a.length:Int))) then
  gd (decide (0<=b)&&decide (b<(a.length:Int))) (
   ob (f181 n (a.getD b.toNat 0) 0 9999) λc =>
   bif (!c) then
    k0 false
   else
    f a (W (b+1)))
 else
  k1 a
abbrev Tu:Tm:=⟨[(0,.d hIs),(3,.d hI)],[],[],[]⟩
abbrev Aw9:Tm:=⟨[(2,.d .bool)],[],[],[]⟩
abbrev Aw8:Tm:=⟨[(0,.d hIs)],[],[],[]⟩
abbrev A2n:List (Exit × Tm):=[(.ret,Aw9),(.exit 0,Aw8)]
def A2m {α:Type} (n:Nat) (v:Tu.den) (f:Tu.den->Option α) (ks:KS α A2n):Option α:=A2o n v.1.1 v.1.2.1 (λa b=>f ((a,b,()),())) (λw0=>ks.1 ((w0,()),())) (λw0=>ks.2.1 ((w0,()),()))
def Rr {α:Type} (n m:Nat) (a:LI) (b:Int) (k0:Bool->Option α) (k1:LI->Option α):Option α:=A5 (A2m n) m ((a,b,()),()) (λw=>k0 w.1.1,λw=>k1 w.1.1,())
theorem Aw7 {α n m a b k0 k1}:Rr (α:=α) n (m+1) a b k0 k1=A2o n a b (λa b=>Rr n m a b k0 k1) k0 k1:=rfl
def f212 (n:Nat) (a0:LI):Option Bool :=
 bif (decide ((a0.length:Int)>4096)) then
  some false
 else
  Rr n n a0 0
   (λb=>(
    some b))
   (λa=>(
    bif (decide ((a.length:Int)<=40)) then
     bif ((a.length:Int)==0) then
      some true
     else
      gd (decide (0<=(W ((a.length:Int)-1)))&&decide ((W ((a.length:Int)-1))<(a.length:Int))) (
       some (decide ((a.getD ((W ((a.length:Int)-1)).toNat) 0)>0)))
    else
     some false))
def Aha (n:Nat):Ent:=⟨212,[hIs],[.bool],λx=>f212 n x⟩
def Ahb (α:Type) (n:Nat):D3 α:={ reg:=[(6,⟨0,[],[(4,{ ent:=some (D6 n) })]⟩)],join:=[],loop:=[(4,⟨Tu,A2n,A5 (A2m n) n⟩)] }
theorem Ac3 (α:Type) (n:Nat):Al PP (Af (Ahb α n).reg):=⟨Co n,trivial⟩
theorem Aqw (α:Type) (n:Nat):LO.Sound (α:=α) PP ⟨36,[]⟩ ⟨Tu,A2n,A5 (A2m n) n⟩ (.loop ((A0 Tryz.f212).at [1,1,0,1,0,0])):=C1 (D:=Ahb α n) (Ac3 α n) n
theorem Be2 (α:Type) (n:Nat):D3.OK PP TT ⟨36,[]⟩ (Ahb α n) (A0 Tryz.f212) :=
 D3.OK.mk3 (Ac3 α n) (show Aa (A0 Tryz.f212)=[(4,(.loop ((A0 Tryz.f212).at [1,1,0,1,0,0])))] by kernel_rfl) ⟨Ac rfl (Aqw α n),trivial⟩
theorem Anc (n:Nat):(Aha n).Sound PP:=fk (fn:=Tryz.f212) (Be2 _ n)

abbrev B8x:Tm:=⟨[(1,.k (.hp 1 0 0))],[(1,.var 54 true false [.d .bool,.d hIs,.d hIs])],[],[]⟩
def f184 (n:Nat) (a0:Rq):Option Bool :=
 let a:=λ(_:Unit)=>(
  ob (f213 n a0.2.1 a0.2.2) λb =>
  ob (f199 n b [1]) λc =>
  some (c==0))
 ob (f212 n a0.2.1) λd =>
 bif (!d) then
  some false
 else
  ob (f212 n a0.2.2) λe =>
  bif (!e) then
   some false
  else
   bif ((a0.2.2.length:Int)==0) then
    some false
   else
    bif ((a0.2.1.length:Int)==0) then
     bif a0.1 then
      some false
     else
      a ()
    else
     a ()
def Ax5 (n:Nat):Ent:=⟨184,[hR],[.bool],λx=>f184 n x⟩
def Bel (α:Type) (n:Nat):D3 α:={ reg:=[(1,⟨0,[],[(2,{ ent:=some (Aha n) }),(7,{ ent:=some (Aha n) })]⟩),(3,⟨0,[],[(4,{ ent:=some (Ah8 n) }),(5,{ sh:=some hI }),(6,{ ent:=some (Y7 n) })]⟩)],join:=[(3,B8x)],loop:=[] }
theorem B8v (n:Nat):(Ax5 n).Sound PP:=B0 (fn:=Tryz.f184) (D:=Bel _ n) ⟨Anc n,Anc n,Anb n,A03 n,trivial⟩

def A54 {α:Type} (n:Nat) (a:LR) (b:Int) (f:LR->Int->Option α) (k0:Bool->Option α) (k1:LR->Option α):Option α :=
 bif (decide (b<(a.length:Int))) then
  gd (decide (0<=b)&&decide (b<(a.length:Int))) (
   let c:=a.getD b.toNat (false,[],[])
   ob (f184 n c) λd =>
   bif (!d) then
    k0 false
   else
    f a (W (b+1)))
 else
  k1 a
abbrev Us:Tm:=⟨[(0,.d hRs),(3,.d hI)],[],[],[]⟩
abbrev Aze:Tm:=⟨[(2,.d .bool)],[],[],[]⟩
abbrev Azd:Tm:=⟨[(0,.d hRs)],[],[],[]⟩
abbrev A53:List (Exit × Tm):=[(.ret,Aze),(.exit 0,Azd)]
def A52 {α:Type} (n:Nat) (v:Us.den) (f:Us.den->Option α) (ks:KS α A53):Option α:=A54 n v.1.1 v.1.2.1 (λa b=>f ((a,b,()),())) (λw0=>ks.1 ((w0,()),())) (λw0=>ks.2.1 ((w0,()),()))
def Sf {α:Type} (n m:Nat) (a:LR) (b:Int) (k0:Bool->Option α) (k1:LR->Option α):Option α:=A5 (A52 n) m ((a,b,()),()) (λw=>k0 w.1.1,λw=>k1 w.1.1,())
theorem Azc {α n m a b k0 k1}:Sf (α:=α) n (m+1) a b k0 k1=A54 n a b (λa b=>Sf n m a b k0 k1) k0 k1:=rfl
def f116 (n:Nat) (a0:LR):Option Bool :=
 bif (decide ((a0.length:Int)>4096)) then
  some false
 else
  Sf n n a0 0
   (λa=>(
    some a))
   (λb=>(
    ob (f181 n (b.length:Int) 1 4) λc =>
    some c))
def A7r (n:Nat):Ent:=⟨116,[hRs],[.bool],λx=>f116 n x⟩
def Ajg (α:Type) (n:Nat):D3 α:={ reg:=[(6,⟨0,[],[(4,{ ent:=some (Ax5 n) })]⟩),(8,⟨0,[],[(2,{ ent:=some (D6 n) })]⟩)],join:=[],loop:=[(4,⟨Us,A53,A5 (A52 n) n⟩)] }
theorem Ad2 (α:Type) (n:Nat):Al PP (Af (Ajg α n).reg):=⟨B8v n,Co n,trivial⟩
theorem Asf (α:Type) (n:Nat):LO.Sound (α:=α) PP ⟨22,[]⟩ ⟨Us,A53,A5 (A52 n) n⟩ (.loop ((A0 Tryz.f116).at [1,1,0,1,0,0])):=C1 (D:=Ajg α n) (Ad2 α n) n
theorem Bg1 (α:Type) (n:Nat):D3.OK PP TT ⟨22,[]⟩ (Ajg α n) (A0 Tryz.f116) :=
 D3.OK.mk3 (Ad2 α n) (show Aa (A0 Tryz.f116)=[(4,(.loop ((A0 Tryz.f116).at [1,1,0,1,0,0])))] by kernel_rfl) ⟨Ac rfl (Asf α n),trivial⟩
theorem Aal (n:Nat):(A7r n).Sound PP:=fk (fn:=Tryz.f116) (Bg1 _ n)

def A4s {α:Type} (n:Nat) (c a:Int) (b:LN) (f:Int->Int->LN->Option α) (k0:Int->Option α):Option α :=
 bif (decide (a<(b.length:Int))) then
  gd (decide (0<=a)&&decide (a<(b.length:Int))) (
   let d:=b.getD a.toNat (0,0,0,0)
   bif (d.1==2) then
    gd (decide (0<=a)&&decide (a<(b.length:Int))) (
     let e:=b.getD a.toNat (0,0,0,0)
     f (max c (W (e.2.2.2+1))) (W (a+1)) b)
   else
    f c (W (a+1)) b)
 else
  k0 c
abbrev Uo:Tm:=⟨[(1,.k (.hp 1 0 0)),(3,.d hI),(4,.d hI)],[(1,.var 43 true false [.d hNs])],[],[]⟩
abbrev Ayz:Tm:=⟨[(3,.d hI)],[],[1],[]⟩
abbrev A4r:List (Exit × Tm):=[(.exit 0,Ayz)]
def A4q {α:Type} (n:Nat) (v:Uo.den) (f:Uo.den->Option α) (ks:KS α A4r):Option α:=A4s n v.1.2.1 v.1.2.2.1 v.2.1.1 (λa b c=>f (((),a,b,()),((c,()),()))) (λw0=>ks.1 ((w0,()),()))
def A0g {α:Type} (n m:Nat) (a b:Int) (c:LN) (k0:Int->Option α):Option α:=A5 (A4q n) m (((),a,b,()),((c,()),())) (λw=>k0 w.1.1,())
theorem Ayy {α n m a b c k0}:A0g (α:=α) n (m+1) a b c k0=A4s n a b c (λa b c=>A0g n m a b c k0) k0:=rfl
def f125 (n:Nat) (a0:LN):Option Int :=
 A0g n n 0 0 a0
  (λa=>(
   some a))
def Az0 (n:Nat):Ent:=⟨125,[hE],[hI],λx=>f125 n x⟩
def Aja (α:Type) (n:Nat):D3 α:={ reg:=[],join:=[],loop:=[(3,⟨Uo,A4r,A5 (A4q n) n⟩)] }
theorem Acw (α:Type) (n:Nat):Al PP (Af (Aja α n).reg):=trivial
theorem Asa (α:Type) (n:Nat):LO.Sound (α:=α) PP ⟨29,[]⟩ ⟨Uo,A4r,A5 (A4q n) n⟩ (.loop ((A0 Tryz.f125).at [1,1,0,1,0,0])):=C1 (D:=Aja α n) (Acw α n) n
theorem Bfv (α:Type) (n:Nat):D3.OK PP TT ⟨29,[]⟩ (Aja α n) (A0 Tryz.f125) :=
 D3.OK.mk3 (Acw α n) (show Aa (A0 Tryz.f125)=[(3,(.loop ((A0 Tryz.f125).at [1,1,0,1,0,0])))] by kernel_rfl) ⟨Ac rfl (Asa α n),trivial⟩
theorem Baj (n:Nat):(Az0 n).Sound PP:=fk (fn:=Tryz.f125) (Bfv _ n)

def f117 (n:Nat) (a0:LN × Int):Option Int :=
 ob (f125 n a0.1) λa =>
 some a
def Azb (n:Nat):Ent:=⟨117,[(.st (.pair hNs hI))],[hI],λx=>f117 n x⟩
def Bg0 (α:Type) (n:Nat):D3 α:={ reg:=[(1,⟨0,[],[(3,{ ent:=some (Az0 n) })]⟩)],join:=[],loop:=[] }
theorem Bas (n:Nat):(Azb n).Sound PP:=B0 (fn:=Tryz.f117) (D:=Bg0 _ n) ⟨Baj n,trivial⟩

abbrev Bd7:Tm:=⟨[(1,.d hRs),(2,.k (.hp 2 0 0)),(9,.d .bool)],[(2,.var 33 true false [.d hNs,.d hI])],[],[]⟩
def f65 (n:Nat) (a0:LN × Int) (a1:LR):Option Int :=
 bif (decide ((a1.length:Int)>4096)) then
  some 2
 else
  let a:=λ(b:Bool)=>(
   bif b then
    some 1
   else
    ob (f117 n a0) λc =>
    bif (decide ((a1.length:Int)<c)) then
     some 8
    else
     some 0)
  ob (f115 n a0) λd =>
  bif (!d) then
   a true
  else
   ob (f116 n a1) λe =>
   a (!e)
def B63 (n:Nat):Ent:=⟨65,[(.st (.pair hNs hI)),hRs],[hI],λx=>f65 n x.1 x.2⟩
def Bhn (α:Type) (n:Nat):D3 α:={ reg:=[(3,⟨0,[],[(1,{ ent:=some (Azi n) }),(5,{ ent:=some (A7r n) })]⟩),(5,⟨0,[],[(3,{ ent:=some (Azb n) })]⟩)],join:=[(4,Bd7)],loop:=[] }
theorem Bd6 (n:Nat):(B63 n).Sound PP:=B0 (fn:=Tryz.f65) (D:=Bhn _ n) ⟨Bat n,Aal n,Bas n,trivial⟩

abbrev Bcy:Tm:=⟨[(0,.d hRs),(1,.d hRs),(5,.d .bool)],[],[],[]⟩
abbrev Bcx:Tm:=⟨[(0,.d hRs),(1,.d hRs),(14,.d .bool)],[],[],[]⟩
def f92 (n:Nat) (a0 a1:LR):Option Int :=
 let a:=λ(c:Bool)=>(
  bif c then
   some 2
  else
   let b:=λ(d:Bool)=>(
    bif d then
     some 1
    else
     bif ((a0.length:Int) != (a1.length:Int)) then
      some 8
     else
      some 0)
   ob (f116 n a0) λe =>
   bif (!e) then
    b true
   else
    ob (f116 n a1) λf =>
    b (!f))
 bif (decide ((a0.length:Int)>4096)) then
  a true
 else
  a (decide ((a1.length:Int)>4096))
def B5y (n:Nat):Ent:=⟨92,[hRs,hRs],[hI],λx=>f92 n x.1 x.2⟩
def Bhb (α:Type) (n:Nat):D3 α:={ reg:=[(3,⟨0,[],[(1,{ ent:=some (A7r n) }),(5,{ ent:=some (A7r n) })]⟩)],join:=[(2,Bcy),(4,Bcx)],loop:=[] }
theorem Bcw (n:Nat):(B5y n).Sound PP:=B0 (fn:=Tryz.f92) (D:=Bhb _ n) ⟨Aal n,Aal n,trivial⟩

def f44 (n:Nat) (a0:LN × Int) (a1 a2:LR):Option Int :=
 bif (decide ((a2.length:Int)>4096)) then
  some 2
 else
  ob (f65 n a0 a1) λa =>
  bif (a != 0) then
   some a
  else
   ob (f92 n a1 a2) λb =>
   some b
def B69 (n:Nat):Ent:=⟨44,[(.st (.pair hNs hI)),hRs,hRs],[hI],λx=>f44 n x.1 x.2.1 x.2.2⟩
def Bhw (α:Type) (n:Nat):D3 α:={ reg:=[(3,⟨0,[],[(2,{ ent:=some (B63 n) })]⟩),(6,⟨0,[],[(2,{ ent:=some (B5y n) })]⟩)],join:=[],loop:=[] }
theorem Bdh (n:Nat):(B69 n).Sound PP:=B0 (fn:=Tryz.f44) (D:=Bhw _ n) ⟨Bd6 n,Bcw n,trivial⟩

def A3d {α:Type} (n:Nat) (b c:LI) (d a:Int) (e:LI) (f:LI->LI->Int->Int->LI->Option α) (k0:LI->Option α):Option α :=
 let g:=λ(_:Unit)=>(
  let h:=λ(i:Int)=>(
   let j:=λ(k:Int)=>(
    gd (decide ((e.length+1)*8<=140737488355328)) (
     f b c (W (Int.tdiv k 10000)) (W (a+1)) (e++[(Int.tmod k 10000)])))
   bif (decide (a<(c.length:Int))) then
    gd (decide (0<=a)&&decide (a<(c.length:Int))) (
     j (W (i+(c.getD a.toNat 0))))
   else
    j i)
  bif (decide (a<(b.length:Int))) then
   gd (decide (0<=a)&&decide (a<(b.length:Int))) (
    h (W (d+(b.getD a.toNat 0))))
  else
   h d)
 bif (decide (a<(b.length:Int))) then
  g ()
 else
  bif (decide (a<(c.length:Int))) then
   g ()
  else
   bif (decide (d>0)) then
    g ()
   else
    k0 e
abbrev U3:Tm:=⟨[(0,.d hIs),(1,.d hIs),(5,.k (.hw 8)),(6,.d hI),(7,.d hI)],[(8,.arr 3 hI false)],[48],[]⟩
abbrev Awu:Tm:=⟨[(5,.k (.hw 8))],[(8,.arr 3 hI false)],[],[]⟩
abbrev A3c:List (Exit × Tm):=[(.exit 0,Awu)]
def A3b {α:Type} (n:Nat) (v:U3.den) (f:U3.den->Option α) (ks:KS α A3c):Option α:=A3d n v.1.1 v.1.2.1 v.1.2.2.2.1 v.1.2.2.2.2.1 v.2.1 (λa b c d e=>f ((a,b,(),c,d,()),(e,()))) (λw0=>ks.1 (((),()),(w0,())))
def Rx {α:Type} (n m:Nat) (a b:LI) (c d:Int) (e:LI) (k0:LI->Option α):Option α:=A5 (A3b n) m ((a,b,(),c,d,()),(e,())) (λw=>k0 w.2.1,())
theorem Awt {α n m a b c d e k0}:Rx (α:=α) n (m+1) a b c d e k0=A3d n a b c d e (λa b c d e=>Rx n m a b c d e k0) k0:=rfl
abbrev B8o:Tm:=⟨[(0,.d hIs),(1,.d hIs),(5,.k (.hw 8)),(6,.d hI),(7,.d hI)],[(8,.arr 3 hI false)],[],[]⟩
abbrev B8n:Tm:=⟨[(0,.d hIs),(1,.d hIs),(5,.k (.hw 8)),(6,.d hI),(7,.d hI)],[(8,.arr 3 hI false)],[],[]⟩
abbrev B3d:Tm:=⟨[(0,.d hIs),(1,.d hIs),(5,.k (.hw 8)),(6,.d hI),(7,.d hI)],[(8,.arr 3 hI false)],[],[]⟩
def f198 (n:Nat) (a0 a1:LI):Option LI :=
 Rx n n a0 a1 0 0 []
  (λa=>(
   some a))
def Awv (n:Nat):Ent:=⟨198,[hIs,hIs],[hIs],λx=>f198 n x.1 x.2⟩
def Ahr (α:Type) (n:Nat):D3 α:={ reg:=[(1,⟨0,[],[(0,{ sh:=some hI })]⟩),(10,⟨0,[],[(3,{ sh:=some hI })]⟩)],join:=[(6,B8o),(8,B8n),(10,B3d)],loop:=[(4,⟨U3,A3c,A5 (A3b n) n⟩)] }
theorem Acb (α:Type) (n:Nat):Al PP (Af (Ahr α n).reg):=trivial
theorem Ar8 (α:Type) (n:Nat):LO.Sound (α:=α) PP ⟨53,[]⟩ ⟨U3,A3c,A5 (A3b n) n⟩ (.loop ((A0 Tryz.f198).at [1,1,1,0,1,0,0])):=C1 (D:=Ahr α n) (Acb α n) n
theorem Bef (α:Type) (n:Nat):D3.OK PP TT ⟨53,[]⟩ (Ahr α n) (A0 Tryz.f198) :=
 D3.OK.mk3 (Acb α n) (show Aa (A0 Tryz.f198)=[(4,(.loop ((A0 Tryz.f198).at [1,1,1,0,1,0,0])))] by kernel_rfl) ⟨Ac rfl (Ar8 α n),trivial⟩
theorem B8l (n:Nat):(Awv n).Sound PP:=fk (fn:=Tryz.f198) (Bef _ n)

def f138 (n:Nat) (a0 a1:Rq):Option Rq :=
 ob (f196 n a0.2.1 a1.2.2) λa =>
 ob (f196 n a1.2.1 a0.2.2) λb =>
 ob (f196 n a0.2.2 a1.2.2) λc =>
 bif (a0.1==a1.1) then
  ob (f198 n a b) λd =>
  ob (f197 n a0.1 d c) λe =>
  some e
 else
  ob (f199 n a b) λf =>
  bif (decide (f>=0)) then
   ob (f200 n a b) λg =>
   ob (f197 n a0.1 g c) λh =>
   some h
  else
   ob (f200 n b a) λi =>
   ob (f197 n a1.1 i c) λj =>
   some j
def Jp (n:Nat):Ent:=⟨138,[hR,hR],[hR],λx=>f138 n x.1 x.2⟩
def Bfo (α:Type) (n:Nat):D3 α:={ reg:=[(1,⟨0,[],[(4,{ ent:=some (Hw n) })]⟩),(2,⟨0,[],[(4,{ ent:=some (Hw n) })]⟩),(3,⟨0,[],[(4,{ ent:=some (Hw n) })]⟩),(5,⟨6,[],[(4,{ ent:=some (Awv n) }),(6,{ ent:=some (P1 n) })]⟩),(6,⟨0,[],[(2,{ ent:=some (Y7 n) })]⟩),(7,⟨6,[],[(4,{ ent:=some (A74 n) }),(6,{ ent:=some (P1 n) })]⟩),(8,⟨6,[],[(4,{ ent:=some (A74 n) }),(6,{ ent:=some (P1 n) })]⟩)],join:=[],loop:=[] }
theorem A0e (n:Nat):(Jp n).Sound PP:=B0 (fn:=Tryz.f138) (D:=Bfo _ n) ⟨Gz n,Gz n,Gz n,B8l n,No n,A03 n,Aa6 n,No n,Aa6 n,No n,trivial⟩

def f143 (n:Nat) (a0:Rq):Option Rq :=
 bif (!a0.1) then
  some ((decide ((a0.2.1.length:Int)>0)),a0.2)
 else
  some (false,a0.2)
def Cs (n:Nat):Ent:=⟨143,[hR],[hR],λx=>f143 n x⟩
def Bfj (α:Type) (n:Nat):D3 α:={ reg:=[],join:=[],loop:=[] }
theorem Sb (n:Nat):(Cs n).Sound PP:=B0 (fn:=Tryz.f143) (D:=Bfj _ n) trivial

def f139 (n:Nat) (a0 a1:Rq):Option Rq :=
 ob (f143 n a1) λa =>
 ob (f138 n a0 a) λb =>
 some b
def Ayl (n:Nat):Ent:=⟨139,[hR,hR],[hR],λx=>f139 n x.1 x.2⟩
def Bfn (α:Type) (n:Nat):D3 α:={ reg:=[(1,⟨3,[],[(2,{ ent:=some (Cs n) }),(3,{ ent:=some (Jp n) })]⟩)],join:=[],loop:=[] }
theorem Bab (n:Nat):(Ayl n).Sound PP:=B0 (fn:=Tryz.f139) (D:=Bfn _ n) ⟨Sb n,A0e n,trivial⟩

def f140 (n:Nat) (a0 a1:Rq):Option Rq :=
 ob (f196 n a0.2.1 a1.2.1) λa =>
 ob (f196 n a0.2.2 a1.2.2) λb =>
 ob (f197 n (!(a0.1==a1.1)) a b) λc =>
 some c
def Ax (n:Nat):Ent:=⟨140,[hR,hR],[hR],λx=>f140 n x.1 x.2⟩
def Bfm (α:Type) (n:Nat):D3 α:={ reg:=[(1,⟨15,[],[(9,{ ent:=some (Hw n) }),(14,{ ent:=some (Hw n) }),(15,{ ent:=some (P1 n) })]⟩)],join:=[],loop:=[] }
theorem Ct (n:Nat):(Ax n).Sound PP:=B0 (fn:=Tryz.f140) (D:=Bfm _ n) ⟨Gz n,Gz n,No n,trivial⟩

def f141 (n:Nat) (a0:Rq):Option Bool :=
 some ((a0.2.1.length:Int)==0)
def Ayk (n:Nat):Ent:=⟨141,[hR],[.bool],λx=>f141 n x⟩
def Bfl (α:Type) (n:Nat):D3 α:={ reg:=[],join:=[],loop:=[] }
theorem Baa (n:Nat):(Ayk n).Sound PP:=B0 (fn:=Tryz.f141) (D:=Bfl _ n) trivial

def f142 (n:Nat) (a0 a1:Rq):Option Rq :=
 ob (f196 n a0.2.1 a1.2.2) λa =>
 ob (f196 n a0.2.2 a1.2.1) λb =>
 ob (f197 n (!(a0.1==a1.1)) a b) λc =>
 some c
def Ph (n:Nat):Ent:=⟨142,[hR,hR],[hR],λx=>f142 n x.1 x.2⟩
def Bfk (α:Type) (n:Nat):D3 α:={ reg:=[(1,⟨15,[],[(9,{ ent:=some (Hw n) }),(14,{ ent:=some (Hw n) }),(15,{ ent:=some (P1 n) })]⟩)],join:=[],loop:=[] }
theorem Aoo (n:Nat):(Ph n).Sound PP:=B0 (fn:=Tryz.f142) (D:=Bfk _ n) ⟨Gz n,Gz n,No n,trivial⟩

def A4h {α:Type} (n:Nat) (b c:Int) (d:Bool) (e g:LI) (h i:Bool) (j k:LI) (f:Int->Int->Bool->LI->LI->Bool->Bool->LI->LI->Option α) (k0:Bool->Bool->LI->LI->Option α):Option α :=
 bif (decide (c<b)) then
  ob (f140 n (i,j,k) (d,e,g)) λa =>
  f b (W (c+1)) d e g h a.1 a.2.1 a.2.2
 else
  k0 h i j k
abbrev Uk:Tm:=⟨[(1,.d hI),(2,.k (.hp 2 0 0)),(4,.k (.hp 4 0 0)),(5,.k (.hp 5 0 0)),(6,.d hI)],[(2,.var 54 true false [.d .bool,.d hIs,.d hIs]),(4,.var 54 true false [.d .bool,.d .nil,.d .nil]),(5,.var 54 true false [.d .bool,.d hIs,.d hIs])],[],[]⟩
abbrev Ayj:Tm:=⟨[(4,.k (.hp 4 0 0)),(5,.k (.hp 5 0 0))],[(4,.var 54 true false [.d .bool,.d .nil,.d .nil]),(5,.var 54 true false [.d .bool,.d hIs,.d hIs])],[2],[]⟩
abbrev A4g:List (Exit × Tm):=[(.exit 0,Ayj)]
def A4f {α:Type} (n:Nat) (v:Uk.den) (f:Uk.den->Option α) (ks:KS α A4g):Option α:=A4h n v.1.1 v.1.2.2.2.2.1 v.2.1.1 v.2.1.2.1 v.2.1.2.2.1 v.2.2.1.1 v.2.2.2.1.1 v.2.2.2.1.2.1 v.2.2.2.1.2.2.1 (λa b c d e g h i j=>f ((a,(),(),(),b,()),((c,d,e,()),(g,(),(),()),(h,i,j,()),()))) (λw0 w1 w2 w3=>ks.1 (((),(),()),((w0,(),(),()),(w1,w2,w3,()),())))
def A0d {α:Type} (n m:Nat) (a b:Int) (c:Bool) (d e:LI) (f g:Bool) (h i:LI) (k0:Bool->Bool->LI->LI->Option α):Option α:=A5 (A4f n) m ((a,(),(),(),b,()),((c,d,e,()),(f,(),(),()),(g,h,i,()),())) (λw=>k0 w.2.1.1 w.2.2.1.1 w.2.2.1.2.1 w.2.2.1.2.2.1,())
theorem Ayi {α n m a b c d e f g h i k0}:A0d (α:=α) n (m+1) a b c d e f g h i k0=A4h n a b c d e f g h i (λa b c d e f g h i=>A0d n m a b c d e f g h i k0) k0:=rfl
def f144 (n:Nat) (a0:Rq) (a1:Int):Option Rq :=
 ob (f131 n 1) λa =>
 A0d n n a1 0 a0.1 a0.2.1 a0.2.2 false a.1 a.2.1 a.2.2
  (λe b c d=>(
   some (b,c,d)))
def M5 (n:Nat):Ent:=⟨144,[hR,hI],[hR],λx=>f144 n x.1 x.2⟩
def Aj6 (α:Type) (n:Nat):D3 α:={ reg:=[(1,⟨0,[],[(0,{ ent:=some (Bf n) })]⟩),(5,⟨0,[],[(2,{ ent:=some (Ax n) })]⟩)],join:=[],loop:=[(3,⟨Uk,A4g,A5 (A4f n) n⟩)] }
theorem Acq (α:Type) (n:Nat):Al PP (Af (Aj6 α n).reg):=⟨Du n,Ct n,trivial⟩
theorem As3 (α:Type) (n:Nat):LO.Sound (α:=α) PP ⟨17,[]⟩ ⟨Uk,A4g,A5 (A4f n) n⟩ (.loop ((A0 Tryz.f144).at [1,1,0,1,0,0])):=C1 (D:=Aj6 α n) (Acq α n) n
theorem Bfi (α:Type) (n:Nat):D3.OK PP TT ⟨17,[]⟩ (Aj6 α n) (A0 Tryz.f144) :=
 D3.OK.mk3 (Acq α n) (show Aa (A0 Tryz.f144)=[(3,(.loop ((A0 Tryz.f144).at [1,1,0,1,0,0])))] by kernel_rfl) ⟨Ac rfl (As3 α n),trivial⟩
theorem Aah (n:Nat):(M5 n).Sound PP:=fk (fn:=Tryz.f144) (Bfi _ n)

def f145 (n:Nat) (a0:Rq):Option Bool :=
 bif (decide ((a0.2.1.length:Int)<=40)) then
  some (decide ((a0.2.2.length:Int)<=40))
 else
  some false
def Aj5 (n:Nat):Ent:=⟨145,[hR],[.bool],λx=>f145 n x⟩
def Bfh (α:Type) (n:Nat):D3 α:={ reg:=[],join:=[],loop:=[] }
theorem Aon (n:Nat):(Aj5 n).Sound PP:=B0 (fn:=Tryz.f145) (D:=Bfh _ n) trivial

abbrev Aoq:Tm:=⟨[(1,.k (.hp 1 0 0)),(2,.k (.hp 2 0 0))],[(1,.var 54 true false [.d .bool,.d hIs,.d hIs]),(2,.var 54 true false [.d .bool,.d .nil,.d .nil])],[],[]⟩
def f127 (n:Nat) (a0:Rq):Option Rq :=
 gd (decide ((0+a0.2.1.length)*8<=140737488355328)) (
  gd (decide ((0+a0.2.2.length)*8<=140737488355328)) (
   some a0))
def Aj9 (n:Nat):Ent:=⟨127,[hR],[hR],λx=>f127 n x⟩
def Ayx (α:Type) (n:Nat):D3 α:={ reg:=[(1,⟨0,[],[(2,{ sh:=some hI }),(6,{ sh:=some hI })]⟩)],join:=[],loop:=[],any:=[(1,Aoq)] }
set_option maxHeartbeats 8000000 in
theorem Bai (n:Nat):Ag TT ⟨14,[]⟩ [(2,{ sh:=some hI }),(6,{ sh:=some hI })] Aoq (A4 ((A0 Tryz.f127).at [1,0])):=by
 refine ⟨by kernel_rfl,λw q hq=>?_⟩
 have e:WT [(2,{ sh:=some hI }),(6,{ sh:=some hI })] (A7 (A4 ((A0 Tryz.f127).at [1,0])).toList) q=(q=[]):=by kernel_rfl
 rw [e] at hq;obtain rfl:=hq
 all_goals exact .inl (Ia.mk (by kernel_rfl))
theorem Ayw (α:Type) (n:Nat):Al PP (Af (Ayx α n).reg):=trivial
theorem Bfu (α:Type) (n:Nat):D3.OK PP TT ⟨14,[]⟩ (Ayx α n) (A0 Tryz.f127) :=
 D3.OK.mk3a (Ayw α n) (show Aa (A0 Tryz.f127)=[] by kernel_rfl) trivial (show As (A0 Tryz.f127)=[(1,A4 ((A0 Tryz.f127).at [1,0]))] by kernel_rfl) ⟨⟨Bai n,trivial⟩,trivial⟩
theorem Aop (n:Nat):(Aj9 n).Sound PP:=fk (fn:=Tryz.f127) (Bfu _ n)

def Rn {α:Type} (n:Nat) (g:LR) (d:Int) (e:LN) (t:Int) (b:LR) (f:LR->Int->LN->Int->LR->Option α) (k0:LR->Int->Option α) (k1:LR->Option α):Option α :=
 bif (decide (d<(e.length:Int))) then
  gd (decide (0<=d)&&decide (d<(e.length:Int))) (
   let a:=e.getD d.toNat (0,0,0,0)
   ob (f131 n a.2.2.2) λh =>
   let c:=λ(q:Bool) (r:LI) (s:LI)=>(
    ob (f145 n (q,r,s)) λu =>
    bif (!u) then
     k0 [] 7
    else
     ob (f127 n (q,r,s)) λv =>
     gd (decide ((b.length+1)*56<=140737488355328)) (
      f g (W (d+1)) e t (b++[v])))
   bif (a.1==1) then
    c h.1 h.2.1 h.2.2
   else
    bif (a.1==2) then
     gd (decide (0<=a.2.2.2)&&decide (a.2.2.2<(g.length:Int))) (
      let i:=g.getD a.2.2.2.toNat (false,[],[])
      c i.1 i.2.1 i.2.2)
    else
     bif (a.1==3) then
      gd (decide (0<=a.2.1)&&decide (a.2.1<(b.length:Int))) (
       gd (decide (a.2.1.toNat<b.length)) (
        let w:=b.getD a.2.1.toNat (false,[],[])
        gd (decide (0<=a.2.2.1)&&decide (a.2.2.1<(b.length:Int))) (
         gd (decide (a.2.2.1.toNat<b.length)) (
          let x:=b.getD a.2.2.1.toNat (false,[],[])
          ob (f138 n w x) λj =>
          c j.1 j.2.1 j.2.2))))
     else
      bif (a.1==4) then
       gd (decide (0<=a.2.1)&&decide (a.2.1<(b.length:Int))) (
        gd (decide (a.2.1.toNat<b.length)) (
         let y:=b.getD a.2.1.toNat (false,[],[])
         gd (decide (0<=a.2.2.1)&&decide (a.2.2.1<(b.length:Int))) (
          gd (decide (a.2.2.1.toNat<b.length)) (
           let z:=b.getD a.2.2.1.toNat (false,[],[])
           ob (f139 n y z) λk =>
           c k.1 k.2.1 k.2.2))))
      else
       bif (a.1==5) then
        gd (decide (0<=a.2.1)&&decide (a.2.1<(b.length:Int))) (
         gd (decide (a.2.1.toNat<b.length)) (
          let d0:=b.getD a.2.1.toNat (false,[],[])
          gd (decide (0<=a.2.2.1)&&decide (a.2.2.1<(b.length:Int))) (
           gd (decide (a.2.2.1.toNat<b.length)) (
            let d1:=b.getD a.2.2.1.toNat (false,[],[])
            ob (f140 n d0 d1) λl =>
            c l.1 l.2.1 l.2.2))))
       else
        bif (a.1==6) then
         gd (decide (0<=a.2.2.1)&&decide (a.2.2.1<(b.length:Int))) (
          gd (decide (a.2.2.1.toNat<b.length)) (
           let d2:=b.getD a.2.2.1.toNat (false,[],[])
           ob (f141 n d2) λd3 =>
           bif d3 then
            k0 [] 10
           else
            gd (decide (0<=a.2.1)&&decide (a.2.1<(b.length:Int))) (
             gd (decide (a.2.1.toNat<b.length)) (
              let d4:=b.getD a.2.1.toNat (false,[],[])
              gd (decide (0<=a.2.2.1)&&decide (a.2.2.1<(b.length:Int))) (
               gd (decide (a.2.2.1.toNat<b.length)) (
                let d5:=b.getD a.2.2.1.toNat (false,[],[])
                ob (f142 n d4 d5) λm =>
                c m.1 m.2.1 m.2.2))))))
        else
         bif (a.1==7) then
          gd (decide (0<=a.2.1)&&decide (a.2.1<(b.length:Int))) (
           gd (decide (a.2.1.toNat<b.length)) (
            let d6:=b.getD a.2.1.toNat (false,[],[])
            ob (f143 n d6) λo =>
            c o.1 o.2.1 o.2.2))
         else
          gd (decide (0<=a.2.1)&&decide (a.2.1<(b.length:Int))) (
           gd (decide (a.2.1.toNat<b.length)) (
            let d7:=b.getD a.2.1.toNat (false,[],[])
            ob (f144 n d7 a.2.2.2) λp =>
            c p.1 p.2.1 p.2.2)))
 else
  k1 b
abbrev Zl:Tm:=⟨[(1,.d hRs),(2,.k (.hp 2 0 0)),(6,.k (.hw 10)),(7,.d hI)],[(2,.var 33 true false [.d hNs,.d hI]),(10,.arr 54 hR false)],[9,119],[]⟩
abbrev B2h:Tm:=⟨[(4,.d hRs),(5,.d hI)],[],[2,8,9,10,92,115],[(4,hRs)]⟩
abbrev B2g:Tm:=⟨[(6,.k (.hw 10))],[(10,.arr 54 hR false)],[2],[]⟩
abbrev A9a:List (Exit × Tm):=[(.ret,B2h),(.exit 0,B2g)]
def A99 {α:Type} (n:Nat) (v:Zl.den) (f:Zl.den->Option α) (ks:KS α A9a):Option α:=Rn n v.1.1 v.1.2.2.2.1 v.2.1.1 v.2.1.2.1 v.2.2.1 (λa b c d e=>f ((a,(),(),b,()),((c,d,()),e,()))) (λw0 w1=>ks.1 ((w0,w1,()),())) (λw0=>ks.2.1 (((),()),(w0,())))
def A6h {α:Type} (n m:Nat) (a:LR) (b:Int) (c:LN) (d:Int) (e:LR) (k0:LR->Int->Option α) (k1:LR->Option α):Option α:=A5 (A99 n) m ((a,(),(),b,()),((c,d,()),e,())) (λw=>k0 w.1.1 w.1.2.1,λw=>k1 w.2.1,())
theorem B2f {α n m a b c d e k0 k1}:A6h (α:=α) n (m+1) a b c d e k0 k1=Rn n a b c d e (λa b c d e=>A6h n m a b c d e k0 k1) k0 k1:=rfl
abbrev B7s:Tm:=⟨[(1,.d hRs),(2,.k (.hp 2 0 0)),(6,.k (.hw 10)),(7,.d hI),(9,.k (.hp 9 0 0))],[(2,.var 33 true false [.d hNs,.d hI]),(9,.var 54 true false [.d .bool,.d hIs,.d hIs]),(10,.arr 54 hR false)],[8],[]⟩
def f88 (n:Nat) (a0:LN × Int) (a1:LR):Option (LR × Int) :=
 A6h n n a1 0 a0.1 a0.2 []
  (λa b=>(
   some (a,b)))
  (λc=>(
   some (c,0)))
def B61 (n:Nat):Ent:=⟨88,[(.st (.pair hNs hI)),hRs],[hRs,hI],λx=>f88 n x.1 x.2⟩
def Aq6 (α:Type) (n:Nat):D3 α:={ reg:=[(1,⟨0,[],[(0,{ sh:=some hR })]⟩),(6,⟨0,[],[(2,{ ent:=some (Bf n) })]⟩),(8,⟨7,[],[(7,{ ent:=some (M5 n) })]⟩),(13,⟨10,[],[(10,{ ent:=some (Jp n) })]⟩),(15,⟨10,[],[(10,{ ent:=some (Ayl n) })]⟩),(17,⟨10,[],[(10,{ ent:=some (Ax n) })]⟩),(19,⟨0,[],[(5,{ ent:=some (Ayk n) })]⟩),(20,⟨0,[],[(0,{ sh:=some hR })]⟩),(21,⟨10,[],[(10,{ ent:=some (Ph n) })]⟩),(23,⟨0,[],[(5,{ ent:=some (Cs n) })]⟩),(24,⟨0,[],[(1,{ ent:=some (Aj5 n) })]⟩),(25,⟨0,[],[(0,{ sh:=some hR })]⟩),(26,⟨0,[],[(2,{ ent:=some (Aj9 n) }),(3,{ sh:=some hR })]⟩)],join:=[(24,B7s)],loop:=[(3,⟨Zl,A9a,A5 (A99 n) n⟩)] }
theorem Agi (α:Type) (n:Nat):Al PP (Af (Aq6 α n).reg):=⟨Du n,Aah n,A0e n,Bab n,Ct n,Baa n,Aoo n,Sb n,Aon n,Aop n,trivial⟩
theorem Av6 (α:Type) (n:Nat):LO.Sound (α:=α) PP ⟨122,[]⟩ ⟨Zl,A9a,A5 (A99 n) n⟩ (.loop ((A0 Tryz.f88).at [1,1,0,1,0,0])):=C1 (D:=Aq6 α n) (Agi α n) n
theorem Bhe (α:Type) (n:Nat):D3.OK PP TT ⟨122,[]⟩ (Aq6 α n) (A0 Tryz.f88) :=
 D3.OK.mk3 (Agi α n) (show Aa (A0 Tryz.f88)=[(3,(.loop ((A0 Tryz.f88).at [1,1,0,1,0,0])))] by kernel_rfl) ⟨Ac rfl (Av6 α n),trivial⟩
theorem Bd1 (n:Nat):(B61 n).Sound PP:=fk (fn:=Tryz.f88) (Bhe _ n)

def A51 {α:Type} (n:Nat) (b c:Int) (a:LR) (f:Int->Int->LR->Option α) (k0:LR->Option α):Option α :=
 bif (decide (c<b)) then
  ob (f131 n 0) λd =>
  gd (decide ((a.length+1)*56<=140737488355328)) (
   f b (W (c+1)) (a++[d]))
 else
  k0 a
abbrev Ur:Tm:=⟨[(0,.d hI),(3,.k (.hw 5)),(4,.d hI)],[(5,.arr 54 hR false)],[13],[]⟩
abbrev Az9:Tm:=⟨[(3,.k (.hw 5))],[(5,.arr 54 hR false)],[],[]⟩
abbrev A50:List (Exit × Tm):=[(.exit 0,Az9)]
def A4z {α:Type} (n:Nat) (v:Ur.den) (f:Ur.den->Option α) (ks:KS α A50):Option α:=A51 n v.1.1 v.1.2.2.1 v.2.1 (λa b c=>f ((a,(),b,()),(c,()))) (λw0=>ks.1 (((),()),(w0,())))
def A0i {α:Type} (n m:Nat) (a b:Int) (c:LR) (k0:LR->Option α):Option α:=A5 (A4z n) m ((a,(),b,()),(c,())) (λw=>k0 w.2.1,())
theorem Az8 {α n m a b c k0}:A0i (α:=α) n (m+1) a b c k0=A51 n a b c (λa b c=>A0i n m a b c k0) k0:=rfl
def f118 (n:Nat) (a0:Int):Option LR :=
 A0i n n a0 0 []
  (λa=>(
   some a))
def Aza (n:Nat):Ent:=⟨118,[hI],[hRs],λx=>f118 n x⟩
def Ajf (α:Type) (n:Nat):D3 α:={ reg:=[(1,⟨0,[],[(0,{ sh:=some hR })]⟩),(5,⟨0,[],[(1,{ ent:=some (Bf n) }),(2,{ sh:=some hR })]⟩)],join:=[],loop:=[(3,⟨Ur,A50,A5 (A4z n) n⟩)] }
theorem Ad0 (α:Type) (n:Nat):Al PP (Af (Ajf α n).reg):=⟨Du n,trivial⟩
theorem Ase (α:Type) (n:Nat):LO.Sound (α:=α) PP ⟨16,[]⟩ ⟨Ur,A50,A5 (A4z n) n⟩ (.loop ((A0 Tryz.f118).at [1,1,0,1,0,0])):=C1 (D:=Ajf α n) (Ad0 α n) n
theorem Bfz (α:Type) (n:Nat):D3.OK PP TT ⟨16,[]⟩ (Ajf α n) (A0 Tryz.f118) :=
 D3.OK.mk3 (Ad0 α n) (show Aa (A0 Tryz.f118)=[(3,(.loop ((A0 Tryz.f118).at [1,1,0,1,0,0])))] by kernel_rfl) ⟨Ac rfl (Ase α n),trivial⟩
theorem Bar (n:Nat):(Aza n).Sound PP:=fk (fn:=Tryz.f118) (Bfz _ n)

abbrev Aom:Tm:=⟨[(6,.k (.hp 6 0 0)),(7,.k (.hp 7 0 0)),(8,.k (.hp 8 0 0)),(9,.k (.hp 9 0 0)),(10,.k (.hp 10 0 0)),(11,.k (.hp 11 0 0))],[(6,.var 54 true false [.d .bool,.d .nil,.d .nil]),(7,.var 54 true false [.d .bool,.d .nil,.d .nil]),(8,.var 54 true false [.d .bool,.d .nil,.d .nil]),(9,.var 54 true false [.d .bool,.d .nil,.d .nil]),(10,.var 54 true false [.d .bool,.d hIs,.d hIs]),(11,.var 54 true false [.d .bool,.d hIs,.d hIs])],[3],[]⟩
abbrev Aol:Tm:=⟨[(6,.k (.hp 6 0 0)),(7,.k (.hp 7 0 0)),(8,.k (.hp 8 0 0)),(9,.k (.hp 9 0 0)),(10,.k (.hp 10 0 0)),(11,.k (.hp 11 0 0))],[(6,.var 54 true false [.d .bool,.d .nil,.d .nil]),(7,.var 54 true false [.d .bool,.d .nil,.d .nil]),(8,.var 54 true false [.d .bool,.d .nil,.d .nil]),(9,.var 54 true false [.d .bool,.d .nil,.d .nil]),(10,.var 54 true false [.d .bool,.d hIs,.d hIs]),(11,.var 54 true false [.d .bool,.d hIs,.d hIs])],[3],[]⟩
abbrev Aok:Tm:=⟨[(1,.d hRs),(2,.d hRs),(3,.k (.hp 3 0 0)),(6,.k (.hp 6 0 0)),(7,.k (.hp 7 0 0)),(8,.k (.hp 8 0 0)),(9,.k (.hp 9 0 0))],[(3,.var 85 true false [.d hI,.d hI,.d hI,.d hI]),(6,.var 54 true false [.d .bool,.d .nil,.d .nil]),(7,.var 54 true false [.d .bool,.d .nil,.d .nil]),(8,.var 54 true false [.d .bool,.d .nil,.d .nil]),(9,.var 54 true false [.d .bool,.d .nil,.d .nil])],[10,11],[]⟩
abbrev Aj4:Tm:=⟨[(1,.d hRs),(2,.d hRs),(3,.k (.hp 3 0 0)),(6,.k (.hp 6 0 0)),(7,.k (.hp 7 0 0)),(8,.k (.hp 8 0 0)),(9,.k (.hp 9 0 0)),(11,.k (.hp 11 0 0))],[(3,.var 85 true false [.d hI,.d hI,.d hI,.d hI]),(6,.var 54 true false [.d .bool,.d .nil,.d .nil]),(7,.var 54 true false [.d .bool,.d .nil,.d .nil]),(8,.var 54 true false [.d .bool,.d .nil,.d .nil]),(9,.var 54 true false [.d .bool,.d .nil,.d .nil]),(11,.var 54 true false [.d .bool,.d hIs,.d hIs])],[10],[]⟩
abbrev Aj3:Tm:=⟨[(1,.d hRs),(2,.d hRs),(3,.k (.hp 3 0 0)),(6,.k (.hp 6 0 0)),(7,.k (.hp 7 0 0)),(8,.k (.hp 8 0 0)),(9,.k (.hp 9 0 0)),(12,.k (.hp 12 0 0)),(13,.k (.hp 13 0 0)),(14,.k (.hp 14 0 0))],[(3,.var 85 true false [.d hI,.d hI,.d hI,.d hI]),(6,.var 54 true false [.d .bool,.d .nil,.d .nil]),(7,.var 54 true false [.d .bool,.d .nil,.d .nil]),(8,.var 54 true false [.d .bool,.d .nil,.d .nil]),(9,.var 54 true false [.d .bool,.d .nil,.d .nil]),(12,.var 54 true false [.d .bool,.d hIs,.d hIs]),(13,.var 54 true false [.d .bool,.d hIs,.d hIs]),(14,.var 54 true false [.d .bool,.d hIs,.d hIs])],[11],[]⟩
abbrev Aj2:Tm:=⟨[(1,.d hRs),(2,.d hRs),(3,.k (.hp 3 0 0)),(6,.k (.hp 6 0 0)),(7,.k (.hp 7 0 0)),(8,.k (.hp 8 0 0)),(9,.k (.hp 9 0 0)),(12,.k (.hp 12 0 0)),(13,.k (.hp 13 0 0)),(14,.k (.hp 14 0 0)),(15,.k (.hp 15 0 0))],[(3,.var 85 true false [.d hI,.d hI,.d hI,.d hI]),(6,.var 54 true false [.d .bool,.d .nil,.d .nil]),(7,.var 54 true false [.d .bool,.d .nil,.d .nil]),(8,.var 54 true false [.d .bool,.d .nil,.d .nil]),(9,.var 54 true false [.d .bool,.d .nil,.d .nil]),(12,.var 54 true false [.d .bool,.d hIs,.d hIs]),(13,.var 54 true false [.d .bool,.d hIs,.d hIs]),(14,.var 54 true false [.d .bool,.d hIs,.d hIs]),(15,.var 54 true false [.d .bool,.d hIs,.d hIs])],[],[]⟩
abbrev Aj1:Tm:=⟨[(1,.d hRs),(2,.d hRs),(3,.k (.hp 3 0 0)),(6,.k (.hp 6 0 0)),(7,.k (.hp 7 0 0)),(8,.k (.hp 8 0 0)),(9,.k (.hp 9 0 0)),(12,.k (.hp 12 0 0)),(13,.k (.hp 13 0 0)),(14,.k (.hp 14 0 0)),(15,.k (.hp 15 0 0)),(16,.k (.hp 16 0 0))],[(3,.var 85 true false [.d hI,.d hI,.d hI,.d hI]),(6,.var 54 true false [.d .bool,.d .nil,.d .nil]),(7,.var 54 true false [.d .bool,.d .nil,.d .nil]),(8,.var 54 true false [.d .bool,.d .nil,.d .nil]),(9,.var 54 true false [.d .bool,.d .nil,.d .nil]),(12,.var 54 true false [.d .bool,.d hIs,.d hIs]),(13,.var 54 true false [.d .bool,.d hIs,.d hIs]),(14,.var 54 true false [.d .bool,.d hIs,.d hIs]),(15,.var 54 true false [.d .bool,.d hIs,.d hIs]),(16,.var 54 true false [.d .bool,.d hIs,.d hIs])],[],[]⟩
abbrev Aj0:Tm:=⟨[(6,.k (.hp 6 0 0)),(7,.k (.hp 7 0 0)),(8,.k (.hp 8 0 0)),(9,.k (.hp 9 0 0)),(12,.k (.hp 12 0 0)),(15,.k (.hp 15 0 0)),(16,.k (.hp 16 0 0)),(17,.k (.hp 17 0 0))],[(6,.var 54 true false [.d .bool,.d .nil,.d .nil]),(7,.var 54 true false [.d .bool,.d .nil,.d .nil]),(8,.var 54 true false [.d .bool,.d .nil,.d .nil]),(9,.var 54 true false [.d .bool,.d .nil,.d .nil]),(12,.var 54 true false [.d .bool,.d hIs,.d hIs]),(15,.var 54 true false [.d .bool,.d hIs,.d hIs]),(16,.var 54 true false [.d .bool,.d hIs,.d hIs]),(17,.var 54 true false [.d .bool,.d hIs,.d hIs])],[3,13,14],[]⟩
abbrev Aiz:Tm:=⟨[(6,.k (.hp 6 0 0)),(7,.k (.hp 7 0 0)),(8,.k (.hp 8 0 0)),(9,.k (.hp 9 0 0)),(10,.k (.hp 10 0 0))],[(6,.var 54 true false [.d .bool,.d .nil,.d .nil]),(7,.var 54 true false [.d .bool,.d .nil,.d .nil]),(8,.var 54 true false [.d .bool,.d .nil,.d .nil]),(9,.var 54 true false [.d .bool,.d .nil,.d .nil]),(10,.var 54 true false [.d .bool,.d hIs,.d hIs])],[3,11],[]⟩
abbrev Aiy:Tm:=⟨[(6,.k (.hp 6 0 0)),(7,.k (.hp 7 0 0)),(8,.k (.hp 8 0 0)),(9,.k (.hp 9 0 0)),(10,.k (.hp 10 0 0))],[(6,.var 54 true false [.d .bool,.d .nil,.d .nil]),(7,.var 54 true false [.d .bool,.d .nil,.d .nil]),(8,.var 54 true false [.d .bool,.d .nil,.d .nil]),(9,.var 54 true false [.d .bool,.d .nil,.d .nil]),(10,.var 54 true false [.d .bool,.d hIs,.d hIs])],[3,11],[]⟩
abbrev Aix:Tm:=⟨[(1,.d hRs),(2,.d hRs),(3,.k (.hp 3 0 0)),(6,.k (.hp 6 0 0)),(7,.k (.hp 7 0 0)),(8,.k (.hp 8 0 0)),(9,.k (.hp 9 0 0)),(10,.k (.hp 10 0 0))],[(3,.var 85 true false [.d hI,.d hI,.d hI,.d hI]),(6,.var 54 true false [.d .bool,.d .nil,.d .nil]),(7,.var 54 true false [.d .bool,.d .nil,.d .nil]),(8,.var 54 true false [.d .bool,.d .nil,.d .nil]),(9,.var 54 true false [.d .bool,.d .nil,.d .nil]),(10,.var 54 true false [.d .bool,.d hIs,.d hIs])],[11],[]⟩
abbrev Aiw:Tm:=⟨[(6,.k (.hp 6 0 0)),(7,.k (.hp 7 0 0)),(8,.k (.hp 8 0 0)),(9,.k (.hp 9 0 0)),(10,.k (.hp 10 0 0)),(18,.k (.hp 18 0 0)),(19,.k (.hp 19 0 0))],[(6,.var 54 true false [.d .bool,.d .nil,.d .nil]),(7,.var 54 true false [.d .bool,.d .nil,.d .nil]),(8,.var 54 true false [.d .bool,.d .nil,.d .nil]),(9,.var 54 true false [.d .bool,.d .nil,.d .nil]),(10,.var 54 true false [.d .bool,.d hIs,.d hIs]),(18,.var 54 true false [.d .bool,.d hIs,.d hIs]),(19,.var 54 true false [.d .bool,.d hIs,.d hIs])],[],[]⟩
abbrev Aiv:Tm:=⟨[(6,.k (.hp 6 0 0)),(7,.k (.hp 7 0 0)),(8,.k (.hp 8 0 0)),(9,.k (.hp 9 0 0)),(10,.k (.hp 10 0 0))],[(6,.var 54 true false [.d .bool,.d .nil,.d .nil]),(7,.var 54 true false [.d .bool,.d .nil,.d .nil]),(8,.var 54 true false [.d .bool,.d .nil,.d .nil]),(9,.var 54 true false [.d .bool,.d .nil,.d .nil]),(10,.var 54 true false [.d .bool,.d hIs,.d hIs])],[3,11],[]⟩
abbrev B48:Tm:=⟨[(6,.k (.hp 6 0 0)),(7,.k (.hp 7 0 0)),(8,.k (.hp 8 0 0)),(9,.k (.hp 9 0 0)),(10,.k (.hp 10 0 0)),(18,.k (.hp 18 0 0)),(19,.k (.hp 19 0 0))],[(6,.var 54 true false [.d .bool,.d .nil,.d .nil]),(7,.var 54 true false [.d .bool,.d .nil,.d .nil]),(8,.var 54 true false [.d .bool,.d .nil,.d .nil]),(9,.var 54 true false [.d .bool,.d .nil,.d .nil]),(10,.var 54 true false [.d .bool,.d hIs,.d hIs]),(18,.var 54 true false [.d .bool,.d hIs,.d hIs]),(19,.var 54 true false [.d .bool,.d hIs,.d hIs])],[3],[]⟩
def f148 (n:Nat) (a0:Nq) (a1 a2:LR):Option (Rq × Rq × Rq × Rq) :=
 ob (f131 n 0) λa =>
 ob (f131 n 1) λb =>
 bif (a0.1==3) then
  some (b,b,a,a)
 else
  bif (a0.1==4) then
   ob (f131 n (-1)) λg =>
   some (b,g,a,a)
  else
   bif (a0.1==5) then
    gd (decide (0<=a0.2.2.1)&&decide (a0.2.2.1<(a1.length:Int))) (
     let h:=a1.getD a0.2.2.1.toNat (false,[],[])
     gd (decide (0<=a0.2.1)&&decide (a0.2.1<(a1.length:Int))) (
      let i:=a1.getD a0.2.1.toNat (false,[],[])
      gd (decide (0<=a0.2.2.1)&&decide (a0.2.2.1<(a2.length:Int))) (
       let j:=a2.getD a0.2.2.1.toNat (false,[],[])
       gd (decide (0<=a0.2.1)&&decide (a0.2.1<(a2.length:Int))) (
        let k:=a2.getD a0.2.1.toNat (false,[],[])
        some (h,i,j,k)))))
   else
    bif (a0.1==6) then
     gd (decide (0<=a0.2.2.1)&&decide (a0.2.2.1<(a1.length:Int))) (
      let l:=a1.getD a0.2.2.1.toNat (false,[],[])
      ob (f142 n b l) λc =>
      ob (f140 n c c) λd =>
      ob (f140 n d c) λm =>
      gd (decide (0<=a0.2.2.1)&&decide (a0.2.2.1<(a2.length:Int))) (
       let o:=a2.getD a0.2.2.1.toNat (false,[],[])
       ob (f140 n o d) λp =>
       ob (f143 n p) λq =>
       gd (decide (0<=a0.2.1)&&decide (a0.2.1<(a1.length:Int))) (
        let r:=a1.getD a0.2.1.toNat (false,[],[])
        ob (f140 n r d) λs =>
        ob (f143 n s) λt =>
        gd (decide (0<=a0.2.1)&&decide (a0.2.1<(a2.length:Int))) (
         let u:=a2.getD a0.2.1.toNat (false,[],[])
         ob (f140 n u d) λv =>
         ob (f143 n v) λw =>
         ob (f131 n 2) λx =>
         gd (decide (0<=a0.2.1)&&decide (a0.2.1<(a1.length:Int))) (
          let y:=a1.getD a0.2.1.toNat (false,[],[])
          gd (decide (0<=a0.2.2.1)&&decide (a0.2.2.1<(a2.length:Int))) (
           let z:=a2.getD a0.2.2.1.toNat (false,[],[])
           ob (f140 n y z) λd0 =>
           ob (f140 n d0 m) λd1 =>
           ob (f140 n x d1) λd2 =>
           ob (f138 n w d2) λd3 =>
           some (c,t,q,d3)))))))
    else
     bif (a0.1==7) then
      ob (f131 n (-1)) λd4 =>
      some (d4,a,a,a)
     else
      bif (a0.1==8) then
       bif (a0.2.2.2==0) then
        some (a,a,a,a)
       else
        ob (f131 n a0.2.2.2) λd5 =>
        gd (decide (0<=a0.2.1)&&decide (a0.2.1<(a1.length:Int))) (
         let d6:=a1.getD a0.2.1.toNat (false,[],[])
         ob (f144 n d6 (W (a0.2.2.2-1))) λd7 =>
         ob (f140 n d5 d7) λd8 =>
         let f:=λ(d9:Bool) (e0:LI) (e1:LI)=>(
          some (d8,a,(d9,e0,e1),a))
         bif (decide (a0.2.2.2>1)) then
          ob (f131 n (W (a0.2.2.2*(W (a0.2.2.2-1))))) λe2 =>
          gd (decide (0<=a0.2.1)&&decide (a0.2.1<(a1.length:Int))) (
           let e3:=a1.getD a0.2.1.toNat (false,[],[])
           ob (f144 n e3 (W (a0.2.2.2-2))) λe4 =>
           ob (f140 n e2 e4) λe5 =>
           gd (decide (0<=a0.2.1)&&decide (a0.2.1<(a2.length:Int))) (
            let e6:=a2.getD a0.2.1.toNat (false,[],[])
            ob (f140 n e5 e6) λe =>
            f e.1 e.2.1 e.2.2))
         else
          f a.1 a.2.1 a.2.2)
      else
       some (a,a,a,a)
def Ayg (n:Nat):Ent:=⟨148,[hN,hRs,hRs],[hR,hR,hR,hR],λx=>f148 n x.1 x.2.1 x.2.2⟩
def Ayh (α:Type) (n:Nat):D3 α:={ reg:=[(1,⟨0,[],[(0,{ ent:=some (Bf n) })]⟩),(2,⟨0,[],[(0,{ ent:=some (Bf n) })]⟩),(7,⟨0,[],[(1,{ ent:=some (Bf n) })]⟩),(11,⟨0,[],[(6,{ ent:=some (Ph n) })]⟩),(12,⟨0,[],[(2,{ ent:=some (Ax n) })]⟩),(13,⟨0,[],[(2,{ ent:=some (Ax n) })]⟩),(14,⟨0,[],[(6,{ ent:=some (Ax n) }),(7,{ ent:=some (Cs n) })]⟩),(15,⟨0,[],[(6,{ ent:=some (Ax n) }),(7,{ ent:=some (Cs n) })]⟩),(16,⟨0,[],[(6,{ ent:=some (Ax n) }),(7,{ ent:=some (Cs n) }),(8,{ ent:=some (Bf n) }),(19,{ ent:=some (Ax n) }),(21,{ ent:=some (Ax n) }),(22,{ ent:=some (Ax n) }),(23,{ ent:=some (Jp n) })]⟩),(19,⟨0,[],[(0,{ ent:=some (Bf n) })]⟩),(23,⟨0,[],[(2,{ ent:=some (Bf n) }),(11,{ ent:=some (M5 n) }),(12,{ ent:=some (Ax n) })]⟩),(26,⟨22,[],[(6,{ ent:=some (Bf n) }),(15,{ ent:=some (M5 n) }),(16,{ ent:=some (Ax n) }),(22,{ ent:=some (Ax n) })]⟩)],join:=[(27,B48)],loop:=[],any:=[(5,Aom),(7,Aol),(9,Aok),(11,Aj4),(14,Aj3),(15,Aj2),(16,Aj1),(17,Aj0),(19,Aiz),(22,Aiy),(23,Aix),(27,Aiw),(28,Aiv)] }
set_option maxHeartbeats 8000000 in
theorem Ba9 (n:Nat):Ag TT ⟨180,[]⟩ [] Aom (A4 ((A0 Tryz.f148).at [1,1,1,0,1,0,1,0,0])):=by
 refine ⟨by kernel_rfl,λw q hq=>?_⟩
 have e:WT [] (A7 (A4 ((A0 Tryz.f148).at [1,1,1,0,1,0,1,0,0])).toList) q=(q=[]):=by kernel_rfl
 rw [e] at hq;obtain rfl:=hq
 all_goals exact .inr ⟨7,by kernel_rfl,by kernel_rfl,by kernel_rfl⟩
set_option maxHeartbeats 8000000 in
theorem Ba8 (n:Nat):Ag TT ⟨180,[]⟩ [(1,{ ent:=some (Bf n) })] Aol (A4 ((A0 Tryz.f148).at [1,1,1,0,1,0,1,1,1,0,0])):=by
 refine ⟨by kernel_rfl,λw q hq=>?_⟩
 have e:WT [(1,{ ent:=some (Bf n) })] (A7 (A4 ((A0 Tryz.f148).at [1,1,1,0,1,0,1,1,1,0,0])).toList) q=(∃ (y0:HL (Bf n).rs) (q0:List (Nat × RV)),q=(1,.sv (Ae (Bf n).rs y0))::q0/\q0=[]):=by kernel_rfl
 rw [e] at hq;obtain ⟨y0,q0,rfl,rfl⟩:=hq
 all_goals exact .inr ⟨7,by kernel_rfl,by kernel_rfl,by kernel_rfl⟩
set_option maxHeartbeats 8000000 in
theorem Ba7 (n:Nat):Ag TT ⟨180,[]⟩ [] Aok (A4 ((A0 Tryz.f148).at [1,1,1,0,1,0,1,1,1,1,1,0,0])):=by
 refine ⟨by kernel_rfl,λw q hq=>?_⟩
 have e:WT [] (A7 (A4 ((A0 Tryz.f148).at [1,1,1,0,1,0,1,1,1,1,1,0,0])).toList) q=(q=[]):=by kernel_rfl
 rw [e] at hq;obtain rfl:=hq
 all_goals exact .inr ⟨23,by kernel_rfl,by kernel_rfl,by kernel_rfl⟩
set_option maxHeartbeats 8000000 in
theorem B4i (n:Nat):Ag TT ⟨180,[]⟩ [(6,{ ent:=some (Ph n) })] Aj4 (A4 ((A0 Tryz.f148).at [1,1,1,0,1,0,1,1,1,1,1,1,1,0,0])):=by
 refine ⟨by kernel_rfl,λw q hq=>?_⟩
 have e:WT [(6,{ ent:=some (Ph n) })] (A7 (A4 ((A0 Tryz.f148).at [1,1,1,0,1,0,1,1,1,1,1,1,1,0,0])).toList) q=(∃ (y0:HL (Ph n).rs) (q0:List (Nat × RV)),q=(6,.sv (Ae (Ph n).rs y0))::q0/\q0=[]):=by kernel_rfl
 rw [e] at hq;obtain ⟨y0,q0,rfl,rfl⟩:=hq
 all_goals exact .inr ⟨8,by kernel_rfl,by kernel_rfl,by kernel_rfl⟩
set_option maxHeartbeats 8000000 in
theorem B4h (n:Nat):Ag TT ⟨180,[]⟩ [(6,{ ent:=some (Ax n) }),(7,{ ent:=some (Cs n) })] Aj3 (A4 ((A0 Tryz.f148).at [1,1,1,0,1,0,1,1,1,1,1,1,1,0,1,1,1,0])):=by
 refine ⟨by kernel_rfl,λw q hq=>?_⟩
 have e:WT [(6,{ ent:=some (Ax n) }),(7,{ ent:=some (Cs n) })] (A7 (A4 ((A0 Tryz.f148).at [1,1,1,0,1,0,1,1,1,1,1,1,1,0,1,1,1,0])).toList) q=(∃ (y0:HL (Ax n).rs) (q0:List (Nat × RV)),q=(6,.sv (Ae (Ax n).rs y0))::q0 /\ ∃ (y1:HL (Cs n).rs) (q1:List (Nat × RV)),q0=(7,.sv (Ae (Cs n).rs y1))::q1/\q1=[]):=by kernel_rfl
 rw [e] at hq;obtain ⟨y0,q0,rfl,y1,q1,rfl,rfl⟩:=hq
 all_goals exact .inr ⟨9,by kernel_rfl,by kernel_rfl,by kernel_rfl⟩
set_option maxHeartbeats 8000000 in
theorem B4g (n:Nat):Ag TT ⟨180,[]⟩ [(6,{ ent:=some (Ax n) }),(7,{ ent:=some (Cs n) })] Aj2 (A4 ((A0 Tryz.f148).at [1,1,1,0,1,0,1,1,1,1,1,1,1,0,1,1,1,1,0])):=by
 refine ⟨by kernel_rfl,λw q hq=>?_⟩
 have e:WT [(6,{ ent:=some (Ax n) }),(7,{ ent:=some (Cs n) })] (A7 (A4 ((A0 Tryz.f148).at [1,1,1,0,1,0,1,1,1,1,1,1,1,0,1,1,1,1,0])).toList) q=(∃ (y0:HL (Ax n).rs) (q0:List (Nat × RV)),q=(6,.sv (Ae (Ax n).rs y0))::q0 /\ ∃ (y1:HL (Cs n).rs) (q1:List (Nat × RV)),q0=(7,.sv (Ae (Cs n).rs y1))::q1/\q1=[]):=by kernel_rfl
 rw [e] at hq;obtain ⟨y0,q0,rfl,y1,q1,rfl,rfl⟩:=hq
 all_goals exact .inr ⟨9,by kernel_rfl,by kernel_rfl,by kernel_rfl⟩
set_option maxHeartbeats 8000000 in
theorem B4f (n:Nat):Ag TT ⟨180,[]⟩ [(6,{ ent:=some (Ax n) }),(7,{ ent:=some (Cs n) }),(8,{ ent:=some (Bf n) }),(19,{ ent:=some (Ax n) }),(21,{ ent:=some (Ax n) }),(22,{ ent:=some (Ax n) }),(23,{ ent:=some (Jp n) })] Aj1 (A4 ((A0 Tryz.f148).at [1,1,1,0,1,0,1,1,1,1,1,1,1,0,1,1,1,1,1,0])):=by
 refine ⟨by kernel_rfl,λw q hq=>?_⟩
 have e:WT [(6,{ ent:=some (Ax n) }),(7,{ ent:=some (Cs n) }),(8,{ ent:=some (Bf n) }),(19,{ ent:=some (Ax n) }),(21,{ ent:=some (Ax n) }),(22,{ ent:=some (Ax n) }),(23,{ ent:=some (Jp n) })] (A7 (A4 ((A0 Tryz.f148).at [1,1,1,0,1,0,1,1,1,1,1,1,1,0,1,1,1,1,1,0])).toList) q=(∃ (y0:HL (Ax n).rs) (q0:List (Nat × RV)),q=(6,.sv (Ae (Ax n).rs y0))::q0 /\ ∃ (y1:HL (Cs n).rs) (q1:List (Nat × RV)),q0=(7,.sv (Ae (Cs n).rs y1))::q1 /\ ∃ (y2:HL (Bf n).rs) (q2:List (Nat × RV)),q1=(8,.sv (Ae (Bf n).rs y2))::q2 /\ ∃ (y3:HL (Ax n).rs) (q3:List (Nat × RV)),q2=(19,.sv (Ae (Ax n).rs y3))::q3 /\ ∃ (y4:HL (Ax n).rs) (q4:List (Nat × RV)),q3=(21,.sv (Ae (Ax n).rs y4))::q4 /\ ∃ (y5:HL (Ax n).rs) (q5:List (Nat × RV)),q4=(22,.sv (Ae (Ax n).rs y5))::q5 /\ ∃ (y6:HL (Jp n).rs) (q6:List (Nat × RV)),q5=(23,.sv (Ae (Jp n).rs y6))::q6/\q6=[]):=by kernel_rfl
 rw [e] at hq;obtain ⟨y0,q0,rfl,y1,q1,rfl,y2,q2,rfl,y3,q3,rfl,y4,q4,rfl,y5,q5,rfl,y6,q6,rfl,rfl⟩:=hq
 all_goals exact .inr ⟨25,by kernel_rfl,by kernel_rfl,by kernel_rfl⟩
set_option maxHeartbeats 8000000 in
theorem B4e (n:Nat):Ag TT ⟨180,[]⟩ [] Aj0 (A4 ((A0 Tryz.f148).at [1,1,1,0,1,0,1,1,1,1,1,1,1,0,1,1,1,1,1,1,0])):=by
 refine ⟨by kernel_rfl,λw q hq=>?_⟩
 have e:WT [] (A7 (A4 ((A0 Tryz.f148).at [1,1,1,0,1,0,1,1,1,1,1,1,1,0,1,1,1,1,1,1,0])).toList) q=(q=[]):=by kernel_rfl
 rw [e] at hq;obtain rfl:=hq
 all_goals exact .inr ⟨7,by kernel_rfl,by kernel_rfl,by kernel_rfl⟩
set_option maxHeartbeats 8000000 in
theorem B4d (n:Nat):Ag TT ⟨180,[]⟩ [(0,{ ent:=some (Bf n) })] Aiz (A4 ((A0 Tryz.f148).at [1,1,1,0,1,0,1,1,1,1,1,1,1,1,1,0,0])):=by
 refine ⟨by kernel_rfl,λw q hq=>?_⟩
 have e:WT [(0,{ ent:=some (Bf n) })] (A7 (A4 ((A0 Tryz.f148).at [1,1,1,0,1,0,1,1,1,1,1,1,1,1,1,0,0])).toList) q=(∃ (y0:HL (Bf n).rs) (q0:List (Nat × RV)),q=(0,.sv (Ae (Bf n).rs y0))::q0/\q0=[]):=by kernel_rfl
 rw [e] at hq;obtain ⟨y0,q0,rfl,rfl⟩:=hq
 all_goals exact .inr ⟨7,by kernel_rfl,by kernel_rfl,by kernel_rfl⟩
set_option maxHeartbeats 8000000 in
theorem B4c (n:Nat):Ag TT ⟨180,[]⟩ [] Aiy (A4 ((A0 Tryz.f148).at [1,1,1,0,1,0,1,1,1,1,1,1,1,1,1,1,1,0,0,1,0,0])):=by
 refine ⟨by kernel_rfl,λw q hq=>?_⟩
 have e:WT [] (A7 (A4 ((A0 Tryz.f148).at [1,1,1,0,1,0,1,1,1,1,1,1,1,1,1,1,1,0,0,1,0,0])).toList) q=(q=[]):=by kernel_rfl
 rw [e] at hq;obtain rfl:=hq
 all_goals exact .inr ⟨7,by kernel_rfl,by kernel_rfl,by kernel_rfl⟩
set_option maxHeartbeats 8000000 in
theorem B4b (n:Nat):Ag TT ⟨180,[]⟩ [(2,{ ent:=some (Bf n) }),(11,{ ent:=some (M5 n) }),(12,{ ent:=some (Ax n) })] Aix (A4 ((A0 Tryz.f148).at [1,1,1,0,1,0,1,1,1,1,1,1,1,1,1,1,1,0,1,0])):=by
 refine ⟨by kernel_rfl,λw q hq=>?_⟩
 have e:WT [(2,{ ent:=some (Bf n) }),(11,{ ent:=some (M5 n) }),(12,{ ent:=some (Ax n) })] (A7 (A4 ((A0 Tryz.f148).at [1,1,1,0,1,0,1,1,1,1,1,1,1,1,1,1,1,0,1,0])).toList) q=(∃ (y0:HL (Bf n).rs) (q0:List (Nat × RV)),q=(2,.sv (Ae (Bf n).rs y0))::q0 /\ ∃ (y1:HL (M5 n).rs) (q1:List (Nat × RV)),q0=(11,.sv (Ae (M5 n).rs y1))::q1 /\ ∃ (y2:HL (Ax n).rs) (q2:List (Nat × RV)),q1=(12,.sv (Ae (Ax n).rs y2))::q2/\q2=[]):=by kernel_rfl
 rw [e] at hq;obtain ⟨y0,q0,rfl,y1,q1,rfl,y2,q2,rfl,rfl⟩:=hq
 all_goals exact .inr ⟨14,by kernel_rfl,by kernel_rfl,by kernel_rfl⟩
set_option maxHeartbeats 8000000 in
theorem B4a (n:Nat):Ag TT ⟨180,[]⟩ [] Aiw (A4 ((A0 Tryz.f148).at [1,1,1,0,1,0,1,1,1,1,1,1,1,1,1,1,1,0,1,1,1,1,0])):=by
 refine ⟨by kernel_rfl,λw q hq=>?_⟩
 have e:WT [] (A7 (A4 ((A0 Tryz.f148).at [1,1,1,0,1,0,1,1,1,1,1,1,1,1,1,1,1,0,1,1,1,1,0])).toList) q=(q=[]):=by kernel_rfl
 rw [e] at hq;obtain rfl:=hq
 all_goals exact .inr ⟨7,by kernel_rfl,by kernel_rfl,by kernel_rfl⟩
set_option maxHeartbeats 8000000 in
theorem B49 (n:Nat):Ag TT ⟨180,[]⟩ [] Aiv (A4 ((A0 Tryz.f148).at [1,1,1,1,0])):=by
 refine ⟨by kernel_rfl,λw q hq=>?_⟩
 have e:WT [] (A7 (A4 ((A0 Tryz.f148).at [1,1,1,1,0])).toList) q=(q=[]):=by kernel_rfl
 rw [e] at hq;obtain rfl:=hq
 all_goals exact .inr ⟨7,by kernel_rfl,by kernel_rfl,by kernel_rfl⟩
theorem Ayf (α:Type) (n:Nat):Al PP (Af (Ayh α n).reg):=⟨Du n,Du n,Du n,Aoo n,Ct n,Ct n,Ct n,Sb n,Ct n,Sb n,Ct n,Sb n,Du n,Ct n,Ct n,Ct n,A0e n,Du n,Du n,Aah n,Ct n,Du n,Aah n,Ct n,Ct n,trivial⟩
theorem Bfe (α:Type) (n:Nat):D3.OK PP TT ⟨180,[]⟩ (Ayh α n) (A0 Tryz.f148) :=
 D3.OK.mk3a (Ayf α n) (show Aa (A0 Tryz.f148)=[] by kernel_rfl) trivial (show As (A0 Tryz.f148)=[(5,A4 ((A0 Tryz.f148).at [1,1,1,0,1,0,1,0,0])),(7,A4 ((A0 Tryz.f148).at [1,1,1,0,1,0,1,1,1,0,0])),(9,A4 ((A0 Tryz.f148).at [1,1,1,0,1,0,1,1,1,1,1,0,0])),(11,A4 ((A0 Tryz.f148).at [1,1,1,0,1,0,1,1,1,1,1,1,1,0,0])),(14,A4 ((A0 Tryz.f148).at [1,1,1,0,1,0,1,1,1,1,1,1,1,0,1,1,1,0])),(15,A4 ((A0 Tryz.f148).at [1,1,1,0,1,0,1,1,1,1,1,1,1,0,1,1,1,1,0])),(16,A4 ((A0 Tryz.f148).at [1,1,1,0,1,0,1,1,1,1,1,1,1,0,1,1,1,1,1,0])),(17,A4 ((A0 Tryz.f148).at [1,1,1,0,1,0,1,1,1,1,1,1,1,0,1,1,1,1,1,1,0])),(19,A4 ((A0 Tryz.f148).at [1,1,1,0,1,0,1,1,1,1,1,1,1,1,1,0,0])),(22,A4 ((A0 Tryz.f148).at [1,1,1,0,1,0,1,1,1,1,1,1,1,1,1,1,1,0,0,1,0,0])),(23,A4 ((A0 Tryz.f148).at [1,1,1,0,1,0,1,1,1,1,1,1,1,1,1,1,1,0,1,0])),(26,A4 ((A0 Tryz.f148).at [1,1,1,0,1,0,1,1,1,1,1,1,1,1,1,1,1,0,1,1,1,0,1,0])),(27,A4 ((A0 Tryz.f148).at [1,1,1,0,1,0,1,1,1,1,1,1,1,1,1,1,1,0,1,1,1,1,0])),(28,A4 ((A0 Tryz.f148).at [1,1,1,1,0]))] by kernel_rfl) ⟨⟨Ba9 n,trivial⟩,⟨Ba8 n,trivial⟩,⟨Ba7 n,trivial⟩,⟨B4i n,trivial⟩,⟨B4h n,trivial⟩,⟨B4g n,trivial⟩,⟨B4f n,trivial⟩,⟨B4e n,trivial⟩,⟨B4d n,trivial⟩,⟨B4c n,trivial⟩,⟨B4b n,trivial⟩,trivial,⟨B4a n,trivial⟩,⟨B49 n,trivial⟩,trivial⟩
theorem Ba6 (n:Nat):(Ayg n).Sound PP:=fk (fn:=Tryz.f148) (Bfe _ n)

def A95 {α:Type} (n:Nat) (g e h:LR) (c:Int) (d:LN) (i:Int) (b:LR) (f:LR->LR->LR->Int->LN->Int->LR->Option α) (k0:LR->Option α):Option α :=
 bif (decide (c<(d.length:Int))) then
  gd (decide (0<=c)&&decide (c<(d.length:Int))) (
   let a:=d.getD c.toNat (0,0,0,0)
   ob (f131 n 0) λj =>
   let l:=λ(q:Bool) (r:LI) (s:LI)=>(
    let m:=λ(t:Bool)=>(
     bif t then
      ob (f148 n a g h) λo =>
      gd (decide (0<=a.2.1)&&decide (a.2.1<(b.length:Int))) (
       gd (decide (a.2.1.toNat<b.length)) (
        let u:=b.getD a.2.1.toNat (false,[],[])
        ob (f140 n o.1 u) λp =>
        ob (f146 n a.1) λv =>
        bif v then
         gd (decide (0<=a.2.2.1)&&decide (a.2.2.1<(b.length:Int))) (
          gd (decide (a.2.2.1.toNat<b.length)) (
           let w:=b.getD a.2.2.1.toNat (false,[],[])
           ob (f140 n o.2.1 w) λx =>
           ob (f138 n p x) λy =>
           gd (decide ((b.length+1)*56<=140737488355328)) (
            f g e h (W (c+1)) d i (b++[y]))))
        else
         gd (decide ((b.length+1)*56<=140737488355328)) (
          f g e h (W (c+1)) d i (b++[p]))))
     else
      gd (decide ((b.length+1)*56<=140737488355328)) (
       f g e h (W (c+1)) d i (b++[(q,r,s)])))
    ob (f146 n a.1) λz =>
    bif z then
     m true
    else
     ob (f147 n a.1) λd0 =>
     m d0)
   bif (a.1==2) then
    gd (decide (0<=a.2.2.2)&&decide (a.2.2.2<(e.length:Int))) (
     let k:=e.getD a.2.2.2.toNat (false,[],[])
     l k.1 k.2.1 k.2.2)
   else
    l j.1 j.2.1 j.2.2)
 else
  k0 b
abbrev Zj:Tm:=⟨[(1,.d hRs),(2,.d hRs),(3,.k (.hp 3 0 0)),(7,.k (.hw 16)),(8,.d hRs),(9,.d hI)],[(3,.var 33 true false [.d hNs,.d hI]),(16,.arr 54 hR false)],[10,11,12,13,14,15,80],[]⟩
abbrev B2b:Tm:=⟨[(7,.k (.hw 16))],[(16,.arr 54 hR false)],[3],[]⟩
abbrev A94:List (Exit × Tm):=[(.exit 0,B2b)]
def A93 {α:Type} (n:Nat) (v:Zj.den) (f:Zj.den->Option α) (ks:KS α A94):Option α:=A95 n v.1.1 v.1.2.1 v.1.2.2.2.2.1 v.1.2.2.2.2.2.1 v.2.1.1 v.2.1.2.1 v.2.2.1 (λa b c d e g h=>f ((a,b,(),(),c,d,()),((e,g,()),h,()))) (λw0=>ks.1 (((),()),(w0,())))
def Oh {α:Type} (n m:Nat) (a b c:LR) (d:Int) (e:LN) (f:Int) (g:LR) (k0:LR->Option α):Option α:=A5 (A93 n) m ((a,b,(),(),c,d,()),((e,f,()),g,())) (λw=>k0 w.2.1,())
theorem B2a {α n m a b c d e f g k0}:Oh (α:=α) n (m+1) a b c d e f g k0=A95 n a b c d e f g (λa b c d e f g=>Oh n m a b c d e f g k0) k0:=rfl
abbrev B7r:Tm:=⟨[(1,.d hRs),(2,.d hRs),(3,.k (.hp 3 0 0)),(7,.k (.hw 16)),(8,.d hRs),(9,.d hI),(10,.k (.hp 10 0 0)),(11,.k (.hp 11 0 0))],[(3,.var 33 true false [.d hNs,.d hI]),(10,.var 85 true false [.d hI,.d hI,.d hI,.d hI]),(11,.var 54 true false [.d .bool,.d hIs,.d hIs]),(16,.arr 54 hR false)],[],[]⟩
abbrev B7q:Tm:=⟨[(1,.d hRs),(2,.d hRs),(3,.k (.hp 3 0 0)),(7,.k (.hw 16)),(8,.d hRs),(9,.d hI),(10,.k (.hp 10 0 0)),(11,.k (.hp 11 0 0)),(49,.d .bool)],[(3,.var 33 true false [.d hNs,.d hI]),(10,.var 85 true false [.d hI,.d hI,.d hI,.d hI]),(11,.var 54 true false [.d .bool,.d hIs,.d hIs]),(16,.arr 54 hR false)],[],[]⟩
def f90 (n:Nat) (a0:LN × Int) (a1 a2:LR):Option LR :=
 ob (f118 n (a0.1.length:Int)) λa =>
 Oh n n a1 a2 a 0 a0.1 a0.2 []
  (λb=>(
   some b))
def B5z (n:Nat):Ent:=⟨90,[(.st (.pair hNs hI)),hRs,hRs],[hRs],λx=>f90 n x.1 x.2.1 x.2.2⟩
def Aq4 (α:Type) (n:Nat):D3 α:={ reg:=[(1,⟨0,[],[(0,{ sh:=some hR })]⟩),(2,⟨0,[],[(3,{ ent:=some (Aza n) })]⟩),(7,⟨0,[],[(0,{ ent:=some (Bf n) })]⟩),(10,⟨0,[],[(2,{ ent:=some (Sa n) }),(6,{ ent:=some (Yi n) })]⟩),(11,⟨0,[],[(3,{ ent:=some (Ayg n) })]⟩),(12,⟨6,[],[(6,{ ent:=some (Ax n) })]⟩),(13,⟨0,[],[(2,{ ent:=some (Sa n) })]⟩),(14,⟨8,[],[(7,{ ent:=some (Ax n) }),(8,{ ent:=some (Jp n) })]⟩),(15,⟨0,[],[(2,{ sh:=some hR })]⟩)],join:=[(10,B7r),(11,B7q)],loop:=[(4,⟨Zj,A94,A5 (A93 n) n⟩)] }
theorem Agg (α:Type) (n:Nat):Al PP (Af (Aq4 α n).reg):=⟨Bar n,Du n,S9 n,A0c n,Ba6 n,Ct n,S9 n,Ct n,A0e n,trivial⟩
theorem Av4 (α:Type) (n:Nat):LO.Sound (α:=α) PP ⟨83,[]⟩ ⟨Zj,A94,A5 (A93 n) n⟩ (.loop ((A0 Tryz.f90).at [1,1,1,0,1,0,0])):=C1 (D:=Aq4 α n) (Agg α n) n
theorem Bhc (α:Type) (n:Nat):D3.OK PP TT ⟨83,[]⟩ (Aq4 α n) (A0 Tryz.f90) :=
 D3.OK.mk3 (Agg α n) (show Aa (A0 Tryz.f90)=[(4,(.loop ((A0 Tryz.f90).at [1,1,1,0,1,0,0])))] by kernel_rfl) ⟨Ac rfl (Av4 α n),trivial⟩
theorem Bcz (n:Nat):(B5z n).Sound PP:=fk (fn:=Tryz.f90) (Bhc _ n)

def A98 {α:Type} (n:Nat) (b:LR) (a:Int) (c:LR) (f:LR->Int->LR->Option α) (k0:Int->LR->Option α) (k1:LR->Option α):Option α :=
 bif (decide (a<(b.length:Int))) then
  gd (decide (0<=a)&&decide (a<(b.length:Int))) (
   let d:=b.getD a.toNat (false,[],[])
   ob (f145 n d) λe =>
   bif (!e) then
    k0 7 []
   else
    gd (decide (0<=a)&&decide (a<(b.length:Int))) (
     let g:=b.getD a.toNat (false,[],[])
     ob (f127 n g) λh =>
     gd (decide ((c.length+1)*56<=140737488355328)) (
      f b (W (a+1)) (c++[h]))))
 else
  k1 c
abbrev Zk:Tm:=⟨[(0,.d hRs),(4,.k (.hw 6)),(5,.d hI)],[(6,.arr 54 hR false)],[26],[]⟩
abbrev B2e:Tm:=⟨[(2,.k (.hw 19)),(3,.d hI)],[(19,.arr 54 hR false)],[6],[]⟩
abbrev B2d:Tm:=⟨[(4,.k (.hw 6))],[(6,.arr 54 hR false)],[],[]⟩
abbrev A97:List (Exit × Tm):=[(.ret,B2e),(.exit 0,B2d)]
def A96 {α:Type} (n:Nat) (v:Zk.den) (f:Zk.den->Option α) (ks:KS α A97):Option α:=A98 n v.1.1 v.1.2.2.1 v.2.1 (λa b c=>f ((a,(),b,()),(c,()))) (λw0 w1=>ks.1 (((),w0,()),(w1,()))) (λw0=>ks.2.1 (((),()),(w0,())))
def Xj {α:Type} (n m:Nat) (a:LR) (b:Int) (c:LR) (k0:Int->LR->Option α) (k1:LR->Option α):Option α:=A5 (A96 n) m ((a,(),b,()),(c,())) (λw=>k0 w.1.2.1 w.2.1,λw=>k1 w.2.1,())
theorem B2c {α n m a b c k0 k1}:Xj (α:=α) n (m+1) a b c k0 k1=A98 n a b c (λa b c=>Xj n m a b c k0 k1) k0 k1:=rfl
def f89 (n:Nat) (a0:LR):Option (LR × Int) :=
 Xj n n a0 0 []
  (λa b=>(
   some (b,a)))
  (λc=>(
   some (c,0)))
def B60 (n:Nat):Ent:=⟨89,[hRs],[hRs,hI],λx=>f89 n x⟩
def Aq5 (α:Type) (n:Nat):D3 α:={ reg:=[(1,⟨0,[],[(0,{ sh:=some hR })]⟩),(5,⟨0,[],[(4,{ ent:=some (Aj5 n) })]⟩),(6,⟨0,[],[(0,{ sh:=some hR })]⟩),(7,⟨0,[],[(5,{ ent:=some (Aj9 n) }),(6,{ sh:=some hR })]⟩)],join:=[],loop:=[(3,⟨Zk,A97,A5 (A96 n) n⟩)] }
theorem Agh (α:Type) (n:Nat):Al PP (Af (Aq5 α n).reg):=⟨Aon n,Aop n,trivial⟩
theorem Av5 (α:Type) (n:Nat):LO.Sound (α:=α) PP ⟨29,[]⟩ ⟨Zk,A97,A5 (A96 n) n⟩ (.loop ((A0 Tryz.f89).at [1,1,0,1,0,0])):=C1 (D:=Aq5 α n) (Agh α n) n
theorem Bhd (α:Type) (n:Nat):D3.OK PP TT ⟨29,[]⟩ (Aq5 α n) (A0 Tryz.f89) :=
 D3.OK.mk3 (Agh α n) (show Aa (A0 Tryz.f89)=[(3,(.loop ((A0 Tryz.f89).at [1,1,0,1,0,0])))] by kernel_rfl) ⟨Ac rfl (Av5 α n),trivial⟩
theorem Bd0 (n:Nat):(B60 n).Sound PP:=fk (fn:=Tryz.f89) (Bhd _ n)

def f41 (n:Nat) (a0:LN × Int) (a1 a2:LR):Option (LR × Int) :=
 bif (decide ((a1.length:Int)>4096)) then
  some ([],2)
 else
  bif (decide ((a2.length:Int)>4096)) then
   some ([],2)
  else
   ob (f44 n a0 a1 a2) λb =>
   bif (b != 0) then
    some ([],b)
   else
    ob (f88 n a0 a1) λa =>
    bif (a.2 != 0) then
     some ([],a.2)
    else
     ob (f90 n a0 a.1 a2) λd =>
     ob (f89 n d) λc =>
     some (c.1,c.2)
def B6a (n:Nat):Ent:=⟨41,[(.st (.pair hNs hI)),hRs,hRs],[hRs,hI],λx=>f41 n x.1 x.2.1 x.2.2⟩
def Bhx (α:Type) (n:Nat):D3 α:={ reg:=[(2,⟨0,[],[(0,{ sh:=some hR })]⟩),(3,⟨0,[],[(3,{ ent:=some (B69 n) })]⟩),(5,⟨0,[],[(0,{ sh:=some hR })]⟩),(6,⟨0,[],[(2,{ ent:=some (B61 n) })]⟩),(8,⟨0,[],[(0,{ sh:=some hR })]⟩),(9,⟨0,[],[(3,{ ent:=some (B5z n) }),(4,{ ent:=some (B60 n) })]⟩)],join:=[],loop:=[] }
theorem Bdi (n:Nat):(B6a n).Sound PP:=B0 (fn:=Tryz.f41) (D:=Bhx _ n) ⟨Bdh n,Bd1 n,Bcz n,Bd0 n,trivial⟩

abbrev Aiq:Tm:=⟨[(0,.k (.hp 1000 0 0)),(1,.d hI),(6,.k (.hp 6 0 0)),(7,.k (.hp 7 0 0))],[(6,.var 54 true false [.d .bool,.d hIs,.d hIs]),(7,.var 54 true false [.d .bool,.d hIs,.d hIs]),(1000,.var 114 false false [.d hRs,.d hRs,.k (.hw 1003),.k (.hw 1004)]),(1003,.arr 54 hR false),(1004,.arr 54 hR false)],[],[]⟩
def H2 (n:Nat) (a0:LR × LR × LR × LR) (a1:Int) (a2 a3:Rq):Option (Unit × (LR × LR × Unit) × LR × LR) :=
 gd (decide (0<=a1)&&decide (a1<(a0.2.2.1.length:Int))) (
  gd (decide (a1.toNat<a0.2.2.1.length)) (
   let a:=a0.2.2.1.getD a1.toNat (false,[],[])
   ob (f99 n a a2) λb =>
   gd (decide (0<=a1)&&decide (a1<(a0.2.2.2.length:Int))) (
    gd (decide (a1.toNat<a0.2.2.2.length)) (
     let c:=a0.2.2.2.getD a1.toNat (false,[],[])
     ob (f99 n c a3) λd =>
     gd (decide (0<=a1)&&decide (a1<(a0.2.2.1.length:Int))) (
      gd (decide (a1.toNat<a0.2.2.1.length)) (
       gd (decide (0<=a1)&&decide (a1<(a0.2.2.2.length:Int))) (
        gd (decide (a1.toNat<a0.2.2.2.length)) (
         some ((),(a0.1,a0.2.1,()),(a0.2.2.1.set a1.toNat b),(a0.2.2.2.set a1.toNat d))))))))))
def F9 (n:Nat):Ent3:=⟨157,[.pst 114 [.im hRs,.im hRs,.own 54 hR,.own 54 hR],.im hI,.im hR,.im hR],[[]],λx=>H2 n x.1 x.2.1 x.2.2.1 x.2.2.2,[]⟩
def Aoh (α:Type) (n:Nat):D3 α:={ reg:=[(1,⟨0,[],[(18,{ ent:=some (Ad n) }),(27,{ ent:=some (Ad n) })]⟩)],join:=[],loop:=[],any:=[(1,Aiq)] }
set_option maxHeartbeats 8000000 in
theorem B46 (n:Nat):Ag TT ⟨38,[]⟩ [(18,{ ent:=some (Ad n) }),(27,{ ent:=some (Ad n) })] Aiq (A4 ((A0 Tryz.f157).at [1])):=by
 refine ⟨by kernel_rfl,λw q hq=>?_⟩
 have e:WT [(18,{ ent:=some (Ad n) }),(27,{ ent:=some (Ad n) })] (A7 (A4 ((A0 Tryz.f157).at [1])).toList) q=(∃ (y0:HL (Ad n).rs) (q0:List (Nat × RV)),q=(18,.sv (Ae (Ad n).rs y0))::q0 /\ ∃ (y1:HL (Ad n).rs) (q1:List (Nat × RV)),q0=(27,.sv (Ae (Ad n).rs y1))::q1/\q1=[]):=by kernel_rfl
 rw [e] at hq;obtain ⟨y0,q0,rfl,y1,q1,rfl,rfl⟩:=hq
 all_goals exact .inr ⟨30,by kernel_rfl,by kernel_rfl,by kernel_rfl⟩
theorem Aru (α:Type) (n:Nat):Al PP (Af (Aoh α n).reg):=⟨Cd n,Cd n,trivial⟩
theorem B9v (α:Type) (n:Nat):D3.OK PP TT ⟨38,[]⟩ (Aoh α n) (A0 Tryz.f157) :=
 D3.OK.mk3a (Aru α n) (show Aa (A0 Tryz.f157)=[] by kernel_rfl) trivial (show As (A0 Tryz.f157)=[(1,A4 ((A0 Tryz.f157).at [1]))] by kernel_rfl) ⟨⟨B46 n,trivial⟩,trivial⟩
theorem Ex (n:Nat):(F9 n).Sound PP:=Vt (fn:=Tryz.f157) (B9v _ n)

def f159 (n:Nat) (a0 a1 a2 a3:Rq):Option (Rq × Rq) :=
 ob (f162 n a0 a2) λa =>
 ob (f162 n a1 a2) λb =>
 ob (f162 n a0 a3) λc =>
 ob (f99 n b c) λd =>
 some (a,d)
def Ca (n:Nat):Ent:=⟨159,[hR,hR,hR,hR],[hR,hR],λx=>f159 n x.1 x.2.1 x.2.2.1 x.2.2.2⟩
def Bf4 (α:Type) (n:Nat):D3 α:={ reg:=[(1,⟨8,[],[(2,{ ent:=some (A8 n) }),(5,{ ent:=some (A8 n) }),(8,{ ent:=some (A8 n) }),(9,{ ent:=some (Ad n) })]⟩)],join:=[],loop:=[] }
theorem S1 (n:Nat):(Ca n).Sound PP:=B0 (fn:=Tryz.f159) (D:=Bf4 _ n) ⟨At n,At n,At n,Cd n,trivial⟩

abbrev Aip:Tm:=⟨[(0,.k (.hp 1000 0 0)),(1,.d hI),(4,.k (.hp 4 0 0)),(5,.k (.hp 5 0 0))],[(4,.var 54 true false [.d .bool,.d .nil,.d .nil]),(5,.var 54 true false [.d .bool,.d .nil,.d .nil]),(1000,.var 114 false false [.d hRs,.d hRs,.k (.hw 1003),.k (.hw 1004)]),(1003,.arr 54 hR false),(1004,.arr 54 hR false)],[],[]⟩
def Aei (n:Nat) (a0:LR × LR × LR × LR) (a1:Int):Option ((Rq × Rq) × (LR × LR × Unit) × LR × LR) :=
 ob (f97 n 1) λb =>
 gd (decide (0<=a1)&&decide (a1<(a0.1.length:Int))) (
  let c:=a0.1.getD a1.toNat (false,[],[])
  ob (f206 n b c) λa =>
  ob (f162 n a a) λd =>
  gd (decide (0<=a1)&&decide (a1<(a0.2.1.length:Int))) (
   let e:=a0.2.1.getD a1.toNat (false,[],[])
   ob (f162 n d e) λf =>
   ob (f158 n f) λg =>
   some ((a,g),(a0.1,a0.2.1,()),a0.2.2.1,a0.2.2.2)))
def Aof (n:Nat):Ent3:=⟨160,[.pst 114 [.im hRs,.im hRs,.own 54 hR,.own 54 hR],.im hI],[[.im hR,.im hR]],λx=>Aei n x.1 x.2,[]⟩
def Aog (α:Type) (n:Nat):D3 α:={ reg:=[(1,⟨0,[],[(0,{ ent:=some (Au n) }),(8,{ ent:=some (Df n) })]⟩),(2,⟨13,[],[(3,{ ent:=some (A8 n) }),(11,{ ent:=some (A8 n) }),(12,{ ent:=some (Hz n) })]⟩)],join:=[],loop:=[],any:=[(1,Aip)] }
set_option maxHeartbeats 8000000 in
theorem B45 (n:Nat):Ag TT ⟨29,[]⟩ [(0,{ ent:=some (Au n) }),(8,{ ent:=some (Df n) })] Aip (A4 ((A0 Tryz.f160).at [1,0])):=by
 refine ⟨by kernel_rfl,λw q hq=>?_⟩
 have e:WT [(0,{ ent:=some (Au n) }),(8,{ ent:=some (Df n) })] (A7 (A4 ((A0 Tryz.f160).at [1,0])).toList) q=(∃ (y0:HL (Au n).rs) (q0:List (Nat × RV)),q=(0,.sv (Ae (Au n).rs y0))::q0 /\ ∃ (y1:HL (Df n).rs) (q1:List (Nat × RV)),q0=(8,.sv (Ae (Df n).rs y1))::q1/\q1=[]):=by kernel_rfl
 rw [e] at hq;obtain ⟨y0,q0,rfl,y1,q1,rfl,rfl⟩:=hq
 all_goals exact .inr ⟨10,by kernel_rfl,by kernel_rfl,by kernel_rfl⟩
theorem Art (α:Type) (n:Nat):Al PP (Af (Aog α n).reg):=⟨B4 n,Aa4 n,At n,At n,H0 n,trivial⟩
theorem B9u (α:Type) (n:Nat):D3.OK PP TT ⟨29,[]⟩ (Aog α n) (A0 Tryz.f160) :=
 D3.OK.mk3a (Art α n) (show Aa (A0 Tryz.f160)=[] by kernel_rfl) trivial (show As (A0 Tryz.f160)=[(1,A4 ((A0 Tryz.f160).at [1,0])),(2,A4 ((A0 Tryz.f160).at [1,1,0]))] by kernel_rfl) ⟨⟨B45 n,trivial⟩,trivial,trivial⟩
theorem B44 (n:Nat):(Aof n).Sound PP:=Vt (fn:=Tryz.f160) (B9u _ n)

abbrev Ain:Tm:=⟨[(4,.k (.hp 4 0 0)),(5,.k (.hp 5 0 0)),(6,.k (.hp 6 0 0)),(7,.k (.hp 7 0 0))],[(4,.var 54 true false [.d .bool,.d .nil,.d .nil]),(5,.var 54 true false [.d .bool,.d .nil,.d .nil]),(6,.var 54 true false [.d .bool,.d hIs,.d hIs]),(7,.var 54 true false [.d .bool,.d hIs,.d hIs])],[2],[]⟩
abbrev B3z:Tm:=⟨[(1,.d hI),(2,.k (.hp 2 0 0)),(4,.k (.hp 4 0 0)),(5,.k (.hp 5 0 0)),(6,.k (.hp 6 0 0)),(7,.k (.hp 7 0 0))],[(2,.var 91 true false [.d .bool,.d hIs,.d hIs,.d .nil,.d .nil,.d .bool,.d hIs,.d hIs]),(4,.var 54 true false [.d .bool,.d .nil,.d .nil]),(5,.var 54 true false [.d .bool,.d .nil,.d .nil]),(6,.var 54 true false [.d .bool,.d hIs,.d hIs]),(7,.var 54 true false [.d .bool,.d hIs,.d hIs])],[],[]⟩
def A7l (n:Nat) (a0:Rq × Unit × Unit × Rq) (a1:Int):Option (Rq × Rq) :=
 ob (f97 n 0) λa =>
 ob (f97 n 0) λg =>
 let c:=λ(d:Bool) (e:LI) (f:LI)=>(
  bif (decide (a1>=2)) then
   ob (f170 n a0.1 (W (a1-2))) λh =>
   ob (f97 n (W (a1*(W (a1-1))))) λi =>
   ob (f162 n h i) λj =>
   some ((d,e,f),j)
  else
   some ((d,e,f),g))
 bif (decide (a1>=1)) then
  ob (f170 n a0.1 (W (a1-1))) λk =>
  ob (f97 n a1) λl =>
  ob (f162 n k l) λb =>
  c b.1 b.2.1 b.2.2
 else
  c a.1 a.2.1 a.2.2
def Aoa (n:Nat):Ent:=⟨161,[(.st (.pair hR (.pair .nil (.pair .nil hR)))),hI],[hR,hR],λx=>A7l n x.1 x.2⟩
def Aob (α:Type) (n:Nat):D3 α:={ reg:=[(1,⟨0,[],[(0,{ ent:=some (Au n) }),(1,{ ent:=some (Au n) })]⟩),(3,⟨0,[],[(4,{ ent:=some (Gi n) }),(6,{ ent:=some (Au n) }),(7,{ ent:=some (A8 n) })]⟩),(5,⟨0,[],[(4,{ ent:=some (Gi n) }),(9,{ ent:=some (Au n) }),(10,{ ent:=some (A8 n) })]⟩)],join:=[(4,B3z)],loop:=[],any:=[(6,Ain)] }
set_option maxHeartbeats 8000000 in
theorem B40 (n:Nat):Ag TT ⟨35,[]⟩ [] Ain (A4 ((A0 Tryz.f161).at [1,1,1,1,0])):=by
 refine ⟨by kernel_rfl,λw q hq=>?_⟩
 have e:WT [] (A7 (A4 ((A0 Tryz.f161).at [1,1,1,1,0])).toList) q=(q=[]):=by kernel_rfl
 rw [e] at hq;obtain rfl:=hq
 all_goals exact .inr ⟨3,by kernel_rfl,by kernel_rfl,by kernel_rfl⟩
theorem Arr (α:Type) (n:Nat):Al PP (Af (Aob α n).reg):=⟨B4 n,B4 n,G1 n,B4 n,At n,G1 n,B4 n,At n,trivial⟩
theorem B9p (α:Type) (n:Nat):D3.OK PP TT ⟨35,[]⟩ (Aob α n) (A0 Tryz.f161) :=
 D3.OK.mk3a (Arr α n) (show Aa (A0 Tryz.f161)=[] by kernel_rfl) trivial (show As (A0 Tryz.f161)=[(6,A4 ((A0 Tryz.f161).at [1,1,1,1,0]))] by kernel_rfl) ⟨⟨B40 n,trivial⟩,trivial⟩
theorem B3y (n:Nat):(Aoa n).Sound PP:=fk (fn:=Tryz.f161) (B9p _ n)

abbrev Ajo:Tm:=⟨[(0,.k (.hp 1000 0 0)),(2,.d hI),(4,.k (.hp 4 0 0))],[(4,.var 85 true false [.d hI,.d hI,.d hI,.d hI]),(1000,.var 114 false false [.d hRs,.d hRs,.k (.hw 1003),.k (.hw 1004)]),(1003,.arr 54 hR false),(1004,.arr 54 hR false)],[],[]⟩
abbrev Adc:Tm:=⟨[(0,.k (.hp 1000 0 0)),(4,.k (.hp 4 0 0)),(6,.k (.hp 6 0 0)),(7,.k (.hp 7 0 0))],[(4,.var 85 true false [.d hI,.d hI,.d hI,.d hI]),(6,.var 54 true false [.d .bool,.d hIs,.d hIs]),(7,.var 54 true false [.d .bool,.d hIs,.d hIs]),(1000,.var 114 false false [.d hRs,.d hRs,.k (.hw 1003),.k (.hw 1004)]),(1003,.arr 54 hR false),(1004,.arr 54 hR false)],[],[]⟩
abbrev Adb:Tm:=⟨[(0,.k (.hp 1000 0 0)),(4,.k (.hp 4 0 0)),(6,.k (.hp 6 0 0)),(7,.k (.hp 7 0 0)),(8,.k (.hp 8 0 0)),(9,.k (.hp 9 0 0))],[(4,.var 85 true false [.d hI,.d hI,.d hI,.d hI]),(6,.var 54 true false [.d .bool,.d hIs,.d hIs]),(7,.var 54 true false [.d .bool,.d hIs,.d hIs]),(8,.var 54 true false [.d .bool,.d hIs,.d hIs]),(9,.var 54 true false [.d .bool,.d hIs,.d hIs]),(1000,.var 114 false false [.d hRs,.d hRs,.k (.hw 1003),.k (.hw 1004)]),(1003,.arr 54 hR false),(1004,.arr 54 hR false)],[],[]⟩
abbrev Ada:Tm:=⟨[(0,.k (.hp 1000 0 0)),(2,.d hI),(4,.k (.hp 4 0 0)),(14,.k (.hp 14 0 0)),(15,.k (.hp 15 0 0))],[(4,.var 85 true false [.d hI,.d hI,.d hI,.d hI]),(14,.var 54 true false [.d .bool,.d hIs,.d hIs]),(15,.var 54 true false [.d .bool,.d hIs,.d hIs]),(1000,.var 114 false false [.d hRs,.d hRs,.k (.hw 1003),.k (.hw 1004)]),(1003,.arr 54 hR false),(1004,.arr 54 hR false)],[6,7,12,13],[]⟩
abbrev Ad9:Tm:=⟨[(0,.k (.hp 1000 0 0)),(4,.k (.hp 4 0 0)),(6,.k (.hp 6 0 0)),(7,.k (.hp 7 0 0))],[(4,.var 85 true false [.d hI,.d hI,.d hI,.d hI]),(6,.var 54 true false [.d .bool,.d hIs,.d hIs]),(7,.var 54 true false [.d .bool,.d hIs,.d hIs]),(1000,.var 114 false false [.d hRs,.d hRs,.k (.hw 1003),.k (.hw 1004)]),(1003,.arr 54 hR false),(1004,.arr 54 hR false)],[],[]⟩
abbrev Ad8:Tm:=⟨[(0,.k (.hp 1000 0 0)),(4,.k (.hp 4 0 0)),(6,.k (.hp 6 0 0)),(7,.k (.hp 7 0 0)),(18,.k (.hp 18 0 0)),(19,.k (.hp 19 0 0)),(20,.k (.hp 20 0 0))],[(4,.var 85 true false [.d hI,.d hI,.d hI,.d hI]),(6,.var 54 true false [.d .bool,.d hIs,.d hIs]),(7,.var 54 true false [.d .bool,.d hIs,.d hIs]),(18,.var 91 true false [.d .bool,.d hIs,.d hIs,.d .nil,.d .nil,.d .bool,.d hIs,.d hIs]),(19,.var 54 true false [.d .bool,.d hIs,.d hIs]),(20,.var 54 true false [.d .bool,.d hIs,.d hIs]),(1000,.var 114 false false [.d hRs,.d hRs,.k (.hw 1003),.k (.hw 1004)]),(1003,.arr 54 hR false),(1004,.arr 54 hR false)],[],[]⟩
def Aek (n:Nat) (a0:LR × LR × LR × LR) (a1:Nq) (a2:Int):Option (Unit × (LR × LR × Unit) × LR × LR) :=
 gd (decide (0<=a2)&&decide (a2<(a0.2.2.1.length:Int))) (
  gd (decide (a2.toNat<a0.2.2.1.length)) (
   let b:=a0.2.2.1.getD a2.toNat (false,[],[])
   gd (decide (0<=a2)&&decide (a2<(a0.2.2.2.length:Int))) (
    gd (decide (a2.toNat<a0.2.2.2.length)) (
     let c:=a0.2.2.2.getD a2.toNat (false,[],[])
     bif (a1.1==3) then
      ob (H2 n (a0.1,a0.2.1,a0.2.2.1,a0.2.2.2) a1.2.1 b c) λd =>
      gd (Nat.beq d.2.2.1.length a0.2.2.1.length&&(Nat.beq d.2.2.2.length a0.2.2.2.length&&true)) (
       ob (H2 n (d.2.1.1,d.2.1.2.1,d.2.2.1,d.2.2.2) a1.2.2.1 b c) λh =>
       gd (Nat.beq h.2.2.1.length d.2.2.1.length&&(Nat.beq h.2.2.2.length d.2.2.2.length&&true)) (
        some ((),(h.2.1.1,h.2.1.2.1,()),h.2.2.1,h.2.2.2)))
     else
      bif (a1.1==4) then
       ob (H2 n (a0.1,a0.2.1,a0.2.2.1,a0.2.2.2) a1.2.1 b c) λe =>
       gd (Nat.beq e.2.2.1.length a0.2.2.1.length&&(Nat.beq e.2.2.2.length a0.2.2.2.length&&true)) (
        ob (f158 n b) λv =>
        ob (f158 n c) λw =>
        ob (H2 n (e.2.1.1,e.2.1.2.1,e.2.2.1,e.2.2.2) a1.2.2.1 v w) λi =>
        gd (Nat.beq i.2.2.1.length e.2.2.1.length&&(Nat.beq i.2.2.2.length e.2.2.2.length&&true)) (
         some ((),(i.2.1.1,i.2.1.2.1,()),i.2.2.1,i.2.2.2)))
      else
       bif (a1.1==5) then
        gd (decide (0<=a1.2.2.1)&&decide (a1.2.2.1<(a0.1.length:Int))) (
         let x:=a0.1.getD a1.2.2.1.toNat (false,[],[])
         gd (decide (0<=a1.2.2.1)&&decide (a1.2.2.1<(a0.2.1.length:Int))) (
          let y:=a0.2.1.getD a1.2.2.1.toNat (false,[],[])
          ob (f159 n b c x y) λp =>
          gd (decide (0<=a1.2.1)&&decide (a1.2.1<(a0.1.length:Int))) (
           let z:=a0.1.getD a1.2.1.toNat (false,[],[])
           gd (decide (0<=a1.2.1)&&decide (a1.2.1<(a0.2.1.length:Int))) (
            let d0:=a0.2.1.getD a1.2.1.toNat (false,[],[])
            ob (f159 n b c z d0) λq =>
            ob (H2 n (a0.1,a0.2.1,a0.2.2.1,a0.2.2.2) a1.2.1 p.1 p.2) λf =>
            gd (Nat.beq f.2.2.1.length a0.2.2.1.length&&(Nat.beq f.2.2.2.length a0.2.2.2.length&&true)) (
             ob (H2 n (f.2.1.1,f.2.1.2.1,f.2.2.1,f.2.2.2) a1.2.2.1 q.1 q.2) λj =>
             gd (Nat.beq j.2.2.1.length f.2.2.1.length&&(Nat.beq j.2.2.2.length f.2.2.2.length&&true)) (
              some ((),(j.2.1.1,j.2.1.2.1,()),j.2.2.1,j.2.2.2)))))))
       else
        bif (a1.1==6) then
         ob (Aei n (a0.1,a0.2.1,a0.2.2.1,a0.2.2.2) a1.2.2.1) λa =>
         gd (Nat.beq a.2.2.1.length a0.2.2.1.length&&(Nat.beq a.2.2.2.length a0.2.2.2.length&&true)) (
          ob (f159 n b c a.1.1 a.1.2) λo =>
          gd (decide (0<=a2)&&decide (a2<(a.2.1.1.length:Int))) (
           let d1:=a.2.1.1.getD a2.toNat (false,[],[])
           gd (decide (0<=a2)&&decide (a2<(a.2.1.2.1.length:Int))) (
            let d2:=a.2.1.2.1.getD a2.toNat (false,[],[])
            ob (f159 n o.1 o.2 d1 d2) λr =>
            ob (H2 n (a.2.1.1,a.2.1.2.1,a.2.2.1,a.2.2.2) a1.2.1 o.1 o.2) λg =>
            gd (Nat.beq g.2.2.1.length a.2.2.1.length&&(Nat.beq g.2.2.2.length a.2.2.2.length&&true)) (
             ob (f158 n r.1) λd3 =>
             ob (f158 n r.2) λd4 =>
             ob (H2 n (g.2.1.1,g.2.1.2.1,g.2.2.1,g.2.2.2) a1.2.2.1 d3 d4) λk =>
             gd (Nat.beq k.2.2.1.length g.2.2.1.length&&(Nat.beq k.2.2.2.length g.2.2.2.length&&true)) (
              some ((),(k.2.1.1,k.2.1.2.1,()),k.2.2.1,k.2.2.2))))))
        else
         bif (a1.1==7) then
          ob (f158 n b) λd5 =>
          ob (f158 n c) λd6 =>
          ob (H2 n (a0.1,a0.2.1,a0.2.2.1,a0.2.2.2) a1.2.1 d5 d6) λl =>
          gd (Nat.beq l.2.2.1.length a0.2.2.1.length&&(Nat.beq l.2.2.2.length a0.2.2.2.length&&true)) (
           some ((),(l.2.1.1,l.2.1.2.1,()),l.2.2.1,l.2.2.2))
         else
          bif (a1.1==8) then
           gd (decide (0<=a1.2.1)&&decide (a1.2.1<(a0.1.length:Int))) (
            let d7:=a0.1.getD a1.2.1.toNat (false,[],[])
            gd (decide (0<=a1.2.1)&&decide (a1.2.1<(a0.2.1.length:Int))) (
             let s:=a0.2.1.getD a1.2.1.toNat (false,[],[])
             ob (A7l n (d7,(),(),s) a1.2.2.2) λt =>
             ob (f162 n t.2 s) λd8 =>
             ob (f159 n b c t.1 d8) λu =>
             ob (H2 n (a0.1,a0.2.1,a0.2.2.1,a0.2.2.2) a1.2.1 u.1 u.2) λm =>
             gd (Nat.beq m.2.2.1.length a0.2.2.1.length&&(Nat.beq m.2.2.2.length a0.2.2.2.length&&true)) (
              some ((),(m.2.1.1,m.2.1.2.1,()),m.2.2.1,m.2.2.2))))
          else
           some ((),(a0.1,a0.2.1,()),a0.2.2.1,a0.2.2.2)))))
def Aov (n:Nat):Ent3:=⟨100,[.pst 114 [.im hRs,.im hRs,.own 54 hR,.own 54 hR],.im hN,.im hI],[[]],λx=>Aek n x.1 x.2.1 x.2.2,[]⟩
def Aow (α:Type) (n:Nat):D3 α:={ reg:=[(4,⟨0,[],[(5,{ entB:=some (F9 n),hb:=310 })]⟩),(5,⟨0,[],[(5,{ entB:=some (F9 n),hb:=320 })]⟩),(7,⟨0,[],[(5,{ entB:=some (F9 n),hb:=330 })]⟩),(8,⟨7,[],[(4,{ ent:=some (Hz n) }),(6,{ ent:=some (Hz n) }),(7,{ entB:=some (F9 n),hb:=340 })]⟩),(10,⟨0,[],[(18,{ ent:=some (Ca n) })]⟩),(11,⟨0,[],[(18,{ ent:=some (Ca n) })]⟩),(12,⟨0,[],[(5,{ entB:=some (F9 n),hb:=350 })]⟩),(13,⟨0,[],[(5,{ entB:=some (F9 n),hb:=360 })]⟩),(15,⟨0,[],[(3,{ entB:=some (Aof n),hb:=370 })]⟩),(16,⟨0,[],[(4,{ ent:=some (Ca n) })]⟩),(17,⟨0,[],[(16,{ ent:=some (Ca n) })]⟩),(18,⟨0,[],[(5,{ entB:=some (F9 n),hb:=380 })]⟩),(19,⟨7,[],[(4,{ ent:=some (Hz n) }),(6,{ ent:=some (Hz n) }),(7,{ entB:=some (F9 n),hb:=390 })]⟩),(21,⟨7,[],[(4,{ ent:=some (Hz n) }),(6,{ ent:=some (Hz n) }),(7,{ entB:=some (F9 n),hb:=400 })]⟩),(24,⟨0,[],[(3,{ ent:=some (Aoa n) })]⟩),(25,⟨0,[],[(6,{ ent:=some (A8 n) }),(7,{ ent:=some (Ca n) })]⟩),(26,⟨0,[],[(5,{ entB:=some (F9 n),hb:=410 })]⟩)],join:=[],loop:=[],any:=[(1,Ajo),(10,Adc),(11,Adb),(17,Ada),(23,Ad9),(25,Ad8)] }
set_option maxHeartbeats 8000000 in
theorem B4v (n:Nat):Ag TT ⟨231,[]⟩ [] Ajo (A4 ((A0 Tryz.f100).at [1,0])):=by
 refine ⟨by kernel_rfl,λw q hq=>?_⟩
 have e:WT [] (A7 (A4 ((A0 Tryz.f100).at [1,0])).toList) q=(q=[]):=by kernel_rfl
 rw [e] at hq;obtain rfl:=hq
 all_goals exact .inr ⟨17,by kernel_rfl,by kernel_rfl,by kernel_rfl⟩
set_option maxHeartbeats 8000000 in
theorem Azx (n:Nat):Ag TT ⟨231,[]⟩ [(18,{ ent:=some (Ca n) })] Adc (A4 ((A0 Tryz.f100).at [1,1,1,0,1,1,1,1,1,0,0])):=by
 refine ⟨by kernel_rfl,λw q hq=>?_⟩
 have e:WT [(18,{ ent:=some (Ca n) })] (A7 (A4 ((A0 Tryz.f100).at [1,1,1,0,1,1,1,1,1,0,0])).toList) q=(∃ (y0:HL (Ca n).rs) (q0:List (Nat × RV)),q=(18,.sv (Ae (Ca n).rs y0))::q0/\q0=[]):=by kernel_rfl
 rw [e] at hq;obtain ⟨y0,q0,rfl,rfl⟩:=hq
 all_goals exact .inr ⟨25,by kernel_rfl,by kernel_rfl,by kernel_rfl⟩
set_option maxHeartbeats 8000000 in
theorem Azw (n:Nat):Ag TT ⟨231,[]⟩ [(18,{ ent:=some (Ca n) })] Adb (A4 ((A0 Tryz.f100).at [1,1,1,0,1,1,1,1,1,0,1,0])):=by
 refine ⟨by kernel_rfl,λw q hq=>?_⟩
 have e:WT [(18,{ ent:=some (Ca n) })] (A7 (A4 ((A0 Tryz.f100).at [1,1,1,0,1,1,1,1,1,0,1,0])).toList) q=(∃ (y0:HL (Ca n).rs) (q0:List (Nat × RV)),q=(18,.sv (Ae (Ca n).rs y0))::q0/\q0=[]):=by kernel_rfl
 rw [e] at hq;obtain ⟨y0,q0,rfl,rfl⟩:=hq
 all_goals exact .inr ⟨25,by kernel_rfl,by kernel_rfl,by kernel_rfl⟩
set_option maxHeartbeats 8000000 in
theorem Azv (n:Nat):Ag TT ⟨231,[]⟩ [(16,{ ent:=some (Ca n) })] Ada (A4 ((A0 Tryz.f100).at [1,1,1,0,1,1,1,1,1,1,1,0,1,1,0])):=by
 refine ⟨by kernel_rfl,λw q hq=>?_⟩
 have e:WT [(16,{ ent:=some (Ca n) })] (A7 (A4 ((A0 Tryz.f100).at [1,1,1,0,1,1,1,1,1,1,1,0,1,1,0])).toList) q=(∃ (y0:HL (Ca n).rs) (q0:List (Nat × RV)),q=(16,.sv (Ae (Ca n).rs y0))::q0/\q0=[]):=by kernel_rfl
 rw [e] at hq;obtain ⟨y0,q0,rfl,rfl⟩:=hq
 all_goals exact .inr ⟨23,by kernel_rfl,by kernel_rfl,by kernel_rfl⟩
set_option maxHeartbeats 8000000 in
theorem Azu (n:Nat):Ag TT ⟨231,[]⟩ [] Ad9 (A4 ((A0 Tryz.f100).at [1,1,1,0,1,1,1,1,1,1,1,1,1,1,1,0,0])):=by
 refine ⟨by kernel_rfl,λw q hq=>?_⟩
 have e:WT [] (A7 (A4 ((A0 Tryz.f100).at [1,1,1,0,1,1,1,1,1,1,1,1,1,1,1,0,0])).toList) q=(q=[]):=by kernel_rfl
 rw [e] at hq;obtain rfl:=hq
 all_goals exact .inr ⟨18,by kernel_rfl,by kernel_rfl,by kernel_rfl⟩
set_option maxHeartbeats 8000000 in
theorem Azt (n:Nat):Ag TT ⟨231,[]⟩ [(6,{ ent:=some (A8 n) }),(7,{ ent:=some (Ca n) })] Ad8 (A4 ((A0 Tryz.f100).at [1,1,1,0,1,1,1,1,1,1,1,1,1,1,1,0,1,1,0])):=by
 refine ⟨by kernel_rfl,λw q hq=>?_⟩
 have e:WT [(6,{ ent:=some (A8 n) }),(7,{ ent:=some (Ca n) })] (A7 (A4 ((A0 Tryz.f100).at [1,1,1,0,1,1,1,1,1,1,1,1,1,1,1,0,1,1,0])).toList) q=(∃ (y0:HL (A8 n).rs) (q0:List (Nat × RV)),q=(6,.sv (Ae (A8 n).rs y0))::q0 /\ ∃ (y1:HL (Ca n).rs) (q1:List (Nat × RV)),q0=(7,.sv (Ae (Ca n).rs y1))::q1/\q1=[]):=by kernel_rfl
 rw [e] at hq;obtain ⟨y0,q0,rfl,y1,q1,rfl,rfl⟩:=hq
 all_goals exact .inr ⟨14,by kernel_rfl,by kernel_rfl,by kernel_rfl⟩
theorem Aso (α:Type) (n:Nat):Al PP (Af (Aow α n).reg):=⟨Ex n,Ex n,Ex n,H0 n,H0 n,Ex n,S1 n,S1 n,Ex n,Ex n,B44 n,S1 n,S1 n,Ex n,H0 n,H0 n,Ex n,H0 n,H0 n,Ex n,B3y n,At n,S1 n,Ex n,trivial⟩
theorem Bb7 (α:Type) (n:Nat):D3.OK PP TT ⟨231,[]⟩ (Aow α n) (A0 Tryz.f100) :=
 D3.OK.mk3a (Aso α n) (show Aa (A0 Tryz.f100)=[] by kernel_rfl) trivial (show As (A0 Tryz.f100)=[(1,A4 ((A0 Tryz.f100).at [1,0])),(8,A4 ((A0 Tryz.f100).at [1,1,1,0,1,1,1,0,1])),(10,A4 ((A0 Tryz.f100).at [1,1,1,0,1,1,1,1,1,0,0])),(11,A4 ((A0 Tryz.f100).at [1,1,1,0,1,1,1,1,1,0,1,0])),(17,A4 ((A0 Tryz.f100).at [1,1,1,0,1,1,1,1,1,1,1,0,1,1,0])),(19,A4 ((A0 Tryz.f100).at [1,1,1,0,1,1,1,1,1,1,1,0,1,1,1,1])),(21,A4 ((A0 Tryz.f100).at [1,1,1,0,1,1,1,1,1,1,1,1,1,0])),(23,A4 ((A0 Tryz.f100).at [1,1,1,0,1,1,1,1,1,1,1,1,1,1,1,0,0])),(25,A4 ((A0 Tryz.f100).at [1,1,1,0,1,1,1,1,1,1,1,1,1,1,1,0,1,1,0]))] by kernel_rfl) ⟨⟨B4v n,trivial⟩,trivial,⟨Azx n,trivial⟩,⟨Azw n,trivial⟩,⟨Azv n,trivial⟩,trivial,trivial,⟨Azu n,trivial⟩,⟨Azt n,trivial⟩,trivial⟩
theorem B4u (n:Nat):(Aov n).Sound PP:=Vt (fn:=Tryz.f100) (Bb7 _ n)

def Zv {α:Type} (n:Nat) (a:Int) (i:LN) (j:Int) (k l c d e g:LR) (f:Int->LN->Int->LR->LR->LR->LR->LR->LR->Option α) (k0:Int->Option α) (k1:LR->LR->Option α):Option α :=
 bif (decide (a>=0)) then
  gd (decide (0<=a)&&decide (a<(c.length:Int))) (
   gd (decide (a.toNat<c.length)) (
    let m:=c.getD a.toNat (false,[],[])
    ob (f98 n m) λo =>
    bif (!o) then
     k0 7
    else
     gd (decide (0<=a)&&decide (a<(d.length:Int))) (
      gd (decide (a.toNat<d.length)) (
       let p:=d.getD a.toNat (false,[],[])
       ob (f98 n p) λq =>
       bif (!q) then
        k0 7
       else
        gd (decide (0<=a)&&decide (a<(i.length:Int))) (
         let b:=i.getD a.toNat (0,0,0,0)
         bif (b.1==2) then
          gd (decide (0<=b.2.2.2)&&decide (b.2.2.2<(e.length:Int))) (
           gd (decide (b.2.2.2.toNat<e.length)) (
            let r:=e.getD b.2.2.2.toNat (false,[],[])
            gd (decide (0<=a)&&decide (a<(c.length:Int))) (
             gd (decide (a.toNat<c.length)) (
              let s:=c.getD a.toNat (false,[],[])
              ob (f99 n r s) λt =>
              gd (decide (0<=b.2.2.2)&&decide (b.2.2.2<(g.length:Int))) (
               gd (decide (b.2.2.2.toNat<g.length)) (
                let u:=g.getD b.2.2.2.toNat (false,[],[])
                gd (decide (0<=a)&&decide (a<(d.length:Int))) (
                 gd (decide (a.toNat<d.length)) (
                  let v:=d.getD a.toNat (false,[],[])
                  ob (f99 n u v) λw =>
                  gd (decide (0<=b.2.2.2)&&decide (b.2.2.2<(e.length:Int))) (
                   gd (decide (b.2.2.2.toNat<e.length)) (
                    gd (decide (0<=b.2.2.2)&&decide (b.2.2.2<(g.length:Int))) (
                     gd (decide (b.2.2.2.toNat<g.length)) (
                      f (W (a-1)) i j k l c d (e.set b.2.2.2.toNat t) (g.set b.2.2.2.toNat w)))))))))))))
         else
          ob (Aek n (k,l,c,d) b a) λh =>
          gd (Nat.beq h.2.2.1.length c.length&&(Nat.beq h.2.2.2.length d.length&&true)) (
           f (W (a-1)) i j h.2.1.1 h.2.1.2.1 h.2.2.1 h.2.2.2 e g))))))
 else
  k1 e g
abbrev Zu:Tm:=⟨[(4,.k (.hp 4 0 0)),(12,.k (.hp 12 0 0)),(13,.k (.hw 330)),(14,.k (.hw 340)),(15,.d hI)],[(4,.var 33 true false [.d hNs,.d hI]),(12,.var 114 false false [.d hRs,.d hRs,.k (.hw 310),.k (.hw 320)]),(310,.arr 54 hR false),(320,.arr 54 hR false),(330,.arr 54 hR false),(340,.arr 54 hR false)],[16],[]⟩
abbrev B31:Tm:=⟨[(8,.d .nil),(9,.d .nil),(10,.d hI)],[],[4,12,310,320,330,340],[]⟩
abbrev B30:Tm:=⟨[(13,.k (.hw 330)),(14,.k (.hw 340))],[(330,.arr 54 hR false),(340,.arr 54 hR false)],[4,12,310,320],[]⟩
abbrev A9v:List (Exit × Tm):=[(.ret,B31),(.exit 0,B30)]
def A9u {α:Type} (n:Nat) (v:Zu.den) (f:Zu.den->Option α) (ks:KS α A9v):Option α:=Zv n v.1.2.2.2.2.1 v.2.1.1 v.2.1.2.1 v.2.2.1.1 v.2.2.1.2.1 v.2.2.2.1 v.2.2.2.2.1 v.2.2.2.2.2.1 v.2.2.2.2.2.2.1 (λa b c d e g h i j=>f (((),(),(),(),a,()),((b,c,()),(d,e,(),(),()),g,h,i,j,()))) (λw0=>ks.1 (((),(),w0,()),())) (λw0 w1=>ks.2.1 (((),(),()),(w0,w1,())))
def A6r {α:Type} (n m:Nat) (a:Int) (b:LN) (c:Int) (d e f g h i:LR) (k0:Int->Option α) (k1:LR->LR->Option α):Option α:=A5 (A9u n) m (((),(),(),(),a,()),((b,c,()),(d,e,(),(),()),f,g,h,i,())) (λw=>k0 w.1.2.2.1,λw=>k1 w.2.1 w.2.2.1,())
theorem Ah0 {α n m a b c d e f g h i k0 k1}:A6r (α:=α) n (m+1) a b c d e f g h i k0 k1=Zv n a b c d e f g h i (λa b c d e f g h i=>A6r n m a b c d e f g h i k0 k1) k0 k1:=rfl
abbrev An5:Tm:=⟨[(4,.k (.hp 4 0 0)),(12,.k (.hp 12 0 0)),(13,.k (.hw 330)),(14,.k (.hw 340)),(15,.d hI),(16,.k (.hp 16 0 0))],[(4,.var 33 true false [.d hNs,.d hI]),(12,.var 114 false false [.d hRs,.d hRs,.k (.hw 310),.k (.hw 320)]),(16,.var 85 true false [.d hI,.d hI,.d hI,.d hI]),(310,.arr 54 hR false),(320,.arr 54 hR false),(330,.arr 54 hR false),(340,.arr 54 hR false)],[],[]⟩
def f49 (n:Nat) (a0:LN × Int) (a1 a2 a3:LR):Option (LR × LR × Int) :=
 ob (Mk n (a0.1.length:Int)) λa =>
 ob (Mk n (a0.1.length:Int)) λb =>
 ob (f97 n 1) λc =>
 gd (decide (0<=a0.2)&&decide (a0.2<(a.length:Int))) (
  gd (decide (a0.2.toNat<a.length)) (
   ob (Mk n (a1.length:Int)) λd =>
   ob (Mk n (a1.length:Int)) λe =>
   A6r n n (W ((a0.1.length:Int)-1)) a0.1 a0.2 a2 a3 (a.set a0.2.toNat c) b d e
    (λf=>(
     some ([],[],f)))
    (λg h=>(
     some (g,h,0)))))
def B66 (n:Nat):Ent:=⟨49,[(.st (.pair hNs hI)),hRs,hRs,hRs],[hRs,hRs,hI],λx=>f49 n x.1 x.2.1 x.2.2.1 x.2.2.2⟩
def Aqj (α:Type) (n:Nat):D3 α:={ reg:=[(2,⟨0,[],[(3,{ entB:=some (Cr n),hb:=310 }),(5,{ entB:=some (Cr n),hb:=320 })]⟩),(3,⟨5,[],[(4,{ ent:=some (Au n) })]⟩),(4,⟨0,[],[(2,{ entB:=some (Cr n),hb:=330 }),(5,{ entB:=some (Cr n),hb:=340 })]⟩),(8,⟨0,[],[(5,{ ent:=some (N0 n) }),(13,{ ent:=some (N0 n) })]⟩),(12,⟨0,[],[(16,{ ent:=some (Ad n) }),(27,{ ent:=some (Ad n) })]⟩),(13,⟨0,[],[(2,{ entB:=some (Aov n),hb:=350 })]⟩)],join:=[],loop:=[(6,⟨Zu,A9v,A5 (A9u n) n⟩)],any:=[(12,An5)] }
set_option maxHeartbeats 8000000 in
theorem An6 (n:Nat):Ag TT ⟨104,[]⟩ [(16,{ ent:=some (Ad n) }),(27,{ ent:=some (Ad n) })] An5 (A4 ((A0 Tryz.f49).at [1,1,1,1,1,0,1,0,0,1,0,0,1,1,1,0])):=by
 refine ⟨by kernel_rfl,λw q hq=>?_⟩
 have e:WT [(16,{ ent:=some (Ad n) }),(27,{ ent:=some (Ad n) })] (A7 (A4 ((A0 Tryz.f49).at [1,1,1,1,1,0,1,0,0,1,0,0,1,1,1,0])).toList) q=(∃ (y0:HL (Ad n).rs) (q0:List (Nat × RV)),q=(16,.sv (Ae (Ad n).rs y0))::q0 /\ ∃ (y1:HL (Ad n).rs) (q1:List (Nat × RV)),q0=(27,.sv (Ae (Ad n).rs y1))::q1/\q1=[]):=by kernel_rfl
 rw [e] at hq;obtain ⟨y0,q0,rfl,y1,q1,rfl,rfl⟩:=hq
 all_goals exact .inr ⟨30,by kernel_rfl,by kernel_rfl,by kernel_rfl⟩
theorem Agz (α:Type) (n:Nat):Al PP (Af (Aqj α n).reg):=⟨Km n,Km n,B4 n,Km n,Km n,Lt n,Lt n,Cd n,Cd n,B4u n,trivial⟩
theorem B2z (α:Type) (n:Nat):D3.OK PP TT ⟨104,[]⟩ (Aqj α n) ((A0 Tryz.f49).at [1,1,1,1,1,0,1,0,0]) :=
 D3.OK.mk3a (Agz α n) (show Aa ((A0 Tryz.f49).at [1,1,1,1,1,0,1,0,0])=[] by kernel_rfl) trivial (show As ((A0 Tryz.f49).at [1,1,1,1,1,0,1,0,0])=[(12,A4 ((A0 Tryz.f49).at [1,1,1,1,1,0,1,0,0,1,0,0,1,1,1,0]))] by kernel_rfl) ⟨⟨An6 n,trivial⟩,trivial⟩
theorem Avo (α:Type) (n:Nat):LO.Sound (α:=α) PP ⟨104,[]⟩ ⟨Zu,A9v,A5 (A9u n) n⟩ (.loop ((A0 Tryz.f49).at [1,1,1,1,1,0,1,0,0])):=lk (B2z α n) n
theorem Bhu (α:Type) (n:Nat):D3.OK PP TT ⟨104,[]⟩ (Aqj α n) (A0 Tryz.f49) :=
 D3.OK.mk3a (Agz α n) (show Aa (A0 Tryz.f49)=[(6,(.loop ((A0 Tryz.f49).at [1,1,1,1,1,0,1,0,0])))] by kernel_rfl) ⟨Ac rfl (Avo α n),trivial⟩ (show As (A0 Tryz.f49)=[(3,A4 ((A0 Tryz.f49).at [1,1,1,0])),(12,A4 ((A0 Tryz.f49).at [1,1,1,1,1,0,1,0,0,1,0,0,1,1,1,0]))] by kernel_rfl) ⟨trivial,⟨An6 n,trivial⟩,trivial⟩
theorem Bde (n:Nat):(B66 n).Sound PP:=fk (fn:=Tryz.f49) (Bhu _ n)

def f23 (n:Nat) (a0:LN × Int) (a1:LR):Option (LR × Int) :=
 ob (f63 n a0 a1) λa =>
 bif (a.2 != 0) then
  some ([],a.2)
 else
  ob (f64 n (a.1.length:Int)) λd =>
  ob (f49 n a0 a1 a.1 d) λb =>
  bif (b.2.2 != 0) then
   some ([],b.2.2)
  else
   ob (f51 n b.1) λc =>
   some (c.1,c.2)
def B6f (n:Nat):Ent:=⟨23,[(.st (.pair hNs hI)),hRs],[hRs,hI],λx=>f23 n x.1 x.2⟩
def Bi3 (α:Type) (n:Nat):D3 α:={ reg:=[(1,⟨0,[],[(2,{ ent:=some (Aqe n) })]⟩),(4,⟨13,[],[(5,{ ent:=some (Gy n) }),(6,{ ent:=some (B66 n) })]⟩),(7,⟨0,[],[(1,{ ent:=some (A6p n) })]⟩)],join:=[],loop:=[] }
theorem Bdo (n:Nat):(B6f n).Sound PP:=B0 (fn:=Tryz.f23) (D:=Bi3 _ n) ⟨Avi n,A6k n,Bde n,A6o n,trivial⟩

def A9d {α:Type} (n:Nat) (b c:LI) (a:Int) (f:LI->LI->Int->Option α) (k0:Bool->Option α) (k1:Unit->Option α):Option α :=
 bif (decide (a<(b.length:Int))) then
  gd (decide (0<=a)&&decide (a<(b.length:Int))) (
   gd (decide (0<=a)&&decide (a<(c.length:Int))) (
    bif ((b.getD a.toNat 0) != (c.getD a.toNat 0)) then
     k0 false
    else
     f b c (W (a+1))))
 else
  k1 ()
abbrev Zm:Tm:=⟨[(0,.d hIs),(1,.d hIs),(5,.d hI)],[],[],[]⟩
abbrev B2l:Tm:=⟨[(4,.d .bool)],[],[],[]⟩
abbrev B2k:Tm:=⟨[],[],[],[]⟩
abbrev A9c:List (Exit × Tm):=[(.ret,B2l),(.exit 0,B2k)]
def A9b {α:Type} (n:Nat) (v:Zm.den) (f:Zm.den->Option α) (ks:KS α A9c):Option α:=A9d n v.1.1 v.1.2.1 v.1.2.2.1 (λa b c=>f ((a,b,c,()),())) (λw0=>ks.1 ((w0,()),())) (λ_=>ks.2.1 ((),()))
def Xk {α:Type} (n m:Nat) (a b:LI) (c:Int) (k0:Bool->Option α) (k1:Unit->Option α):Option α:=A5 (A9b n) m ((a,b,c,()),()) (λw=>k0 w.1.1,λw=>k1 (),())
theorem B2j {α n m a b c k0 k1}:Xk (α:=α) n (m+1) a b c k0 k1=A9d n a b c (λa b c=>Xk n m a b c k0 k1) k0 k1:=rfl
def f77 (n:Nat) (a0 a1:LI):Option Bool :=
 bif ((a0.length:Int) != (a1.length:Int)) then
  some false
 else
  Xk n n a0 a1 0
   (λa=>(
    some a))
   (λ(_:Unit)=>(
    some true))
def Aq7 (n:Nat):Ent:=⟨77,[hIs,hIs],[.bool],λx=>f77 n x.1 x.2⟩
def Aq8 (α:Type) (n:Nat):D3 α:={ reg:=[(6,⟨8,[],[]⟩)],join:=[],loop:=[(4,⟨Zm,A9c,A5 (A9b n) n⟩)] }
theorem Agk (α:Type) (n:Nat):Al PP (Af (Aq8 α n).reg):=trivial
theorem Ava (α:Type) (n:Nat):LO.Sound (α:=α) PP ⟨26,[]⟩ ⟨Zm,A9c,A5 (A9b n) n⟩ (.loop ((A0 Tryz.f77).at [1,1,0,1,0,0])):=C1 (D:=Aq8 α n) (Agk α n) n
theorem Bhi (α:Type) (n:Nat):D3.OK PP TT ⟨26,[]⟩ (Aq8 α n) (A0 Tryz.f77) :=
 D3.OK.mk3 (Agk α n) (show Aa (A0 Tryz.f77)=[(4,(.loop ((A0 Tryz.f77).at [1,1,0,1,0,0])))] by kernel_rfl) ⟨Ac rfl (Ava α n),trivial⟩
theorem Av8 (n:Nat):(Aq7 n).Sound PP:=fk (fn:=Tryz.f77) (Bhi _ n)

def f32 (n:Nat) (a0 a1:Rq):Option Bool :=
 bif (a0.1==a1.1) then
  ob (f77 n a0.2.1 a1.2.1) λa =>
  bif a then
   ob (f77 n a0.2.2 a1.2.2) λb =>
   some b
  else
   some false
 else
  some false
def Aqk (n:Nat):Ent:=⟨32,[hR,hR],[.bool],λx=>f32 n x.1 x.2⟩
def Bi1 (α:Type) (n:Nat):D3 α:={ reg:=[(1,⟨0,[],[(10,{ ent:=some (Aq7 n) }),(17,{ ent:=some (Aq7 n) })]⟩)],join:=[],loop:=[] }
theorem Avq (n:Nat):(Aqk n).Sound PP:=B0 (fn:=Tryz.f32) (D:=Bi1 _ n) ⟨Av8 n,Av8 n,trivial⟩

def A9y {α:Type} (n:Nat) (b c:LR) (a:Int) (f:LR->LR->Int->Option α) (k0:Bool->Option α) (k1:Unit->Option α):Option α :=
 bif (decide (a<(b.length:Int))) then
  gd (decide (0<=a)&&decide (a<(b.length:Int))) (
   let d:=b.getD a.toNat (false,[],[])
   gd (decide (0<=a)&&decide (a<(c.length:Int))) (
    let e:=c.getD a.toNat (false,[],[])
    ob (f32 n d e) λg =>
    bif (!g) then
     k0 false
    else
     f b c (W (a+1))))
 else
  k1 ()
abbrev Zw:Tm:=⟨[(0,.d hRs),(1,.d hRs),(5,.d hI)],[],[],[]⟩
abbrev B36:Tm:=⟨[(4,.d .bool)],[],[],[]⟩
abbrev B35:Tm:=⟨[],[],[],[]⟩
abbrev A9x:List (Exit × Tm):=[(.ret,B36),(.exit 0,B35)]
def A9w {α:Type} (n:Nat) (v:Zw.den) (f:Zw.den->Option α) (ks:KS α A9x):Option α:=A9y n v.1.1 v.1.2.1 v.1.2.2.1 (λa b c=>f ((a,b,c,()),())) (λw0=>ks.1 ((w0,()),())) (λ_=>ks.2.1 ((),()))
def Xn {α:Type} (n m:Nat) (a b:LR) (c:Int) (k0:Bool->Option α) (k1:Unit->Option α):Option α:=A5 (A9w n) m ((a,b,c,()),()) (λw=>k0 w.1.1,λw=>k1 (),())
theorem B34 {α n m a b c k0 k1}:Xn (α:=α) n (m+1) a b c k0 k1=A9y n a b c (λa b c=>Xn n m a b c k0 k1) k0 k1:=rfl
def f25 (n:Nat) (a0 a1:LR):Option Bool :=
 bif ((a0.length:Int) != (a1.length:Int)) then
  some false
 else
  Xn n n a0 a1 0
   (λa=>(
    some a))
   (λ(_:Unit)=>(
    some true))
def B6e (n:Nat):Ent:=⟨25,[hRs,hRs],[.bool],λx=>f25 n x.1 x.2⟩
def Aql (α:Type) (n:Nat):D3 α:={ reg:=[(6,⟨8,[],[(8,{ ent:=some (Aqk n) })]⟩)],join:=[],loop:=[(4,⟨Zw,A9x,A5 (A9w n) n⟩)] }
theorem Ah2 (α:Type) (n:Nat):Al PP (Af (Aql α n).reg):=⟨Avq n,trivial⟩
theorem Avs (α:Type) (n:Nat):LO.Sound (α:=α) PP ⟨27,[]⟩ ⟨Zw,A9x,A5 (A9w n) n⟩ (.loop ((A0 Tryz.f25).at [1,1,0,1,0,0])):=C1 (D:=Aql α n) (Ah2 α n) n
theorem Bi2 (α:Type) (n:Nat):D3.OK PP TT ⟨27,[]⟩ (Aql α n) (A0 Tryz.f25) :=
 D3.OK.mk3 (Ah2 α n) (show Aa (A0 Tryz.f25)=[(4,(.loop ((A0 Tryz.f25).at [1,1,0,1,0,0])))] by kernel_rfl) ⟨Ac rfl (Avs α n),trivial⟩
theorem Bdn (n:Nat):(B6e n).Sound PP:=fk (fn:=Tryz.f25) (Bi2 _ n)

def A4p {α:Type} (n:Nat) (c b:List LR) (d a:Int) (f:(List LR)->(List LR)->Int->Int->Option α) (k0:Int->Option α) (k1:(List LR)->Option α):Option α :=
 bif (decide (a<d)) then
  gd (decide (0<=a)&&decide (a<(b.length:Int))) (
   ob (f119 n (b.getD a.toNat [])) λe =>
   bif (!e) then
    k0 1
   else
    f c b d (W (a+1)))
 else
  k1 c
abbrev Un:Tm:=⟨[(0,.d (.sl hRs)),(13,.d (.sl hRs)),(14,.d hI),(15,.d hI)],[],[],[]⟩
abbrev Ayu:Tm:=⟨[(2,.d hI)],[],[],[]⟩
abbrev Ayt:Tm:=⟨[(0,.d (.sl hRs))],[],[],[]⟩
abbrev A4o:List (Exit × Tm):=[(.ret,Ayu),(.exit 0,Ayt)]
def A4n {α:Type} (n:Nat) (v:Un.den) (f:Un.den->Option α) (ks:KS α A4o):Option α:=A4p n v.1.1 v.1.2.1 v.1.2.2.1 v.1.2.2.2.1 (λa b c d=>f ((a,b,c,d,()),())) (λw0=>ks.1 ((w0,()),())) (λw0=>ks.2.1 ((w0,()),()))
def Sd {α:Type} (n m:Nat) (a b:List LR) (c d:Int) (k0:Int->Option α) (k1:(List LR)->Option α):Option α:=A5 (A4n n) m ((a,b,c,d,()),()) (λw=>k0 w.1.1,λw=>k1 w.1.1,())
theorem Ays {α n m a b c d k0 k1}:Sd (α:=α) n (m+1) a b c d k0 k1=A4p n a b c d (λa b c d=>Sd n m a b c d k0 k1) k0 k1:=rfl
def Ym {α:Type} (n:Nat) (b c:List LR) (d a:Int) (f:(List LR)->(List LR)->Int->Int->Option α) (k0:Int->Option α) (k1:Unit->Option α):Option α :=
 bif (decide (a<d)) then
  gd (decide (0<=a)&&decide (a<(c.length:Int))) (
   gd (decide (0<(b.length:Int))) (
    bif ((((c.getD a.toNat []).length:Nat):Int) != (((b.getD 0 []).length:Nat):Int)) then
     k0 8
    else
     f b c d (W (a+1))))
 else
  k1 ()
abbrev Ql:Tm:=⟨[(0,.d (.sl hRs)),(23,.d (.sl hRs)),(24,.d hI),(25,.d hI)],[],[],[]⟩
abbrev As9:Tm:=⟨[(2,.d hI)],[],[],[]⟩
abbrev As8:Tm:=⟨[],[],[],[]⟩
abbrev Yl:List (Exit × Tm):=[(.ret,As9),(.exit 2,As8)]
def Yk {α:Type} (n:Nat) (v:Ql.den) (f:Ql.den->Option α) (ks:KS α Yl):Option α:=Ym n v.1.1 v.1.2.1 v.1.2.2.1 v.1.2.2.2.1 (λa b c d=>f ((a,b,c,d,()),())) (λw0=>ks.1 ((w0,()),())) (λ_=>ks.2.1 ((),()))
def Kz {α:Type} (n m:Nat) (a b:List LR) (c d:Int) (k0:Int->Option α) (k1:Unit->Option α):Option α:=A5 (Yk n) m ((a,b,c,d,()),()) (λw=>k0 w.1.1,λw=>k1 (),())
theorem As7 {α n m a b c d k0 k1}:Kz (α:=α) n (m+1) a b c d k0 k1=Ym n a b c d (λa b c d=>Kz n m a b c d k0 k1) k0 k1:=rfl
def f128 (n:Nat) (a0:List LR):Option Int :=
 ob (f71 n a0) λb =>
 bif (b != 0) then
  some b
 else
  Sd n n a0 a0 (a0.length:Int) 0
   (λc=>(
    some c))
   (λa=>(
    Kz n n a a (a.length:Int) 0
     (λd=>(
      some d))
     (λ(_:Unit)=>(
      some 0))))
def Ayv (n:Nat):Ent:=⟨128,[(.sl hRs)],[hI],λx=>f128 n x⟩
def A7p (α:Type) (n:Nat):D3 α:={ reg:=[(1,⟨0,[],[(1,{ ent:=some (I6 n) })]⟩),(7,⟨0,[],[(1,{ ent:=some (M7 n) })]⟩)],join:=[],loop:=[(5,⟨Un,A4o,A5 (A4n n) n⟩),(11,⟨Ql,Yl,A5 (Yk n) n⟩)] }
theorem Yj (α:Type) (n:Nat):Al PP (Af (A7p α n).reg):=⟨Agl n,Aaj n,trivial⟩
theorem As6 (α:Type) (n:Nat):LO.Sound (α:=α) PP ⟨37,[]⟩ ⟨Un,A4o,A5 (A4n n) n⟩ (.loop ((A0 Tryz.f128).at [1,1,0,1,0,0])):=C1 (D:=A7p α n) (Yj α n) n
theorem Alq (α:Type) (n:Nat):LO.Sound (α:=α) PP ⟨37,[]⟩ ⟨Ql,Yl,A5 (Yk n) n⟩ (.loop ((A0 Tryz.f128).at [1,1,1,0,1,0,0])):=C1 (D:=A7p α n) (Yj α n) n
theorem Bft (α:Type) (n:Nat):D3.OK PP TT ⟨37,[]⟩ (A7p α n) (A0 Tryz.f128) :=
 D3.OK.mk3 (Yj α n) (show Aa (A0 Tryz.f128)=[(5,(.loop ((A0 Tryz.f128).at [1,1,0,1,0,0]))),(11,(.loop ((A0 Tryz.f128).at [1,1,1,0,1,0,0])))] by kernel_rfl) ⟨Ac rfl (As6 α n),Ac rfl (Alq α n),trivial⟩
theorem Bag (n:Nat):(Ayv n).Sound PP:=fk (fn:=Tryz.f128) (Bft _ n)

def A4m {α:Type} (n:Nat) (b c:LR) (e a:Int) (g h:Bool) (i j:LI) (f:LR->LR->Int->Int->Bool->Bool->LI->LI->Option α) (k0:Bool->Bool->LI->LI->Option α):Option α :=
 bif (decide (a<e)) then
  gd (decide (0<=a)&&decide (a<(c.length:Int))) (
   let k:=c.getD a.toNat (false,[],[])
   gd (decide (0<=a)&&decide (a<(b.length:Int))) (
    let l:=b.getD a.toNat (false,[],[])
    ob (f162 n k l) λm =>
    ob (f99 n (h,i,j) m) λd =>
    f b c e (W (a+1)) g d.1 d.2.1 d.2.2))
 else
  k0 g h i j
abbrev Um:Tm:=⟨[(1,.d hRs),(4,.k (.hp 4 0 0)),(5,.k (.hp 5 0 0)),(9,.d hRs),(10,.d hI),(11,.d hI)],[(4,.var 54 true false [.d .bool,.d .nil,.d .nil]),(5,.var 54 true false [.d .bool,.d hIs,.d hIs])],[7],[]⟩
abbrev Ayp:Tm:=⟨[(4,.k (.hp 4 0 0)),(5,.k (.hp 5 0 0))],[(4,.var 54 true false [.d .bool,.d .nil,.d .nil]),(5,.var 54 true false [.d .bool,.d hIs,.d hIs])],[],[]⟩
abbrev A4l:List (Exit × Tm):=[(.exit 0,Ayp)]
def A4k {α:Type} (n:Nat) (v:Um.den) (f:Um.den->Option α) (ks:KS α A4l):Option α:=A4m n v.1.1 v.1.2.2.2.1 v.1.2.2.2.2.1 v.1.2.2.2.2.2.1 v.2.1.1 v.2.2.1.1 v.2.2.1.2.1 v.2.2.1.2.2.1 (λa b c d e g h i=>f ((a,(),(),b,c,d,()),((e,(),(),()),(g,h,i,()),()))) (λw0 w1 w2 w3=>ks.1 (((),(),()),((w0,(),(),()),(w1,w2,w3,()),())))
def Sc {α:Type} (n m:Nat) (a b:LR) (c d:Int) (e f:Bool) (g h:LI) (k0:Bool->Bool->LI->LI->Option α):Option α:=A5 (A4k n) m ((a,(),(),b,c,d,()),((e,(),(),()),(f,g,h,()),())) (λw=>k0 w.2.1.1 w.2.2.1.1 w.2.2.1.2.1 w.2.2.1.2.2.1,())
theorem Ayo {α n m a b c d e f g h k0}:Sc (α:=α) n (m+1) a b c d e f g h k0=A4m n a b c d e f g h (λa b c d e f g h=>Sc n m a b c d e f g h k0) k0:=rfl
def f130 (n:Nat) (a0 a1:LR):Option Rq :=
 ob (f97 n 0) λa =>
 Sc n n a1 a0 (a0.length:Int) 0 false a.1 a.2.1 a.2.2
  (λe b c d=>(
   some (b,c,d)))
def Ayq (n:Nat):Ent:=⟨130,[hRs,hRs],[hR],λx=>f130 n x.1 x.2⟩
def Aj8 (α:Type) (n:Nat):D3 α:={ reg:=[(1,⟨0,[],[(0,{ ent:=some (Au n) })]⟩),(5,⟨7,[],[(6,{ ent:=some (A8 n) }),(7,{ ent:=some (Ad n) })]⟩)],join:=[],loop:=[(3,⟨Um,A4l,A5 (A4k n) n⟩)] }
theorem Acv (α:Type) (n:Nat):Al PP (Af (Aj8 α n).reg):=⟨B4 n,At n,Cd n,trivial⟩
theorem As5 (α:Type) (n:Nat):LO.Sound (α:=α) PP ⟨26,[]⟩ ⟨Um,A4l,A5 (A4k n) n⟩ (.loop ((A0 Tryz.f130).at [1,1,0,1,0,0])):=C1 (D:=Aj8 α n) (Acv α n) n
theorem Bfr (α:Type) (n:Nat):D3.OK PP TT ⟨26,[]⟩ (Aj8 α n) (A0 Tryz.f130) :=
 D3.OK.mk3 (Acv α n) (show Aa (A0 Tryz.f130)=[(3,(.loop ((A0 Tryz.f130).at [1,1,0,1,0,0])))] by kernel_rfl) ⟨Ac rfl (As5 α n),trivial⟩
theorem Bae (n:Nat):(Ayq n).Sound PP:=fk (fn:=Tryz.f130) (Bfr _ n)

def f129 (n:Nat) (a0:Rq):Option (Rq × Int) :=
 ob (f98 n a0) λa =>
 bif (!a) then
  some ((false,[],[]),7)
 else
  some (a0,0)
def Ayr (n:Nat):Ent:=⟨129,[hR],[hR,hI],λx=>f129 n x⟩
def Bfs (α:Type) (n:Nat):D3 α:={ reg:=[(1,⟨0,[],[(1,{ ent:=some (N0 n) })]⟩)],join:=[],loop:=[] }
theorem Baf (n:Nat):(Ayr n).Sound PP:=B0 (fn:=Tryz.f129) (D:=Bfs _ n) ⟨Lt n,trivial⟩

def f78 (n:Nat) (a0 a1:LR):Option (Rq × Int) :=
 ob (f128 n [a0,a1]) λa =>
 bif (a != 0) then
  some ((false,[],[]),a)
 else
  ob (f130 n a0 a1) λc =>
  ob (f129 n c) λb =>
  some (b.1,b.2)
def B62 (n:Nat):Ent:=⟨78,[hRs,hRs],[hR,hI],λx=>f78 n x.1 x.2⟩
def Bhh (α:Type) (n:Nat):D3 α:={ reg:=[(1,⟨0,[],[(2,{ sh:=some hRs }),(3,{ ent:=some (Ayv n) })]⟩),(4,⟨0,[],[(2,{ ent:=some (Ayq n) }),(3,{ ent:=some (Ayr n) })]⟩)],join:=[],loop:=[] }
theorem Bd3 (n:Nat):(B62 n).Sound PP:=B0 (fn:=Tryz.f78) (D:=Bhh _ n) ⟨Bag n,Bae n,Baf n,trivial⟩

def f33 (n:Nat) (a0 a1:LR):Option (Rq × Bool) :=
 ob (f78 n a0 a1) λa =>
 some (a.1,(a.2==0))
def B6d (n:Nat):Ent:=⟨33,[hRs,hRs],[hR,.bool],λx=>f33 n x.1 x.2⟩
def Bi0 (α:Type) (n:Nat):D3 α:={ reg:=[(1,⟨0,[],[(2,{ ent:=some (B62 n) })]⟩)],join:=[],loop:=[] }
theorem Bdm (n:Nat):(B6d n).Sound PP:=B0 (fn:=Tryz.f33) (D:=Bi0 _ n) ⟨Bd3 n,trivial⟩

def f7 (n:Nat) (a0 a1:LI):Option Bool :=
 bif (decide ((a0.length:Int)>1048576)) then
  some true
 else
  bif (decide ((a1.length:Int)>1048576)) then
   some true
  else
   ob (f39 n a0) λa =>
   ob (f21 n a1 3) λc =>
   gd (decide ((1+a1.length)*1<=140737488355328)) (
    ob (f21 n ([5]++a1) 3) λd =>
    ob (f40 n a c d) λb =>
    ob (f41 n a c d) λe =>
    ob (f23 n a c) λf =>
    bif (b.2 != e.2) then
     some false
    else
     ob (f25 n b.1 e.1) λh =>
     bif (!h) then
      some false
     else
      bif (b.2 != 0) then
       some true
      else
       bif (f.2 != 0) then
        some true
       else
        ob (f33 n f.1 d) λg =>
        bif g.2 then
         bif ((b.1.length:Int)==(a.1.length:Int)) then
          gd (decide (0<=a.2)&&decide (a.2<(b.1.length:Int))) (
           let i:=b.1.getD a.2.toNat (false,[],[])
           ob (f32 n i g.1) λj =>
           some j)
         else
          some false
        else
         some false)
def Bip (n:Nat):Ent:=⟨7,[(.sl (.int .u8)),(.sl (.int .u8))],[.bool],λx=>f7 n x.1 x.2⟩
def Biq (α:Type) (n:Nat):D3 α:={ reg:=[(3,⟨0,[],[(1,{ ent:=some (B6c n) })]⟩),(4,⟨0,[],[(1,{ ent:=some (Aqo n) })]⟩),(5,⟨0,[],[(0,{ sh:=some (.int .u8) }),(3,{ ent:=some (Aqo n),fz:=[(30,(.sl (.int .u8)))] })]⟩),(6,⟨0,[],[(3,{ ent:=some (B6b n) })]⟩),(7,⟨0,[],[(3,{ ent:=some (B6a n) })]⟩),(8,⟨0,[],[(2,{ ent:=some (B6f n) })]⟩),(9,⟨0,[],[(6,{ ent:=some (B6e n) })]⟩),(13,⟨0,[],[(2,{ ent:=some (B6d n) })]⟩),(14,⟨16,[],[(16,{ ent:=some (Aqk n) })]⟩)],join:=[],loop:=[] }
theorem Bhf (n:Nat):(Bip n).Sound PP:=B0 (fn:=Tryz.f7) (D:=Biq _ n) ⟨Bdk n,Avv n,Avv n,Bdj n,Bdi n,Bdo n,Bdn n,Bdm n,Avq n,trivial⟩

end Go.Ev
