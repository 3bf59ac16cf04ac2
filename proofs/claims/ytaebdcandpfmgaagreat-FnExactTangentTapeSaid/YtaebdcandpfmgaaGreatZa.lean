/- DERIVED. What the functions compute, and that they do. -/
import Derived.Test.YtaebdcandpfmgaaGreatEe

set_option linter.all false
set_option linter.unusedVariables false
set_option linter.unusedSimpArgs false

namespace Go.Ev
open Go Go.Proofs Go.RowKit Go.Shelf
def f80 (n:Nat) (a0:LN) (a1:Int):Option Int :=
 bif (decide ((W (a1-(a0.length:Int)))<0)) then
  some (-1)
 else
  some (W (a1-(a0.length:Int)))
def B7s (n:Nat):Ent:=⟨80,[hNs,hI],[hI],λx=>f80 n x.1 x.2⟩
def Bix (α:Type) (n:Nat):D3 α:={ reg:=[],join:=[],loop:=[] }
theorem Beg (n:Nat):(B7s n).Sound PP:=Ay (fn:=Tryz.f80) (D:=Bix _ n) trivial

def f41 (n:Nat) (a0:LN × Int) (a1:Int):Option Int :=
 ob (f80 n a0.1 a1) λa =>
 bif (decide (a<0)) then
  some (-1)
 else
  some a
def B7x (n:Nat):Ent:=⟨41,[(.st (.pair hNs hI)),hI],[hI],λx=>f41 n x.1 x.2⟩
def Bjb (α:Type) (n:Nat):D3 α:={ reg:=[(1,⟨0,[],[(3,{ ent:=some (B7s n) })]⟩)],join:=[],loop:=[] }
theorem Bev (n:Nat):(B7x n).Sound PP:=Ay (fn:=Tryz.f41) (D:=Bjb _ n) ⟨Beg n,trivial⟩

def f137 (n:Nat) (a0:LI) (a1:Int):Option Int :=
 bif (decide ((W (a1-(a0.length:Int)))<0)) then
  some (-1)
 else
  some (W (a1-(a0.length:Int)))
def Akg (n:Nat):Ent:=⟨137,[hIs,hI],[hI],λx=>f137 n x.1 x.2⟩
def Bh6 (α:Type) (n:Nat):D3 α:={ reg:=[],join:=[],loop:=[] }
theorem App (n:Nat):(Akg n).Sound PP:=Ay (fn:=Tryz.f137) (D:=Bh6 _ n) trivial

def f81 (n:Nat) (a0:Rq) (a1:Int):Option Int :=
 ob (f137 n a0.2.1 a1) λa =>
 bif (decide (a<0)) then
  some (-1)
 else
  ob (f137 n a0.2.2 a) λb =>
  bif (decide (b<0)) then
   some (-1)
  else
   some b
def B7r (n:Nat):Ent:=⟨81,[hR,hI],[hI],λx=>f81 n x.1 x.2⟩
def Biw (α:Type) (n:Nat):D3 α:={ reg:=[(1,⟨0,[],[(3,{ ent:=some (Akg n) })]⟩),(4,⟨0,[],[(3,{ ent:=some (Akg n) })]⟩)],join:=[],loop:=[] }
theorem Bee (n:Nat):(B7r n).Sound PP:=Ay (fn:=Tryz.f81) (D:=Biw _ n) ⟨App n,App n,trivial⟩

def Aa6 {α:Type} (n:Nat) (b:LR) (c a:Int) (f:LR->Int->Int->Option α) (k0 k1:Int->Option α):Option α :=
 bif (decide (a<(b.length:Int))) then
  gd (decide (0<=a)&&decide (a<(b.length:Int))) (
   let e:=b.getD a.toNat (false,[],[])
   ob (f81 n e c) λd =>
   bif (decide (d<0)) then
    k0 (-1)
   else
    f b d (W (a+1)))
 else
  k1 c
abbrev Zn:Tm:=⟨[(0,.d hRs),(1,.d hI),(5,.d hI)],[],[],[]⟩
abbrev B4y:Tm:=⟨[(4,.d hI)],[],[],[]⟩
abbrev B4x:Tm:=⟨[(1,.d hI)],[],[],[]⟩
abbrev Aa5:List (Exit × Tm):=[(.ret,B4y),(.exit 0,B4x)]
def Aa4 {α:Type} (n:Nat) (v:Zn.den) (f:Zn.den->Option α) (ks:KS α Aa5):Option α:=Aa6 n v.1.1 v.1.2.1 v.1.2.2.1 (λa b c=>f ((a,b,c,()),())) (λw0=>ks.1 ((w0,()),())) (λw0=>ks.2.1 ((w0,()),()))
def A6k {α:Type} (n m:Nat) (a:LR) (b c:Int) (k0 k1:Int->Option α):Option α:=A5 (Aa4 n) m ((a,b,c,()),()) (λw=>k0 w.1.1,λw=>k1 w.1.1,())
theorem B4w {α n m a b c k0 k1}:A6k (α:=α) n (m+1) a b c k0 k1=Aa6 n a b c (λa b c=>A6k n m a b c k0 k1) k0 k1:=rfl
def f30 (n:Nat) (a0:LR) (a1:Int):Option Int :=
 bif (decide ((W (a1-(a0.length:Int)))<0)) then
  some (-1)
 else
  A6k n n a0 (W (a1-(a0.length:Int))) 0
   (λa=>(
    some a))
   (λb=>(
    some b))
def As4 (n:Nat):Ent:=⟨30,[hRs,hI],[hI],λx=>f30 n x.1 x.2⟩
def As5 (α:Type) (n:Nat):D3 α:={ reg:=[(7,⟨0,[],[(5,{ ent:=some (B7r n) })]⟩)],join:=[],loop:=[(5,⟨Zn,Aa5,A5 (Aa4 n) n⟩)] }
theorem Ai5 (α:Type) (n:Nat):Ao PP (Ah (As5 α n).reg):=⟨Bee n,trivial⟩
theorem Axk (α:Type) (n:Nat):LO.Sound (α:=α) PP ⟨27,[]⟩ ⟨Zn,Aa5,A5 (Aa4 n) n⟩ (.loop ((A0 Tryz.f30).at [1,1,1,0,1,0,0])):=Ba (D:=As5 α n) (Ai5 α n) n
theorem Bjg (α:Type) (n:Nat):D3.OK PP TT ⟨27,[]⟩ (As5 α n) (A0 Tryz.f30) :=
 D3.OK.mk3 (Ai5 α n) (show Ab (A0 Tryz.f30)=[(5,(.loop ((A0 Tryz.f30).at [1,1,1,0,1,0,0])))] by kernel_rfl) ⟨Ad rfl (Axk α n),trivial⟩
theorem Axj (n:Nat):(As4 n).Sound PP:=fk (fn:=Tryz.f30) (Bjg _ n)

def f138 (n:Nat) (a0:Nq):Option Nq :=
 some a0
def Akf (n:Nat):Ent:=⟨138,[hN],[hN],λx=>f138 n x⟩
def Bh5 (α:Type) (n:Nat):D3 α:={ reg:=[],join:=[],loop:=[] }
theorem Apo (n:Nat):(Akf n).Sound PP:=Ay (fn:=Tryz.f138) (D:=Bh5 _ n) trivial

def Zc {α:Type} (n:Nat) (b:LN) (a:Int) (c:LN) (f:LN->Int->LN->Option α) (k0:LN->Option α):Option α :=
 bif (decide (a<(b.length:Int))) then
  gd (decide (0<=a)&&decide (a<(b.length:Int))) (
   let d:=b.getD a.toNat (0,0,0,0)
   ob (f138 n d) λe =>
   gd (decide (0<=a)&&decide (a<(c.length:Int))) (
    gd (decide (a.toNat<c.length)) (
     f b (W (a+1)) (c.set a.toNat e))))
 else
  k0 c
abbrev Zb:Tm:=⟨[(0,.d hNs),(3,.k (.hw 7)),(4,.d hI)],[(7,.arr 125 hN false)],[],[]⟩
abbrev B4g:Tm:=⟨[(3,.k (.hw 7))],[(7,.arr 125 hN false)],[],[]⟩
abbrev A9k:List (Exit × Tm):=[(.exit 0,B4g)]
def A9j {α:Type} (n:Nat) (v:Zb.den) (f:Zb.den->Option α) (ks:KS α A9k):Option α:=Zc n v.1.1 v.1.2.2.1 v.2.1 (λa b c=>f ((a,(),b,()),(c,()))) (λw0=>ks.1 (((),()),(w0,())))
def Wy {α:Type} (n m:Nat) (a:LN) (b:Int) (c:LN) (k0:LN->Option α):Option α:=A5 (A9j n) m ((a,(),b,()),(c,())) (λw=>k0 w.2.1,())
theorem Ahh {α n m a b c k0}:Wy (α:=α) n (m+1) a b c k0=Zc n a b c (λa b c=>Wy n m a b c k0) k0:=rfl
def f82 (n:Nat) (a0:LN):Option LN :=
 gd (decide (0<=(a0.length:Int))&&decide ((a0.length:Int)<=4611686018427387904)&&decide ((32:Int)*(a0.length:Int)<=281474976710656)) (
  Wy n n a0 0 (List.replicate ((a0.length:Int).toNat) (0,0,0,0))
   (λa=>(
    some a)))
def B7q (n:Nat):Ent:=⟨82,[hNs],[hNs],λx=>f82 n x⟩
def Arq (α:Type) (n:Nat):D3 α:={ reg:=[(5,⟨0,[],[(6,{ ent:=some (Akf n) })]⟩)],join:=[],loop:=[(3,⟨Zb,A9k,A5 (A9j n) n⟩)] }
theorem Ahg (α:Type) (n:Nat):Ao PP (Ah (Arq α n).reg):=⟨Apo n,trivial⟩
theorem Aww (α:Type) (n:Nat):LO.Sound (α:=α) PP ⟨23,[]⟩ ⟨Zb,A9k,A5 (A9j n) n⟩ (.loop ((A0 Tryz.f82).at [1,1,0,1,0,0])):=Ba (D:=Arq α n) (Ahg α n) n
theorem Biv (α:Type) (n:Nat):D3.OK PP TT ⟨23,[]⟩ (Arq α n) (A0 Tryz.f82) :=
 D3.OK.mk3 (Ahg α n) (show Ab (A0 Tryz.f82)=[(3,(.loop ((A0 Tryz.f82).at [1,1,0,1,0,0])))] by kernel_rfl) ⟨Ad rfl (Aww α n),trivial⟩
theorem Bec (n:Nat):(B7q n).Sound PP:=fk (fn:=Tryz.f82) (Biv _ n)

def f43 (n:Nat) (a0:LN × Int):Option (LN × Int) :=
 ob (f82 n a0.1) λa =>
 some (a,a0.2)
def Af2 (n:Nat):Ent:=⟨43,[(.st (.pair hNs hI))],[(.st (.pair hNs hI))],λx=>f43 n x⟩
def Bj9 (α:Type) (n:Nat):D3 α:={ reg:=[(2,⟨0,[],[(2,{ ent:=some (B7q n) })]⟩)],join:=[],loop:=[] }
theorem Ahr (n:Nat):(Af2 n).Sound PP:=Ay (fn:=Tryz.f43) (D:=Bj9 _ n) ⟨Bec n,trivial⟩

def A4q {α:Type} (n:Nat) (b:LI) (a:Int) (c:LI) (f:LI->Int->LI->Option α) (k0:LI->Option α):Option α :=
 bif (decide (a<(b.length:Int))) then
  gd (decide (0<=a)&&decide (a<(b.length:Int))) (
   gd (decide (0<=a)&&decide (a<(c.length:Int))) (
    gd (decide (a.toNat<c.length)) (
     f b (W (a+1)) (c.set a.toNat (b.getD a.toNat 0)))))
 else
  k0 c
abbrev U9:Tm:=⟨[(0,.d hIs),(3,.k (.hw 7)),(4,.d hI)],[(7,.arr 3 hI false)],[],[]⟩
abbrev B0o:Tm:=⟨[(3,.k (.hw 7))],[(7,.arr 3 hI false)],[],[]⟩
abbrev A4p:List (Exit × Tm):=[(.exit 0,B0o)]
def A4o {α:Type} (n:Nat) (v:U9.den) (f:U9.den->Option α) (ks:KS α A4p):Option α:=A4q n v.1.1 v.1.2.2.1 v.2.1 (λa b c=>f ((a,(),b,()),(c,()))) (λw0=>ks.1 (((),()),(w0,())))
def A08 {α:Type} (n m:Nat) (a:LI) (b:Int) (c:LI) (k0:LI->Option α):Option α:=A5 (A4o n) m ((a,(),b,()),(c,())) (λw=>k0 w.2.1,())
theorem B0n {α n m a b c k0}:A08 (α:=α) n (m+1) a b c k0=A4q n a b c (λa b c=>A08 n m a b c k0) k0:=rfl
def f139 (n:Nat) (a0:LI):Option LI :=
 gd (decide (0<=(a0.length:Int))&&decide ((a0.length:Int)<=4611686018427387904)&&decide ((8:Int)*(a0.length:Int)<=281474976710656)) (
  A08 n n a0 0 (List.replicate ((a0.length:Int).toNat) 0)
   (λa=>(
    some a)))
def Akb (n:Nat):Ent:=⟨139,[hIs],[hIs],λx=>f139 n x⟩
def Akc (α:Type) (n:Nat):D3 α:={ reg:=[],join:=[],loop:=[(3,⟨U9,A4p,A5 (A4o n) n⟩)] }
theorem Adk (α:Type) (n:Nat):Ao PP (Ah (Akc α n).reg):=trivial
theorem Atm (α:Type) (n:Nat):LO.Sound (α:=α) PP ⟨22,[]⟩ ⟨U9,A4p,A5 (A4o n) n⟩ (.loop ((A0 Tryz.f139).at [1,1,0,1,0,0])):=Ba (D:=Akc α n) (Adk α n) n
theorem Bh4 (α:Type) (n:Nat):D3.OK PP TT ⟨22,[]⟩ (Akc α n) (A0 Tryz.f139) :=
 D3.OK.mk3 (Adk α n) (show Ab (A0 Tryz.f139)=[(3,(.loop ((A0 Tryz.f139).at [1,1,0,1,0,0])))] by kernel_rfl) ⟨Ad rfl (Atm α n),trivial⟩
theorem Apm (n:Nat):(Akb n).Sound PP:=fk (fn:=Tryz.f139) (Bh4 _ n)

def f83 (n:Nat) (a0:Rq):Option Rq :=
 ob (f139 n a0.2.1) λa =>
 ob (f139 n a0.2.2) λb =>
 some (a0.1,a,b)
def B7p (n:Nat):Ent:=⟨83,[hR],[hR],λx=>f83 n x⟩
def Biu (α:Type) (n:Nat):D3 α:={ reg:=[(3,⟨0,[],[(2,{ ent:=some (Akb n) })]⟩),(4,⟨0,[],[(2,{ ent:=some (Akb n) })]⟩)],join:=[],loop:=[] }
theorem Be9 (n:Nat):(B7p n).Sound PP:=Ay (fn:=Tryz.f83) (D:=Biu _ n) ⟨Apm n,Apm n,trivial⟩

def Aa3 {α:Type} (n:Nat) (b:LR) (a:Int) (c:LR) (f:LR->Int->LR->Option α) (k0:LR->Option α):Option α :=
 bif (decide (a<(b.length:Int))) then
  gd (decide (0<=a)&&decide (a<(b.length:Int))) (
   let d:=b.getD a.toNat (false,[],[])
   ob (f83 n d) λe =>
   gd (decide (0<=a)&&decide (a<(c.length:Int))) (
    gd (decide (a.toNat<c.length)) (
     f b (W (a+1)) (c.set a.toNat e))))
 else
  k0 c
abbrev Zl:Tm:=⟨[(0,.d hRs),(3,.k (.hw 7)),(4,.d hI)],[(7,.arr 31 hR false)],[],[]⟩
abbrev B4v:Tm:=⟨[(3,.k (.hw 7))],[(7,.arr 31 hR false)],[],[]⟩
abbrev Aa2:List (Exit × Tm):=[(.exit 0,B4v)]
def Aa1 {α:Type} (n:Nat) (v:Zl.den) (f:Zl.den->Option α) (ks:KS α Aa2):Option α:=Aa3 n v.1.1 v.1.2.2.1 v.2.1 (λa b c=>f ((a,(),b,()),(c,()))) (λw0=>ks.1 (((),()),(w0,())))
def A6j {α:Type} (n m:Nat) (a:LR) (b:Int) (c:LR) (k0:LR->Option α):Option α:=A5 (Aa1 n) m ((a,(),b,()),(c,())) (λw=>k0 w.2.1,())
theorem B4u {α n m a b c k0}:A6j (α:=α) n (m+1) a b c k0=Aa3 n a b c (λa b c=>A6j n m a b c k0) k0:=rfl
def f32 (n:Nat) (a0:LR):Option LR :=
 gd (decide (0<=(a0.length:Int))&&decide ((a0.length:Int)<=4611686018427387904)&&decide ((56:Int)*(a0.length:Int)<=281474976710656)) (
  A6j n n a0 0 (List.replicate ((a0.length:Int).toNat) (false,[],[]))
   (λa=>(
    some a)))
def T4 (n:Nat):Ent:=⟨32,[hRs],[hRs],λx=>f32 n x⟩
def As2 (α:Type) (n:Nat):D3 α:={ reg:=[(5,⟨0,[],[(6,{ ent:=some (B7p n) })]⟩)],join:=[],loop:=[(3,⟨Zl,Aa2,A5 (Aa1 n) n⟩)] }
theorem Ai0 (α:Type) (n:Nat):Ao PP (Ah (As2 α n).reg):=⟨Be9 n,trivial⟩
theorem Axg (α:Type) (n:Nat):LO.Sound (α:=α) PP ⟨23,[]⟩ ⟨Zl,Aa2,A5 (Aa1 n) n⟩ (.loop ((A0 Tryz.f32).at [1,1,0,1,0,0])):=Ba (D:=As2 α n) (Ai0 α n) n
theorem Bjf (α:Type) (n:Nat):D3.OK PP TT ⟨23,[]⟩ (As2 α n) (A0 Tryz.f32) :=
 D3.OK.mk3 (Ai0 α n) (show Ab (A0 Tryz.f32)=[(3,(.loop ((A0 Tryz.f32).at [1,1,0,1,0,0])))] by kernel_rfl) ⟨Ad rfl (Axg α n),trivial⟩
theorem Qv (n:Nat):(T4 n).Sound PP:=fk (fn:=Tryz.f32) (Bjf _ n)

def f174 (n:Nat) (a0 a1 a2:Int):Option Bool :=
 bif (decide (a1<=a0)) then
  some (decide (a0<=a2))
 else
  some false
def Do (n:Nat):Ent:=⟨174,[hI,hI,hI],[.bool],λx=>f174 n x.1 x.2.1 x.2.2⟩
def Bgj (α:Type) (n:Nat):D3 α:={ reg:=[],join:=[],loop:=[] }
theorem Da (n:Nat):(Do n).Sound PP:=Ay (fn:=Tryz.f174) (D:=Bgj _ n) trivial

def f155 (n:Nat) (a0:Int):Option Bool :=
 ob (f174 n a0 3 6) λa =>
 some a
def Xw (n:Nat):Ent:=⟨155,[hI],[.bool],λx=>f155 n x⟩
def Bgu (α:Type) (n:Nat):D3 α:={ reg:=[(1,⟨0,[],[(1,{ ent:=some (Do n) })]⟩)],join:=[],loop:=[] }
theorem A05 (n:Nat):(Xw n).Sound PP:=Ay (fn:=Tryz.f155) (D:=Bgu _ n) ⟨Da n,trivial⟩

def f156 (n:Nat) (a0:Int):Option Bool :=
 bif (a0==7) then
  some true
 else
  some (a0==8)
def A7f (n:Nat):Ent:=⟨156,[hI],[.bool],λx=>f156 n x⟩
def Bgt (α:Type) (n:Nat):D3 α:={ reg:=[],join:=[],loop:=[] }
theorem Aan (n:Nat):(A7f n).Sound PP:=Ay (fn:=Tryz.f156) (D:=Bgt _ n) trivial

def f170 (n:Nat) (a0:Bool):Option Int :=
 bif a0 then
  some 1
 else
  some 0
def Rd (n:Nat):Ent:=⟨170,[.bool],[hI],λx=>f170 n x⟩
def Bgl (α:Type) (n:Nat):D3 α:={ reg:=[],join:=[],loop:=[] }
theorem Rb (n:Nat):(Rd n).Sound PP:=Ay (fn:=Tryz.f170) (D:=Bgl _ n) trivial

def f175 (n:Nat) (a0:Nq) (a1:Int):Option Bool :=
 ob (f174 n a0.1 1 8) λa =>
 bif (!a) then
  some false
 else
  ob (f155 n a0.1) λb =>
  bif b then
   ob (f174 n a0.2.1 0 (W (a1-1))) λc =>
   bif c then
    ob (f174 n a0.2.2.1 (W (a0.2.1+1)) (W (a1-1))) λd =>
    bif d then
     some (a0.2.2.2==0)
    else
     some false
   else
    some false
  else
   ob (f156 n a0.1) λe =>
   bif e then
    bif (a0.2.1==(W (a1-1))) then
     bif (decide (a1>0)) then
      bif (a0.2.2.1==0) then
       ob (f170 n (a0.1==8)) λf =>
       ob (f174 n a0.2.2.2 0 (W (8*f))) λg =>
       some g
      else
       some false
     else
      some false
    else
     some false
   else
    bif (a0.1==2) then
     bif (a0.2.1==0) then
      bif (a0.2.2.1==0) then
       ob (f174 n a0.2.2.2 0 3) λh =>
       some h
      else
       some false
     else
      some false
    else
     bif (a0.2.1==0) then
      bif (a0.2.2.1==0) then
       ob (f174 n a0.2.2.2 0 999999999) λi =>
       some i
      else
       some false
     else
      some false
def B04 (n:Nat):Ent:=⟨175,[hN,hI],[.bool],λx=>f175 n x.1 x.2⟩
def Bgi (α:Type) (n:Nat):D3 α:={ reg:=[(1,⟨0,[],[(2,{ ent:=some (Do n) })]⟩),(3,⟨0,[],[(2,{ ent:=some (Xw n) })]⟩),(4,⟨0,[],[(4,{ ent:=some (Do n) }),(13,{ ent:=some (Do n) })]⟩),(5,⟨0,[],[(2,{ ent:=some (A7f n) })]⟩),(6,⟨22,[],[(20,{ ent:=some (Rd n) }),(22,{ ent:=some (Do n) })]⟩),(8,⟨0,[],[(11,{ ent:=some (Do n) })]⟩),(9,⟨0,[],[(11,{ ent:=some (Do n) })]⟩)],join:=[],loop:=[] }
theorem Bbo (n:Nat):(B04 n).Sound PP:=Ay (fn:=Tryz.f175) (D:=Bgi _ n) ⟨Da n,A05 n,Da n,Da n,Aan n,Rb n,Da n,Da n,Da n,trivial⟩

def f210 (n:Nat) (a0:Nq) (a1:Int):Option Bool :=
 ob (f155 n a0.1) λa =>
 bif a then
  ob (f174 n a0.2.1 0 (W (a1-1))) λb =>
  bif b then
   ob (f174 n a0.2.2.1 0 (W (a1-1))) λc =>
   bif c then
    some (a0.2.2.2==0)
   else
    some false
  else
   some false
 else
  ob (f156 n a0.1) λd =>
  bif d then
   ob (f174 n a0.2.1 0 (W (a1-1))) λe =>
   bif e then
    bif (a0.2.2.1==0) then
     ob (f170 n (a0.1==8)) λf =>
     ob (f174 n a0.2.2.2 0 (W (8*f))) λg =>
     some g
    else
     some false
   else
    some false
  else
   ob (f175 n a0 a1) λh =>
   some h
def Ayf (n:Nat):Ent:=⟨210,[hN,hI],[.bool],λx=>f210 n x.1 x.2⟩
def Bfp (α:Type) (n:Nat):D3 α:={ reg:=[(1,⟨0,[],[(2,{ ent:=some (Xw n) })]⟩),(2,⟨0,[],[(4,{ ent:=some (Do n) }),(10,{ ent:=some (Do n) })]⟩),(3,⟨0,[],[(2,{ ent:=some (A7f n) })]⟩),(4,⟨18,[],[(4,{ ent:=some (Do n) }),(16,{ ent:=some (Rd n) }),(18,{ ent:=some (Do n) })]⟩),(5,⟨0,[],[(2,{ ent:=some (B04 n) })]⟩)],join:=[],loop:=[] }
theorem Bab (n:Nat):(Ayf n).Sound PP:=Ay (fn:=Tryz.f210) (D:=Bfp _ n) ⟨A05 n,Da n,Da n,Aan n,Da n,Rb n,Da n,Bbo n,trivial⟩

def A3m {α:Type} (n:Nat) (b:LN) (a d e g h:Int) (f:LN->Int->Int->Int->Int->Int->Option α) (k0:Int->Option α) (k1:Unit->Option α):Option α :=
 bif (decide (a<(b.length:Int))) then
  gd (decide (0<=a)&&decide (a<(b.length:Int))) (
   let c:=b.getD a.toNat (0,0,0,0)
   bif (c.1==d&&(c.2.1==e&&(c.2.2.1==g&&(c.2.2.2==h&&true)))) then
    k0 a
   else
    f b (W (a+1)) d e g h)
 else
  k1 ()
abbrev Tt:Tm:=⟨[(0,.d hNs),(3,.k (.hp 3 0 0)),(5,.d hI)],[(3,.var 125 true false [.d hI,.d hI,.d hI,.d hI])],[],[]⟩
abbrev Az0:Tm:=⟨[(4,.d hI)],[],[3],[]⟩
abbrev Ayz:Tm:=⟨[],[],[3],[]⟩
abbrev A3l:List (Exit × Tm):=[(.ret,Az0),(.exit 0,Ayz)]
def A3k {α:Type} (n:Nat) (v:Tt.den) (f:Tt.den->Option α) (ks:KS α A3l):Option α:=A3m n v.1.1 v.1.2.2.1 v.2.1.1 v.2.1.2.1 v.2.1.2.2.1 v.2.1.2.2.2.1 (λa b c d e g=>f ((a,(),b,()),((c,d,e,g,()),()))) (λw0=>ks.1 ((w0,()),())) (λ_=>ks.2.1 ((),()))
def Zv {α:Type} (n m:Nat) (a:LN) (b c d e f:Int) (k0:Int->Option α) (k1:Unit->Option α):Option α:=A5 (A3k n) m ((a,(),b,()),((c,d,e,f,()),())) (λw=>k0 w.1.1,λw=>k1 (),())
theorem Ayy {α n m a b c d e f k0 k1}:Zv (α:=α) n (m+1) a b c d e f k0 k1=A3m n a b c d e f (λa b c d e f=>Zv n m a b c d e f k0 k1) k0 k1:=rfl
def f199 (n:Nat) (a0:LN) (a1:Nq):Option Int :=
 Zv n n a0 0 a1.1 a1.2.1 a1.2.2.1 a1.2.2.2
  (λa=>(
   some a))
  (λ(_:Unit)=>(
   some (-1)))
def Az1 (n:Nat):Ent:=⟨199,[hNs,hN],[hI],λx=>f199 n x.1 x.2⟩
def Aix (α:Type) (n:Nat):D3 α:={ reg:=[(4,⟨5,[],[]⟩)],join:=[],loop:=[(2,⟨Tt,A3l,A5 (A3k n) n⟩)] }
theorem Ad0 (α:Type) (n:Nat):Ao PP (Ah (Aix α n).reg):=trivial
theorem Asx (α:Type) (n:Nat):LO.Sound (α:=α) PP ⟨19,[]⟩ ⟨Tt,A3l,A5 (A3k n) n⟩ (.loop ((A0 Tryz.f199).at [1,0,1,0,0])):=Ba (D:=Aix α n) (Ad0 α n) n
theorem Bfx (α:Type) (n:Nat):D3.OK PP TT ⟨19,[]⟩ (Aix α n) (A0 Tryz.f199) :=
 D3.OK.mk3 (Ad0 α n) (show Ab (A0 Tryz.f199)=[(2,(.loop ((A0 Tryz.f199).at [1,0,1,0,0])))] by kernel_rfl) ⟨Ad rfl (Asx α n),trivial⟩
theorem Baq (n:Nat):(Az1 n).Sound PP:=fk (fn:=Tryz.f199) (Bfx _ n)

def A4j {α:Type} (n:Nat) (a:Int) (b:LN) (c:Int) (f:Int->LN->Int->Option α) (k0:Bool->Option α) (k1:Unit->Option α):Option α :=
 bif (decide (a<(b.length:Int))) then
  gd (decide (0<=a)&&decide (a<(b.length:Int))) (
   let d:=b.getD a.toNat (0,0,0,0)
   ob (f210 n d a) λe =>
   bif (!e) then
    k0 false
   else
    gd (decide (0<=a)&&decide (a<=(b.length:Int))) (
     gd (decide (0<=a)&&decide (a<(b.length:Int))) (
      let g:=b.getD a.toNat (0,0,0,0)
      ob (f199 n ((b.drop 0).take (a.toNat-0)) g) λh =>
      bif (decide (h>=0)) then
       k0 false
      else
       f (W (a+1)) b c)))
 else
  k1 ()
abbrev U7:Tm:=⟨[(1,.k (.hp 1 0 0)),(3,.d hI)],[(1,.var 65 true false [.d hNs,.d hI])],[],[]⟩
abbrev B0a:Tm:=⟨[(2,.d .bool)],[],[1],[]⟩
abbrev B09:Tm:=⟨[],[],[1],[]⟩
abbrev A4i:List (Exit × Tm):=[(.ret,B0a),(.exit 0,B09)]
def A4h {α:Type} (n:Nat) (v:U7.den) (f:U7.den->Option α) (ks:KS α A4i):Option α:=A4j n v.1.2.1 v.2.1.1 v.2.1.2.1 (λa b c=>f (((),a,()),((b,c,()),()))) (λw0=>ks.1 ((w0,()),())) (λ_=>ks.2.1 ((),()))
def A04 {α:Type} (n m:Nat) (a:Int) (b:LN) (c:Int) (k0:Bool->Option α) (k1:Unit->Option α):Option α:=A5 (A4h n) m (((),a,()),((b,c,()),())) (λw=>k0 w.1.1,λw=>k1 (),())
theorem B08 {α n m a b c k0 k1}:A04 (α:=α) n (m+1) a b c k0 k1=A4j n a b c (λa b c=>A04 n m a b c k0 k1) k0 k1:=rfl
def f163 (n:Nat) (a0:LN × Int):Option Bool :=
 ob (f174 n (a0.1.length:Int) 1 60) λa =>
 bif (!a) then
  some false
 else
  bif (a0.2 != (W ((a0.1.length:Int)-1))) then
   some false
  else
   A04 n n 0 a0.1 a0.2
    (λb=>(
     some b))
    (λ(_:Unit)=>(
     some true))
def B0b (n:Nat):Ent:=⟨163,[(.st (.pair hNs hI))],[.bool],λx=>f163 n x⟩
def Ajv (α:Type) (n:Nat):D3 α:={ reg:=[(1,⟨0,[],[(3,{ ent:=some (Do n) })]⟩),(6,⟨18,[],[(6,{ ent:=some (Ayf n) }),(18,{ ent:=some (Az1 n) })]⟩)],join:=[],loop:=[(4,⟨U7,A4i,A5 (A4h n) n⟩)] }
theorem Adf (α:Type) (n:Nat):Ao PP (Ah (Ajv α n).reg):=⟨Da n,Bab n,Baq n,trivial⟩
theorem Atj (α:Type) (n:Nat):LO.Sound (α:=α) PP ⟨46,[]⟩ ⟨U7,A4i,A5 (A4h n) n⟩ (.loop ((A0 Tryz.f163).at [1,1,0,1,0,0])):=Ba (D:=Ajv α n) (Adf α n) n
theorem Bgp (α:Type) (n:Nat):D3.OK PP TT ⟨46,[]⟩ (Ajv α n) (A0 Tryz.f163) :=
 D3.OK.mk3 (Adf α n) (show Ab (A0 Tryz.f163)=[(4,(.loop ((A0 Tryz.f163).at [1,1,0,1,0,0])))] by kernel_rfl) ⟨Ad rfl (Atj α n),trivial⟩
theorem Bbv (n:Nat):(B0b n).Sound PP:=fk (fn:=Tryz.f163) (Bgp _ n)

def A33 {α:Type} (n:Nat) (a:LI) (b:Int) (f:LI->Int->Option α) (k0:Bool->Option α) (k1:LI->Option α):Option α :=
 bif (decide (b<(a.length:Int))) then
  gd (decide (0<=b)&&decide (b<(a.length:Int))) (
   ob (f174 n (a.getD b.toNat 0) 0 9999) λc =>
   bif (!c) then
    k0 false
   else
    f a (W (b+1)))
 else
  k1 a
abbrev Tl:Tm:=⟨[(0,.d hIs),(3,.d hI)],[],[],[]⟩
abbrev Ay8:Tm:=⟨[(2,.d .bool)],[],[],[]⟩
abbrev Ay7:Tm:=⟨[(0,.d hIs)],[],[],[]⟩
abbrev A32:List (Exit × Tm):=[(.ret,Ay8),(.exit 0,Ay7)]
def A31 {α:Type} (n:Nat) (v:Tl.den) (f:Tl.den->Option α) (ks:KS α A32):Option α:=A33 n v.1.1 v.1.2.1 (λa b=>f ((a,b,()),())) (λw0=>ks.1 ((w0,()),())) (λw0=>ks.2.1 ((w0,()),()))
def R0 {α:Type} (n m:Nat) (a:LI) (b:Int) (k0:Bool->Option α) (k1:LI->Option α):Option α:=A5 (A31 n) m ((a,b,()),()) (λw=>k0 w.1.1,λw=>k1 w.1.1,())
theorem Ay6 {α n m a b k0 k1}:R0 (α:=α) n (m+1) a b k0 k1=A33 n a b (λa b=>R0 n m a b k0 k1) k0 k1:=rfl
def f216 (n:Nat) (a0:LI):Option Bool :=
 bif (decide ((a0.length:Int)>4096)) then
  some false
 else
  R0 n n a0 0
   (λb=>(
    some b))
   (λa=>(
    bif (decide ((a.length:Int)<=40)) then
     bif ((a.length:Int)==0) then
      some true
     else
      gd (decide (0<=(W ((a.length:Int)-1)))&&decide ((W ((a.length:Int)-1))<(a.length:Int))) (
       some (decide ((a.getD ((W ((a.length:Int)-1)).toNat) 0)>0)))
    else
     some false))
def Aip (n:Nat):Ent:=⟨216,[hIs],[.bool],λx=>f216 n x⟩
def Aiq (α:Type) (n:Nat):D3 α:={ reg:=[(6,⟨0,[],[(4,{ ent:=some (Do n) })]⟩)],join:=[],loop:=[(4,⟨Tl,A32,A5 (A31 n) n⟩)] }
theorem Acu (α:Type) (n:Nat):Ao PP (Ah (Aiq α n).reg):=⟨Da n,trivial⟩
theorem Asn (α:Type) (n:Nat):LO.Sound (α:=α) PP ⟨36,[]⟩ ⟨Tl,A32,A5 (A31 n) n⟩ (.loop ((A0 Tryz.f216).at [1,1,0,1,0,0])):=Ba (D:=Aiq α n) (Acu α n) n
theorem Bfl (α:Type) (n:Nat):D3.OK PP TT ⟨36,[]⟩ (Aiq α n) (A0 Tryz.f216) :=
 D3.OK.mk3 (Acu α n) (show Ab (A0 Tryz.f216)=[(4,(.loop ((A0 Tryz.f216).at [1,1,0,1,0,0])))] by kernel_rfl) ⟨Ad rfl (Asn α n),trivial⟩
theorem Aok (n:Nat):(Aip n).Sound PP:=fk (fn:=Tryz.f216) (Bfl _ n)

def A2x {α:Type} (n:Nat) (b:LI) (a:Int) (f:LI->Int->Option α) (k0:LI->Int->Option α):Option α :=
 bif (decide (a>0)) then
  gd (decide (0<=(W (a-1)))&&decide ((W (a-1))<(b.length:Int))) (
   bif ((b.getD ((W (a-1)).toNat) 0)==0) then
    f b (W (a-1))
   else
    k0 b a)
 else
  k0 b a
abbrev Tj:Tm:=⟨[(0,.d hIs),(3,.d hI)],[],[],[]⟩
abbrev Ay4:Tm:=⟨[(0,.d hIs),(3,.d hI)],[],[],[]⟩
abbrev A2w:List (Exit × Tm):=[(.exit 0,Ay4)]
def A2v {α:Type} (n:Nat) (v:Tj.den) (f:Tj.den->Option α) (ks:KS α A2w):Option α:=A2x n v.1.1 v.1.2.1 (λa b=>f ((a,b,()),())) (λw0 w1=>ks.1 ((w0,w1,()),()))
def Zs {α:Type} (n m:Nat) (a:LI) (b:Int) (k0:LI->Int->Option α):Option α:=A5 (A2v n) m ((a,b,()),()) (λw=>k0 w.1.1 w.1.2.1,())
theorem Ay3 {α n m a b k0}:Zs (α:=α) n (m+1) a b k0=A2x n a b (λa b=>Zs n m a b k0) k0:=rfl
def f218 (n:Nat) (a0:LI):Option LI :=
 Zs n n a0 (a0.length:Int)
  (λb a=>(
   gd (decide (0<=a)&&decide (a<=(b.length:Int))) (
    gd (decide ((0+((b.drop 0).take (a.toNat-0)).length)*8<=140737488355328)) (
     some ((b.drop 0).take (a.toNat-0))))))
def Xl (n:Nat):Ent:=⟨218,[hIs],[hIs],λx=>f218 n x⟩
def Aim (α:Type) (n:Nat):D3 α:={ reg:=[(4,⟨0,[],[(0,{ sh:=some hI })]⟩)],join:=[],loop:=[(2,⟨Tj,A2w,A5 (A2v n) n⟩)] }
theorem Acp (α:Type) (n:Nat):Ao PP (Ah (Aim α n).reg):=trivial
theorem Asl (α:Type) (n:Nat):LO.Sound (α:=α) PP ⟨23,[]⟩ ⟨Tj,A2w,A5 (A2v n) n⟩ (.loop ((A0 Tryz.f218).at [1,1,0,0,0])):=Ba (D:=Aim α n) (Acp α n) n
theorem Bfj (α:Type) (n:Nat):D3.OK PP TT ⟨23,[]⟩ (Aim α n) (A0 Tryz.f218) :=
 D3.OK.mk3 (Acp α n) (show Ab (A0 Tryz.f218)=[(2,(.loop ((A0 Tryz.f218).at [1,1,0,0,0])))] by kernel_rfl) ⟨Ad rfl (Asl α n),trivial⟩
theorem Zq (n:Nat):(Xl n).Sound PP:=fk (fn:=Tryz.f218) (Bfj _ n)

def A3z {α:Type} (n:Nat) (b c:LI) (a:Int) (f:LI->LI->Int->Option α) (k0:Int->Option α) (k1:Unit->Option α):Option α :=
 bif (decide (a>=0)) then
  gd (decide (0<=a)&&decide (a<(b.length:Int))) (
   gd (decide (0<=a)&&decide (a<(c.length:Int))) (
    bif ((b.getD a.toNat 0) != (c.getD a.toNat 0)) then
     gd (decide (0<=a)&&decide (a<(b.length:Int))) (
      gd (decide (0<=a)&&decide (a<(c.length:Int))) (
       ob (f170 n (decide ((b.getD a.toNat 0)>(c.getD a.toNat 0)))) λd =>
       k0 (W ((W (2*d))-1))))
    else
     f b c (W (a-1))))
 else
  k1 ()
abbrev Tz:Tm:=⟨[(0,.d hIs),(1,.d hIs),(5,.d hI)],[],[],[]⟩
abbrev Azq:Tm:=⟨[(4,.d hI)],[],[],[]⟩
abbrev Azp:Tm:=⟨[],[],[],[]⟩
abbrev A3y:List (Exit × Tm):=[(.ret,Azq),(.exit 0,Azp)]
def A3x {α:Type} (n:Nat) (v:Tz.den) (f:Tz.den->Option α) (ks:KS α A3y):Option α:=A3z n v.1.1 v.1.2.1 v.1.2.2.1 (λa b c=>f ((a,b,c,()),())) (λw0=>ks.1 ((w0,()),())) (λ_=>ks.2.1 ((),()))
def Zz {α:Type} (n m:Nat) (a b:LI) (c:Int) (k0:Int->Option α) (k1:Unit->Option α):Option α:=A5 (A3x n) m ((a,b,c,()),()) (λw=>k0 w.1.1,λw=>k1 (),())
theorem Azo {α n m a b c k0 k1}:Zz (α:=α) n (m+1) a b c k0 k1=A3z n a b c (λa b c=>Zz n m a b c k0 k1) k0 k1:=rfl
def f188 (n:Nat) (a0 a1:LI):Option Int :=
 bif ((a0.length:Int) != (a1.length:Int)) then
  ob (f170 n (decide ((a0.length:Int)>(a1.length:Int)))) λa =>
  some (W ((W (2*a))-1))
 else
  Zz n n a0 a1 (W ((a0.length:Int)-1))
   (λb=>(
    some b))
   (λ(_:Unit)=>(
    some 0))
def Xt (n:Nat):Ent:=⟨188,[hIs,hIs],[hI],λx=>f188 n x.1 x.2⟩
def Ajr (α:Type) (n:Nat):D3 α:={ reg:=[(2,⟨0,[],[(5,{ ent:=some (Rd n) })]⟩),(6,⟨8,[],[]⟩),(7,⟨8,[],[(9,{ ent:=some (Rd n) })]⟩)],join:=[],loop:=[(4,⟨Tz,A3y,A5 (A3x n) n⟩)] }
theorem Ada (α:Type) (n:Nat):Ao PP (Ah (Ajr α n).reg):=⟨Rb n,Rb n,trivial⟩
theorem Atb (α:Type) (n:Nat):LO.Sound (α:=α) PP ⟨47,[]⟩ ⟨Tz,A3y,A5 (A3x n) n⟩ (.loop ((A0 Tryz.f188).at [1,1,0,1,0,0])):=Ba (D:=Ajr α n) (Ada α n) n
theorem Bg8 (α:Type) (n:Nat):D3.OK PP TT ⟨47,[]⟩ (Ajr α n) (A0 Tryz.f188) :=
 D3.OK.mk3 (Ada α n) (show Ab (A0 Tryz.f188)=[(4,(.loop ((A0 Tryz.f188).at [1,1,0,1,0,0])))] by kernel_rfl) ⟨Ad rfl (Atb α n),trivial⟩
theorem Zy (n:Nat):(Xt n).Sound PP:=fk (fn:=Tryz.f188) (Bg8 _ n)

def A4d {α:Type} (n:Nat) (a:Int) (b:LI) (f:Int->LI->Option α) (k0:LI->Option α):Option α :=
 bif (decide (a>0)) then
  gd (decide ((b.length+1)*8<=140737488355328)) (
   f (W (Int.tdiv a 10000)) (b++[(Int.tmod a 10000)]))
 else
  k0 b
abbrev U5:Tm:=⟨[(0,.d hI),(3,.k (.hw 4))],[(4,.arr 3 hI false)],[10],[]⟩
abbrev B00:Tm:=⟨[(3,.k (.hw 4))],[(4,.arr 3 hI false)],[],[]⟩
abbrev A4c:List (Exit × Tm):=[(.exit 0,B00)]
def A4b {α:Type} (n:Nat) (v:U5.den) (f:U5.den->Option α) (ks:KS α A4c):Option α:=A4d n v.1.1 v.2.1 (λa b=>f ((a,(),()),(b,()))) (λw0=>ks.1 (((),()),(w0,())))
def A02 {α:Type} (n m:Nat) (a:Int) (b:LI) (k0:LI->Option α):Option α:=A5 (A4b n) m ((a,(),()),(b,())) (λw=>k0 w.2.1,())
theorem Azz {α n m a b k0}:A02 (α:=α) n (m+1) a b k0=A4d n a b (λa b=>A02 n m a b k0) k0:=rfl
def f181 (n:Nat) (a0:Int):Option LI :=
 A02 n n a0 []
  (λa=>(
   some a))
def Xv (n:Nat):Ent:=⟨181,[hI],[hIs],λx=>f181 n x⟩
def Ajt (α:Type) (n:Nat):D3 α:={ reg:=[(1,⟨0,[],[(0,{ sh:=some hI })]⟩),(3,⟨0,[],[(3,{ sh:=some hI })]⟩)],join:=[],loop:=[(2,⟨U5,A4c,A5 (A4b n) n⟩)] }
theorem Adc (α:Type) (n:Nat):Ao PP (Ah (Ajt α n).reg):=trivial
theorem Ath (α:Type) (n:Nat):LO.Sound (α:=α) PP ⟨15,[]⟩ ⟨U5,A4c,A5 (A4b n) n⟩ (.loop ((A0 Tryz.f181).at [1,1,0,0,0])):=Ba (D:=Ajt α n) (Adc α n) n
theorem Bgd (α:Type) (n:Nat):D3.OK PP TT ⟨15,[]⟩ (Ajt α n) (A0 Tryz.f181) :=
 D3.OK.mk3 (Adc α n) (show Ab (A0 Tryz.f181)=[(2,(.loop ((A0 Tryz.f181).at [1,1,0,0,0])))] by kernel_rfl) ⟨Ad rfl (Ath α n),trivial⟩
theorem A01 (n:Nat):(Xv n).Sound PP:=fk (fn:=Tryz.f181) (Bgd _ n)

def A45 {α:Type} (n:Nat) (e d:LI) (b g a:Int) (c:LI) (f:LI->LI->Int->Int->Int->LI->Option α) (k0:LI->LI->Int->LI->Option α):Option α :=
 let h:=λ(_:Unit)=>(
  gd (decide (0<=(W (b+a)))&&decide ((W (b+a))<(c.length:Int))) (
   gd (decide ((W (b+a)).toNat<c.length)) (
    let i:=λ(j:Int)=>(
     gd (decide (0<=(W (b+a)))&&decide ((W (b+a))<(c.length:Int))) (
      gd (decide ((W (b+a)).toNat<c.length)) (
       f e d b (W (Int.tdiv j 10000)) (W (a+1)) (c.set ((W (b+a)).toNat) (Int.tmod j 10000)))))
    bif (decide (a<(d.length:Int))) then
     gd (decide (0<=b)&&decide (b<(e.length:Int))) (
      gd (decide (0<=a)&&decide (a<(d.length:Int))) (
       i (W ((W ((c.getD ((W (b+a)).toNat) 0)+g))+(W ((e.getD b.toNat 0)*(d.getD a.toNat 0)))))))
    else
     i (W ((c.getD ((W (b+a)).toNat) 0)+g)))))
 bif (decide (a<(d.length:Int))) then
  h ()
 else
  bif (decide (g>0)) then
   h ()
  else
   k0 e d b c
abbrev U1:Tm:=⟨[(0,.d hIs),(1,.d hIs),(5,.k (.hw 16)),(6,.d hI),(7,.d hI),(8,.d hI)],[(16,.arr 3 hI false)],[],[]⟩
abbrev Azv:Tm:=⟨[(0,.d hIs),(1,.d hIs),(5,.k (.hw 16)),(6,.d hI)],[(16,.arr 3 hI false)],[],[]⟩
abbrev A44:List (Exit × Tm):=[(.exit 2,Azv)]
def A43 {α:Type} (n:Nat) (v:U1.den) (f:U1.den->Option α) (ks:KS α A44):Option α:=A45 n v.1.1 v.1.2.1 v.1.2.2.2.1 v.1.2.2.2.2.1 v.1.2.2.2.2.2.1 v.2.1 (λa b c d e g=>f ((a,b,(),c,d,e,()),(g,()))) (λw0 w1 w2 w3=>ks.1 ((w0,w1,(),w2,()),(w3,())))
def N2 {α:Type} (n m:Nat) (a b:LI) (c d e:Int) (f:LI) (k0:LI->LI->Int->LI->Option α):Option α:=A5 (A43 n) m ((a,b,(),c,d,e,()),(f,())) (λw=>k0 w.1.1 w.1.2.1 w.1.2.2.2.1 w.2.1,())
theorem Azu {α n m a b c d e f k0}:N2 (α:=α) n (m+1) a b c d e f k0=A45 n a b c d e f (λa b c d e f=>N2 n m a b c d e f k0) k0:=rfl
def A48 {α:Type} (n:Nat) (a d:LI) (b:Int) (c:LI) (f:LI->LI->Int->LI->Option α) (k0:LI->Option α):Option α :=
 bif (decide (b<(a.length:Int))) then
  N2 n n a d b 0 0 c
   (λe g h i=>(
    f e g (W (h+1)) i))
 else
  k0 c
abbrev U2:Tm:=⟨[(0,.d hIs),(1,.d hIs),(5,.k (.hw 16)),(6,.d hI)],[(16,.arr 3 hI false)],[],[]⟩
abbrev Azy:Tm:=⟨[(5,.k (.hw 16))],[(16,.arr 3 hI false)],[],[]⟩
abbrev A47:List (Exit × Tm):=[(.exit 0,Azy)]
def A46 {α:Type} (n:Nat) (v:U2.den) (f:U2.den->Option α) (ks:KS α A47):Option α:=A48 n v.1.1 v.1.2.1 v.1.2.2.2.1 v.2.1 (λa b c d=>f ((a,b,(),c,()),(d,()))) (λw0=>ks.1 (((),()),(w0,())))
def N3 {α:Type} (n m:Nat) (a b:LI) (c:Int) (d:LI) (k0:LI->Option α):Option α:=A5 (A46 n) m ((a,b,(),c,()),(d,())) (λw=>k0 w.2.1,())
theorem Azw {α n m a b c d k0}:N3 (α:=α) n (m+1) a b c d k0=A48 n a b c d (λa b c d=>N3 n m a b c d k0) k0:=rfl
abbrev Bbk:Tm:=⟨[(0,.d hIs),(1,.d hIs),(5,.k (.hw 16)),(6,.d hI),(7,.d hI),(8,.d hI)],[(16,.arr 3 hI false)],[],[]⟩
abbrev B5r:Tm:=⟨[(0,.d hIs),(1,.d hIs),(5,.k (.hw 16)),(6,.d hI),(8,.d hI),(9,.d hI)],[(16,.arr 3 hI false)],[],[]⟩
def f185 (n:Nat) (a0 a1:LI):Option LI :=
 gd (decide (0<=(W ((W ((a0.length:Int)+(a1.length:Int)))+1)))&&decide ((W ((W ((a0.length:Int)+(a1.length:Int)))+1))<=4611686018427387904)&&decide ((8:Int)*(W ((W ((a0.length:Int)+(a1.length:Int)))+1))<=281474976710656)) (
  N3 n n a0 a1 0 (List.replicate ((W ((W ((a0.length:Int)+(a1.length:Int)))+1)).toNat) 0)
   (λa=>(
    ob (f218 n a) λb =>
    some b)))
def Hg (n:Nat):Ent:=⟨185,[hIs,hIs],[hIs],λx=>f185 n x.1 x.2⟩
def A7c (α:Type) (n:Nat):D3 α:={ reg:=[(11,⟨10,[],[]⟩),(14,⟨0,[],[(1,{ ent:=some (Xl n),fz:=[(65,hIs)] })]⟩)],join:=[(9,Bbk),(12,B5r)],loop:=[(7,⟨U1,A44,A5 (A43 n) n⟩),(3,⟨U2,A47,A5 (A46 n) n⟩)] }
theorem Xu (α:Type) (n:Nat):Ao PP (Ah (A7c α n).reg):=⟨Zq n,trivial⟩
theorem Atd (α:Type) (n:Nat):LO.Sound (α:=α) PP ⟨67,[]⟩ ⟨U1,A44,A5 (A43 n) n⟩ (.loop ((A0 Tryz.f185).at [1,1,0,1,0,0,1,0,0,1,1,0,0])):=Ba (D:=A7c α n) (Xu α n) n
theorem Azx (α:Type) (n:Nat):D3.OK PP TT ⟨67,[]⟩ (A7c α n) ((A0 Tryz.f185).at [1,1,0,1,0,0]) :=
 D3.OK.mk3 (Xu α n) (show Ab ((A0 Tryz.f185).at [1,1,0,1,0,0])=[(7,(.loop ((A0 Tryz.f185).at [1,1,0,1,0,0,1,0,0,1,1,0,0])))] by kernel_rfl) ⟨Ad rfl (Atd α n),trivial⟩
theorem Ate (α:Type) (n:Nat):LO.Sound (α:=α) PP ⟨67,[]⟩ ⟨U2,A47,A5 (A46 n) n⟩ (.loop ((A0 Tryz.f185).at [1,1,0,1,0,0])):=lk (Azx α n) n
theorem Bgb (α:Type) (n:Nat):D3.OK PP TT ⟨67,[]⟩ (A7c α n) (A0 Tryz.f185) :=
 D3.OK.mk3 (Xu α n) (show Ab (A0 Tryz.f185)=[(3,(.loop ((A0 Tryz.f185).at [1,1,0,1,0,0])))] by kernel_rfl) ⟨Ad rfl (Ate α n),trivial⟩
theorem Gn (n:Nat):(Hg n).Sound PP:=fk (fn:=Tryz.f185) (Bgb _ n)

def A3w {α:Type} (n:Nat) (b c:LI) (e a:Int) (d:LI) (f:LI->LI->Int->Int->LI->Option α) (k0:LI->Option α):Option α :=
 bif (decide (a<(b.length:Int))) then
  gd (decide (0<=a)&&decide (a<(b.length:Int))) (
   let g:=λ(h:Int)=>(
    ob (f170 n (decide (h<0))) λi =>
    gd (decide ((d.length+1)*8<=140737488355328)) (
     f b c i (W (a+1)) (d++[(W (h+(W (i*10000))))])))
   bif (decide (a<(c.length:Int))) then
    gd (decide (0<=a)&&decide (a<(c.length:Int))) (
     g (W ((W ((b.getD a.toNat 0)-e))-(c.getD a.toNat 0))))
   else
    g (W ((b.getD a.toNat 0)-e)))
 else
  k0 d
abbrev Tx:Tm:=⟨[(0,.d hIs),(1,.d hIs),(5,.k (.hw 9)),(6,.d hI),(7,.d hI)],[(9,.arr 3 hI false)],[40],[]⟩
abbrev Azn:Tm:=⟨[(5,.k (.hw 9))],[(9,.arr 3 hI false)],[],[]⟩
abbrev A3v:List (Exit × Tm):=[(.exit 0,Azn)]
def A3u {α:Type} (n:Nat) (v:Tx.den) (f:Tx.den->Option α) (ks:KS α A3v):Option α:=A3w n v.1.1 v.1.2.1 v.1.2.2.2.1 v.1.2.2.2.2.1 v.2.1 (λa b c d e=>f ((a,b,(),c,d,()),(e,()))) (λw0=>ks.1 (((),()),(w0,())))
def N1 {α:Type} (n m:Nat) (a b:LI) (c d:Int) (e:LI) (k0:LI->Option α):Option α:=A5 (A3u n) m ((a,b,(),c,d,()),(e,())) (λw=>k0 w.2.1,())
theorem Azm {α n m a b c d e k0}:N1 (α:=α) n (m+1) a b c d e k0=A3w n a b c d e (λa b c d e=>N1 n m a b c d e k0) k0:=rfl
abbrev Bbd:Tm:=⟨[(0,.d hIs),(1,.d hIs),(5,.k (.hw 9)),(7,.d hI),(8,.d hI)],[(9,.arr 3 hI false)],[],[]⟩
def f189 (n:Nat) (a0 a1:LI):Option LI :=
 N1 n n a0 a1 0 0 []
  (λa=>(
   ob (f218 n a) λb =>
   some b))
def A7b (n:Nat):Ent:=⟨189,[hIs,hIs],[hIs],λx=>f189 n x.1 x.2⟩
def Ajq (α:Type) (n:Nat):D3 α:={ reg:=[(1,⟨0,[],[(0,{ sh:=some hI })]⟩),(9,⟨0,[],[(2,{ ent:=some (Rd n) })]⟩),(10,⟨0,[],[(5,{ sh:=some hI })]⟩),(11,⟨0,[],[(1,{ ent:=some (Xl n),fz:=[(42,hIs)] })]⟩)],join:=[(9,Bbd)],loop:=[(4,⟨Tx,A3v,A5 (A3u n) n⟩)] }
theorem Ad9 (α:Type) (n:Nat):Ao PP (Ah (Ajq α n).reg):=⟨Rb n,Zq n,trivial⟩
theorem Ata (α:Type) (n:Nat):LO.Sound (α:=α) PP ⟨44,[]⟩ ⟨Tx,A3v,A5 (A3u n) n⟩ (.loop ((A0 Tryz.f189).at [1,1,1,0,1,0,0])):=Ba (D:=Ajq α n) (Ad9 α n) n
theorem Bg7 (α:Type) (n:Nat):D3.OK PP TT ⟨44,[]⟩ (Ajq α n) (A0 Tryz.f189) :=
 D3.OK.mk3 (Ad9 α n) (show Ab (A0 Tryz.f189)=[(4,(.loop ((A0 Tryz.f189).at [1,1,1,0,1,0,0])))] by kernel_rfl) ⟨Ad rfl (Ata α n),trivial⟩
theorem Aai (n:Nat):(A7b n).Sound PP:=fk (fn:=Tryz.f189) (Bg7 _ n)

def Xk {α:Type} (n:Nat) (e c d:LI) (g a b:Int) (h:LI) (f:LI->LI->LI->Int->Int->Int->LI->Option α) (k0:LI->LI->LI->Int->Int->LI->Option α):Option α :=
 bif (decide ((W (b-a))>1)) then
  ob (f181 n (W (Int.tdiv (W (a+b)) 2))) λi =>
  ob (f185 n c i) λj =>
  ob (f188 n j d) λk =>
  bif (decide (k<=0)) then
   f e c d g (W (Int.tdiv (W (a+b)) 2)) b h
  else
   f e c d g a (W (Int.tdiv (W (a+b)) 2)) h
 else
  k0 e c d g a h
abbrev Pn:Tm:=⟨[(0,.d hIs),(1,.d hIs),(6,.k (.hw 14)),(7,.d hIs),(8,.d hI),(9,.d hI),(10,.d hI)],[(14,.arr 3 hI false)],[27],[]⟩
abbrev Ask:Tm:=⟨[(0,.d hIs),(1,.d hIs),(6,.k (.hw 14)),(7,.d hIs),(8,.d hI),(9,.d hI)],[(14,.arr 3 hI false)],[],[]⟩
abbrev Xj:List (Exit × Tm):=[(.exit 2,Ask)]
def Xi {α:Type} (n:Nat) (v:Pn.den) (f:Pn.den->Option α) (ks:KS α Xj):Option α:=Xk n v.1.1 v.1.2.1 v.1.2.2.2.1 v.1.2.2.2.2.1 v.1.2.2.2.2.2.1 v.1.2.2.2.2.2.2.1 v.2.1 (λa b c d e g h=>f ((a,b,(),c,d,e,g,()),(h,()))) (λw0 w1 w2 w3 w4 w5=>ks.1 ((w0,w1,(),w2,w3,w4,()),(w5,())))
def O8 {α:Type} (n m:Nat) (a b c:LI) (d e f:Int) (g:LI) (k0:LI->LI->LI->Int->Int->LI->Option α):Option α:=A5 (Xi n) m ((a,b,(),c,d,e,f,()),(g,())) (λw=>k0 w.1.1 w.1.2.1 w.1.2.2.2.1 w.1.2.2.2.2.1 w.1.2.2.2.2.2.1 w.2.1,())
theorem Asj {α n m a b c d e f g k0}:O8 (α:=α) n (m+1) a b c d e f g k0=Xk n a b c d e f g (λa b c d e f g=>O8 n m a b c d e f g k0) k0:=rfl
def Ti {α:Type} (n:Nat) (c d e:LI) (a:Int) (g:LI) (f:LI->LI->LI->Int->LI->Option α) (k0:LI->LI->Option α):Option α :=
 bif (decide (a>=0)) then
  gd (decide (0<=a)&&decide (a<(c.length:Int))) (
   gd (decide ((1+e.length)*8<=140737488355328)) (
    ob (f218 n ([(c.getD a.toNat 0)]++e)) λh =>
    ob (f188 n h d) λl =>
    bif (decide (l<0)) then
     f c d h (W (a-1)) g
    else
     O8 n n c d h a 0 10000 g
      (λm j o b k i=>(
       gd (decide (0<=b)&&decide (b<(i.length:Int))) (
        gd (decide (b.toNat<i.length)) (
         ob (f181 n k) λp =>
         ob (f185 n j p) λq =>
         ob (f189 n o q) λr =>
         f m j r (W (b-1)) (i.set b.toNat k)))))))
 else
  k0 e g
abbrev Th:Tm:=⟨[(0,.d hIs),(1,.d hIs),(6,.k (.hw 14)),(7,.d hIs),(8,.d hI)],[(14,.arr 3 hI false)],[15,27],[(7,hIs)]⟩
abbrev Ay2:Tm:=⟨[(6,.k (.hw 14)),(7,.d hIs)],[(14,.arr 3 hI false)],[],[]⟩
abbrev A2u:List (Exit × Tm):=[(.exit 0,Ay2)]
def A2t {α:Type} (n:Nat) (v:Th.den) (f:Th.den->Option α) (ks:KS α A2u):Option α:=Ti n v.1.1 v.1.2.1 v.1.2.2.2.1 v.1.2.2.2.2.1 v.2.1 (λa b c d e=>f ((a,b,(),c,d,()),(e,()))) (λw0 w1=>ks.1 (((),w0,()),(w1,())))
def Qz {α:Type} (n m:Nat) (a b c:LI) (d:Int) (e:LI) (k0:LI->LI->Option α):Option α:=A5 (A2t n) m ((a,b,(),c,d,()),(e,())) (λw=>k0 w.1.2.1 w.2.1,())
theorem Aco {α n m a b c d e k0}:Qz (α:=α) n (m+1) a b c d e k0=Ti n a b c d e (λa b c d e=>Qz n m a b c d e k0) k0:=rfl
def f219 (n:Nat) (a0 a1:LI):Option (LI × LI) :=
 gd (decide (0<=(a0.length:Int))&&decide ((a0.length:Int)<=4611686018427387904)&&decide ((8:Int)*(a0.length:Int)<=281474976710656)) (
  Qz n n a0 a1 [] (W ((a0.length:Int)-1)) (List.replicate ((a0.length:Int).toNat) 0)
   (λa b=>(
    ob (f218 n b) λc =>
    some (c,a))))
def A6v (n:Nat):Ent:=⟨219,[hIs,hIs],[hIs,hIs],λx=>f219 n x.1 x.2⟩
def A6w (α:Type) (n:Nat):D3 α:={ reg:=[(2,⟨0,[],[(0,{ sh:=some hI })]⟩),(6,⟨0,[],[(4,{ sh:=some hI }),(7,{ ent:=some (Xl n),fz:=[(29,hIs)] })]⟩),(7,⟨0,[],[(2,{ ent:=some (Xt n) })]⟩),(12,⟨0,[],[(2,{ ent:=some (Xv n) }),(3,{ ent:=some (Hg n) }),(5,{ ent:=some (Xt n) })]⟩),(16,⟨0,[],[(3,{ ent:=some (Xv n) }),(4,{ ent:=some (Hg n) }),(5,{ ent:=some (A7b n) })]⟩),(17,⟨0,[],[(1,{ ent:=some (Xl n),fz:=[(62,hIs)] })]⟩)],join:=[],loop:=[(10,⟨Pn,Xj,A5 (Xi n) n⟩),(4,⟨Th,A2u,A5 (A2t n) n⟩)] }
theorem Xh (α:Type) (n:Nat):Ao PP (Ah (A6w α n).reg):=⟨Zq n,Zy n,A01 n,Gn n,Zy n,A01 n,Gn n,Aai n,Zq n,trivial⟩
theorem Ami (α:Type) (n:Nat):LO.Sound (α:=α) PP ⟨65,[]⟩ ⟨Pn,Xj,A5 (Xi n) n⟩ (.loop ((A0 Tryz.f219).at [1,1,1,0,1,0,0,1,0,0,1,1,1,1,0,0,0])):=Ba (D:=A6w α n) (Xh α n) n
theorem Ay1 (α:Type) (n:Nat):D3.OK PP TT ⟨65,[]⟩ (A6w α n) ((A0 Tryz.f219).at [1,1,1,0,1,0,0]) :=
 D3.OK.mk3 (Xh α n) (show Ab ((A0 Tryz.f219).at [1,1,1,0,1,0,0])=[(10,(.loop ((A0 Tryz.f219).at [1,1,1,0,1,0,0,1,0,0,1,1,1,1,0,0,0])))] by kernel_rfl) ⟨Ad rfl (Ami α n),trivial⟩
theorem Asi (α:Type) (n:Nat):LO.Sound (α:=α) PP ⟨65,[]⟩ ⟨Th,A2u,A5 (A2t n) n⟩ (.loop ((A0 Tryz.f219).at [1,1,1,0,1,0,0])):=lk (Ay1 α n) n
theorem Bfi (α:Type) (n:Nat):D3.OK PP TT ⟨65,[]⟩ (A6w α n) (A0 Tryz.f219) :=
 D3.OK.mk3 (Xh α n) (show Ab (A0 Tryz.f219)=[(4,(.loop ((A0 Tryz.f219).at [1,1,1,0,1,0,0])))] by kernel_rfl) ⟨Ad rfl (Asi α n),trivial⟩
theorem Aac (n:Nat):(A6v n).Sound PP:=fk (fn:=Tryz.f219) (Bfi _ n)

def A30 {α:Type} (n:Nat) (b a:LI) (f:LI->LI->Option α) (k0:LI->Option α):Option α :=
 bif (decide ((a.length:Int)>0)) then
  ob (f219 n b a) λc =>
  f a c.2
 else
  k0 b
abbrev Tk:Tm:=⟨[(0,.d hIs),(1,.d hIs)],[],[],[]⟩
abbrev Ay5:Tm:=⟨[(0,.d hIs)],[],[],[]⟩
abbrev A2z:List (Exit × Tm):=[(.exit 0,Ay5)]
def A2y {α:Type} (n:Nat) (v:Tk.den) (f:Tk.den->Option α) (ks:KS α A2z):Option α:=A30 n v.1.1 v.1.2.1 (λa b=>f ((a,b,()),())) (λw0=>ks.1 ((w0,()),()))
def K8 {α:Type} (n m:Nat) (a b:LI) (k0:LI->Option α):Option α:=A5 (A2y n) m ((a,b,()),()) (λw=>k0 w.1.1,())
theorem Acr {α n m a b k0}:K8 (α:=α) n (m+1) a b k0=A30 n a b (λa b=>K8 n m a b k0) k0:=rfl
def f217 (n:Nat) (a0 a1:LI):Option LI :=
 K8 n n a0 a1
  (λa=>(
   gd (decide ((0+a.length)*8<=140737488355328)) (
    some a)))
def Ain (n:Nat):Ent:=⟨217,[hIs,hIs],[hIs],λx=>f217 n x.1 x.2⟩
def Aio (α:Type) (n:Nat):D3 α:={ reg:=[(2,⟨0,[],[(2,{ ent:=some (A6v n) })]⟩),(5,⟨0,[],[(0,{ sh:=some hI })]⟩)],join:=[],loop:=[(1,⟨Tk,A2z,A5 (A2y n) n⟩)] }
theorem Acq (α:Type) (n:Nat):Ao PP (Ah (Aio α n).reg):=⟨Aac n,trivial⟩
theorem Asm (α:Type) (n:Nat):LO.Sound (α:=α) PP ⟨21,[]⟩ ⟨Tk,A2z,A5 (A2y n) n⟩ (.loop ((A0 Tryz.f217).at [1,0,0,0])):=Ba (D:=Aio α n) (Acq α n) n
theorem Bfk (α:Type) (n:Nat):D3.OK PP TT ⟨21,[]⟩ (Aio α n) (A0 Tryz.f217) :=
 D3.OK.mk3 (Acq α n) (show Ab (A0 Tryz.f217)=[(1,(.loop ((A0 Tryz.f217).at [1,0,0,0])))] by kernel_rfl) ⟨Ad rfl (Asm α n),trivial⟩
theorem Aoj (n:Nat):(Ain n).Sound PP:=fk (fn:=Tryz.f217) (Bfk _ n)

abbrev Bbn:Tm:=⟨[(1,.k (.hp 1 0 0))],[(1,.var 31 true false [.d .bool,.d hIs,.d hIs])],[],[]⟩
def f177 (n:Nat) (a0:Rq):Option Bool :=
 let a:=λ(_:Unit)=>(
  ob (f217 n a0.2.1 a0.2.2) λb =>
  ob (f188 n b [1]) λc =>
  some (c==0))
 ob (f216 n a0.2.1) λd =>
 bif (!d) then
  some false
 else
  ob (f216 n a0.2.2) λe =>
  bif (!e) then
   some false
  else
   bif ((a0.2.2.length:Int)==0) then
    some false
   else
    bif ((a0.2.1.length:Int)==0) then
     bif a0.1 then
      some false
     else
      a ()
    else
     a ()
def B03 (n:Nat):Ent:=⟨177,[hR],[.bool],λx=>f177 n x⟩
def Bgh (α:Type) (n:Nat):D3 α:={ reg:=[(1,⟨0,[],[(2,{ ent:=some (Aip n) }),(7,{ ent:=some (Aip n) })]⟩),(3,⟨0,[],[(4,{ ent:=some (Ain n) }),(5,{ sh:=some hI }),(6,{ ent:=some (Xt n) })]⟩)],join:=[(3,Bbn)],loop:=[] }
theorem Bbl (n:Nat):(B03 n).Sound PP:=Ay (fn:=Tryz.f177) (D:=Bgh _ n) ⟨Aok n,Aok n,Aoj n,Zy n,trivial⟩

def A4z {α:Type} (n:Nat) (a:LR) (b:Int) (f:LR->Int->Option α) (k0:Bool->Option α) (k1:LR->Option α):Option α :=
 bif (decide (b<(a.length:Int))) then
  gd (decide (0<=b)&&decide (b<(a.length:Int))) (
   let c:=a.getD b.toNat (false,[],[])
   ob (f177 n c) λd =>
   bif (!d) then
    k0 false
   else
    f a (W (b+1)))
 else
  k1 a
abbrev Uf:Tm:=⟨[(0,.d hRs),(3,.d hI)],[],[],[]⟩
abbrev B10:Tm:=⟨[(2,.d .bool)],[],[],[]⟩
abbrev B0z:Tm:=⟨[(0,.d hRs)],[],[],[]⟩
abbrev A4y:List (Exit × Tm):=[(.ret,B10),(.exit 0,B0z)]
def A4x {α:Type} (n:Nat) (v:Uf.den) (f:Uf.den->Option α) (ks:KS α A4y):Option α:=A4z n v.1.1 v.1.2.1 (λa b=>f ((a,b,()),())) (λw0=>ks.1 ((w0,()),())) (λw0=>ks.2.1 ((w0,()),()))
def Rm {α:Type} (n m:Nat) (a:LR) (b:Int) (k0:Bool->Option α) (k1:LR->Option α):Option α:=A5 (A4x n) m ((a,b,()),()) (λw=>k0 w.1.1,λw=>k1 w.1.1,())
theorem B0y {α n m a b k0 k1}:Rm (α:=α) n (m+1) a b k0 k1=A4z n a b (λa b=>Rm n m a b k0 k1) k0 k1:=rfl
def f119 (n:Nat) (a0:LR):Option Bool :=
 bif (decide ((a0.length:Int)>4096)) then
  some false
 else
  Rm n n a0 0
   (λa=>(
    some a))
   (λb=>(
    ob (f174 n (b.length:Int) 1 4) λc =>
    some c))
def A7k (n:Nat):Ent:=⟨119,[hRs],[.bool],λx=>f119 n x⟩
def Akj (α:Type) (n:Nat):D3 α:={ reg:=[(6,⟨0,[],[(4,{ ent:=some (B03 n) })]⟩),(8,⟨0,[],[(2,{ ent:=some (Do n) })]⟩)],join:=[],loop:=[(4,⟨Uf,A4y,A5 (A4x n) n⟩)] }
theorem Adp (α:Type) (n:Nat):Ao PP (Ah (Akj α n).reg):=⟨Bbl n,Da n,trivial⟩
theorem Att (α:Type) (n:Nat):LO.Sound (α:=α) PP ⟨22,[]⟩ ⟨Uf,A4y,A5 (A4x n) n⟩ (.loop ((A0 Tryz.f119).at [1,1,0,1,0,0])):=Ba (D:=Akj α n) (Adp α n) n
theorem Bhe (α:Type) (n:Nat):D3.OK PP TT ⟨22,[]⟩ (Akj α n) (A0 Tryz.f119) :=
 D3.OK.mk3 (Adp α n) (show Ab (A0 Tryz.f119)=[(4,(.loop ((A0 Tryz.f119).at [1,1,0,1,0,0])))] by kernel_rfl) ⟨Ad rfl (Att α n),trivial⟩
theorem Aar (n:Nat):(A7k n).Sound PP:=fk (fn:=Tryz.f119) (Bhe _ n)

def A4w {α:Type} (n:Nat) (c a:Int) (b:LN) (f:Int->Int->LN->Option α) (k0:Int->Option α):Option α :=
 bif (decide (a<(b.length:Int))) then
  gd (decide (0<=a)&&decide (a<(b.length:Int))) (
   let d:=b.getD a.toNat (0,0,0,0)
   bif (d.1==2) then
    gd (decide (0<=a)&&decide (a<(b.length:Int))) (
     let e:=b.getD a.toNat (0,0,0,0)
     f (max c (W (e.2.2.2+1))) (W (a+1)) b)
   else
    f c (W (a+1)) b)
 else
  k0 c
abbrev Ue:Tm:=⟨[(1,.k (.hp 1 0 0)),(3,.d hI),(4,.d hI)],[(1,.var 25 true false [.d hNs])],[],[]⟩
abbrev B0w:Tm:=⟨[(3,.d hI)],[],[1],[]⟩
abbrev A4v:List (Exit × Tm):=[(.exit 0,B0w)]
def A4u {α:Type} (n:Nat) (v:Ue.den) (f:Ue.den->Option α) (ks:KS α A4v):Option α:=A4w n v.1.2.1 v.1.2.2.1 v.2.1.1 (λa b c=>f (((),a,b,()),((c,()),()))) (λw0=>ks.1 ((w0,()),()))
def A09 {α:Type} (n m:Nat) (a b:Int) (c:LN) (k0:Int->Option α):Option α:=A5 (A4u n) m (((),a,b,()),((c,()),())) (λw=>k0 w.1.1,())
theorem B0v {α n m a b c k0}:A09 (α:=α) n (m+1) a b c k0=A4w n a b c (λa b c=>A09 n m a b c k0) k0:=rfl
def f120 (n:Nat) (a0:LN):Option Int :=
 A09 n n 0 0 a0
  (λa=>(
   some a))
def B0x (n:Nat):Ent:=⟨120,[hE],[hI],λx=>f120 n x⟩
def Aki (α:Type) (n:Nat):D3 α:={ reg:=[],join:=[],loop:=[(3,⟨Ue,A4v,A5 (A4u n) n⟩)] }
theorem Adn (α:Type) (n:Nat):Ao PP (Ah (Aki α n).reg):=trivial
theorem Ats (α:Type) (n:Nat):LO.Sound (α:=α) PP ⟨29,[]⟩ ⟨Ue,A4v,A5 (A4u n) n⟩ (.loop ((A0 Tryz.f120).at [1,1,0,1,0,0])):=Ba (D:=Aki α n) (Adn α n) n
theorem Bhd (α:Type) (n:Nat):D3.OK PP TT ⟨29,[]⟩ (Aki α n) (A0 Tryz.f120) :=
 D3.OK.mk3 (Adn α n) (show Ab (A0 Tryz.f120)=[(3,(.loop ((A0 Tryz.f120).at [1,1,0,1,0,0])))] by kernel_rfl) ⟨Ad rfl (Ats α n),trivial⟩
theorem Bcc (n:Nat):(B0x n).Sound PP:=fk (fn:=Tryz.f120) (Bhd _ n)

def f164 (n:Nat) (a0:LN × Int):Option Int :=
 ob (f120 n a0.1) λa =>
 some a
def B07 (n:Nat):Ent:=⟨164,[(.st (.pair hNs hI))],[hI],λx=>f164 n x⟩
def Bgo (α:Type) (n:Nat):D3 α:={ reg:=[(1,⟨0,[],[(3,{ ent:=some (B0x n) })]⟩)],join:=[],loop:=[] }
theorem Bbu (n:Nat):(B07 n).Sound PP:=Ay (fn:=Tryz.f164) (D:=Bgo _ n) ⟨Bcc n,trivial⟩

abbrev Bcq:Tm:=⟨[(1,.d hRs),(2,.k (.hp 2 0 0)),(9,.d .bool)],[(2,.var 65 true false [.d hNs,.d hI])],[],[]⟩
def f101 (n:Nat) (a0:LN × Int) (a1:LR):Option Int :=
 bif (decide ((a1.length:Int)>4096)) then
  some 2
 else
  let a:=λ(b:Bool)=>(
   bif b then
    some 1
   else
    ob (f164 n a0) λc =>
    bif (decide ((a1.length:Int)<c)) then
     some 8
    else
     some 0)
  ob (f163 n a0) λd =>
  bif (!d) then
   a true
  else
   ob (f119 n a1) λe =>
   a (!e)
def B1f (n:Nat):Ent:=⟨101,[(.st (.pair hNs hI)),hRs],[hI],λx=>f101 n x.1 x.2⟩
def Bhn (α:Type) (n:Nat):D3 α:={ reg:=[(3,⟨0,[],[(1,{ ent:=some (B0b n) }),(5,{ ent:=some (A7k n) })]⟩),(5,⟨0,[],[(3,{ ent:=some (B07 n) })]⟩)],join:=[(4,Bcq)],loop:=[] }
theorem Bcp (n:Nat):(B1f n).Sound PP:=Ay (fn:=Tryz.f101) (D:=Bhn _ n) ⟨Bbv n,Aar n,Bbu n,trivial⟩

abbrev Bc9:Tm:=⟨[(0,.d hRs),(1,.d hRs),(5,.d .bool)],[],[],[]⟩
abbrev Bc8:Tm:=⟨[(0,.d hRs),(1,.d hRs),(14,.d .bool)],[],[],[]⟩
def f128 (n:Nat) (a0 a1:LR):Option Int :=
 let a:=λ(c:Bool)=>(
  bif c then
   some 2
  else
   let b:=λ(d:Bool)=>(
    bif d then
     some 1
    else
     bif ((a0.length:Int) != (a1.length:Int)) then
      some 8
     else
      some 0)
   ob (f119 n a0) λe =>
   bif (!e) then
    b true
   else
    ob (f119 n a1) λf =>
    b (!f))
 bif (decide ((a0.length:Int)>4096)) then
  a true
 else
  a (decide ((a1.length:Int)>4096))
def B0q (n:Nat):Ent:=⟨128,[hRs,hRs],[hI],λx=>f128 n x.1 x.2⟩
def Bh9 (α:Type) (n:Nat):D3 α:={ reg:=[(3,⟨0,[],[(1,{ ent:=some (A7k n) }),(5,{ ent:=some (A7k n) })]⟩)],join:=[(2,Bc9),(4,Bc8)],loop:=[] }
theorem Bc7 (n:Nat):(B0q n).Sound PP:=Ay (fn:=Tryz.f128) (D:=Bh9 _ n) ⟨Aar n,Aar n,trivial⟩

def f92 (n:Nat) (a0:LN × Int) (a1 a2:LR):Option Int :=
 bif (decide ((a2.length:Int)>4096)) then
  some 2
 else
  ob (f101 n a0 a1) λa =>
  bif (a != 0) then
   some a
  else
   ob (f128 n a1 a2) λb =>
   some b
def B7l (n:Nat):Ent:=⟨92,[(.st (.pair hNs hI)),hRs,hRs],[hI],λx=>f92 n x.1 x.2.1 x.2.2⟩
def Bin (α:Type) (n:Nat):D3 α:={ reg:=[(3,⟨0,[],[(2,{ ent:=some (B1f n) })]⟩),(6,⟨0,[],[(2,{ ent:=some (B0q n) })]⟩)],join:=[],loop:=[] }
theorem Be2 (n:Nat):(B7l n).Sound PP:=Ay (fn:=Tryz.f92) (D:=Bin _ n) ⟨Bcp n,Bc7 n,trivial⟩

def f127 (n:Nat) (a0:Int):Option Rq :=
 bif (decide (a0<0)) then
  ob (f181 n (W (0-a0))) λa =>
  some (true,a,[1])
 else
  ob (f181 n a0) λb =>
  some (false,b,[1])
def Bh (n:Nat):Ent:=⟨127,[hI],[hR],λx=>f127 n x⟩
def Bha (α:Type) (n:Nat):D3 α:={ reg:=[(2,⟨0,[],[(2,{ ent:=some (Xv n) }),(3,{ sh:=some hI })]⟩),(3,⟨0,[],[(1,{ ent:=some (Xv n) }),(2,{ sh:=some hI })]⟩)],join:=[],loop:=[] }
theorem Ey (n:Nat):(Bh n).Sound PP:=Ay (fn:=Tryz.f127) (D:=Bha _ n) ⟨A01 n,A01 n,trivial⟩

def A42 {α:Type} (n:Nat) (b c:LI) (d a:Int) (e:LI) (f:LI->LI->Int->Int->LI->Option α) (k0:LI->Option α):Option α :=
 let g:=λ(_:Unit)=>(
  let h:=λ(i:Int)=>(
   let j:=λ(k:Int)=>(
    gd (decide ((e.length+1)*8<=140737488355328)) (
     f b c (W (Int.tdiv k 10000)) (W (a+1)) (e++[(Int.tmod k 10000)])))
   bif (decide (a<(c.length:Int))) then
    gd (decide (0<=a)&&decide (a<(c.length:Int))) (
     j (W (i+(c.getD a.toNat 0))))
   else
    j i)
  bif (decide (a<(b.length:Int))) then
   gd (decide (0<=a)&&decide (a<(b.length:Int))) (
    h (W (d+(b.getD a.toNat 0))))
  else
   h d)
 bif (decide (a<(b.length:Int))) then
  g ()
 else
  bif (decide (a<(c.length:Int))) then
   g ()
  else
   bif (decide (d>0)) then
    g ()
   else
    k0 e
abbrev U0:Tm:=⟨[(0,.d hIs),(1,.d hIs),(5,.k (.hw 8)),(6,.d hI),(7,.d hI)],[(8,.arr 3 hI false)],[48],[]⟩
abbrev Azs:Tm:=⟨[(5,.k (.hw 8))],[(8,.arr 3 hI false)],[],[]⟩
abbrev A41:List (Exit × Tm):=[(.exit 0,Azs)]
def A40 {α:Type} (n:Nat) (v:U0.den) (f:U0.den->Option α) (ks:KS α A41):Option α:=A42 n v.1.1 v.1.2.1 v.1.2.2.2.1 v.1.2.2.2.2.1 v.2.1 (λa b c d e=>f ((a,b,(),c,d,()),(e,()))) (λw0=>ks.1 (((),()),(w0,())))
def R5 {α:Type} (n m:Nat) (a b:LI) (c d:Int) (e:LI) (k0:LI->Option α):Option α:=A5 (A40 n) m ((a,b,(),c,d,()),(e,())) (λw=>k0 w.2.1,())
theorem Azr {α n m a b c d e k0}:R5 (α:=α) n (m+1) a b c d e k0=A42 n a b c d e (λa b c d e=>R5 n m a b c d e k0) k0:=rfl
abbrev Bbi:Tm:=⟨[(0,.d hIs),(1,.d hIs),(5,.k (.hw 8)),(6,.d hI),(7,.d hI)],[(8,.arr 3 hI false)],[],[]⟩
abbrev Bbh:Tm:=⟨[(0,.d hIs),(1,.d hIs),(5,.k (.hw 8)),(6,.d hI),(7,.d hI)],[(8,.arr 3 hI false)],[],[]⟩
abbrev B5q:Tm:=⟨[(0,.d hIs),(1,.d hIs),(5,.k (.hw 8)),(6,.d hI),(7,.d hI)],[(8,.arr 3 hI false)],[],[]⟩
def f187 (n:Nat) (a0 a1:LI):Option LI :=
 R5 n n a0 a1 0 0 []
  (λa=>(
   some a))
def Azt (n:Nat):Ent:=⟨187,[hIs,hIs],[hIs],λx=>f187 n x.1 x.2⟩
def Ajs (α:Type) (n:Nat):D3 α:={ reg:=[(1,⟨0,[],[(0,{ sh:=some hI })]⟩),(10,⟨0,[],[(3,{ sh:=some hI })]⟩)],join:=[(6,Bbi),(8,Bbh),(10,B5q)],loop:=[(4,⟨U0,A41,A5 (A40 n) n⟩)] }
theorem Adb (α:Type) (n:Nat):Ao PP (Ah (Ajs α n).reg):=trivial
theorem Atc (α:Type) (n:Nat):LO.Sound (α:=α) PP ⟨53,[]⟩ ⟨U0,A41,A5 (A40 n) n⟩ (.loop ((A0 Tryz.f187).at [1,1,1,0,1,0,0])):=Ba (D:=Ajs α n) (Adb α n) n
theorem Bg9 (α:Type) (n:Nat):D3.OK PP TT ⟨53,[]⟩ (Ajs α n) (A0 Tryz.f187) :=
 D3.OK.mk3 (Adb α n) (show Ab (A0 Tryz.f187)=[(4,(.loop ((A0 Tryz.f187).at [1,1,1,0,1,0,0])))] by kernel_rfl) ⟨Ad rfl (Atc α n),trivial⟩
theorem Bbf (n:Nat):(Azt n).Sound PP:=fk (fn:=Tryz.f187) (Bg9 _ n)

def f186 (n:Nat) (a0:Bool) (a1 a2:LI):Option Rq :=
 ob (f217 n a1 a2) λb =>
 ob (f219 n a1 b) λa =>
 ob (f219 n a2 b) λc =>
 bif a0 then
  some ((decide ((a.1.length:Int)>0)),a.1,c.1)
 else
  some (false,a.1,c.1)
def R7 (n:Nat):Ent:=⟨186,[.bool,hIs,hIs],[hR],λx=>f186 n x.1 x.2.1 x.2.2⟩
def Bga (α:Type) (n:Nat):D3 α:={ reg:=[(1,⟨0,[],[(2,{ ent:=some (Ain n) })]⟩),(2,⟨0,[],[(2,{ ent:=some (A6v n) })]⟩),(3,⟨0,[],[(2,{ ent:=some (A6v n) })]⟩)],join:=[],loop:=[] }
theorem R6 (n:Nat):(R7 n).Sound PP:=Ay (fn:=Tryz.f186) (D:=Bga _ n) ⟨Aoj n,Aac n,Aac n,trivial⟩

def f148 (n:Nat) (a0 a1:Rq):Option Rq :=
 ob (f185 n a0.2.1 a1.2.2) λa =>
 ob (f185 n a1.2.1 a0.2.2) λb =>
 ob (f185 n a0.2.2 a1.2.2) λc =>
 bif (a0.1==a1.1) then
  ob (f187 n a b) λd =>
  ob (f186 n a0.1 d c) λe =>
  some e
 else
  ob (f188 n a b) λf =>
  bif (decide (f>=0)) then
   ob (f189 n a b) λg =>
   ob (f186 n a0.1 g c) λh =>
   some h
  else
   ob (f189 n b a) λi =>
   ob (f186 n a1.1 i c) λj =>
   some j
def J4 (n:Nat):Ent:=⟨148,[hR,hR],[hR],λx=>f148 n x.1 x.2⟩
def Bh1 (α:Type) (n:Nat):D3 α:={ reg:=[(1,⟨0,[],[(4,{ ent:=some (Hg n) })]⟩),(2,⟨0,[],[(4,{ ent:=some (Hg n) })]⟩),(3,⟨0,[],[(4,{ ent:=some (Hg n) })]⟩),(5,⟨6,[],[(4,{ ent:=some (Azt n) }),(6,{ ent:=some (R7 n) })]⟩),(6,⟨0,[],[(2,{ ent:=some (Xt n) })]⟩),(7,⟨6,[],[(4,{ ent:=some (A7b n) }),(6,{ ent:=some (R7 n) })]⟩),(8,⟨6,[],[(4,{ ent:=some (A7b n) }),(6,{ ent:=some (R7 n) })]⟩)],join:=[],loop:=[] }
theorem A07 (n:Nat):(J4 n).Sound PP:=Ay (fn:=Tryz.f148) (D:=Bh1 _ n) ⟨Gn n,Gn n,Gn n,Bbf n,R6 n,Zy n,Aai n,R6 n,Aai n,R6 n,trivial⟩

def f152 (n:Nat) (a0:Rq):Option Rq :=
 bif (!a0.1) then
  some ((decide ((a0.2.1.length:Int)>0)),a0.2)
 else
  some (false,a0.2)
def Cm (n:Nat):Ent:=⟨152,[hR],[hR],λx=>f152 n x⟩
def Bgx (α:Type) (n:Nat):D3 α:={ reg:=[],join:=[],loop:=[] }
theorem Rh (n:Nat):(Cm n).Sound PP:=Ay (fn:=Tryz.f152) (D:=Bgx _ n) trivial

def f149 (n:Nat) (a0 a1:Rq):Option Rq :=
 ob (f152 n a1) λa =>
 ob (f148 n a0 a) λb =>
 some b
def B0j (n:Nat):Ent:=⟨149,[hR,hR],[hR],λx=>f149 n x.1 x.2⟩
def Bh0 (α:Type) (n:Nat):D3 α:={ reg:=[(1,⟨3,[],[(2,{ ent:=some (Cm n) }),(3,{ ent:=some (J4 n) })]⟩)],join:=[],loop:=[] }
theorem Bc2 (n:Nat):(B0j n).Sound PP:=Ay (fn:=Tryz.f149) (D:=Bh0 _ n) ⟨Rh n,A07 n,trivial⟩

def f150 (n:Nat) (a0 a1:Rq):Option Rq :=
 ob (f185 n a0.2.1 a1.2.1) λa =>
 ob (f185 n a0.2.2 a1.2.2) λb =>
 ob (f186 n (!(a0.1==a1.1)) a b) λc =>
 some c
def Av (n:Nat):Ent:=⟨150,[hR,hR],[hR],λx=>f150 n x.1 x.2⟩
def Bgz (α:Type) (n:Nat):D3 α:={ reg:=[(1,⟨15,[],[(9,{ ent:=some (Hg n) }),(14,{ ent:=some (Hg n) }),(15,{ ent:=some (R7 n) })]⟩)],join:=[],loop:=[] }
theorem Cp (n:Nat):(Av n).Sound PP:=Ay (fn:=Tryz.f150) (D:=Bgz _ n) ⟨Gn n,Gn n,R6 n,trivial⟩

def f145 (n:Nat) (a0:Rq):Option Bool :=
 some ((a0.2.1.length:Int)==0)
def B0k (n:Nat):Ent:=⟨145,[hR],[.bool],λx=>f145 n x⟩
def Bh2 (α:Type) (n:Nat):D3 α:={ reg:=[],join:=[],loop:=[] }
theorem Bc3 (n:Nat):(B0k n).Sound PP:=Ay (fn:=Tryz.f145) (D:=Bh2 _ n) trivial

def f151 (n:Nat) (a0 a1:Rq):Option Rq :=
 ob (f185 n a0.2.1 a1.2.2) λa =>
 ob (f185 n a0.2.2 a1.2.1) λb =>
 ob (f186 n (!(a0.1==a1.1)) a b) λc =>
 some c
def Ol (n:Nat):Ent:=⟨151,[hR,hR],[hR],λx=>f151 n x.1 x.2⟩
def Bgy (α:Type) (n:Nat):D3 α:={ reg:=[(1,⟨15,[],[(9,{ ent:=some (Hg n) }),(14,{ ent:=some (Hg n) }),(15,{ ent:=some (R7 n) })]⟩)],join:=[],loop:=[] }
theorem Apl (n:Nat):(Ol n).Sound PP:=Ay (fn:=Tryz.f151) (D:=Bgy _ n) ⟨Gn n,Gn n,R6 n,trivial⟩

def A4n {α:Type} (n:Nat) (b c:Int) (d:Bool) (e g:LI) (h i:Bool) (j k:LI) (f:Int->Int->Bool->LI->LI->Bool->Bool->LI->LI->Option α) (k0:Bool->Bool->LI->LI->Option α):Option α :=
 bif (decide (c<b)) then
  ob (f150 n (i,j,k) (d,e,g)) λa =>
  f b (W (c+1)) d e g h a.1 a.2.1 a.2.2
 else
  k0 h i j k
abbrev U8:Tm:=⟨[(1,.d hI),(2,.k (.hp 2 0 0)),(4,.k (.hp 4 0 0)),(5,.k (.hp 5 0 0)),(6,.d hI)],[(2,.var 31 true false [.d .bool,.d hIs,.d hIs]),(4,.var 31 true false [.d .bool,.d .nil,.d .nil]),(5,.var 31 true false [.d .bool,.d hIs,.d hIs])],[],[]⟩
abbrev B0i:Tm:=⟨[(4,.k (.hp 4 0 0)),(5,.k (.hp 5 0 0))],[(4,.var 31 true false [.d .bool,.d .nil,.d .nil]),(5,.var 31 true false [.d .bool,.d hIs,.d hIs])],[2],[]⟩
abbrev A4m:List (Exit × Tm):=[(.exit 0,B0i)]
def A4l {α:Type} (n:Nat) (v:U8.den) (f:U8.den->Option α) (ks:KS α A4m):Option α:=A4n n v.1.1 v.1.2.2.2.2.1 v.2.1.1 v.2.1.2.1 v.2.1.2.2.1 v.2.2.1.1 v.2.2.2.1.1 v.2.2.2.1.2.1 v.2.2.2.1.2.2.1 (λa b c d e g h i j=>f ((a,(),(),(),b,()),((c,d,e,()),(g,(),(),()),(h,i,j,()),()))) (λw0 w1 w2 w3=>ks.1 (((),(),()),((w0,(),(),()),(w1,w2,w3,()),())))
def A06 {α:Type} (n m:Nat) (a b:Int) (c:Bool) (d e:LI) (f g:Bool) (h i:LI) (k0:Bool->Bool->LI->LI->Option α):Option α:=A5 (A4l n) m ((a,(),(),(),b,()),((c,d,e,()),(f,(),(),()),(g,h,i,()),())) (λw=>k0 w.2.1.1 w.2.2.1.1 w.2.2.1.2.1 w.2.2.1.2.2.1,())
theorem B0h {α n m a b c d e f g h i k0}:A06 (α:=α) n (m+1) a b c d e f g h i k0=A4n n a b c d e f g h i (λa b c d e f g h i=>A06 n m a b c d e f g h i k0) k0:=rfl
def f153 (n:Nat) (a0:Rq) (a1:Int):Option Rq :=
 ob (f127 n 1) λa =>
 A06 n n a1 0 a0.1 a0.2.1 a0.2.2 false a.1 a.2.1 a.2.2
  (λe b c d=>(
   some (b,c,d)))
def Lf (n:Nat):Ent:=⟨153,[hR,hI],[hR],λx=>f153 n x.1 x.2⟩
def Aka (α:Type) (n:Nat):D3 α:={ reg:=[(1,⟨0,[],[(0,{ ent:=some (Bh n) })]⟩),(5,⟨0,[],[(2,{ ent:=some (Av n) })]⟩)],join:=[],loop:=[(3,⟨U8,A4m,A5 (A4l n) n⟩)] }
theorem Adi (α:Type) (n:Nat):Ao PP (Ah (Aka α n).reg):=⟨Ey n,Cp n,trivial⟩
theorem Atl (α:Type) (n:Nat):LO.Sound (α:=α) PP ⟨17,[]⟩ ⟨U8,A4m,A5 (A4l n) n⟩ (.loop ((A0 Tryz.f153).at [1,1,0,1,0,0])):=Ba (D:=Aka α n) (Adi α n) n
theorem Bgw (α:Type) (n:Nat):D3.OK PP TT ⟨17,[]⟩ (Aka α n) (A0 Tryz.f153) :=
 D3.OK.mk3 (Adi α n) (show Ab (A0 Tryz.f153)=[(3,(.loop ((A0 Tryz.f153).at [1,1,0,1,0,0])))] by kernel_rfl) ⟨Ad rfl (Atl α n),trivial⟩
theorem Aao (n:Nat):(Lf n).Sound PP:=fk (fn:=Tryz.f153) (Bgw _ n)

def f154 (n:Nat) (a0:Rq):Option Bool :=
 bif (decide ((a0.2.1.length:Int)<=40)) then
  some (decide ((a0.2.2.length:Int)<=40))
 else
  some false
def Ak9 (n:Nat):Ent:=⟨154,[hR],[.bool],λx=>f154 n x⟩
def Bgv (α:Type) (n:Nat):D3 α:={ reg:=[],join:=[],loop:=[] }
theorem Apk (n:Nat):(Ak9 n).Sound PP:=Ay (fn:=Tryz.f154) (D:=Bgv _ n) trivial

abbrev Awh:Tm:=⟨[(1,.k (.hp 1 0 0)),(2,.k (.hp 2 0 0))],[(1,.var 31 true false [.d .bool,.d hIs,.d hIs]),(2,.var 31 true false [.d .bool,.d .nil,.d .nil])],[],[]⟩
def f91 (n:Nat) (a0:Rq):Option Rq :=
 gd (decide ((0+a0.2.1.length)*8<=140737488355328)) (
  gd (decide ((0+a0.2.2.length)*8<=140737488355328)) (
   some a0))
def Ard (n:Nat):Ent:=⟨91,[hR],[hR],λx=>f91 n x⟩
def B7m (α:Type) (n:Nat):D3 α:={ reg:=[(1,⟨0,[],[(2,{ sh:=some hI }),(6,{ sh:=some hI })]⟩)],join:=[],loop:=[],any:=[(1,Awh)] }
set_option maxHeartbeats 8000000 in
theorem Be3 (n:Nat):Al TT ⟨14,[]⟩ [(2,{ sh:=some hI }),(6,{ sh:=some hI })] Awh (A6 ((A0 Tryz.f91).at [1,0])):=by
 refine ⟨by kernel_rfl,λw q hq=>?_⟩
 have e:WT [(2,{ sh:=some hI }),(6,{ sh:=some hI })] (A7 (A6 ((A0 Tryz.f91).at [1,0])).toList) q=(q=[]):=by kernel_rfl
 rw [e] at hq;obtain rfl:=hq
 all_goals exact .inl (Gs.mk (by kernel_rfl))
theorem B43 (α:Type) (n:Nat):Ao PP (Ah (B7m α n).reg):=trivial
theorem Bio (α:Type) (n:Nat):D3.OK PP TT ⟨14,[]⟩ (B7m α n) (A0 Tryz.f91) :=
 D3.OK.mk3a (B43 α n) (show Ab (A0 Tryz.f91)=[] by kernel_rfl) trivial (show Au (A0 Tryz.f91)=[(1,A6 ((A0 Tryz.f91).at [1,0]))] by kernel_rfl) ⟨⟨Be3 n,trivial⟩,trivial⟩
theorem Awg (n:Nat):(Ard n).Sound PP:=fk (fn:=Tryz.f91) (Bio _ n)

def Qs {α:Type} (n:Nat) (g:LR) (d:Int) (e:LN) (t:Int) (b:LR) (f:LR->Int->LN->Int->LR->Option α) (k0:LR->Int->Option α) (k1:LR->Option α):Option α :=
 bif (decide (d<(e.length:Int))) then
  gd (decide (0<=d)&&decide (d<(e.length:Int))) (
   let a:=e.getD d.toNat (0,0,0,0)
   ob (f127 n a.2.2.2) λh =>
   let c:=λ(q:Bool) (r:LI) (s:LI)=>(
    ob (f154 n (q,r,s)) λu =>
    bif (!u) then
     k0 [] 7
    else
     ob (f91 n (q,r,s)) λv =>
     gd (decide ((b.length+1)*56<=140737488355328)) (
      f g (W (d+1)) e t (b++[v])))
   bif (a.1==1) then
    c h.1 h.2.1 h.2.2
   else
    bif (a.1==2) then
     gd (decide (0<=a.2.2.2)&&decide (a.2.2.2<(g.length:Int))) (
      let i:=g.getD a.2.2.2.toNat (false,[],[])
      c i.1 i.2.1 i.2.2)
    else
     bif (a.1==3) then
      gd (decide (0<=a.2.1)&&decide (a.2.1<(b.length:Int))) (
       gd (decide (a.2.1.toNat<b.length)) (
        let w:=b.getD a.2.1.toNat (false,[],[])
        gd (decide (0<=a.2.2.1)&&decide (a.2.2.1<(b.length:Int))) (
         gd (decide (a.2.2.1.toNat<b.length)) (
          let x:=b.getD a.2.2.1.toNat (false,[],[])
          ob (f148 n w x) λj =>
          c j.1 j.2.1 j.2.2))))
     else
      bif (a.1==4) then
       gd (decide (0<=a.2.1)&&decide (a.2.1<(b.length:Int))) (
        gd (decide (a.2.1.toNat<b.length)) (
         let y:=b.getD a.2.1.toNat (false,[],[])
         gd (decide (0<=a.2.2.1)&&decide (a.2.2.1<(b.length:Int))) (
          gd (decide (a.2.2.1.toNat<b.length)) (
           let z:=b.getD a.2.2.1.toNat (false,[],[])
           ob (f149 n y z) λk =>
           c k.1 k.2.1 k.2.2))))
      else
       bif (a.1==5) then
        gd (decide (0<=a.2.1)&&decide (a.2.1<(b.length:Int))) (
         gd (decide (a.2.1.toNat<b.length)) (
          let d0:=b.getD a.2.1.toNat (false,[],[])
          gd (decide (0<=a.2.2.1)&&decide (a.2.2.1<(b.length:Int))) (
           gd (decide (a.2.2.1.toNat<b.length)) (
            let d1:=b.getD a.2.2.1.toNat (false,[],[])
            ob (f150 n d0 d1) λl =>
            c l.1 l.2.1 l.2.2))))
       else
        bif (a.1==6) then
         gd (decide (0<=a.2.2.1)&&decide (a.2.2.1<(b.length:Int))) (
          gd (decide (a.2.2.1.toNat<b.length)) (
           let d2:=b.getD a.2.2.1.toNat (false,[],[])
           ob (f145 n d2) λd3 =>
           bif d3 then
            k0 [] 10
           else
            gd (decide (0<=a.2.1)&&decide (a.2.1<(b.length:Int))) (
             gd (decide (a.2.1.toNat<b.length)) (
              let d4:=b.getD a.2.1.toNat (false,[],[])
              gd (decide (0<=a.2.2.1)&&decide (a.2.2.1<(b.length:Int))) (
               gd (decide (a.2.2.1.toNat<b.length)) (
                let d5:=b.getD a.2.2.1.toNat (false,[],[])
                ob (f151 n d4 d5) λm =>
                c m.1 m.2.1 m.2.2))))))
        else
         bif (a.1==7) then
          gd (decide (0<=a.2.1)&&decide (a.2.1<(b.length:Int))) (
           gd (decide (a.2.1.toNat<b.length)) (
            let d6:=b.getD a.2.1.toNat (false,[],[])
            ob (f152 n d6) λo =>
            c o.1 o.2.1 o.2.2))
         else
          gd (decide (0<=a.2.1)&&decide (a.2.1<(b.length:Int))) (
           gd (decide (a.2.1.toNat<b.length)) (
            let d7:=b.getD a.2.1.toNat (false,[],[])
            ob (f153 n d7 a.2.2.2) λp =>
            c p.1 p.2.1 p.2.2)))
 else
  k1 b
abbrev Z1:Tm:=⟨[(1,.d hRs),(2,.k (.hp 2 0 0)),(6,.k (.hw 10)),(7,.d hI)],[(2,.var 65 true false [.d hNs,.d hI]),(10,.arr 31 hR false)],[9,119],[]⟩
abbrev B42:Tm:=⟨[(4,.d hRs),(5,.d hI)],[],[2,8,9,10,92,115],[(4,hRs)]⟩
abbrev B41:Tm:=⟨[(6,.k (.hw 10))],[(10,.arr 31 hR false)],[2],[]⟩
abbrev A93:List (Exit × Tm):=[(.ret,B42),(.exit 0,B41)]
def A92 {α:Type} (n:Nat) (v:Z1.den) (f:Z1.den->Option α) (ks:KS α A93):Option α:=Qs n v.1.1 v.1.2.2.2.1 v.2.1.1 v.2.1.2.1 v.2.2.1 (λa b c d e=>f ((a,(),(),b,()),((c,d,()),e,()))) (λw0 w1=>ks.1 ((w0,w1,()),())) (λw0=>ks.2.1 (((),()),(w0,())))
def A69 {α:Type} (n m:Nat) (a:LR) (b:Int) (c:LN) (d:Int) (e:LR) (k0:LR->Int->Option α) (k1:LR->Option α):Option α:=A5 (A92 n) m ((a,(),(),b,()),((c,d,()),e,())) (λw=>k0 w.1.1 w.1.2.1,λw=>k1 w.2.1,())
theorem B40 {α n m a b c d e k0 k1}:A69 (α:=α) n (m+1) a b c d e k0 k1=Qs n a b c d e (λa b c d e=>A69 n m a b c d e k0 k1) k0 k1:=rfl
abbrev B97:Tm:=⟨[(1,.d hRs),(2,.k (.hp 2 0 0)),(6,.k (.hw 10)),(7,.d hI),(9,.k (.hp 9 0 0))],[(2,.var 65 true false [.d hNs,.d hI]),(9,.var 31 true false [.d .bool,.d hIs,.d hIs]),(10,.arr 31 hR false)],[8],[]⟩
def f93 (n:Nat) (a0:LN × Int) (a1:LR):Option (LR × Int) :=
 A69 n n a1 0 a0.1 a0.2 []
  (λa b=>(
   some (a,b)))
  (λc=>(
   some (c,0)))
def B7k (n:Nat):Ent:=⟨93,[(.st (.pair hNs hI)),hRs],[hRs,hI],λx=>f93 n x.1 x.2⟩
def Arc (α:Type) (n:Nat):D3 α:={ reg:=[(1,⟨0,[],[(0,{ sh:=some hR })]⟩),(6,⟨0,[],[(2,{ ent:=some (Bh n) })]⟩),(8,⟨7,[],[(7,{ ent:=some (Lf n) })]⟩),(13,⟨10,[],[(10,{ ent:=some (J4 n) })]⟩),(15,⟨10,[],[(10,{ ent:=some (B0j n) })]⟩),(17,⟨10,[],[(10,{ ent:=some (Av n) })]⟩),(19,⟨0,[],[(5,{ ent:=some (B0k n) })]⟩),(20,⟨0,[],[(0,{ sh:=some hR })]⟩),(21,⟨10,[],[(10,{ ent:=some (Ol n) })]⟩),(23,⟨0,[],[(5,{ ent:=some (Cm n) })]⟩),(24,⟨0,[],[(1,{ ent:=some (Ak9 n) })]⟩),(25,⟨0,[],[(0,{ sh:=some hR })]⟩),(26,⟨0,[],[(2,{ ent:=some (Ard n) }),(3,{ sh:=some hR })]⟩)],join:=[(24,B97)],loop:=[(3,⟨Z1,A93,A5 (A92 n) n⟩)] }
theorem Ah3 (α:Type) (n:Nat):Ao PP (Ah (Arc α n).reg):=⟨Ey n,Aao n,A07 n,Bc2 n,Cp n,Bc3 n,Apl n,Rh n,Apk n,Awg n,trivial⟩
theorem Awf (α:Type) (n:Nat):LO.Sound (α:=α) PP ⟨122,[]⟩ ⟨Z1,A93,A5 (A92 n) n⟩ (.loop ((A0 Tryz.f93).at [1,1,0,1,0,0])):=Ba (D:=Arc α n) (Ah3 α n) n
theorem Bim (α:Type) (n:Nat):D3.OK PP TT ⟨122,[]⟩ (Arc α n) (A0 Tryz.f93) :=
 D3.OK.mk3 (Ah3 α n) (show Ab (A0 Tryz.f93)=[(3,(.loop ((A0 Tryz.f93).at [1,1,0,1,0,0])))] by kernel_rfl) ⟨Ad rfl (Awf α n),trivial⟩
theorem Be1 (n:Nat):(B7k n).Sound PP:=fk (fn:=Tryz.f93) (Bim _ n)

def A96 {α:Type} (n:Nat) (b c:Int) (a:LR) (f:Int->Int->LR->Option α) (k0:LR->Option α):Option α :=
 bif (decide (c<b)) then
  ob (f127 n 0) λd =>
  gd (decide ((a.length+1)*56<=140737488355328)) (
   f b (W (c+1)) (a++[d]))
 else
  k0 a
abbrev Z2:Tm:=⟨[(0,.d hI),(3,.k (.hw 5)),(4,.d hI)],[(5,.arr 31 hR false)],[13],[]⟩
abbrev B45:Tm:=⟨[(3,.k (.hw 5))],[(5,.arr 31 hR false)],[],[]⟩
abbrev A95:List (Exit × Tm):=[(.exit 0,B45)]
def A94 {α:Type} (n:Nat) (v:Z2.den) (f:Z2.den->Option α) (ks:KS α A95):Option α:=A96 n v.1.1 v.1.2.2.1 v.2.1 (λa b c=>f ((a,(),b,()),(c,()))) (λw0=>ks.1 (((),()),(w0,())))
def A6a {α:Type} (n m:Nat) (a b:Int) (c:LR) (k0:LR->Option α):Option α:=A5 (A94 n) m ((a,(),b,()),(c,())) (λw=>k0 w.2.1,())
theorem B44 {α n m a b c k0}:A6a (α:=α) n (m+1) a b c k0=A96 n a b c (λa b c=>A6a n m a b c k0) k0:=rfl
def f90 (n:Nat) (a0:Int):Option LR :=
 A6a n n a0 0 []
  (λa=>(
   some a))
def B7n (n:Nat):Ent:=⟨90,[hI],[hRs],λx=>f90 n x⟩
def Are (α:Type) (n:Nat):D3 α:={ reg:=[(1,⟨0,[],[(0,{ sh:=some hR })]⟩),(5,⟨0,[],[(1,{ ent:=some (Bh n) }),(2,{ sh:=some hR })]⟩)],join:=[],loop:=[(3,⟨Z2,A95,A5 (A94 n) n⟩)] }
theorem Ah4 (α:Type) (n:Nat):Ao PP (Ah (Are α n).reg):=⟨Ey n,trivial⟩
theorem Awi (α:Type) (n:Nat):LO.Sound (α:=α) PP ⟨16,[]⟩ ⟨Z2,A95,A5 (A94 n) n⟩ (.loop ((A0 Tryz.f90).at [1,1,0,1,0,0])):=Ba (D:=Are α n) (Ah4 α n) n
theorem Bip (α:Type) (n:Nat):D3.OK PP TT ⟨16,[]⟩ (Are α n) (A0 Tryz.f90) :=
 D3.OK.mk3 (Ah4 α n) (show Ab (A0 Tryz.f90)=[(3,(.loop ((A0 Tryz.f90).at [1,1,0,1,0,0])))] by kernel_rfl) ⟨Ad rfl (Awi α n),trivial⟩
theorem Be4 (n:Nat):(B7n n).Sound PP:=fk (fn:=Tryz.f90) (Bip _ n)

abbrev Apj:Tm:=⟨[(6,.k (.hp 6 0 0)),(7,.k (.hp 7 0 0)),(8,.k (.hp 8 0 0)),(9,.k (.hp 9 0 0)),(10,.k (.hp 10 0 0)),(11,.k (.hp 11 0 0))],[(6,.var 31 true false [.d .bool,.d .nil,.d .nil]),(7,.var 31 true false [.d .bool,.d .nil,.d .nil]),(8,.var 31 true false [.d .bool,.d .nil,.d .nil]),(9,.var 31 true false [.d .bool,.d .nil,.d .nil]),(10,.var 31 true false [.d .bool,.d hIs,.d hIs]),(11,.var 31 true false [.d .bool,.d hIs,.d hIs])],[3],[]⟩
abbrev Api:Tm:=⟨[(6,.k (.hp 6 0 0)),(7,.k (.hp 7 0 0)),(8,.k (.hp 8 0 0)),(9,.k (.hp 9 0 0)),(10,.k (.hp 10 0 0)),(11,.k (.hp 11 0 0))],[(6,.var 31 true false [.d .bool,.d .nil,.d .nil]),(7,.var 31 true false [.d .bool,.d .nil,.d .nil]),(8,.var 31 true false [.d .bool,.d .nil,.d .nil]),(9,.var 31 true false [.d .bool,.d .nil,.d .nil]),(10,.var 31 true false [.d .bool,.d hIs,.d hIs]),(11,.var 31 true false [.d .bool,.d hIs,.d hIs])],[3],[]⟩
abbrev Aph:Tm:=⟨[(1,.d hRs),(2,.d hRs),(3,.k (.hp 3 0 0)),(6,.k (.hp 6 0 0)),(7,.k (.hp 7 0 0)),(8,.k (.hp 8 0 0)),(9,.k (.hp 9 0 0))],[(3,.var 125 true false [.d hI,.d hI,.d hI,.d hI]),(6,.var 31 true false [.d .bool,.d .nil,.d .nil]),(7,.var 31 true false [.d .bool,.d .nil,.d .nil]),(8,.var 31 true false [.d .bool,.d .nil,.d .nil]),(9,.var 31 true false [.d .bool,.d .nil,.d .nil])],[10,11],[]⟩
abbrev Ak8:Tm:=⟨[(1,.d hRs),(2,.d hRs),(3,.k (.hp 3 0 0)),(6,.k (.hp 6 0 0)),(7,.k (.hp 7 0 0)),(8,.k (.hp 8 0 0)),(9,.k (.hp 9 0 0)),(11,.k (.hp 11 0 0))],[(3,.var 125 true false [.d hI,.d hI,.d hI,.d hI]),(6,.var 31 true false [.d .bool,.d .nil,.d .nil]),(7,.var 31 true false [.d .bool,.d .nil,.d .nil]),(8,.var 31 true false [.d .bool,.d .nil,.d .nil]),(9,.var 31 true false [.d .bool,.d .nil,.d .nil]),(11,.var 31 true false [.d .bool,.d hIs,.d hIs])],[10],[]⟩
abbrev Ak7:Tm:=⟨[(1,.d hRs),(2,.d hRs),(3,.k (.hp 3 0 0)),(6,.k (.hp 6 0 0)),(7,.k (.hp 7 0 0)),(8,.k (.hp 8 0 0)),(9,.k (.hp 9 0 0)),(12,.k (.hp 12 0 0)),(13,.k (.hp 13 0 0)),(14,.k (.hp 14 0 0))],[(3,.var 125 true false [.d hI,.d hI,.d hI,.d hI]),(6,.var 31 true false [.d .bool,.d .nil,.d .nil]),(7,.var 31 true false [.d .bool,.d .nil,.d .nil]),(8,.var 31 true false [.d .bool,.d .nil,.d .nil]),(9,.var 31 true false [.d .bool,.d .nil,.d .nil]),(12,.var 31 true false [.d .bool,.d hIs,.d hIs]),(13,.var 31 true false [.d .bool,.d hIs,.d hIs]),(14,.var 31 true false [.d .bool,.d hIs,.d hIs])],[11],[]⟩
abbrev Ak6:Tm:=⟨[(1,.d hRs),(2,.d hRs),(3,.k (.hp 3 0 0)),(6,.k (.hp 6 0 0)),(7,.k (.hp 7 0 0)),(8,.k (.hp 8 0 0)),(9,.k (.hp 9 0 0)),(12,.k (.hp 12 0 0)),(13,.k (.hp 13 0 0)),(14,.k (.hp 14 0 0)),(15,.k (.hp 15 0 0))],[(3,.var 125 true false [.d hI,.d hI,.d hI,.d hI]),(6,.var 31 true false [.d .bool,.d .nil,.d .nil]),(7,.var 31 true false [.d .bool,.d .nil,.d .nil]),(8,.var 31 true false [.d .bool,.d .nil,.d .nil]),(9,.var 31 true false [.d .bool,.d .nil,.d .nil]),(12,.var 31 true false [.d .bool,.d hIs,.d hIs]),(13,.var 31 true false [.d .bool,.d hIs,.d hIs]),(14,.var 31 true false [.d .bool,.d hIs,.d hIs]),(15,.var 31 true false [.d .bool,.d hIs,.d hIs])],[],[]⟩
abbrev Ak5:Tm:=⟨[(1,.d hRs),(2,.d hRs),(3,.k (.hp 3 0 0)),(6,.k (.hp 6 0 0)),(7,.k (.hp 7 0 0)),(8,.k (.hp 8 0 0)),(9,.k (.hp 9 0 0)),(12,.k (.hp 12 0 0)),(13,.k (.hp 13 0 0)),(14,.k (.hp 14 0 0)),(15,.k (.hp 15 0 0)),(16,.k (.hp 16 0 0))],[(3,.var 125 true false [.d hI,.d hI,.d hI,.d hI]),(6,.var 31 true false [.d .bool,.d .nil,.d .nil]),(7,.var 31 true false [.d .bool,.d .nil,.d .nil]),(8,.var 31 true false [.d .bool,.d .nil,.d .nil]),(9,.var 31 true false [.d .bool,.d .nil,.d .nil]),(12,.var 31 true false [.d .bool,.d hIs,.d hIs]),(13,.var 31 true false [.d .bool,.d hIs,.d hIs]),(14,.var 31 true false [.d .bool,.d hIs,.d hIs]),(15,.var 31 true false [.d .bool,.d hIs,.d hIs]),(16,.var 31 true false [.d .bool,.d hIs,.d hIs])],[],[]⟩
abbrev Ak4:Tm:=⟨[(6,.k (.hp 6 0 0)),(7,.k (.hp 7 0 0)),(8,.k (.hp 8 0 0)),(9,.k (.hp 9 0 0)),(12,.k (.hp 12 0 0)),(15,.k (.hp 15 0 0)),(16,.k (.hp 16 0 0)),(17,.k (.hp 17 0 0))],[(6,.var 31 true false [.d .bool,.d .nil,.d .nil]),(7,.var 31 true false [.d .bool,.d .nil,.d .nil]),(8,.var 31 true false [.d .bool,.d .nil,.d .nil]),(9,.var 31 true false [.d .bool,.d .nil,.d .nil]),(12,.var 31 true false [.d .bool,.d hIs,.d hIs]),(15,.var 31 true false [.d .bool,.d hIs,.d hIs]),(16,.var 31 true false [.d .bool,.d hIs,.d hIs]),(17,.var 31 true false [.d .bool,.d hIs,.d hIs])],[3,13,14],[]⟩
abbrev Ak3:Tm:=⟨[(6,.k (.hp 6 0 0)),(7,.k (.hp 7 0 0)),(8,.k (.hp 8 0 0)),(9,.k (.hp 9 0 0)),(10,.k (.hp 10 0 0))],[(6,.var 31 true false [.d .bool,.d .nil,.d .nil]),(7,.var 31 true false [.d .bool,.d .nil,.d .nil]),(8,.var 31 true false [.d .bool,.d .nil,.d .nil]),(9,.var 31 true false [.d .bool,.d .nil,.d .nil]),(10,.var 31 true false [.d .bool,.d hIs,.d hIs])],[3,11],[]⟩
abbrev Ak2:Tm:=⟨[(6,.k (.hp 6 0 0)),(7,.k (.hp 7 0 0)),(8,.k (.hp 8 0 0)),(9,.k (.hp 9 0 0)),(10,.k (.hp 10 0 0))],[(6,.var 31 true false [.d .bool,.d .nil,.d .nil]),(7,.var 31 true false [.d .bool,.d .nil,.d .nil]),(8,.var 31 true false [.d .bool,.d .nil,.d .nil]),(9,.var 31 true false [.d .bool,.d .nil,.d .nil]),(10,.var 31 true false [.d .bool,.d hIs,.d hIs])],[3,11],[]⟩
abbrev Ak1:Tm:=⟨[(1,.d hRs),(2,.d hRs),(3,.k (.hp 3 0 0)),(6,.k (.hp 6 0 0)),(7,.k (.hp 7 0 0)),(8,.k (.hp 8 0 0)),(9,.k (.hp 9 0 0)),(10,.k (.hp 10 0 0))],[(3,.var 125 true false [.d hI,.d hI,.d hI,.d hI]),(6,.var 31 true false [.d .bool,.d .nil,.d .nil]),(7,.var 31 true false [.d .bool,.d .nil,.d .nil]),(8,.var 31 true false [.d .bool,.d .nil,.d .nil]),(9,.var 31 true false [.d .bool,.d .nil,.d .nil]),(10,.var 31 true false [.d .bool,.d hIs,.d hIs])],[11],[]⟩
abbrev Ak0:Tm:=⟨[(6,.k (.hp 6 0 0)),(7,.k (.hp 7 0 0)),(8,.k (.hp 8 0 0)),(9,.k (.hp 9 0 0)),(10,.k (.hp 10 0 0)),(18,.k (.hp 18 0 0)),(19,.k (.hp 19 0 0))],[(6,.var 31 true false [.d .bool,.d .nil,.d .nil]),(7,.var 31 true false [.d .bool,.d .nil,.d .nil]),(8,.var 31 true false [.d .bool,.d .nil,.d .nil]),(9,.var 31 true false [.d .bool,.d .nil,.d .nil]),(10,.var 31 true false [.d .bool,.d hIs,.d hIs]),(18,.var 31 true false [.d .bool,.d hIs,.d hIs]),(19,.var 31 true false [.d .bool,.d hIs,.d hIs])],[],[]⟩
abbrev Ajz:Tm:=⟨[(6,.k (.hp 6 0 0)),(7,.k (.hp 7 0 0)),(8,.k (.hp 8 0 0)),(9,.k (.hp 9 0 0)),(10,.k (.hp 10 0 0))],[(6,.var 31 true false [.d .bool,.d .nil,.d .nil]),(7,.var 31 true false [.d .bool,.d .nil,.d .nil]),(8,.var 31 true false [.d .bool,.d .nil,.d .nil]),(9,.var 31 true false [.d .bool,.d .nil,.d .nil]),(10,.var 31 true false [.d .bool,.d hIs,.d hIs])],[3,11],[]⟩
abbrev B5w:Tm:=⟨[(6,.k (.hp 6 0 0)),(7,.k (.hp 7 0 0)),(8,.k (.hp 8 0 0)),(9,.k (.hp 9 0 0)),(10,.k (.hp 10 0 0)),(18,.k (.hp 18 0 0)),(19,.k (.hp 19 0 0))],[(6,.var 31 true false [.d .bool,.d .nil,.d .nil]),(7,.var 31 true false [.d .bool,.d .nil,.d .nil]),(8,.var 31 true false [.d .bool,.d .nil,.d .nil]),(9,.var 31 true false [.d .bool,.d .nil,.d .nil]),(10,.var 31 true false [.d .bool,.d hIs,.d hIs]),(18,.var 31 true false [.d .bool,.d hIs,.d hIs]),(19,.var 31 true false [.d .bool,.d hIs,.d hIs])],[3],[]⟩
def f157 (n:Nat) (a0:Nq) (a1 a2:LR):Option (Rq × Rq × Rq × Rq) :=
 ob (f127 n 0) λa =>
 ob (f127 n 1) λb =>
 bif (a0.1==3) then
  some (b,b,a,a)
 else
  bif (a0.1==4) then
   ob (f127 n (-1)) λg =>
   some (b,g,a,a)
  else
   bif (a0.1==5) then
    gd (decide (0<=a0.2.2.1)&&decide (a0.2.2.1<(a1.length:Int))) (
     let h:=a1.getD a0.2.2.1.toNat (false,[],[])
     gd (decide (0<=a0.2.1)&&decide (a0.2.1<(a1.length:Int))) (
      let i:=a1.getD a0.2.1.toNat (false,[],[])
      gd (decide (0<=a0.2.2.1)&&decide (a0.2.2.1<(a2.length:Int))) (
       let j:=a2.getD a0.2.2.1.toNat (false,[],[])
       gd (decide (0<=a0.2.1)&&decide (a0.2.1<(a2.length:Int))) (
        let k:=a2.getD a0.2.1.toNat (false,[],[])
        some (h,i,j,k)))))
   else
    bif (a0.1==6) then
     gd (decide (0<=a0.2.2.1)&&decide (a0.2.2.1<(a1.length:Int))) (
      let l:=a1.getD a0.2.2.1.toNat (false,[],[])
      ob (f151 n b l) λc =>
      ob (f150 n c c) λd =>
      ob (f150 n d c) λm =>
      gd (decide (0<=a0.2.2.1)&&decide (a0.2.2.1<(a2.length:Int))) (
       let o:=a2.getD a0.2.2.1.toNat (false,[],[])
       ob (f150 n o d) λp =>
       ob (f152 n p) λq =>
       gd (decide (0<=a0.2.1)&&decide (a0.2.1<(a1.length:Int))) (
        let r:=a1.getD a0.2.1.toNat (false,[],[])
        ob (f150 n r d) λs =>
        ob (f152 n s) λt =>
        gd (decide (0<=a0.2.1)&&decide (a0.2.1<(a2.length:Int))) (
         let u:=a2.getD a0.2.1.toNat (false,[],[])
         ob (f150 n u d) λv =>
         ob (f152 n v) λw =>
         ob (f127 n 2) λx =>
         gd (decide (0<=a0.2.1)&&decide (a0.2.1<(a1.length:Int))) (
          let y:=a1.getD a0.2.1.toNat (false,[],[])
          gd (decide (0<=a0.2.2.1)&&decide (a0.2.2.1<(a2.length:Int))) (
           let z:=a2.getD a0.2.2.1.toNat (false,[],[])
           ob (f150 n y z) λd0 =>
           ob (f150 n d0 m) λd1 =>
           ob (f150 n x d1) λd2 =>
           ob (f148 n w d2) λd3 =>
           some (c,t,q,d3)))))))
    else
     bif (a0.1==7) then
      ob (f127 n (-1)) λd4 =>
      some (d4,a,a,a)
     else
      bif (a0.1==8) then
       bif (a0.2.2.2==0) then
        some (a,a,a,a)
       else
        ob (f127 n a0.2.2.2) λd5 =>
        gd (decide (0<=a0.2.1)&&decide (a0.2.1<(a1.length:Int))) (
         let d6:=a1.getD a0.2.1.toNat (false,[],[])
         ob (f153 n d6 (W (a0.2.2.2-1))) λd7 =>
         ob (f150 n d5 d7) λd8 =>
         let f:=λ(d9:Bool) (e0:LI) (e1:LI)=>(
          some (d8,a,(d9,e0,e1),a))
         bif (decide (a0.2.2.2>1)) then
          ob (f127 n (W (a0.2.2.2*(W (a0.2.2.2-1))))) λe2 =>
          gd (decide (0<=a0.2.1)&&decide (a0.2.1<(a1.length:Int))) (
           let e3:=a1.getD a0.2.1.toNat (false,[],[])
           ob (f153 n e3 (W (a0.2.2.2-2))) λe4 =>
           ob (f150 n e2 e4) λe5 =>
           gd (decide (0<=a0.2.1)&&decide (a0.2.1<(a2.length:Int))) (
            let e6:=a2.getD a0.2.1.toNat (false,[],[])
            ob (f150 n e5 e6) λe =>
            f e.1 e.2.1 e.2.2))
         else
          f a.1 a.2.1 a.2.2)
      else
       some (a,a,a,a)
def B0f (n:Nat):Ent:=⟨157,[hN,hRs,hRs],[hR,hR,hR,hR],λx=>f157 n x.1 x.2.1 x.2.2⟩
def B0g (α:Type) (n:Nat):D3 α:={ reg:=[(1,⟨0,[],[(0,{ ent:=some (Bh n) })]⟩),(2,⟨0,[],[(0,{ ent:=some (Bh n) })]⟩),(7,⟨0,[],[(1,{ ent:=some (Bh n) })]⟩),(11,⟨0,[],[(6,{ ent:=some (Ol n) })]⟩),(12,⟨0,[],[(2,{ ent:=some (Av n) })]⟩),(13,⟨0,[],[(2,{ ent:=some (Av n) })]⟩),(14,⟨0,[],[(6,{ ent:=some (Av n) }),(7,{ ent:=some (Cm n) })]⟩),(15,⟨0,[],[(6,{ ent:=some (Av n) }),(7,{ ent:=some (Cm n) })]⟩),(16,⟨0,[],[(6,{ ent:=some (Av n) }),(7,{ ent:=some (Cm n) }),(8,{ ent:=some (Bh n) }),(19,{ ent:=some (Av n) }),(21,{ ent:=some (Av n) }),(22,{ ent:=some (Av n) }),(23,{ ent:=some (J4 n) })]⟩),(19,⟨0,[],[(0,{ ent:=some (Bh n) })]⟩),(23,⟨0,[],[(2,{ ent:=some (Bh n) }),(11,{ ent:=some (Lf n) }),(12,{ ent:=some (Av n) })]⟩),(26,⟨22,[],[(6,{ ent:=some (Bh n) }),(15,{ ent:=some (Lf n) }),(16,{ ent:=some (Av n) }),(22,{ ent:=some (Av n) })]⟩)],join:=[(27,B5w)],loop:=[],any:=[(5,Apj),(7,Api),(9,Aph),(11,Ak8),(14,Ak7),(15,Ak6),(16,Ak5),(17,Ak4),(19,Ak3),(22,Ak2),(23,Ak1),(27,Ak0),(28,Ajz)] }
set_option maxHeartbeats 8000000 in
theorem Bc1 (n:Nat):Al TT ⟨180,[]⟩ [] Apj (A6 ((A0 Tryz.f157).at [1,1,1,0,1,0,1,0,0])):=by
 refine ⟨by kernel_rfl,λw q hq=>?_⟩
 have e:WT [] (A7 (A6 ((A0 Tryz.f157).at [1,1,1,0,1,0,1,0,0])).toList) q=(q=[]):=by kernel_rfl
 rw [e] at hq;obtain rfl:=hq
 all_goals exact .inr ⟨7,by kernel_rfl,by kernel_rfl,by kernel_rfl⟩
set_option maxHeartbeats 8000000 in
theorem Bc0 (n:Nat):Al TT ⟨180,[]⟩ [(1,{ ent:=some (Bh n) })] Api (A6 ((A0 Tryz.f157).at [1,1,1,0,1,0,1,1,1,0,0])):=by
 refine ⟨by kernel_rfl,λw q hq=>?_⟩
 have e:WT [(1,{ ent:=some (Bh n) })] (A7 (A6 ((A0 Tryz.f157).at [1,1,1,0,1,0,1,1,1,0,0])).toList) q=(∃ (y0:HL (Bh n).rs) (q0:List (Nat × RV)),q=(1,.sv (Ai (Bh n).rs y0))::q0/\q0=[]):=by kernel_rfl
 rw [e] at hq;obtain ⟨y0,q0,rfl,rfl⟩:=hq
 all_goals exact .inr ⟨7,by kernel_rfl,by kernel_rfl,by kernel_rfl⟩
set_option maxHeartbeats 8000000 in
theorem Bbz (n:Nat):Al TT ⟨180,[]⟩ [] Aph (A6 ((A0 Tryz.f157).at [1,1,1,0,1,0,1,1,1,1,1,0,0])):=by
 refine ⟨by kernel_rfl,λw q hq=>?_⟩
 have e:WT [] (A7 (A6 ((A0 Tryz.f157).at [1,1,1,0,1,0,1,1,1,1,1,0,0])).toList) q=(q=[]):=by kernel_rfl
 rw [e] at hq;obtain rfl:=hq
 all_goals exact .inr ⟨23,by kernel_rfl,by kernel_rfl,by kernel_rfl⟩
set_option maxHeartbeats 8000000 in
theorem B66 (n:Nat):Al TT ⟨180,[]⟩ [(6,{ ent:=some (Ol n) })] Ak8 (A6 ((A0 Tryz.f157).at [1,1,1,0,1,0,1,1,1,1,1,1,1,0,0])):=by
 refine ⟨by kernel_rfl,λw q hq=>?_⟩
 have e:WT [(6,{ ent:=some (Ol n) })] (A7 (A6 ((A0 Tryz.f157).at [1,1,1,0,1,0,1,1,1,1,1,1,1,0,0])).toList) q=(∃ (y0:HL (Ol n).rs) (q0:List (Nat × RV)),q=(6,.sv (Ai (Ol n).rs y0))::q0/\q0=[]):=by kernel_rfl
 rw [e] at hq;obtain ⟨y0,q0,rfl,rfl⟩:=hq
 all_goals exact .inr ⟨8,by kernel_rfl,by kernel_rfl,by kernel_rfl⟩
set_option maxHeartbeats 8000000 in
theorem B65 (n:Nat):Al TT ⟨180,[]⟩ [(6,{ ent:=some (Av n) }),(7,{ ent:=some (Cm n) })] Ak7 (A6 ((A0 Tryz.f157).at [1,1,1,0,1,0,1,1,1,1,1,1,1,0,1,1,1,0])):=by
 refine ⟨by kernel_rfl,λw q hq=>?_⟩
 have e:WT [(6,{ ent:=some (Av n) }),(7,{ ent:=some (Cm n) })] (A7 (A6 ((A0 Tryz.f157).at [1,1,1,0,1,0,1,1,1,1,1,1,1,0,1,1,1,0])).toList) q=(∃ (y0:HL (Av n).rs) (q0:List (Nat × RV)),q=(6,.sv (Ai (Av n).rs y0))::q0 /\ ∃ (y1:HL (Cm n).rs) (q1:List (Nat × RV)),q0=(7,.sv (Ai (Cm n).rs y1))::q1/\q1=[]):=by kernel_rfl
 rw [e] at hq;obtain ⟨y0,q0,rfl,y1,q1,rfl,rfl⟩:=hq
 all_goals exact .inr ⟨9,by kernel_rfl,by kernel_rfl,by kernel_rfl⟩
set_option maxHeartbeats 8000000 in
theorem B64 (n:Nat):Al TT ⟨180,[]⟩ [(6,{ ent:=some (Av n) }),(7,{ ent:=some (Cm n) })] Ak6 (A6 ((A0 Tryz.f157).at [1,1,1,0,1,0,1,1,1,1,1,1,1,0,1,1,1,1,0])):=by
 refine ⟨by kernel_rfl,λw q hq=>?_⟩
 have e:WT [(6,{ ent:=some (Av n) }),(7,{ ent:=some (Cm n) })] (A7 (A6 ((A0 Tryz.f157).at [1,1,1,0,1,0,1,1,1,1,1,1,1,0,1,1,1,1,0])).toList) q=(∃ (y0:HL (Av n).rs) (q0:List (Nat × RV)),q=(6,.sv (Ai (Av n).rs y0))::q0 /\ ∃ (y1:HL (Cm n).rs) (q1:List (Nat × RV)),q0=(7,.sv (Ai (Cm n).rs y1))::q1/\q1=[]):=by kernel_rfl
 rw [e] at hq;obtain ⟨y0,q0,rfl,y1,q1,rfl,rfl⟩:=hq
 all_goals exact .inr ⟨9,by kernel_rfl,by kernel_rfl,by kernel_rfl⟩
set_option maxHeartbeats 8000000 in
theorem B63 (n:Nat):Al TT ⟨180,[]⟩ [(6,{ ent:=some (Av n) }),(7,{ ent:=some (Cm n) }),(8,{ ent:=some (Bh n) }),(19,{ ent:=some (Av n) }),(21,{ ent:=some (Av n) }),(22,{ ent:=some (Av n) }),(23,{ ent:=some (J4 n) })] Ak5 (A6 ((A0 Tryz.f157).at [1,1,1,0,1,0,1,1,1,1,1,1,1,0,1,1,1,1,1,0])):=by
 refine ⟨by kernel_rfl,λw q hq=>?_⟩
 have e:WT [(6,{ ent:=some (Av n) }),(7,{ ent:=some (Cm n) }),(8,{ ent:=some (Bh n) }),(19,{ ent:=some (Av n) }),(21,{ ent:=some (Av n) }),(22,{ ent:=some (Av n) }),(23,{ ent:=some (J4 n) })] (A7 (A6 ((A0 Tryz.f157).at [1,1,1,0,1,0,1,1,1,1,1,1,1,0,1,1,1,1,1,0])).toList) q=(∃ (y0:HL (Av n).rs) (q0:List (Nat × RV)),q=(6,.sv (Ai (Av n).rs y0))::q0 /\ ∃ (y1:HL (Cm n).rs) (q1:List (Nat × RV)),q0=(7,.sv (Ai (Cm n).rs y1))::q1 /\ ∃ (y2:HL (Bh n).rs) (q2:List (Nat × RV)),q1=(8,.sv (Ai (Bh n).rs y2))::q2 /\ ∃ (y3:HL (Av n).rs) (q3:List (Nat × RV)),q2=(19,.sv (Ai (Av n).rs y3))::q3 /\ ∃ (y4:HL (Av n).rs) (q4:List (Nat × RV)),q3=(21,.sv (Ai (Av n).rs y4))::q4 /\ ∃ (y5:HL (Av n).rs) (q5:List (Nat × RV)),q4=(22,.sv (Ai (Av n).rs y5))::q5 /\ ∃ (y6:HL (J4 n).rs) (q6:List (Nat × RV)),q5=(23,.sv (Ai (J4 n).rs y6))::q6/\q6=[]):=by kernel_rfl
 rw [e] at hq;obtain ⟨y0,q0,rfl,y1,q1,rfl,y2,q2,rfl,y3,q3,rfl,y4,q4,rfl,y5,q5,rfl,y6,q6,rfl,rfl⟩:=hq
 all_goals exact .inr ⟨25,by kernel_rfl,by kernel_rfl,by kernel_rfl⟩
set_option maxHeartbeats 8000000 in
theorem B62 (n:Nat):Al TT ⟨180,[]⟩ [] Ak4 (A6 ((A0 Tryz.f157).at [1,1,1,0,1,0,1,1,1,1,1,1,1,0,1,1,1,1,1,1,0])):=by
 refine ⟨by kernel_rfl,λw q hq=>?_⟩
 have e:WT [] (A7 (A6 ((A0 Tryz.f157).at [1,1,1,0,1,0,1,1,1,1,1,1,1,0,1,1,1,1,1,1,0])).toList) q=(q=[]):=by kernel_rfl
 rw [e] at hq;obtain rfl:=hq
 all_goals exact .inr ⟨7,by kernel_rfl,by kernel_rfl,by kernel_rfl⟩
set_option maxHeartbeats 8000000 in
theorem B61 (n:Nat):Al TT ⟨180,[]⟩ [(0,{ ent:=some (Bh n) })] Ak3 (A6 ((A0 Tryz.f157).at [1,1,1,0,1,0,1,1,1,1,1,1,1,1,1,0,0])):=by
 refine ⟨by kernel_rfl,λw q hq=>?_⟩
 have e:WT [(0,{ ent:=some (Bh n) })] (A7 (A6 ((A0 Tryz.f157).at [1,1,1,0,1,0,1,1,1,1,1,1,1,1,1,0,0])).toList) q=(∃ (y0:HL (Bh n).rs) (q0:List (Nat × RV)),q=(0,.sv (Ai (Bh n).rs y0))::q0/\q0=[]):=by kernel_rfl
 rw [e] at hq;obtain ⟨y0,q0,rfl,rfl⟩:=hq
 all_goals exact .inr ⟨7,by kernel_rfl,by kernel_rfl,by kernel_rfl⟩
set_option maxHeartbeats 8000000 in
theorem B60 (n:Nat):Al TT ⟨180,[]⟩ [] Ak2 (A6 ((A0 Tryz.f157).at [1,1,1,0,1,0,1,1,1,1,1,1,1,1,1,1,1,0,0,1,0,0])):=by
 refine ⟨by kernel_rfl,λw q hq=>?_⟩
 have e:WT [] (A7 (A6 ((A0 Tryz.f157).at [1,1,1,0,1,0,1,1,1,1,1,1,1,1,1,1,1,0,0,1,0,0])).toList) q=(q=[]):=by kernel_rfl
 rw [e] at hq;obtain rfl:=hq
 all_goals exact .inr ⟨7,by kernel_rfl,by kernel_rfl,by kernel_rfl⟩
set_option maxHeartbeats 8000000 in
theorem B5z (n:Nat):Al TT ⟨180,[]⟩ [(2,{ ent:=some (Bh n) }),(11,{ ent:=some (Lf n) }),(12,{ ent:=some (Av n) })] Ak1 (A6 ((A0 Tryz.f157).at [1,1,1,0,1,0,1,1,1,1,1,1,1,1,1,1,1,0,1,0])):=by
 refine ⟨by kernel_rfl,λw q hq=>?_⟩
 have e:WT [(2,{ ent:=some (Bh n) }),(11,{ ent:=some (Lf n) }),(12,{ ent:=some (Av n) })] (A7 (A6 ((A0 Tryz.f157).at [1,1,1,0,1,0,1,1,1,1,1,1,1,1,1,1,1,0,1,0])).toList) q=(∃ (y0:HL (Bh n).rs) (q0:List (Nat × RV)),q=(2,.sv (Ai (Bh n).rs y0))::q0 /\ ∃ (y1:HL (Lf n).rs) (q1:List (Nat × RV)),q0=(11,.sv (Ai (Lf n).rs y1))::q1 /\ ∃ (y2:HL (Av n).rs) (q2:List (Nat × RV)),q1=(12,.sv (Ai (Av n).rs y2))::q2/\q2=[]):=by kernel_rfl
 rw [e] at hq;obtain ⟨y0,q0,rfl,y1,q1,rfl,y2,q2,rfl,rfl⟩:=hq
 all_goals exact .inr ⟨14,by kernel_rfl,by kernel_rfl,by kernel_rfl⟩
set_option maxHeartbeats 8000000 in
theorem B5y (n:Nat):Al TT ⟨180,[]⟩ [] Ak0 (A6 ((A0 Tryz.f157).at [1,1,1,0,1,0,1,1,1,1,1,1,1,1,1,1,1,0,1,1,1,1,0])):=by
 refine ⟨by kernel_rfl,λw q hq=>?_⟩
 have e:WT [] (A7 (A6 ((A0 Tryz.f157).at [1,1,1,0,1,0,1,1,1,1,1,1,1,1,1,1,1,0,1,1,1,1,0])).toList) q=(q=[]):=by kernel_rfl
 rw [e] at hq;obtain rfl:=hq
 all_goals exact .inr ⟨7,by kernel_rfl,by kernel_rfl,by kernel_rfl⟩
set_option maxHeartbeats 8000000 in
theorem B5x (n:Nat):Al TT ⟨180,[]⟩ [] Ajz (A6 ((A0 Tryz.f157).at [1,1,1,1,0])):=by
 refine ⟨by kernel_rfl,λw q hq=>?_⟩
 have e:WT [] (A7 (A6 ((A0 Tryz.f157).at [1,1,1,1,0])).toList) q=(q=[]):=by kernel_rfl
 rw [e] at hq;obtain rfl:=hq
 all_goals exact .inr ⟨7,by kernel_rfl,by kernel_rfl,by kernel_rfl⟩
theorem B0e (α:Type) (n:Nat):Ao PP (Ah (B0g α n).reg):=⟨Ey n,Ey n,Ey n,Apl n,Cp n,Cp n,Cp n,Rh n,Cp n,Rh n,Cp n,Rh n,Ey n,Cp n,Cp n,Cp n,A07 n,Ey n,Ey n,Aao n,Cp n,Ey n,Aao n,Cp n,Cp n,trivial⟩
theorem Bgs (α:Type) (n:Nat):D3.OK PP TT ⟨180,[]⟩ (B0g α n) (A0 Tryz.f157) :=
 D3.OK.mk3a (B0e α n) (show Ab (A0 Tryz.f157)=[] by kernel_rfl) trivial (show Au (A0 Tryz.f157)=[(5,A6 ((A0 Tryz.f157).at [1,1,1,0,1,0,1,0,0])),(7,A6 ((A0 Tryz.f157).at [1,1,1,0,1,0,1,1,1,0,0])),(9,A6 ((A0 Tryz.f157).at [1,1,1,0,1,0,1,1,1,1,1,0,0])),(11,A6 ((A0 Tryz.f157).at [1,1,1,0,1,0,1,1,1,1,1,1,1,0,0])),(14,A6 ((A0 Tryz.f157).at [1,1,1,0,1,0,1,1,1,1,1,1,1,0,1,1,1,0])),(15,A6 ((A0 Tryz.f157).at [1,1,1,0,1,0,1,1,1,1,1,1,1,0,1,1,1,1,0])),(16,A6 ((A0 Tryz.f157).at [1,1,1,0,1,0,1,1,1,1,1,1,1,0,1,1,1,1,1,0])),(17,A6 ((A0 Tryz.f157).at [1,1,1,0,1,0,1,1,1,1,1,1,1,0,1,1,1,1,1,1,0])),(19,A6 ((A0 Tryz.f157).at [1,1,1,0,1,0,1,1,1,1,1,1,1,1,1,0,0])),(22,A6 ((A0 Tryz.f157).at [1,1,1,0,1,0,1,1,1,1,1,1,1,1,1,1,1,0,0,1,0,0])),(23,A6 ((A0 Tryz.f157).at [1,1,1,0,1,0,1,1,1,1,1,1,1,1,1,1,1,0,1,0])),(26,A6 ((A0 Tryz.f157).at [1,1,1,0,1,0,1,1,1,1,1,1,1,1,1,1,1,0,1,1,1,0,1,0])),(27,A6 ((A0 Tryz.f157).at [1,1,1,0,1,0,1,1,1,1,1,1,1,1,1,1,1,0,1,1,1,1,0])),(28,A6 ((A0 Tryz.f157).at [1,1,1,1,0]))] by kernel_rfl) ⟨⟨Bc1 n,trivial⟩,⟨Bc0 n,trivial⟩,⟨Bbz n,trivial⟩,⟨B66 n,trivial⟩,⟨B65 n,trivial⟩,⟨B64 n,trivial⟩,⟨B63 n,trivial⟩,⟨B62 n,trivial⟩,⟨B61 n,trivial⟩,⟨B60 n,trivial⟩,⟨B5z n,trivial⟩,trivial,⟨B5y n,trivial⟩,⟨B5x n,trivial⟩,trivial⟩
theorem Bby (n:Nat):(B0f n).Sound PP:=fk (fn:=Tryz.f157) (Bgs _ n)

def A8y {α:Type} (n:Nat) (g e h:LR) (c:Int) (d:LN) (i:Int) (b:LR) (f:LR->LR->LR->Int->LN->Int->LR->Option α) (k0:LR->Option α):Option α :=
 bif (decide (c<(d.length:Int))) then
  gd (decide (0<=c)&&decide (c<(d.length:Int))) (
   let a:=d.getD c.toNat (0,0,0,0)
   ob (f127 n 0) λj =>
   let l:=λ(q:Bool) (r:LI) (s:LI)=>(
    let m:=λ(t:Bool)=>(
     bif t then
      ob (f157 n a g h) λo =>
      gd (decide (0<=a.2.1)&&decide (a.2.1<(b.length:Int))) (
       gd (decide (a.2.1.toNat<b.length)) (
        let u:=b.getD a.2.1.toNat (false,[],[])
        ob (f150 n o.1 u) λp =>
        ob (f155 n a.1) λv =>
        bif v then
         gd (decide (0<=a.2.2.1)&&decide (a.2.2.1<(b.length:Int))) (
          gd (decide (a.2.2.1.toNat<b.length)) (
           let w:=b.getD a.2.2.1.toNat (false,[],[])
           ob (f150 n o.2.1 w) λx =>
           ob (f148 n p x) λy =>
           gd (decide ((b.length+1)*56<=140737488355328)) (
            f g e h (W (c+1)) d i (b++[y]))))
        else
         gd (decide ((b.length+1)*56<=140737488355328)) (
          f g e h (W (c+1)) d i (b++[p]))))
     else
      gd (decide ((b.length+1)*56<=140737488355328)) (
       f g e h (W (c+1)) d i (b++[(q,r,s)])))
    ob (f155 n a.1) λz =>
    bif z then
     m true
    else
     ob (f156 n a.1) λd0 =>
     m d0)
   bif (a.1==2) then
    gd (decide (0<=a.2.2.2)&&decide (a.2.2.2<(e.length:Int))) (
     let k:=e.getD a.2.2.2.toNat (false,[],[])
     l k.1 k.2.1 k.2.2)
   else
    l j.1 j.2.1 j.2.2)
 else
  k0 b
abbrev Yz:Tm:=⟨[(1,.d hRs),(2,.d hRs),(3,.k (.hp 3 0 0)),(7,.k (.hw 16)),(8,.d hRs),(9,.d hI)],[(3,.var 65 true false [.d hNs,.d hI]),(16,.arr 31 hR false)],[10,11,12,13,14,15,80],[]⟩
abbrev B3w:Tm:=⟨[(7,.k (.hw 16))],[(16,.arr 31 hR false)],[3],[]⟩
abbrev A8x:List (Exit × Tm):=[(.exit 0,B3w)]
def A8w {α:Type} (n:Nat) (v:Yz.den) (f:Yz.den->Option α) (ks:KS α A8x):Option α:=A8y n v.1.1 v.1.2.1 v.1.2.2.2.2.1 v.1.2.2.2.2.2.1 v.2.1.1 v.2.1.2.1 v.2.2.1 (λa b c d e g h=>f ((a,b,(),(),c,d,()),((e,g,()),h,()))) (λw0=>ks.1 (((),()),(w0,())))
def Np {α:Type} (n m:Nat) (a b c:LR) (d:Int) (e:LN) (f:Int) (g:LR) (k0:LR->Option α):Option α:=A5 (A8w n) m ((a,b,(),(),c,d,()),((e,f,()),g,())) (λw=>k0 w.2.1,())
theorem B3v {α n m a b c d e f g k0}:Np (α:=α) n (m+1) a b c d e f g k0=A8y n a b c d e f g (λa b c d e f g=>Np n m a b c d e f g k0) k0:=rfl
abbrev B96:Tm:=⟨[(1,.d hRs),(2,.d hRs),(3,.k (.hp 3 0 0)),(7,.k (.hw 16)),(8,.d hRs),(9,.d hI),(10,.k (.hp 10 0 0)),(11,.k (.hp 11 0 0))],[(3,.var 65 true false [.d hNs,.d hI]),(10,.var 125 true false [.d hI,.d hI,.d hI,.d hI]),(11,.var 31 true false [.d .bool,.d hIs,.d hIs]),(16,.arr 31 hR false)],[],[]⟩
abbrev B95:Tm:=⟨[(1,.d hRs),(2,.d hRs),(3,.k (.hp 3 0 0)),(7,.k (.hw 16)),(8,.d hRs),(9,.d hI),(10,.k (.hp 10 0 0)),(11,.k (.hp 11 0 0)),(49,.d .bool)],[(3,.var 65 true false [.d hNs,.d hI]),(10,.var 125 true false [.d hI,.d hI,.d hI,.d hI]),(11,.var 31 true false [.d .bool,.d hIs,.d hIs]),(16,.arr 31 hR false)],[],[]⟩
def f95 (n:Nat) (a0:LN × Int) (a1 a2:LR):Option LR :=
 ob (f90 n (a0.1.length:Int)) λa =>
 Np n n a1 a2 a 0 a0.1 a0.2 []
  (λb=>(
   some b))
def B7i (n:Nat):Ent:=⟨95,[(.st (.pair hNs hI)),hRs,hRs],[hRs],λx=>f95 n x.1 x.2.1 x.2.2⟩
def Ara (α:Type) (n:Nat):D3 α:={ reg:=[(1,⟨0,[],[(0,{ sh:=some hR })]⟩),(2,⟨0,[],[(3,{ ent:=some (B7n n) })]⟩),(7,⟨0,[],[(0,{ ent:=some (Bh n) })]⟩),(10,⟨0,[],[(2,{ ent:=some (Xw n) }),(6,{ ent:=some (A7f n) })]⟩),(11,⟨0,[],[(3,{ ent:=some (B0f n) })]⟩),(12,⟨6,[],[(6,{ ent:=some (Av n) })]⟩),(13,⟨0,[],[(2,{ ent:=some (Xw n) })]⟩),(14,⟨8,[],[(7,{ ent:=some (Av n) }),(8,{ ent:=some (J4 n) })]⟩),(15,⟨0,[],[(2,{ sh:=some hR })]⟩)],join:=[(10,B96),(11,B95)],loop:=[(4,⟨Yz,A8x,A5 (A8w n) n⟩)] }
theorem Ah1 (α:Type) (n:Nat):Ao PP (Ah (Ara α n).reg):=⟨Be4 n,Ey n,A05 n,Aan n,Bby n,Cp n,A05 n,Cp n,A07 n,trivial⟩
theorem Awd (α:Type) (n:Nat):LO.Sound (α:=α) PP ⟨83,[]⟩ ⟨Yz,A8x,A5 (A8w n) n⟩ (.loop ((A0 Tryz.f95).at [1,1,1,0,1,0,0])):=Ba (D:=Ara α n) (Ah1 α n) n
theorem Bik (α:Type) (n:Nat):D3.OK PP TT ⟨83,[]⟩ (Ara α n) (A0 Tryz.f95) :=
 D3.OK.mk3 (Ah1 α n) (show Ab (A0 Tryz.f95)=[(4,(.loop ((A0 Tryz.f95).at [1,1,1,0,1,0,0])))] by kernel_rfl) ⟨Ad rfl (Awd α n),trivial⟩
theorem Bdz (n:Nat):(B7i n).Sound PP:=fk (fn:=Tryz.f95) (Bik _ n)

def A91 {α:Type} (n:Nat) (b:LR) (a:Int) (c:LR) (f:LR->Int->LR->Option α) (k0:Int->LR->Option α) (k1:LR->Option α):Option α :=
 bif (decide (a<(b.length:Int))) then
  gd (decide (0<=a)&&decide (a<(b.length:Int))) (
   let d:=b.getD a.toNat (false,[],[])
   ob (f154 n d) λe =>
   bif (!e) then
    k0 7 []
   else
    gd (decide (0<=a)&&decide (a<(b.length:Int))) (
     let g:=b.getD a.toNat (false,[],[])
     ob (f91 n g) λh =>
     gd (decide ((c.length+1)*56<=140737488355328)) (
      f b (W (a+1)) (c++[h]))))
 else
  k1 c
abbrev Z0:Tm:=⟨[(0,.d hRs),(4,.k (.hw 6)),(5,.d hI)],[(6,.arr 31 hR false)],[26],[]⟩
abbrev B3z:Tm:=⟨[(2,.k (.hw 19)),(3,.d hI)],[(19,.arr 31 hR false)],[6],[]⟩
abbrev B3y:Tm:=⟨[(4,.k (.hw 6))],[(6,.arr 31 hR false)],[],[]⟩
abbrev A90:List (Exit × Tm):=[(.ret,B3z),(.exit 0,B3y)]
def A8z {α:Type} (n:Nat) (v:Z0.den) (f:Z0.den->Option α) (ks:KS α A90):Option α:=A91 n v.1.1 v.1.2.2.1 v.2.1 (λa b c=>f ((a,(),b,()),(c,()))) (λw0 w1=>ks.1 (((),w0,()),(w1,()))) (λw0=>ks.2.1 (((),()),(w0,())))
def Wx {α:Type} (n m:Nat) (a:LR) (b:Int) (c:LR) (k0:Int->LR->Option α) (k1:LR->Option α):Option α:=A5 (A8z n) m ((a,(),b,()),(c,())) (λw=>k0 w.1.2.1 w.2.1,λw=>k1 w.2.1,())
theorem B3x {α n m a b c k0 k1}:Wx (α:=α) n (m+1) a b c k0 k1=A91 n a b c (λa b c=>Wx n m a b c k0 k1) k0 k1:=rfl
def f94 (n:Nat) (a0:LR):Option (LR × Int) :=
 Wx n n a0 0 []
  (λa b=>(
   some (b,a)))
  (λc=>(
   some (c,0)))
def B7j (n:Nat):Ent:=⟨94,[hRs],[hRs,hI],λx=>f94 n x⟩
def Arb (α:Type) (n:Nat):D3 α:={ reg:=[(1,⟨0,[],[(0,{ sh:=some hR })]⟩),(5,⟨0,[],[(4,{ ent:=some (Ak9 n) })]⟩),(6,⟨0,[],[(0,{ sh:=some hR })]⟩),(7,⟨0,[],[(5,{ ent:=some (Ard n) }),(6,{ sh:=some hR })]⟩)],join:=[],loop:=[(3,⟨Z0,A90,A5 (A8z n) n⟩)] }
theorem Ah2 (α:Type) (n:Nat):Ao PP (Ah (Arb α n).reg):=⟨Apk n,Awg n,trivial⟩
theorem Awe (α:Type) (n:Nat):LO.Sound (α:=α) PP ⟨29,[]⟩ ⟨Z0,A90,A5 (A8z n) n⟩ (.loop ((A0 Tryz.f94).at [1,1,0,1,0,0])):=Ba (D:=Arb α n) (Ah2 α n) n
theorem Bil (α:Type) (n:Nat):D3.OK PP TT ⟨29,[]⟩ (Arb α n) (A0 Tryz.f94) :=
 D3.OK.mk3 (Ah2 α n) (show Ab (A0 Tryz.f94)=[(3,(.loop ((A0 Tryz.f94).at [1,1,0,1,0,0])))] by kernel_rfl) ⟨Ad rfl (Awe α n),trivial⟩
theorem Be0 (n:Nat):(B7j n).Sound PP:=fk (fn:=Tryz.f94) (Bil _ n)

def f42 (n:Nat) (a0:LN × Int) (a1 a2:LR):Option (LR × Int) :=
 bif (decide ((a1.length:Int)>4096)) then
  some ([],2)
 else
  bif (decide ((a2.length:Int)>4096)) then
   some ([],2)
  else
   ob (f92 n a0 a1 a2) λb =>
   bif (b != 0) then
    some ([],b)
   else
    ob (f93 n a0 a1) λa =>
    bif (a.2 != 0) then
     some ([],a.2)
    else
     ob (f95 n a0 a.1 a2) λd =>
     ob (f94 n d) λc =>
     some (c.1,c.2)
def B7w (n:Nat):Ent:=⟨42,[(.st (.pair hNs hI)),hRs,hRs],[hRs,hI],λx=>f42 n x.1 x.2.1 x.2.2⟩
def Bja (α:Type) (n:Nat):D3 α:={ reg:=[(2,⟨0,[],[(0,{ sh:=some hR })]⟩),(3,⟨0,[],[(3,{ ent:=some (B7l n) })]⟩),(5,⟨0,[],[(0,{ sh:=some hR })]⟩),(6,⟨0,[],[(2,{ ent:=some (B7k n) })]⟩),(8,⟨0,[],[(0,{ sh:=some hR })]⟩),(9,⟨0,[],[(3,{ ent:=some (B7i n) }),(4,{ ent:=some (B7j n) })]⟩)],join:=[],loop:=[] }
theorem Beu (n:Nat):(B7w n).Sound PP:=Ay (fn:=Tryz.f42) (D:=Bja _ n) ⟨Be2 n,Be1 n,Bdz n,Be0 n,trivial⟩

def T1 {α:Type} (n:Nat) (b:LN) (a:Int) (c:LN) (f:LN->Int->LN->Option α) (k0:LN->Option α):Option α :=
 bif (decide (a<(b.length:Int))) then
  gd (decide (0<=a)&&decide (a<(b.length:Int))) (
   let d:=b.getD a.toNat (0,0,0,0)
   ob (f138 n d) λe =>
   gd (decide (0<=a)&&decide (a<(c.length:Int))) (
    gd (decide (a.toNat<c.length)) (
     f b (W (a+1)) (c.set a.toNat e))))
 else
  k0 c
abbrev T0:Tm:=⟨[(0,.d hNs),(3,.k (.hw 7)),(4,.d hI)],[(7,.arr 125 hN false)],[],[]⟩
abbrev Awx:Tm:=⟨[(3,.k (.hw 7))],[(7,.arr 125 hN false)],[],[]⟩
abbrev A28:List (Exit × Tm):=[(.exit 0,Awx)]
def A27 {α:Type} (n:Nat) (v:T0.den) (f:T0.den->Option α) (ks:KS α A28):Option α:=T1 n v.1.1 v.1.2.2.1 v.2.1 (λa b c=>f ((a,(),b,()),(c,()))) (λw0=>ks.1 (((),()),(w0,())))
def Qt {α:Type} (n m:Nat) (a:LN) (b:Int) (c:LN) (k0:LN->Option α):Option α:=A5 (A27 n) m ((a,(),b,()),(c,())) (λw=>k0 w.2.1,())
theorem Acf {α n m a b c k0}:Qt (α:=α) n (m+1) a b c k0=T1 n a b c (λa b c=>Qt n m a b c k0) k0:=rfl
def B4h (n:Nat) (a0:LN):Option LN :=
 gd (decide (0<=(a0.length:Int))&&decide ((a0.length:Int)<=4611686018427387904)&&decide ((32:Int)*(a0.length:Int)<=281474976710656)) (
  Qt n n a0 0 (List.replicate ((a0.length:Int).toNat) (0,0,0,0))
   (λa=>(
    some a)))
def Awy (n:Nat):Ent3:=⟨82,[.im hNs],[[.one (.own 125 hN)]],λx=>B4h n x⟩
def Ahi (α:Type) (n:Nat):D3 α:={ reg:=[(5,⟨0,[],[(6,{ ent:=some (Akf n) })]⟩)],join:=[],loop:=[(3,⟨T0,A28,A5 (A27 n) n⟩)] }
theorem Ace (α:Type) (n:Nat):Ao PP (Ah (Ahi α n).reg):=⟨Apo n,trivial⟩
theorem Arr (α:Type) (n:Nat):LO.Sound (α:=α) PP ⟨23,[]⟩ ⟨T0,A28,A5 (A27 n) n⟩ (.loop ((A0 Tryz.f82).at [1,1,0,1,0,0])):=Ba (D:=Ahi α n) (Ace α n) n
theorem Bed (α:Type) (n:Nat):D3.OK PP TT ⟨23,[]⟩ (Ahi α n) (A0 Tryz.f82) :=
 D3.OK.mk3 (Ace α n) (show Ab (A0 Tryz.f82)=[(3,(.loop ((A0 Tryz.f82).at [1,1,0,1,0,0])))] by kernel_rfl) ⟨Ad rfl (Arr α n),trivial⟩
theorem B9d (n:Nat):(Awy n).Sound PP:=Lz (fn:=Tryz.f82) (Bed _ n)

def Ahs (n:Nat) (a0:LN × Int):Option (LN × Int) :=
 ob (B4h n a0.1) λa =>
 some (a,a0.2)
def Axb (n:Nat):Ent3:=⟨43,[.im (.st (.pair hNs hI))],[[.mix [.own 125 hN,.im hI]]],λx=>Ahs n x⟩
def Bet (α:Type) (n:Nat):D3 α:={ reg:=[(2,⟨0,[],[(2,{ entB:=some (Awy n),hb:=310 })]⟩)],join:=[],loop:=[] }
theorem B9o (n:Nat):(Axb n).Sound PP:=A8r (fn:=Tryz.f43) (D:=Bet _ n) ⟨B9d n,trivial⟩

def Xz {α:Type} (n:Nat) (b:LI) (a:Int) (c:LI) (f:LI->Int->LI->Option α) (k0:LI->Option α):Option α :=
 bif (decide (a<(b.length:Int))) then
  gd (decide (0<=a)&&decide (a<(b.length:Int))) (
   gd (decide (0<=a)&&decide (a<(c.length:Int))) (
    gd (decide (a.toNat<c.length)) (
     f b (W (a+1)) (c.set a.toNat (b.getD a.toNat 0)))))
 else
  k0 c
abbrev Pq:Tm:=⟨[(0,.d hIs),(3,.k (.hw 7)),(4,.d hI)],[(7,.arr 3 hI false)],[],[]⟩
abbrev Ato:Tm:=⟨[(3,.k (.hw 7))],[(7,.arr 3 hI false)],[],[]⟩
abbrev Xy:List (Exit × Tm):=[(.exit 0,Ato)]
def Xx {α:Type} (n:Nat) (v:Pq.den) (f:Pq.den->Option α) (ks:KS α Xy):Option α:=Xz n v.1.1 v.1.2.2.1 v.2.1 (λa b c=>f ((a,(),b,()),(c,()))) (λw0=>ks.1 (((),()),(w0,())))
def Ua {α:Type} (n m:Nat) (a:LI) (b:Int) (c:LI) (k0:LI->Option α):Option α:=A5 (Xx n) m ((a,(),b,()),(c,())) (λw=>k0 w.2.1,())
theorem Atn {α n m a b c k0}:Ua (α:=α) n (m+1) a b c k0=Xz n a b c (λa b c=>Ua n m a b c k0) k0:=rfl
def A7i (n:Nat) (a0:LI):Option LI :=
 gd (decide (0<=(a0.length:Int))&&decide ((a0.length:Int)<=4611686018427387904)&&decide ((8:Int)*(a0.length:Int)<=281474976710656)) (
  Ua n n a0 0 (List.replicate ((a0.length:Int).toNat) 0)
   (λa=>(
    some a)))
def Aap (n:Nat):Ent3:=⟨139,[.im hIs],[[.one (.own 3 hI)]],λx=>A7i n x⟩
def Aaq (α:Type) (n:Nat):D3 α:={ reg:=[],join:=[],loop:=[(3,⟨Pq,Xy,A5 (Xx n) n⟩)] }
theorem A7h (α:Type) (n:Nat):Ao PP (Ah (Aaq α n).reg):=trivial
theorem Amp (α:Type) (n:Nat):LO.Sound (α:=α) PP ⟨22,[]⟩ ⟨Pq,Xy,A5 (Xx n) n⟩ (.loop ((A0 Tryz.f139).at [1,1,0,1,0,0])):=Ba (D:=Aaq α n) (A7h α n) n
theorem Bc5 (α:Type) (n:Nat):D3.OK PP TT ⟨22,[]⟩ (Aaq α n) (A0 Tryz.f139) :=
 D3.OK.mk3 (A7h α n) (show Ab (A0 Tryz.f139)=[(3,(.loop ((A0 Tryz.f139).at [1,1,0,1,0,0])))] by kernel_rfl) ⟨Ad rfl (Amp α n),trivial⟩
theorem Akd (n:Nat):(Aap n).Sound PP:=Lz (fn:=Tryz.f139) (Bc5 _ n)

def Arp (n:Nat) (a0:Rq):Option (Bool × LI × LI) :=
 ob (A7i n a0.2.1) λa =>
 ob (A7i n a0.2.2) λb =>
 some (a0.1,a,b)
def Awv (n:Nat):Ent3:=⟨83,[.im hR],[[.mix [.im .bool,.own 3 hI,.own 3 hI]]],λx=>Arp n x⟩
def Beb (α:Type) (n:Nat):D3 α:={ reg:=[(3,⟨0,[],[(2,{ entB:=some (Aap n),hb:=310 })]⟩),(4,⟨0,[],[(2,{ entB:=some (Aap n),hb:=320 })]⟩)],join:=[],loop:=[] }
theorem B9b (n:Nat):(Awv n).Sound PP:=A8r (fn:=Tryz.f83) (D:=Beb _ n) ⟨Akd n,Akd n,trivial⟩

def A2e {α:Type} (n:Nat) (b:LR) (a:Int) (c:LR) (f:LR->Int->LR->Option α) (k0:LR->Option α):Option α :=
 bif (decide (a<(b.length:Int))) then
  gd (decide (0<=a)&&decide (a<(b.length:Int))) (
   let d:=b.getD a.toNat (false,[],[])
   ob (Arp n d) λe =>
   gd (decide (0<=a)&&decide (a<(c.length:Int))) (
    gd (decide (a.toNat<c.length)) (
     f b (W (a+1)) (c.set a.toNat e))))
 else
  k0 c
abbrev T5:Tm:=⟨[(0,.d hRs),(3,.k (.hw 7)),(4,.d hI)],[(7,.tree 31 hR false)],[],[]⟩
abbrev Axi:Tm:=⟨[(3,.k (.hw 7))],[(7,.tree 31 hR false)],[],[]⟩
abbrev A2d:List (Exit × Tm):=[(.exit 0,Axi)]
def A2c {α:Type} (n:Nat) (v:T5.den) (f:T5.den->Option α) (ks:KS α A2d):Option α:=A2e n v.1.1 v.1.2.2.1 v.2.1 (λa b c=>f ((a,(),b,()),(c,()))) (λw0=>ks.1 (((),()),(w0,())))
def Zm {α:Type} (n m:Nat) (a:LR) (b:Int) (c:LR) (k0:LR->Option α):Option α:=A5 (A2c n) m ((a,(),b,()),(c,())) (λw=>k0 w.2.1,())
theorem Axh {α n m a b c k0}:Zm (α:=α) n (m+1) a b c k0=A2e n a b c (λa b c=>Zm n m a b c k0) k0:=rfl
def Ai3 (n:Nat) (a0:LR):Option LR :=
 gd (decide (0<=(a0.length:Int))&&decide ((a0.length:Int)<=4611686018427387904)&&decide ((56:Int)*(a0.length:Int)<=281474976710656)) (
  Zm n n a0 0 (List.replicate ((a0.length:Int).toNat) (false,[],[]))
   (λa=>(
    some a)))
def Ai1 (n:Nat):Ent3:=⟨32,[.im hRs],[[.one (.tree 31 hR)]],λx=>Ai3 n x⟩
def Ai2 (α:Type) (n:Nat):D3 α:={ reg:=[(1,⟨0,[],[(2,{ tr:=some hR })]⟩),(5,⟨0,[],[(6,{ entB:=some (Awv n),hb:=310 })]⟩)],join:=[],loop:=[(3,⟨T5,A2d,A5 (A2c n) n⟩)] }
theorem Ack (α:Type) (n:Nat):Ao PP (Ah (Ai2 α n).reg):=⟨B9b n,trivial⟩
theorem As3 (α:Type) (n:Nat):LO.Sound (α:=α) PP ⟨23,[]⟩ ⟨T5,A2d,A5 (A2c n) n⟩ (.loop ((A0 Tryz.f32).at [1,1,0,1,0,0])):=Ba (D:=Ai2 α n) (Ack α n) n
theorem Bf0 (α:Type) (n:Nat):D3.OK PP TT ⟨23,[]⟩ (Ai2 α n) (A0 Tryz.f32) :=
 D3.OK.mk3 (Ack α n) (show Ab (A0 Tryz.f32)=[(3,(.loop ((A0 Tryz.f32).at [1,1,0,1,0,0])))] by kernel_rfl) ⟨Ad rfl (As3 α n),trivial⟩
theorem Ao4 (n:Nat):(Ai1 n).Sound PP:=Lz (fn:=Tryz.f32) (Bf0 _ n)

def A4t {α:Type} (n:Nat) (c:Int) (b:LI) (d a:Int) (f:Int->LI->Int->Int->Option α) (k0:Int->Option α) (k1:Unit->Option α):Option α :=
 bif (decide (a<d)) then
  gd (decide (0<=a)&&decide (a<(b.length:Int))) (
   bif (decide ((b.getD a.toNat 0)>c)) then
    k0 2
   else
    f c b d (W (a+1)))
 else
  k1 ()
abbrev Ud:Tm:=⟨[(0,.d hI),(7,.d hIs),(8,.d hI),(9,.d hI)],[],[],[]⟩
abbrev B0t:Tm:=⟨[(4,.d hI)],[],[],[]⟩
abbrev B0s:Tm:=⟨[],[],[],[]⟩
abbrev A4s:List (Exit × Tm):=[(.ret,B0t),(.exit 0,B0s)]
def A4r {α:Type} (n:Nat) (v:Ud.den) (f:Ud.den->Option α) (ks:KS α A4s):Option α:=A4t n v.1.1 v.1.2.1 v.1.2.2.1 v.1.2.2.2.1 (λa b c d=>f ((a,b,c,d,()),())) (λw0=>ks.1 ((w0,()),())) (λ_=>ks.2.1 ((),()))
def Rl {α:Type} (n m:Nat) (a:Int) (b:LI) (c d:Int) (k0:Int->Option α) (k1:Unit->Option α):Option α:=A5 (A4r n) m ((a,b,c,d,()),()) (λw=>k0 w.1.1,λw=>k1 (),())
theorem B0r {α n m a b c d k0 k1}:Rl (α:=α) n (m+1) a b c d k0 k1=A4t n a b c d (λa b c d=>Rl n m a b c d k0 k1) k0 k1:=rfl
def f121 (n:Nat) (a0:Int) (a1:LI):Option Int :=
 Rl n n a0 a1 (a1.length:Int) 0
  (λa=>(
   some a))
  (λ(_:Unit)=>(
   some 0))
def B0u (n:Nat):Ent:=⟨121,[hI,hIs],[hI],λx=>f121 n x.1 x.2⟩
def Akh (α:Type) (n:Nat):D3 α:={ reg:=[],join:=[],loop:=[(2,⟨Ud,A4s,A5 (A4r n) n⟩)] }
theorem Adm (α:Type) (n:Nat):Ao PP (Ah (Akh α n).reg):=trivial
theorem Atr (α:Type) (n:Nat):LO.Sound (α:=α) PP ⟨17,[]⟩ ⟨Ud,A4s,A5 (A4r n) n⟩ (.loop ((A0 Tryz.f121).at [1,0,1,0,0])):=Ba (D:=Akh α n) (Adm α n) n
theorem Bhc (α:Type) (n:Nat):D3.OK PP TT ⟨17,[]⟩ (Akh α n) (A0 Tryz.f121) :=
 D3.OK.mk3 (Adm α n) (show Ab (A0 Tryz.f121)=[(2,(.loop ((A0 Tryz.f121).at [1,0,1,0,0])))] by kernel_rfl) ⟨Ad rfl (Atr α n),trivial⟩
theorem Bcb (n:Nat):(B0u n).Sound PP:=fk (fn:=Tryz.f121) (Bhc _ n)

def A9n {α:Type} (n:Nat) (b:List LR) (d a:Int) (c:LI) (f:(List LR)->Int->Int->LI->Option α) (k0:LI->Option α):Option α :=
 bif (decide (a<d)) then
  gd (decide (0<=a)&&decide (a<(b.length:Int))) (
   gd (decide ((c.length+1)*8<=140737488355328)) (
    f b d (W (a+1)) (c++[(((b.getD a.toNat []).length:Nat):Int)])))
 else
  k0 c
abbrev Ze:Tm:=⟨[(3,.k (.hw 6)),(7,.d (.sl hRs)),(8,.d hI),(9,.d hI)],[(6,.arr 3 hI false)],[16],[]⟩
abbrev B4j:Tm:=⟨[(3,.k (.hw 6))],[(6,.arr 3 hI false)],[],[]⟩
abbrev A9m:List (Exit × Tm):=[(.exit 0,B4j)]
def A9l {α:Type} (n:Nat) (v:Ze.den) (f:Ze.den->Option α) (ks:KS α A9m):Option α:=A9n n v.1.2.1 v.1.2.2.1 v.1.2.2.2.1 v.2.1 (λa b c d=>f (((),a,b,c,()),(d,()))) (λw0=>ks.1 (((),()),(w0,())))
def Wz {α:Type} (n m:Nat) (a:List LR) (b c:Int) (d:LI) (k0:LI->Option α):Option α:=A5 (A9l n) m (((),a,b,c,()),(d,())) (λw=>k0 w.2.1,())
theorem B4i {α n m a b c d k0}:Wz (α:=α) n (m+1) a b c d k0=A9n n a b c d (λa b c d=>Wz n m a b c d k0) k0:=rfl
def f65 (n:Nat) (a0:List LR):Option Int :=
 Wz n n a0 (a0.length:Int) 0 []
  (λa=>(
   ob (f121 n 4096 a) λb =>
   some b))
def Ix (n:Nat):Ent:=⟨65,[(.sl hRs)],[hI],λx=>f65 n x⟩
def Art (α:Type) (n:Nat):D3 α:={ reg:=[(1,⟨0,[],[(0,{ sh:=some hI })]⟩),(5,⟨0,[],[(3,{ sh:=some hI })]⟩),(7,⟨0,[],[(1,{ ent:=some (B0u n) })]⟩)],join:=[],loop:=[(3,⟨Ze,A9m,A5 (A9l n) n⟩)] }
theorem Ahl (α:Type) (n:Nat):Ao PP (Ah (Art α n).reg):=⟨Bcb n,trivial⟩
theorem Ax1 (α:Type) (n:Nat):LO.Sound (α:=α) PP ⟨21,[]⟩ ⟨Ze,A9m,A5 (A9l n) n⟩ (.loop ((A0 Tryz.f65).at [1,1,0,1,0,0])):=Ba (D:=Art α n) (Ahl α n) n
theorem Bj2 (α:Type) (n:Nat):D3.OK PP TT ⟨21,[]⟩ (Art α n) (A0 Tryz.f65) :=
 D3.OK.mk3 (Ahl α n) (show Ab (A0 Tryz.f65)=[(3,(.loop ((A0 Tryz.f65).at [1,1,0,1,0,0])))] by kernel_rfl) ⟨Ad rfl (Ax1 α n),trivial⟩
theorem Ax0 (n:Nat):(Ix n).Sound PP:=fk (fn:=Tryz.f65) (Bj2 _ n)

def f184 (n:Nat) (a0 a1 a2:Int):Option Bool :=
 bif (decide (a1<=a0)) then
  some (decide (a0<=a2))
 else
  some false
def Oe (n:Nat):Ent:=⟨184,[hI,hI,hI],[.bool],λx=>f184 n x.1 x.2.1 x.2.2⟩
def Bgc (α:Type) (n:Nat):D3 α:={ reg:=[],join:=[],loop:=[] }
theorem N4 (n:Nat):(Oe n).Sound PP:=Ay (fn:=Tryz.f184) (D:=Bgc _ n) trivial

def f236 (n:Nat) (a0:Nq):Option Bool :=
 bif (a0.1==1) then
  ob (f184 n a0.2.2.2 0 999999999) λa =>
  some a
 else
  bif (a0.1==2) then
   ob (f184 n a0.2.2.2 0 3) λb =>
   some b
  else
   bif (a0.1==8) then
    ob (f184 n a0.2.2.2 0 8) λc =>
    some c
   else
    some (a0.2.2.2==0)
def Axm (n:Nat):Ent:=⟨236,[hN],[.bool],λx=>f236 n x⟩
def Bf4 (α:Type) (n:Nat):D3 α:={ reg:=[(3,⟨0,[],[(2,{ ent:=some (Oe n) })]⟩),(5,⟨0,[],[(2,{ ent:=some (Oe n) })]⟩),(7,⟨0,[],[(2,{ ent:=some (Oe n) })]⟩)],join:=[],loop:=[] }
theorem B9u (n:Nat):(Axm n).Sound PP:=Ay (fn:=Tryz.f236) (D:=Bf4 _ n) ⟨N4 n,N4 n,N4 n,trivial⟩

def f109 (n:Nat) (a0:Nq):Option Int :=
 bif (a0.1==3) then
  some 2
 else
  bif (a0.1==4) then
   some 2
  else
   bif (a0.1==5) then
    some 2
   else
    bif (a0.1==6) then
     some 2
    else
     bif (a0.1==7) then
      some 1
     else
      bif (a0.1==8) then
       some 1
      else
       some 0
def Y2 (n:Nat):Ent:=⟨109,[hN],[hI],λx=>f109 n x⟩
def Bhj (α:Type) (n:Nat):D3 α:={ reg:=[],join:=[],loop:=[] }
theorem A0b (n:Nat):(Y2 n).Sound PP:=Ay (fn:=Tryz.f109) (D:=Bhj _ n) trivial

def f237 (n:Nat) (a0:Bool) (a1 a2:Int):Option Bool :=
 bif a0 then
  ob (f184 n a1 0 (W (a2-1))) λa =>
  bif a then
   some true
  else
   bif (!a0) then
    some (a1==0)
   else
    some false
 else
  bif (!a0) then
   some (a1==0)
  else
   some false
def Ai6 (n:Nat):Ent:=⟨237,[.bool,hI,(.ref hI)],[.bool],λx=>f237 n x.1 x.2.1 x.2.2⟩
def Bf3 (α:Type) (n:Nat):D3 α:={ reg:=[(1,⟨0,[],[(5,{ ent:=some (Oe n) })]⟩)],join:=[],loop:=[] }
theorem Ao7 (n:Nat):(Ai6 n).Sound PP:=Ay (fn:=Tryz.f237) (D:=Bf3 _ n) ⟨N4 n,trivial⟩

def f229 (n:Nat) (a0:Nq) (a1:Int):Option Bool :=
 ob (f184 n a0.1 1 8) λa =>
 bif (!a) then
  some false
 else
  ob (f236 n a0) λb =>
  bif (!b) then
   some false
  else
   ob (f109 n a0) λc =>
   ob (f237 n (decide (c>0)) a0.2.1 a1) λd =>
   bif d then
    ob (f109 n a0) λe =>
    ob (f237 n (decide (e>1)) a0.2.2.1 a1) λf =>
    some f
   else
    some false
def Axr (n:Nat):Ent:=⟨229,[hN,hI],[.bool],λx=>f229 n x.1 x.2⟩
def Bf9 (α:Type) (n:Nat):D3 α:={ reg:=[(1,⟨0,[],[(2,{ ent:=some (Oe n) }),(6,{ ent:=some (Axm n) })]⟩),(3,⟨0,[],[(0,{ sh:=some (.ref hI) })]⟩),(4,⟨14,[],[(2,{ ent:=some (Y2 n) }),(6,{ ent:=some (Ai6 n) }),(10,{ ent:=some (Y2 n) }),(14,{ ent:=some (Ai6 n) })]⟩)],join:=[],loop:=[] }
theorem Ba0 (n:Nat):(Axr n).Sound PP:=Ay (fn:=Tryz.f229) (D:=Bf9 _ n) ⟨N4 n,B9u n,A0b n,Ao7 n,A0b n,Ao7 n,trivial⟩

def A56 {α:Type} (n:Nat) (c:LN) (d a e g h i:Int) (f:LN->Int->Int->Int->Int->Int->Int->Option α) (k0:Int->Option α) (k1:Unit->Option α):Option α :=
 bif (decide (a<d)) then
  gd (decide (0<=a)&&decide (a<(c.length:Int))) (
   let b:=c.getD a.toNat (0,0,0,0)
   bif (e==b.1&&(g==b.2.1&&(h==b.2.2.1&&(i==b.2.2.2&&true)))) then
    k0 a
   else
    f c d (W (a+1)) e g h i)
 else
  k1 ()
abbrev Uh:Tm:=⟨[(0,.d hNs),(3,.k (.hp 3 0 0)),(7,.d hI),(8,.d hI)],[(3,.var 125 true false [.d hI,.d hI,.d hI,.d hI])],[],[]⟩
abbrev B16:Tm:=⟨[(4,.d hI)],[],[3],[]⟩
abbrev B15:Tm:=⟨[],[],[3],[]⟩
abbrev A55:List (Exit × Tm):=[(.ret,B16),(.exit 0,B15)]
def A54 {α:Type} (n:Nat) (v:Uh.den) (f:Uh.den->Option α) (ks:KS α A55):Option α:=A56 n v.1.1 v.1.2.2.1 v.1.2.2.2.1 v.2.1.1 v.2.1.2.1 v.2.1.2.2.1 v.2.1.2.2.2.1 (λa b c d e g h=>f ((a,(),b,c,()),((d,e,g,h,()),()))) (λw0=>ks.1 ((w0,()),())) (λ_=>ks.2.1 ((),()))
def Ro {α:Type} (n m:Nat) (a:LN) (b c d e f g:Int) (k0:Int->Option α) (k1:Unit->Option α):Option α:=A5 (A54 n) m ((a,(),b,c,()),((d,e,f,g,()),())) (λw=>k0 w.1.1,λw=>k1 (),())
theorem B14 {α n m a b c d e f g k0 k1}:Ro (α:=α) n (m+1) a b c d e f g k0 k1=A56 n a b c d e f g (λa b c d e f g=>Ro n m a b c d e f g k0 k1) k0 k1:=rfl
def f110 (n:Nat) (a0:LN) (a1:Nq):Option Int :=
 Ro n n a0 (a0.length:Int) 0 a1.1 a1.2.1 a1.2.2.1 a1.2.2.2
  (λa=>(
   some a))
  (λ(_:Unit)=>(
   some (-1)))
def B17 (n:Nat):Ent:=⟨110,[hNs,hN],[hI],λx=>f110 n x.1 x.2⟩
def Akn (α:Type) (n:Nat):D3 α:={ reg:=[(4,⟨5,[],[]⟩)],join:=[],loop:=[(2,⟨Uh,A55,A5 (A54 n) n⟩)] }
theorem Adu (α:Type) (n:Nat):Ao PP (Ah (Akn α n).reg):=trivial
theorem Atw (α:Type) (n:Nat):LO.Sound (α:=α) PP ⟨19,[]⟩ ⟨Uh,A55,A5 (A54 n) n⟩ (.loop ((A0 Tryz.f110).at [1,0,1,0,0])):=Ba (D:=Akn α n) (Adu α n) n
theorem Bhi (α:Type) (n:Nat):D3.OK PP TT ⟨19,[]⟩ (Akn α n) (A0 Tryz.f110) :=
 D3.OK.mk3 (Adu α n) (show Ab (A0 Tryz.f110)=[(2,(.loop ((A0 Tryz.f110).at [1,0,1,0,0])))] by kernel_rfl) ⟨Ad rfl (Atw α n),trivial⟩
theorem Bcj (n:Nat):(B17 n).Sound PP:=fk (fn:=Tryz.f110) (Bhi _ n)

def f230 (n:Nat) (a0:LN) (a1:Nq):Option Bool :=
 ob (f110 n a0 a1) λa =>
 some (decide (a>=0))
def Axq (n:Nat):Ent:=⟨230,[hNs,hN],[.bool],λx=>f230 n x.1 x.2⟩
def Bf8 (α:Type) (n:Nat):D3 α:={ reg:=[(1,⟨0,[],[(2,{ ent:=some (B17 n) })]⟩)],join:=[],loop:=[] }
theorem B9y (n:Nat):(Axq n).Sound PP:=Ay (fn:=Tryz.f230) (D:=Bf8 _ n) ⟨Bcj n,trivial⟩

def A36 {α:Type} (n:Nat) (b:LN) (d a:Int) (c:LN) (g:Int) (f:LN->Int->Int->LN->Int->Option α) (k0:Bool->Option α) (k1:Unit->Option α):Option α :=
 bif (decide (a<d)) then
  gd (decide (0<=a)&&decide (a<(b.length:Int))) (
   let e:=b.getD a.toNat (0,0,0,0)
   ob (f229 n e a) λh =>
   bif (!h) then
    k0 false
   else
    gd (decide (0<=a)&&decide (a<=(c.length:Int))) (
     ob (f230 n ((c.drop 0).take (a.toNat-0)) e) λi =>
     bif i then
      k0 false
     else
      f b d (W (a+1)) c g))
 else
  k1 ()
abbrev Tn:Tm:=⟨[(1,.k (.hp 1 0 0)),(20,.d hNs),(21,.d hI),(22,.d hI)],[(1,.var 65 true false [.d hNs,.d hI])],[4],[]⟩
abbrev Ayd:Tm:=⟨[(2,.d .bool)],[],[1,4],[]⟩
abbrev Ayc:Tm:=⟨[],[],[1],[]⟩
abbrev A35:List (Exit × Tm):=[(.ret,Ayd),(.exit 0,Ayc)]
def A34 {α:Type} (n:Nat) (v:Tn.den) (f:Tn.den->Option α) (ks:KS α A35):Option α:=A36 n v.1.2.1 v.1.2.2.1 v.1.2.2.2.1 v.2.1.1 v.2.1.2.1 (λa b c d e=>f (((),a,b,c,()),((d,e,()),()))) (λw0=>ks.1 ((w0,()),())) (λ_=>ks.2.1 ((),()))
def Zt {α:Type} (n m:Nat) (a:LN) (b c:Int) (d:LN) (e:Int) (k0:Bool->Option α) (k1:Unit->Option α):Option α:=A5 (A34 n) m (((),a,b,c,()),((d,e,()),())) (λw=>k0 w.1.1,λw=>k1 (),())
theorem Ayb {α n m a b c d e k0 k1}:Zt (α:=α) n (m+1) a b c d e k0 k1=A36 n a b c d e (λa b c d e=>Zt n m a b c d e k0 k1) k0 k1:=rfl
def f211 (n:Nat) (a0:LN × Int):Option Bool :=
 ob (f184 n (a0.1.length:Int) 1 60) λa =>
 bif (!a) then
  some false
 else
  bif (a0.2 != (W ((a0.1.length:Int)-1))) then
   some false
  else
   Zt n n a0.1 (a0.1.length:Int) 0 a0.1 a0.2
    (λb=>(
     some b))
    (λ(_:Unit)=>(
     some true))
def Aye (n:Nat):Ent:=⟨211,[(.st (.pair hNs hI))],[.bool],λx=>f211 n x⟩
def Air (α:Type) (n:Nat):D3 α:={ reg:=[(1,⟨0,[],[(3,{ ent:=some (Oe n) })]⟩),(6,⟨10,[],[(2,{ ent:=some (Axr n) }),(10,{ ent:=some (Axq n) })]⟩)],join:=[],loop:=[(4,⟨Tn,A35,A5 (A34 n) n⟩)] }
theorem Acw (α:Type) (n:Nat):Ao PP (Ah (Air α n).reg):=⟨N4 n,Ba0 n,B9y n,trivial⟩
theorem Aso (α:Type) (n:Nat):LO.Sound (α:=α) PP ⟨40,[]⟩ ⟨Tn,A35,A5 (A34 n) n⟩ (.loop ((A0 Tryz.f211).at [1,1,0,1,0,0])):=Ba (D:=Air α n) (Acw α n) n
theorem Bfo (α:Type) (n:Nat):D3.OK PP TT ⟨40,[]⟩ (Air α n) (A0 Tryz.f211) :=
 D3.OK.mk3 (Acw α n) (show Ab (A0 Tryz.f211)=[(4,(.loop ((A0 Tryz.f211).at [1,1,0,1,0,0])))] by kernel_rfl) ⟨Ad rfl (Aso α n),trivial⟩
theorem Ba9 (n:Nat):(Aye n).Sound PP:=fk (fn:=Tryz.f211) (Bfo _ n)

def f114 (n:Nat) (a0:Bool) (a1:Int):Option Int :=
 bif a0 then
  some 0
 else
  some a1
def G6 (n:Nat):Ent:=⟨114,[.bool,hI],[hI],λx=>f114 n x.1 x.2⟩
def Bhh (α:Type) (n:Nat):D3 α:={ reg:=[],join:=[],loop:=[] }
theorem N7 (n:Nat):(G6 n).Sound PP:=Ay (fn:=Tryz.f114) (D:=Bhh _ n) trivial

def f166 (n:Nat) (a0:LN × Int):Option Int :=
 ob (f211 n a0) λa =>
 ob (f114 n a 1) λb =>
 some b
def Re (n:Nat):Ent:=⟨166,[(.st (.pair hNs hI))],[hI],λx=>f166 n x⟩
def Bgn (α:Type) (n:Nat):D3 α:={ reg:=[(1,⟨0,[],[(1,{ ent:=some (Aye n) }),(2,{ ent:=some (G6 n) })]⟩)],join:=[],loop:=[] }
theorem Bbt (n:Nat):(Re n).Sound PP:=Ay (fn:=Tryz.f166) (D:=Bgn _ n) ⟨Ba9 n,N7 n,trivial⟩

def f239 (n:Nat) (a0:Int):Option Bool :=
 bif (decide (a0<0)) then
  some true
 else
  some (decide (a0>=10000))
def Axl (n:Nat):Ent:=⟨239,[hI],[.bool],λx=>f239 n x⟩
def Bf2 (α:Type) (n:Nat):D3 α:={ reg:=[],join:=[],loop:=[] }
theorem B9s (n:Nat):(Axl n).Sound PP:=Ay (fn:=Tryz.f239) (D:=Bf2 _ n) trivial

def Nv {α:Type} (n:Nat) (b:LI) (c a:Int) (f:LI->Int->Int->Option α) (k0:Int->Option α) (k1:Unit->Option α):Option α :=
 bif (decide (a<c)) then
  gd (decide (0<=a)&&decide (a<(b.length:Int))) (
   ob (f239 n (b.getD a.toNat 0)) λd =>
   bif d then
    k0 a
   else
    f b c (W (a+1)))
 else
  k1 ()
abbrev Iy:Tm:=⟨[(0,.d hIs),(1,.d (.fn 239)),(7,.d hI),(8,.d hI)],[],[],[]⟩
abbrev Aef:Tm:=⟨[(4,.d hI)],[],[],[]⟩
abbrev Aee:Tm:=⟨[],[],[],[]⟩
abbrev Nu:List (Exit × Tm):=[(.ret,Aef),(.exit 0,Aee)]
def Nt {α:Type} (n:Nat) (v:Iy.den) (f:Iy.den->Option α) (ks:KS α Nu):Option α:=Nv n v.1.1 v.1.2.2.1 v.1.2.2.2.1 (λa b c=>f ((a,(),b,c,()),())) (λw0=>ks.1 ((w0,()),())) (λ_=>ks.2.1 ((),()))
def Ha {α:Type} (n m:Nat) (a:LI) (b c:Int) (k0:Int->Option α) (k1:Unit->Option α):Option α:=A5 (Nt n) m ((a,(),b,c,()),()) (λw=>k0 w.1.1,λw=>k1 (),())
theorem Aed {α n m a b c k0 k1}:Ha (α:=α) n (m+1) a b c k0 k1=Nv n a b c (λa b c=>Ha n m a b c k0 k1) k0 k1:=rfl
def A2f (n:Nat) (a0:LI) (a1:Unit):Option Int :=
 Ha n n a0 (a0.length:Int) 0
  (λa=>(
   some a))
  (λ(_:Unit)=>(
   some (-1)))
def A6l (n:Nat):Ent:=⟨240,[hIs,(.fn 239)],[hI],λx=>A2f n x.1 x.2⟩
def T6 (α:Type) (n:Nat):D3 α:={ reg:=[(4,⟨0,[],[(5,{ ent:=some (Axl n) })]⟩)],join:=[],loop:=[(2,⟨Iy,Nu,A5 (Nt n) n⟩)] }
theorem Vk (α:Type) (n:Nat):Ao PP (Ah (T6 α n).reg):=⟨B9s n,trivial⟩
theorem Aa7 (α:Type) (n:Nat):LO.Sound (α:=α) PP ⟨19,[]⟩ ⟨Iy,Nu,A5 (Nt n) n⟩ (.loop ((A0 Tryz.f240).at [1,0,1,0,0])):=Ba (D:=T6 α n) (Vk α n) n
theorem As6 (α:Type) (n:Nat):D3.OK PP TT ⟨19,[]⟩ (T6 α n) (A0 Tryz.f240) :=
 D3.OK.mk3 (Vk α n) (show Ab (A0 Tryz.f240)=[(2,(.loop ((A0 Tryz.f240).at [1,0,1,0,0])))] by kernel_rfl) ⟨Ad rfl (Aa7 α n),trivial⟩
theorem Am9 (n:Nat):(A6l n).Sound PP:=fk (fn:=Tryz.f240) (As6 _ n)

def Nw (n:Nat) (a0:LI) (a1:Unit):Option Bool :=
 ob (A2f n a0 a1) λa =>
 some (decide (a>=0))
def A6m (n:Nat):Ent:=⟨238,[hIs,(.fn 239)],[.bool],λx=>Nw n x.1 x.2⟩
def As7 (α:Type) (n:Nat):D3 α:={ reg:=[(1,⟨0,[],[(2,{ ent:=some (A6l n) })]⟩)],join:=[],loop:=[] }
theorem Ama (n:Nat):(A6m n).Sound PP:=Ay (fn:=Tryz.f238) (D:=As7 _ n) ⟨Am9 n,trivial⟩

def f231 (n:Nat) (a0:LI):Option Bool :=
 bif (decide ((a0.length:Int)>40)) then
  some false
 else
  bif (decide ((a0.length:Int)>0)) then
   gd (decide (0<=(W ((a0.length:Int)-1)))&&decide ((W ((a0.length:Int)-1))<(a0.length:Int))) (
    bif ((a0.getD ((W ((a0.length:Int)-1)).toNat) 0)==0) then
     some false
    else
     ob (Nw n a0 ()) λa =>
     some (!a))
  else
   ob (Nw n a0 ()) λb =>
   some (!b)
def Ai9 (n:Nat):Ent:=⟨231,[hIs],[.bool],λx=>f231 n x⟩
def Bf7 (α:Type) (n:Nat):D3 α:={ reg:=[(4,⟨0,[],[(1,{ ent:=some (A6m n) })]⟩)],join:=[],loop:=[] }
theorem Ao9 (n:Nat):(Ai9 n).Sound PP:=Ay (fn:=Tryz.f231) (D:=Bf7 _ n) ⟨Ama n,trivial⟩

def f195 (n:Nat) (a0:Rq):Option Bool :=
 some ((a0.2.1.length:Int)==0)
def Od (n:Nat):Ent:=⟨195,[hR],[.bool],λx=>f195 n x⟩
def Bg1 (α:Type) (n:Nat):D3 α:={ reg:=[],join:=[],loop:=[] }
theorem N0 (n:Nat):(Od n).Sound PP:=Ay (fn:=Tryz.f195) (D:=Bg1 _ n) trivial

def f228 (n:Nat) (a0:LI):Option LI :=
 some a0
def Aia (n:Nat):Ent:=⟨228,[hIs],[(.clo 235 (.ref hIs))],λx=>f228 n x⟩
def Bfa (α:Type) (n:Nat):D3 α:={ reg:=[(1,⟨0,[],[(0,{ sh:=some (.ref hIs) })]⟩)],join:=[],loop:=[] }
theorem Aob (n:Nat):(Aia n).Sound PP:=Ay (fn:=Tryz.f228) (D:=Bfa _ n) trivial

def A3a {α:Type} (n:Nat) (i:Nat) (z:Int) (b:LI) (a:LI) (c:Int) (f:LI->LI->Int->Option α) (k0:Int->Option α) (k1:Int->Option α):Option α :=
 gd (decide (0<=(i:Int))&&decide ((i:Int)<(a.length:Int))) (
  bif (z != (a.getD ((i:Int).toNat) 0)) then
   gd (decide (0<=(i:Int))&&decide ((i:Int)<(a.length:Int))) (
    bif (decide (z<(a.getD ((i:Int).toNat) 0))) then
     k1 (-1)
    else
     k1 1)
  else
   f b a c)
abbrev K9:Tm:=⟨[(3,.k (.hp 3 0 0)),(4,.k (.hp 4 0 0)),(18,.d (.clo 235 (.ref hIs)))],[(3,.var 29 true false [.d hIs]),(4,.var 3 true false [.d hI])],[],[]⟩
abbrev Ayp:Tm:=⟨[(4,.k (.hp 4 0 0))],[(4,.var 3 true false [.d hI])],[3],[]⟩
abbrev Ayo:Tm:=⟨[(4,.k (.hp 4 0 0))],[(4,.var 3 true false [.d hI])],[3],[]⟩
abbrev Tp:List (Exit × Tm):=[(.normal,Ayp),(.ret,Ayo)]
def O9 (v:K9.den):List Int:=(λa b c=>a) v.1.2.2.1 v.2.1.1 v.2.2.1.1
def Oa {α:Type} (n:Nat) (i:Nat) (z:Int) (v:K9.den) (f:K9.den->Option α) (ks:KS α Tp):Option α:=A3a n i z v.1.2.2.1 v.2.1.1 v.2.2.1.1 (λa b c=>f (((),(),a,()),((b,()),(c,()),()))) (λw0=>ks.1 (((),()),((w0,()),()))) (λw0=>ks.2.1 (((),()),((w0,()),())))
def Oc {α:Type} (v:K9.den) (ks:KS α Tp):Option α:=(λb c a=>ks.1 (((),()),((a,()),()))) v.1.2.2.1 v.2.1.1 v.2.2.1.1
def Aor {α:Type} (n:Nat) (a:LI) (b:LI) (c:Int) (k0:Int->Option α) (k1:Int->Option α):Option α:=Nh O9 (Oa n) Oc (((),(),a,()),((b,()),(c,()),())) (λw=>k0 w.2.1.1,λw=>k1 w.2.1.1,())
def Ob {α:Type} (n:Nat) (zs:List Int) (i:Nat) (a:LI) (b:LI) (c:Int) (k0:Int->Option α) (k1:Int->Option α):Option α:=Ni O9 (Oa n) zs i (((),(),a,()),((b,()),(c,()),())) (λv=>Oc v (λw=>k0 w.2.1.1,λw=>k1 w.2.1.1,())) (λw=>k0 w.2.1.1,λw=>k1 w.2.1.1,())
theorem Aym {α:Type} (n:Nat) (a:LI) (b:LI) (c:Int) (k0:Int->Option α) (k1:Int->Option α):Aor (α:=α) n a b c k0 k1=gd (decide (a.length<=4611686018427387904)) (Ob n a a.length a b c k0 k1):=rfl
theorem Ayn {α:Type} (n:Nat) (zs:List Int) (b:LI) (c:LI) (a:Int) (k0:Int->Option α) (k1:Int->Option α):Ob (α:=α) n zs 0 b c a k0 k1=k0 a:=rfl
theorem Ayl {α:Type} (n:Nat) (zs:List Int) (i:Nat) (a:LI) (b:LI) (c:Int) (k0:Int->Option α) (k1:Int->Option α):Ob (α:=α) n zs (i+1) a b c k0 k1=A3a n i (zs.getD i 0) a b c (λa b c=>gd (decide (a=zs)) (Ob n zs i a b c k0 k1)) k0 k1:=rfl
def f203 (n:Nat) (a0 a1:LI):Option Int :=
 bif ((a0.length:Int) != (a1.length:Int)) then
  bif (decide ((a0.length:Int)<(a1.length:Int))) then
   some (-1)
  else
   some 1
 else
  ob (f228 n a0) λa =>
  Aor n a a1 0
   (λc=>(
    some 0))
   (λb=>(
    some b))
def Xn (n:Nat):Ent:=⟨203,[hIs,hIs],[hI],λx=>f203 n x.1 x.2⟩
def A6x (α:Type) (n:Nat):D3 α:={ reg:=[(5,⟨0,[],[(1,{ ent:=some (Aia n) })]⟩)],join:=[],loop:=[(6,⟨K9,Tp,Nh O9 (Oa n) Oc⟩)] }
theorem Xm (α:Type) (n:Nat):Ao PP (Ah (A6x α n).reg):=⟨Aob n,trivial⟩
theorem Ast (α:Type) (n:Nat):D3.OK PP TT ⟨33,[]⟩ (A6x α n) ((A0 Tryz.f203).at [1,1,0,1,0,0]) :=
 D3.OK.mk3 (Xm α n) (show Ab ((A0 Tryz.f203).at [1,1,0,1,0,0])=[] by kernel_rfl) trivial
theorem Ass (α:Type) (n:Nat):D3.OK PP TT ⟨33,[]⟩ (A6x α n) ((A0 Tryz.f203).at [1,1,0,1,0,1]) :=
 D3.OK.mk3 (Xm α n) (show Ab ((A0 Tryz.f203).at [1,1,0,1,0,1])=[] by kernel_rfl) trivial
theorem Asr (α:Type) (n:Nat):LO.Sound (α:=α) PP ⟨33,[]⟩ ⟨K9,Tp,Nh O9 (Oa n) Oc⟩ (.rangeFunc (.tmp 18) #[19,20] ((A0 Tryz.f203).at [1,1,0,1,0,0]) ((A0 Tryz.f203).at [1,1,0,1,0,1])) :=
 Ag5 (Qi _) Nj O9 (Oa n) Oc Aq1 rfl rfl rfl rfl (Ast α n) (Ass α n) (by intro v;rfl) (by intro i z v f ks;kernel_rfl) (by intro v ks;kernel_rfl)
theorem Bft (α:Type) (n:Nat):D3.OK PP TT ⟨33,[]⟩ (A6x α n) (A0 Tryz.f203) :=
 D3.OK.mk3 (Xm α n) (show Ab (A0 Tryz.f203)=[(6,(.rangeFunc (.tmp 18) #[19,20] ((A0 Tryz.f203).at [1,1,0,1,0,0]) ((A0 Tryz.f203).at [1,1,0,1,0,1])))] by kernel_rfl) ⟨Ad rfl (Asr α n),trivial⟩
theorem Zu (n:Nat):(Xn n).Sound PP:=fk (fn:=Tryz.f203) (Bft _ n)

def Atu (n:Nat) (a0:LI):Option LI :=
 gd ((!a0.isEmpty)) (
  gd (decide ((0+a0.length)*8<=140737488355328)) (
   some a0))
def Bce (n:Nat):Ent:=⟨117,[hIs],[hIs],λx=>Atu n x⟩
def Bcf (α:Type) (n:Nat):D3 α:={ reg:=[(3,⟨0,[],[(0,{ sh:=some hI })]⟩)],join:=[],loop:=[] }
theorem B68 (n:Nat):(Bce n).Sound PP:=Ay (fn:=Tryz.f117) (D:=Bcf _ n) trivial

set_option maxRecDepth 100000 in
set_option maxHeartbeats 2000000 in
theorem B1s (ad:Option Addr) (cap:Nat) (hc:ad=none->cap=0) (w:World):Calls Tryz.prog 117 #[.slice ad 0 cap] w λe w'=>(∃ a c,e = .returned (.slice a 0 c)/\(a=none->c=0))/\w.grownBy w' none:=by
 refine (callsIn_wide (n:=3)).1 ?_;refine callsIn_of_wp Tryz.func117 rfl trivial ?_ rfl;simp only [Tryz.ntmps117,List.size_toArray,ZC,XB,Nat.reduceAdd,Nat.reduceSub,Array.replicate_succ,Array.replicate_zero,List.push_toArray,List.append_toArray,KQ,YI];have hi:∃ i,Tryz.prog.info? 3=some i:=⟨_,rfl⟩;obtain ⟨i3,hi3⟩:=hi
 have hap:∀ (base:Option Addr) (sCap:Nat) (a:Option Addr) (cp:Nat) (w:World),(Builtin.append_ #[29,29] 29 #[.slice base 0 sCap,.slice a 0 cp]).run Tryz.prog w = .ok (.slice base 0 sCap) w:=λbase sCap a cp w =>
  P7 w 29 29 3 i3 Tryz.underlying29 hi3 base 0 sCap (KG _) a cp
 cases ad with
 | none =>
  obtain rfl:=hc rfl
  have hb:∀ w,(binOp BinOp.eql 29 (.slice none 0 0) (.slice none 0 0)).run Tryz.prog w = .ok (.bool true) w:=λw=>by kernel_rfl
  gi_wp2
  refine bodyPost_ret (results_tmp rfl _ _ _) rfl ?_;exact ⟨⟨none,0,rfl,λ_=>rfl⟩,⟨rfl,rfl,rfl,QY _,λ_ _ _=>rfl⟩⟩
 | some ad =>
  have hb:∀ w,(binOp BinOp.eql 29 (.slice (some ad) 0 cap) (.slice none 0 0)).run Tryz.prog w = .ok (.bool false) w:=λw=>by kernel_rfl
  gi_wp2
  refine bodyPost_ret (results_tmp rfl _ _ _) rfl ?_;exact ⟨⟨_,0,rfl,λ_=>rfl⟩,World.grownBy_alloc w _ none⟩
def f117 (n:Nat) (a0:List Int):Option (List Int):=bif a0.isEmpty then some [] else Atu n a0
def Lg (n:Nat):Ent:=⟨117,[hIs],[hIs],λx=>f117 n x⟩
theorem Akk (nt:Nat):Jk Tryz.prog 117 nt [] [] [.one (.i (.sl 0 false 1 []))] (.v (.one (.i (.sl 0 false 1 [])))) nt []:=by
 refine ⟨⟨Tryz.f117,by kernel_rfl,by kernel_rfl,by kernel_rfl⟩,λw E vs hin hv=>?_⟩
 obtain ⟨hl,hget⟩:=hv
 match vs,hl with
 | [v],_ =>
  have h1:Rv w E v (.one (.i (.sl 0 false 1 []))):=hget 0 v _ rfl rfl
  cases h1 with
  | one h1 =>
   cases h1 with
   | i h1 =>
    cases h1 with
    | sl _ _ _ _ _ _ _ hne=>exact absurd rfl hne
    | nil _ _ cap a _ hn hc =>
     refine (B1s a cap hc w).mono ?_
     rintro e w' ⟨⟨a',c',rfl,hc'⟩,hg⟩
     exact ⟨_,E,rfl,.v (.one (.i (.nil 0 1 c' a' false (λe=>by cases e) hc'))),⟨hg.os,hg.tape,hg.output,hg.size,λb hb _=>hg.block b hb (by simp)⟩,
      ⟨λb hb=>ZU (hin.wf.alt b hb) hg.size,hin.wf.tag,hin.wf.inj,λb h hb=>by cases hin.odom b h hb⟩,λ_ _=>Iff.rfl,QY _,λ_ _=>rfl,λt g ht h=>absurd (hin.wf.tag t g h).1 (Nat.not_lt.2 ht),
      λh b hb=>(by cases hb),λh h' b b' g g' z z' hb=>(by cases hb),λh b g z hb=>(by cases hb),λh b hb=>(by cases hb),λg h hg=>(by cases hin.odom g h hg)⟩
theorem Kb (n:Nat):(Lg n).Sound Tryz.prog:=by
 intro nt x r h
 cases x with
 | cons z l=>exact B68 n nt (z::l) r h
 | nil =>
  have h:some ([]:List Int)=some r:=h;obtain rfl:=QA h;exact Akk nt

def A2m {α:Type} (n:Nat) (b:LI) (a:Int) (f:LI->Int->Option α) (k0:LI->Int->Option α):Option α :=
 bif (decide (a>0)) then
  gd (decide (0<=(W (a-1)))&&decide ((W (a-1))<(b.length:Int))) (
   bif ((b.getD ((W (a-1)).toNat) 0)==0) then
    f b (W (a-1))
   else
    k0 b a)
 else
  k0 b a
abbrev Tg:Tm:=⟨[(0,.d hIs),(3,.d hI)],[],[],[]⟩
abbrev Axy:Tm:=⟨[(0,.d hIs),(3,.d hI)],[],[],[]⟩
abbrev A2l:List (Exit × Tm):=[(.exit 0,Axy)]
def A2k {α:Type} (n:Nat) (v:Tg.den) (f:Tg.den->Option α) (ks:KS α A2l):Option α:=A2m n v.1.1 v.1.2.1 (λa b=>f ((a,b,()),())) (λw0 w1=>ks.1 ((w0,w1,()),()))
def Zo {α:Type} (n m:Nat) (a:LI) (b:Int) (k0:LI->Int->Option α):Option α:=A5 (A2k n) m ((a,b,()),()) (λw=>k0 w.1.1 w.1.2.1,())
theorem Axx {α n m a b k0}:Zo (α:=α) n (m+1) a b k0=A2m n a b (λa b=>Zo n m a b k0) k0:=rfl
def f225 (n:Nat) (a0:LI):Option LI :=
 Zo n n a0 (a0.length:Int)
  (λb a=>(
   gd (decide (0<=a)&&decide (a<=(b.length:Int))) (
    some ((b.drop 0).take (a.toNat-0)))))
def Hd (n:Nat):Ent:=⟨225,[hIs],[hIs],λx=>f225 n x⟩
def Aii (α:Type) (n:Nat):D3 α:={ reg:=[],join:=[],loop:=[(2,⟨Tg,A2l,A5 (A2k n) n⟩)] }
theorem Acn (α:Type) (n:Nat):Ao PP (Ah (Aii α n).reg):=trivial
theorem Asg (α:Type) (n:Nat):LO.Sound (α:=α) PP ⟨21,[]⟩ ⟨Tg,A2l,A5 (A2k n) n⟩ (.loop ((A0 Tryz.f225).at [1,1,0,0,0])):=Ba (D:=Aii α n) (Acn α n) n
theorem Bfd (α:Type) (n:Nat):D3.OK PP TT ⟨21,[]⟩ (Aii α n) (A0 Tryz.f225) :=
 D3.OK.mk3 (Acn α n) (show Ab (A0 Tryz.f225)=[(2,(.loop ((A0 Tryz.f225).at [1,1,0,0,0])))] by kernel_rfl) ⟨Ad rfl (Asg α n),trivial⟩
theorem Qx (n:Nat):(Hd n).Sound PP:=fk (fn:=Tryz.f225) (Bfd _ n)

def A4g {α:Type} (n:Nat) (a:Int) (b:LI) (f:Int->LI->Option α) (k0:LI->Option α):Option α :=
 bif (decide (a>0)) then
  gd (decide ((b.length+1)*8<=140737488355328)) (
   f (W (Int.tdiv a 10000)) (b++[(Int.tmod a 10000)]))
 else
  k0 b
abbrev U6:Tm:=⟨[(0,.d hI),(3,.k (.hw 4))],[(4,.arr 3 hI false)],[12],[]⟩
abbrev B02:Tm:=⟨[(3,.k (.hw 4))],[(4,.arr 3 hI false)],[],[]⟩
abbrev A4f:List (Exit × Tm):=[(.exit 0,B02)]
def A4e {α:Type} (n:Nat) (v:U6.den) (f:U6.den->Option α) (ks:KS α A4f):Option α:=A4g n v.1.1 v.2.1 (λa b=>f ((a,(),()),(b,()))) (λw0=>ks.1 (((),()),(w0,())))
def A03 {α:Type} (n m:Nat) (a:Int) (b:LI) (k0:LI->Option α):Option α:=A5 (A4e n) m ((a,(),()),(b,())) (λw=>k0 w.2.1,())
theorem B01 {α n m a b k0}:A03 (α:=α) n (m+1) a b k0=A4g n a b (λa b=>A03 n m a b k0) k0:=rfl
def f179 (n:Nat) (a0:Int):Option LI :=
 A03 n n a0 []
  (λa=>(
   some a))
def Le (n:Nat):Ent:=⟨179,[hI],[hIs],λx=>f179 n x⟩
def Aju (α:Type) (n:Nat):D3 α:={ reg:=[(1,⟨0,[],[(0,{ sh:=some hI })]⟩),(4,⟨0,[],[(3,{ sh:=some hI })]⟩)],join:=[],loop:=[(2,⟨U6,A4f,A5 (A4e n) n⟩)] }
theorem Add (α:Type) (n:Nat):Ao PP (Ah (Aju α n).reg):=trivial
theorem Ati (α:Type) (n:Nat):LO.Sound (α:=α) PP ⟨15,[]⟩ ⟨U6,A4f,A5 (A4e n) n⟩ (.loop ((A0 Tryz.f179).at [1,1,0,0,0])):=Ba (D:=Aju α n) (Add α n) n
theorem Bgf (α:Type) (n:Nat):D3.OK PP TT ⟨15,[]⟩ (Aju α n) (A0 Tryz.f179) :=
 D3.OK.mk3 (Add α n) (show Ab (A0 Tryz.f179)=[(2,(.loop ((A0 Tryz.f179).at [1,1,0,0,0])))] by kernel_rfl) ⟨Ad rfl (Ati α n),trivial⟩
theorem Aal (n:Nat):(Le n).Sound PP:=fk (fn:=Tryz.f179) (Bgf _ n)

end Go.Ev
