/- DERIVED. What the functions compute, and that they do. -/
import Derived.Test.YtaebdcandpfmgaaGreatEe

set_option linter.all false
set_option linter.unusedVariables false
set_option linter.unusedSimpArgs false

namespace Go.Ev
open Go Go.Proofs Go.RowKit Go.Shelf
def f80 (n:Nat) (a0:LN) (a1:Int):Option Int :=
 bif (decide ((W (a1 - (a0.length:Int))) < 0)) then
  some (-1)
 else
  some (W (a1 - (a0.length:Int)))
def Ay5 (n:Nat):Ent:=⟨80,[hNs,hI],[hI],fun x=>f80 n x.1 x.2⟩
def B8a (α:Type) (n:Nat):D3 α:={ reg:=[],join:=[],loop:=[] }
theorem B42 (n:Nat):(Ay5 n).Sound PP:=As (fn:=Tryz.f80) (D:=B8a _ n) trivial

def f41 (n:Nat) (a0:LN × Int) (a1:Int):Option Int :=
 ob (f80 n a0.1 a1) fun a =>
 bif (decide (a < 0)) then
  some (-1)
 else
  some a
def Aya (n:Nat):Ent:=⟨41,[(.st (.pair hNs hI)),hI],[hI],fun x=>f41 n x.1 x.2⟩
def B8k (α:Type) (n:Nat):D3 α:={ reg:=[(1,⟨0,[],[(3,{ ent:=some (Ay5 n) })]⟩)],join:=[],loop:=[] }
theorem B4g (n:Nat):(Aya n).Sound PP:=As (fn:=Tryz.f41) (D:=B8k _ n) ⟨B42 n,trivial⟩

def f137 (n:Nat) (a0:LI) (a1:Int):Option Int :=
 bif (decide ((W (a1 - (a0.length:Int))) < 0)) then
  some (-1)
 else
  some (W (a1 - (a0.length:Int)))
def Ae1 (n:Nat):Ent:=⟨137,[hIs,hI],[hI],fun x=>f137 n x.1 x.2⟩
def B6p (α:Type) (n:Nat):D3 α:={ reg:=[],join:=[],loop:=[] }
theorem Aio (n:Nat):(Ae1 n).Sound PP:=As (fn:=Tryz.f137) (D:=B6p _ n) trivial

def f81 (n:Nat) (a0:Rq) (a1:Int):Option Int :=
 ob (f137 n a0.2.1 a1) fun a =>
 bif (decide (a < 0)) then
  some (-1)
 else
  ob (f137 n a0.2.2 a) fun b =>
  bif (decide (b < 0)) then
   some (-1)
  else
   some b
def Ay4 (n:Nat):Ent:=⟨81,[hR,hI],[hI],fun x=>f81 n x.1 x.2⟩
def B89 (α:Type) (n:Nat):D3 α:={ reg:=[(1,⟨0,[],[(3,{ ent:=some (Ae1 n) })]⟩),(4,⟨0,[],[(3,{ ent:=some (Ae1 n) })]⟩)],join:=[],loop:=[] }
theorem B40 (n:Nat):(Ay4 n).Sound PP:=As (fn:=Tryz.f81) (D:=B89 _ n) ⟨Aio n,Aio n,trivial⟩

def A5n {α:Type} (n:Nat) (b:LR) (c a:Int) (f:LR->Int->Int->Option α) (k0 k1:Int->Option α):Option α :=
 bif (decide (a < (b.length:Int))) then
  gd (decide (0 <= a) && decide (a < (b.length:Int))) (
   let e:=b.getD a.toNat (false,[],[])
   ob (f81 n e c) fun d =>
   bif (decide (d < 0)) then
    k0 (-1)
   else
    f b d (W (a + 1)))
 else
  k1 c
abbrev Wg:Tm:=⟨[(0,.d hRs),(1,.d hI),(5,.d hI)],[],[],[]⟩
abbrev Awc:Tm:=⟨[(4,.d hI)],[],[],[]⟩
abbrev Awb:Tm:=⟨[(1,.d hI)],[],[],[]⟩
abbrev A5m:List (Exit × Tm):=[(.ret,Awc),(.exit 0,Awb)]
def A5l {α:Type} (n:Nat) (v:Wg.den) (f:Wg.den->Option α) (ks:KS α A5m):Option α:=A5n n v.1.1 v.1.2.1 v.1.2.2.1 (fun a b c=>f ((a,b,c,()),())) (fun w0=>ks.1 ((w0,()),())) (fun w0=>ks.2.1 ((w0,()),()))
def A2w {α:Type} (n m:Nat) (a:LR) (b c:Int) (k0 k1:Int->Option α):Option α:=A5 (A5l n) m ((a,b,c,()),()) (fun w=>k0 w.1.1,fun w=>k1 w.1.1,())
theorem Awa {α n m a b c k0 k1}:A2w (α:=α) n (m + 1) a b c k0 k1 = A5n n a b c (fun a b c=>A2w n m a b c k0 k1) k0 k1:=rfl
def f30 (n:Nat) (a0:LR) (a1:Int):Option Int :=
 bif (decide ((W (a1 - (a0.length:Int))) < 0)) then
  some (-1)
 else
  A2w n n a0 (W (a1 - (a0.length:Int))) 0
   (fun a=>(
    some a))
   (fun b=>(
    some b))
def Ayd (n:Nat):Ent:=⟨30,[hRs,hI],[hI],fun x=>f30 n x.1 x.2⟩
def Akw (α:Type) (n:Nat):D3 α:={ reg:=[(7,⟨0,[],[(5,{ ent:=some (Ay4 n) })]⟩)],join:=[],loop:=[(5,⟨Wg,A5m,A5 (A5l n) n⟩)] }
theorem Acm (α:Type) (n:Nat):Al PP (Ah (Akw α n).reg):=⟨B40 n,trivial⟩
theorem Apk (α:Type) (n:Nat):LO.Sound (α:=α) PP ⟨27,[]⟩ ⟨Wg,A5m,A5 (A5l n) n⟩ (.loop ((A1 Tryz.f30).at [1,1,1,0,1,0,0])):=Bb (D:=Akw α n) (Acm α n) n
theorem B8p (α:Type) (n:Nat):D3.OK PP TT ⟨27,[]⟩ (Akw α n) (A1 Tryz.f30) :=
 D3.OK.mk3 (Acm α n) (show Aa (A1 Tryz.f30) = [(5,(.loop ((A1 Tryz.f30).at [1,1,1,0,1,0,0])))] by kernel_rfl) ⟨Ab rfl (Apk α n),trivial⟩
theorem B4n (n:Nat):(Ayd n).Sound PP:=fk (fn:=Tryz.f30) (B8p _ n)

def f138 (n:Nat) (a0:Nq):Option Nq :=
 some a0
def Ae0 (n:Nat):Ent:=⟨138,[hN],[hN],fun x=>f138 n x⟩
def B6o (α:Type) (n:Nat):D3 α:={ reg:=[],join:=[],loop:=[] }
theorem Ain (n:Nat):(Ae0 n).Sound PP:=As (fn:=Tryz.f138) (D:=B6o _ n) trivial

def W0 {α:Type} (n:Nat) (b:LN) (a:Int) (c:LN) (f:LN->Int->LN->Option α) (k0:LN->Option α):Option α :=
 bif (decide (a < (b.length:Int))) then
  gd (decide (0 <= a) && decide (a < (b.length:Int))) (
   let d:=b.getD a.toNat (0,0,0,0)
   ob (f138 n d) fun e =>
   gd (decide (0 <= a) && decide (a < (c.length:Int))) (
    gd (decide (a.toNat < c.length)) (
     f b (W (a + 1)) (c.set a.toNat e))))
 else
  k0 c
abbrev Vz:Tm:=⟨[(0,.d hNs),(3,.k (.hw 7)),(4,.d hI)],[(7,.arr 125 hN false)],[],[]⟩
abbrev Avu:Tm:=⟨[(3,.k (.hw 7))],[(7,.arr 125 hN false)],[],[]⟩
abbrev A52:List (Exit × Tm):=[(.exit 0,Avu)]
def A51 {α:Type} (n:Nat) (v:Vz.den) (f:Vz.den->Option α) (ks:KS α A52):Option α:=W0 n v.1.1 v.1.2.2.1 v.2.1 (fun a b c=>f ((a,(),b,()),(c,()))) (fun w0=>ks.1 (((),()),(w0,())))
def U3 {α:Type} (n m:Nat) (a:LN) (b:Int) (c:LN) (k0:LN->Option α):Option α:=A5 (A51 n) m ((a,(),b,()),(c,())) (fun w=>k0 w.2.1,())
theorem Ac0 {α n m a b c k0}:U3 (α:=α) n (m + 1) a b c k0 = W0 n a b c (fun a b c=>U3 n m a b c k0) k0:=rfl
def f82 (n:Nat) (a0:LN):Option LN :=
 gd (decide (0 <= (a0.length:Int)) && decide ((a0.length:Int) <= 4611686018427387904) && decide ((32:Int) * (a0.length:Int) <= 281474976710656)) (
  U3 n n a0 0 (List.replicate ((a0.length:Int).toNat) (0,0,0,0))
   (fun a=>(
    some a)))
def Ay3 (n:Nat):Ent:=⟨82,[hNs],[hNs],fun x=>f82 n x⟩
def Aki (α:Type) (n:Nat):D3 α:={ reg:=[(5,⟨0,[],[(6,{ ent:=some (Ae0 n) })]⟩)],join:=[],loop:=[(3,⟨Vz,A52,A5 (A51 n) n⟩)] }
theorem Abz (α:Type) (n:Nat):Al PP (Ah (Aki α n).reg):=⟨Ain n,trivial⟩
theorem Aox (α:Type) (n:Nat):LO.Sound (α:=α) PP ⟨23,[]⟩ ⟨Vz,A52,A5 (A51 n) n⟩ (.loop ((A1 Tryz.f82).at [1,1,0,1,0,0])):=Bb (D:=Aki α n) (Abz α n) n
theorem B88 (α:Type) (n:Nat):D3.OK PP TT ⟨23,[]⟩ (Aki α n) (A1 Tryz.f82) :=
 D3.OK.mk3 (Abz α n) (show Aa (A1 Tryz.f82) = [(3,(.loop ((A1 Tryz.f82).at [1,1,0,1,0,0])))] by kernel_rfl) ⟨Ab rfl (Aox α n),trivial⟩
theorem B3y (n:Nat):(Ay3 n).Sound PP:=fk (fn:=Tryz.f82) (B88 _ n)

def f43 (n:Nat) (a0:LN × Int):Option (LN × Int) :=
 ob (f82 n a0.1) fun a =>
 some (a,a0.2)
def A9w (n:Nat):Ent:=⟨43,[(.st (.pair hNs hI))],[(.st (.pair hNs hI))],fun x=>f43 n x⟩
def B8j (α:Type) (n:Nat):D3 α:={ reg:=[(2,⟨0,[],[(2,{ ent:=some (Ay3 n) })]⟩)],join:=[],loop:=[] }
theorem Ac9 (n:Nat):(A9w n).Sound PP:=As (fn:=Tryz.f43) (D:=B8j _ n) ⟨B3y n,trivial⟩

def A16 {α:Type} (n:Nat) (b:LI) (a:Int) (c:LI) (f:LI->Int->LI->Option α) (k0:LI->Option α):Option α :=
 bif (decide (a < (b.length:Int))) then
  gd (decide (0 <= a) && decide (a < (b.length:Int))) (
   gd (decide (0 <= a) && decide (a < (c.length:Int))) (
    gd (decide (a.toNat < c.length)) (
     f b (W (a + 1)) (c.set a.toNat (b.getD a.toNat 0)))))
 else
  k0 c
abbrev R9:Tm:=⟨[(0,.d hIs),(3,.k (.hw 7)),(4,.d hI)],[(7,.arr 3 hI false)],[],[]⟩
abbrev Asj:Tm:=⟨[(3,.k (.hw 7))],[(7,.arr 3 hI false)],[],[]⟩
abbrev A15:List (Exit × Tm):=[(.exit 0,Asj)]
def A14 {α:Type} (n:Nat) (v:R9.den) (f:R9.den->Option α) (ks:KS α A15):Option α:=A16 n v.1.1 v.1.2.2.1 v.2.1 (fun a b c=>f ((a,(),b,()),(c,()))) (fun w0=>ks.1 (((),()),(w0,())))
def Wy {α:Type} (n m:Nat) (a:LI) (b:Int) (c:LI) (k0:LI->Option α):Option α:=A5 (A14 n) m ((a,(),b,()),(c,())) (fun w=>k0 w.2.1,())
theorem Asi {α n m a b c k0}:Wy (α:=α) n (m + 1) a b c k0 = A16 n a b c (fun a b c=>Wy n m a b c k0) k0:=rfl
def f139 (n:Nat) (a0:LI):Option LI :=
 gd (decide (0 <= (a0.length:Int)) && decide ((a0.length:Int) <= 4611686018427387904) && decide ((8:Int) * (a0.length:Int) <= 281474976710656)) (
  Wy n n a0 0 (List.replicate ((a0.length:Int).toNat) 0)
   (fun a=>(
    some a)))
def Adw (n:Nat):Ent:=⟨139,[hIs],[hIs],fun x=>f139 n x⟩
def Adx (α:Type) (n:Nat):D3 α:={ reg:=[],join:=[],loop:=[(3,⟨R9,A15,A5 (A14 n) n⟩)] }
theorem A8j (α:Type) (n:Nat):Al PP (Ah (Adx α n).reg):=trivial
theorem Am4 (α:Type) (n:Nat):LO.Sound (α:=α) PP ⟨22,[]⟩ ⟨R9,A15,A5 (A14 n) n⟩ (.loop ((A1 Tryz.f139).at [1,1,0,1,0,0])):=Bb (D:=Adx α n) (A8j α n) n
theorem B6n (α:Type) (n:Nat):D3.OK PP TT ⟨22,[]⟩ (Adx α n) (A1 Tryz.f139) :=
 D3.OK.mk3 (A8j α n) (show Aa (A1 Tryz.f139) = [(3,(.loop ((A1 Tryz.f139).at [1,1,0,1,0,0])))] by kernel_rfl) ⟨Ab rfl (Am4 α n),trivial⟩
theorem Ail (n:Nat):(Adw n).Sound PP:=fk (fn:=Tryz.f139) (B6n _ n)

def f83 (n:Nat) (a0:Rq):Option Rq :=
 ob (f139 n a0.2.1) fun a =>
 ob (f139 n a0.2.2) fun b =>
 some (a0.1,a,b)
def Ay2 (n:Nat):Ent:=⟨83,[hR],[hR],fun x=>f83 n x⟩
def B87 (α:Type) (n:Nat):D3 α:={ reg:=[(3,⟨0,[],[(2,{ ent:=some (Adw n) })]⟩),(4,⟨0,[],[(2,{ ent:=some (Adw n) })]⟩)],join:=[],loop:=[] }
theorem B3v (n:Nat):(Ay2 n).Sound PP:=As (fn:=Tryz.f83) (D:=B87 _ n) ⟨Ail n,Ail n,trivial⟩

def A5k {α:Type} (n:Nat) (b:LR) (a:Int) (c:LR) (f:LR->Int->LR->Option α) (k0:LR->Option α):Option α :=
 bif (decide (a < (b.length:Int))) then
  gd (decide (0 <= a) && decide (a < (b.length:Int))) (
   let d:=b.getD a.toNat (false,[],[])
   ob (f83 n d) fun e =>
   gd (decide (0 <= a) && decide (a < (c.length:Int))) (
    gd (decide (a.toNat < c.length)) (
     f b (W (a + 1)) (c.set a.toNat e))))
 else
  k0 c
abbrev We:Tm:=⟨[(0,.d hRs),(3,.k (.hw 7)),(4,.d hI)],[(7,.arr 31 hR false)],[],[]⟩
abbrev Aw9:Tm:=⟨[(3,.k (.hw 7))],[(7,.arr 31 hR false)],[],[]⟩
abbrev A5j:List (Exit × Tm):=[(.exit 0,Aw9)]
def A5i {α:Type} (n:Nat) (v:We.den) (f:We.den->Option α) (ks:KS α A5j):Option α:=A5k n v.1.1 v.1.2.2.1 v.2.1 (fun a b c=>f ((a,(),b,()),(c,()))) (fun w0=>ks.1 (((),()),(w0,())))
def A2v {α:Type} (n m:Nat) (a:LR) (b:Int) (c:LR) (k0:LR->Option α):Option α:=A5 (A5i n) m ((a,(),b,()),(c,())) (fun w=>k0 w.2.1,())
theorem Aw8 {α n m a b c k0}:A2v (α:=α) n (m + 1) a b c k0 = A5k n a b c (fun a b c=>A2v n m a b c k0) k0:=rfl
def f32 (n:Nat) (a0:LR):Option LR :=
 gd (decide (0 <= (a0.length:Int)) && decide ((a0.length:Int) <= 4611686018427387904) && decide ((56:Int) * (a0.length:Int) <= 281474976710656)) (
  A2v n n a0 0 (List.replicate ((a0.length:Int).toNat) (false,[],[]))
   (fun a=>(
    some a)))
def A9x (n:Nat):Ent:=⟨32,[hRs],[hRs],fun x=>f32 n x⟩
def Akt (α:Type) (n:Nat):D3 α:={ reg:=[(5,⟨0,[],[(6,{ ent:=some (Ay2 n) })]⟩)],join:=[],loop:=[(3,⟨We,A5j,A5 (A5i n) n⟩)] }
theorem Acj (α:Type) (n:Nat):Al PP (Ah (Akt α n).reg):=⟨B3v n,trivial⟩
theorem Apg (α:Type) (n:Nat):LO.Sound (α:=α) PP ⟨23,[]⟩ ⟨We,A5j,A5 (A5i n) n⟩ (.loop ((A1 Tryz.f32).at [1,1,0,1,0,0])):=Bb (D:=Akt α n) (Acj α n) n
theorem B8o (α:Type) (n:Nat):D3.OK PP TT ⟨23,[]⟩ (Akt α n) (A1 Tryz.f32) :=
 D3.OK.mk3 (Acj α n) (show Aa (A1 Tryz.f32) = [(3,(.loop ((A1 Tryz.f32).at [1,1,0,1,0,0])))] by kernel_rfl) ⟨Ab rfl (Apg α n),trivial⟩
theorem Ach (n:Nat):(A9x n).Sound PP:=fk (fn:=Tryz.f32) (B8o _ n)

def f174 (n:Nat) (a0 a1 a2:Int):Option Bool :=
 bif (decide (a1 <= a0)) then
  some (decide (a0 <= a2))
 else
  some false
def Cz (n:Nat):Ent:=⟨174,[hI,hI,hI],[.bool],fun x=>f174 n x.1 x.2.1 x.2.2⟩
def B64 (α:Type) (n:Nat):D3 α:={ reg:=[],join:=[],loop:=[] }
theorem Cm (n:Nat):(Cz n).Sound PP:=As (fn:=Tryz.f174) (D:=B64 _ n) trivial

def f155 (n:Nat) (a0:Int):Option Bool :=
 ob (f174 n a0 3 6) fun a =>
 some a
def Adr (n:Nat):Ent:=⟨155,[hI],[.bool],fun x=>f155 n x⟩
def B6d (α:Type) (n:Nat):D3 α:={ reg:=[(1,⟨0,[],[(1,{ ent:=some (Cz n) })]⟩)],join:=[],loop:=[] }
theorem Aig (n:Nat):(Adr n).Sound PP:=As (fn:=Tryz.f155) (D:=B6d _ n) ⟨Cm n,trivial⟩

def f156 (n:Nat) (a0:Int):Option Bool :=
 bif (a0 == 7) then
  some true
 else
  some (a0 == 8)
def Adq (n:Nat):Ent:=⟨156,[hI],[.bool],fun x=>f156 n x⟩
def B6c (α:Type) (n:Nat):D3 α:={ reg:=[],join:=[],loop:=[] }
theorem Aie (n:Nat):(Adq n).Sound PP:=As (fn:=Tryz.f156) (D:=B6c _ n) trivial

def f170 (n:Nat) (a0:Bool):Option Int :=
 bif a0 then
  some 1
 else
  some 0
def Ot (n:Nat):Ent:=⟨170,[.bool],[hI],fun x=>f170 n x⟩
def B66 (α:Type) (n:Nat):D3 α:={ reg:=[],join:=[],loop:=[] }
theorem Or (n:Nat):(Ot n).Sound PP:=As (fn:=Tryz.f170) (D:=B66 _ n) trivial

def f175 (n:Nat) (a0:Nq) (a1:Int):Option Bool :=
 ob (f174 n a0.1 1 8) fun a =>
 bif (!a) then
  some false
 else
  ob (f155 n a0.1) fun b =>
  bif b then
   ob (f174 n a0.2.1 0 (W (a1 - 1))) fun c =>
   bif c then
    ob (f174 n a0.2.2.1 (W (a0.2.1 + 1)) (W (a1 - 1))) fun d =>
    bif d then
     some (a0.2.2.2 == 0)
    else
     some false
   else
    some false
  else
   ob (f156 n a0.1) fun e =>
   bif e then
    bif (a0.2.1 == (W (a1 - 1))) then
     bif (decide (a1 > 0)) then
      bif (a0.2.2.1 == 0) then
       ob (f170 n (a0.1 == 8)) fun f =>
       ob (f174 n a0.2.2.2 0 (W (8 * f))) fun g =>
       some g
      else
       some false
     else
      some false
    else
     some false
   else
    bif (a0.1 == 2) then
     bif (a0.2.1 == 0) then
      bif (a0.2.2.1 == 0) then
       ob (f174 n a0.2.2.2 0 3) fun h =>
       some h
      else
       some false
     else
      some false
    else
     bif (a0.2.1 == 0) then
      bif (a0.2.2.1 == 0) then
       ob (f174 n a0.2.2.2 0 999999999) fun i =>
       some i
      else
       some false
     else
      some false
def As1 (n:Nat):Ent:=⟨175,[hN,hI],[.bool],fun x=>f175 n x.1 x.2⟩
def B63 (α:Type) (n:Nat):D3 α:={ reg:=[(1,⟨0,[],[(2,{ ent:=some (Cz n) })]⟩),(3,⟨0,[],[(2,{ ent:=some (Adr n) })]⟩),(4,⟨0,[],[(4,{ ent:=some (Cz n) }),(13,{ ent:=some (Cz n) })]⟩),(5,⟨0,[],[(2,{ ent:=some (Adq n) })]⟩),(6,⟨22,[],[(20,{ ent:=some (Ot n) }),(22,{ ent:=some (Cz n) })]⟩),(8,⟨0,[],[(11,{ ent:=some (Cz n) })]⟩),(9,⟨0,[],[(11,{ ent:=some (Cz n) })]⟩)],join:=[],loop:=[] }
theorem B1i (n:Nat):(As1 n).Sound PP:=As (fn:=Tryz.f175) (D:=B63 _ n) ⟨Cm n,Aig n,Cm n,Cm n,Aie n,Or n,Cm n,Cm n,Cm n,trivial⟩

def f210 (n:Nat) (a0:Nq) (a1:Int):Option Bool :=
 ob (f155 n a0.1) fun a =>
 bif a then
  ob (f174 n a0.2.1 0 (W (a1 - 1))) fun b =>
  bif b then
   ob (f174 n a0.2.2.1 0 (W (a1 - 1))) fun c =>
   bif c then
    some (a0.2.2.2 == 0)
   else
    some false
  else
   some false
 else
  ob (f156 n a0.1) fun d =>
  bif d then
   ob (f174 n a0.2.1 0 (W (a1 - 1))) fun e =>
   bif e then
    bif (a0.2.2.1 == 0) then
     ob (f170 n (a0.1 == 8)) fun f =>
     ob (f174 n a0.2.2.2 0 (W (8 * f))) fun g =>
     some g
    else
     some false
   else
    some false
  else
   ob (f175 n a0 a1) fun h =>
   some h
def Aqf (n:Nat):Ent:=⟨210,[hN,hI],[.bool],fun x=>f210 n x.1 x.2⟩
def B5a (α:Type) (n:Nat):D3 α:={ reg:=[(1,⟨0,[],[(2,{ ent:=some (Adr n) })]⟩),(2,⟨0,[],[(4,{ ent:=some (Cz n) }),(10,{ ent:=some (Cz n) })]⟩),(3,⟨0,[],[(2,{ ent:=some (Adq n) })]⟩),(4,⟨18,[],[(4,{ ent:=some (Cz n) }),(16,{ ent:=some (Ot n) }),(18,{ ent:=some (Cz n) })]⟩),(5,⟨0,[],[(2,{ ent:=some (As1 n) })]⟩)],join:=[],loop:=[] }
theorem B0c (n:Nat):(Aqf n).Sound PP:=As (fn:=Tryz.f210) (D:=B5a _ n) ⟨Aig n,Cm n,Cm n,Aie n,Cm n,Or n,Cm n,B1i n,trivial⟩

def A03 {α:Type} (n:Nat) (b:LN) (a d e g h:Int) (f:LN->Int->Int->Int->Int->Int->Option α) (k0:Int->Option α) (k1:Unit->Option α):Option α :=
 bif (decide (a < (b.length:Int))) then
  gd (decide (0 <= a) && decide (a < (b.length:Int))) (
   let c:=b.getD a.toNat (0,0,0,0)
   bif (c.1 == d && (c.2.1 == e && (c.2.2.1 == g && (c.2.2.2 == h && true)))) then
    k0 a
   else
    f b (W (a + 1)) d e g h)
 else
  k1 ()
abbrev Qt:Tm:=⟨[(0,.d hNs),(3,.k (.hp 3 0 0)),(5,.d hI)],[(3,.var 125 true false [.d hI,.d hI,.d hI,.d hI])],[],[]⟩
abbrev Ar1:Tm:=⟨[(4,.d hI)],[],[3],[]⟩
abbrev Ar0:Tm:=⟨[],[],[3],[]⟩
abbrev A02:List (Exit × Tm):=[(.ret,Ar1),(.exit 0,Ar0)]
def A01 {α:Type} (n:Nat) (v:Qt.den) (f:Qt.den->Option α) (ks:KS α A02):Option α:=A03 n v.1.1 v.1.2.2.1 v.2.1.1 v.2.1.2.1 v.2.1.2.2.1 v.2.1.2.2.2.1 (fun a b c d e g=>f ((a,(),b,()),((c,d,e,g,()),()))) (fun w0=>ks.1 ((w0,()),())) (fun _=>ks.2.1 ((),()))
def Wn {α:Type} (n m:Nat) (a:LN) (b c d e f:Int) (k0:Int->Option α) (k1:Unit->Option α):Option α:=A5 (A01 n) m ((a,(),b,()),((c,d,e,f,()),())) (fun w=>k0 w.1.1,fun w=>k1 (),())
theorem Aqz {α n m a b c d e f k0 k1}:Wn (α:=α) n (m + 1) a b c d e f k0 k1 = A03 n a b c d e f (fun a b c d e f=>Wn n m a b c d e f k0 k1) k0 k1:=rfl
def f199 (n:Nat) (a0:LN) (a1:Nq):Option Int :=
 Wn n n a0 0 a1.1 a1.2.1 a1.2.2.1 a1.2.2.2
  (fun a=>(
   some a))
  (fun (_:Unit)=>(
   some (-1)))
def Ar2 (n:Nat):Ent:=⟨199,[hNs,hN],[hI],fun x=>f199 n x.1 x.2⟩
def Adb (α:Type) (n:Nat):D3 α:={ reg:=[(4,⟨5,[],[]⟩)],join:=[],loop:=[(2,⟨Qt,A02,A5 (A01 n) n⟩)] }
theorem A82 (α:Type) (n:Nat):Al PP (Ah (Adb α n).reg):=trivial
theorem Alm (α:Type) (n:Nat):LO.Sound (α:=α) PP ⟨19,[]⟩ ⟨Qt,A02,A5 (A01 n) n⟩ (.loop ((A1 Tryz.f199).at [1,0,1,0,0])):=Bb (D:=Adb α n) (A82 α n) n
theorem B5i (α:Type) (n:Nat):D3.OK PP TT ⟨19,[]⟩ (Adb α n) (A1 Tryz.f199) :=
 D3.OK.mk3 (A82 α n) (show Aa (A1 Tryz.f199) = [(2,(.loop ((A1 Tryz.f199).at [1,0,1,0,0])))] by kernel_rfl) ⟨Ab rfl (Alm α n),trivial⟩
theorem B0r (n:Nat):(Ar2 n).Sound PP:=fk (fn:=Tryz.f199) (B5i _ n)

def A10 {α:Type} (n:Nat) (a:Int) (b:LN) (c:Int) (f:Int->LN->Int->Option α) (k0:Bool->Option α) (k1:Unit->Option α):Option α :=
 bif (decide (a < (b.length:Int))) then
  gd (decide (0 <= a) && decide (a < (b.length:Int))) (
   let d:=b.getD a.toNat (0,0,0,0)
   ob (f210 n d a) fun e =>
   bif (!e) then
    k0 false
   else
    gd (decide (0 <= a) && decide (a <= (b.length:Int))) (
     gd (decide (0 <= a) && decide (a < (b.length:Int))) (
      let g:=b.getD a.toNat (0,0,0,0)
      ob (f199 n ((b.drop 0).take (a.toNat - 0)) g) fun h =>
      bif (decide (h >= 0)) then
       k0 false
      else
       f (W (a + 1)) b c)))
 else
  k1 ()
abbrev R7:Tm:=⟨[(1,.k (.hp 1 0 0)),(3,.d hI)],[(1,.var 65 true false [.d hNs,.d hI])],[],[]⟩
abbrev As7:Tm:=⟨[(2,.d .bool)],[],[1],[]⟩
abbrev As6:Tm:=⟨[],[],[1],[]⟩
abbrev A0z:List (Exit × Tm):=[(.ret,As7),(.exit 0,As6)]
def A0y {α:Type} (n:Nat) (v:R7.den) (f:R7.den->Option α) (ks:KS α A0z):Option α:=A10 n v.1.2.1 v.2.1.1 v.2.1.2.1 (fun a b c=>f (((),a,()),((b,c,()),()))) (fun w0=>ks.1 ((w0,()),())) (fun _=>ks.2.1 ((),()))
def Ww {α:Type} (n m:Nat) (a:Int) (b:LN) (c:Int) (k0:Bool->Option α) (k1:Unit->Option α):Option α:=A5 (A0y n) m (((),a,()),((b,c,()),())) (fun w=>k0 w.1.1,fun w=>k1 (),())
theorem As5 {α n m a b c k0 k1}:Ww (α:=α) n (m + 1) a b c k0 k1 = A10 n a b c (fun a b c=>Ww n m a b c k0 k1) k0 k1:=rfl
def f163 (n:Nat) (a0:LN × Int):Option Bool :=
 ob (f174 n (a0.1.length:Int) 1 60) fun a =>
 bif (!a) then
  some false
 else
  bif (a0.2 != (W ((a0.1.length:Int) - 1))) then
   some false
  else
   Ww n n 0 a0.1 a0.2
    (fun b=>(
     some b))
    (fun (_:Unit)=>(
     some true))
def As8 (n:Nat):Ent:=⟨163,[(.st (.pair hNs hI))],[.bool],fun x=>f163 n x⟩
def Ado (α:Type) (n:Nat):D3 α:={ reg:=[(1,⟨0,[],[(3,{ ent:=some (Cz n) })]⟩),(6,⟨18,[],[(6,{ ent:=some (Aqf n) }),(18,{ ent:=some (Ar2 n) })]⟩)],join:=[],loop:=[(4,⟨R7,A0z,A5 (A0y n) n⟩)] }
theorem A8g (α:Type) (n:Nat):Al PP (Ah (Ado α n).reg):=⟨Cm n,B0c n,B0r n,trivial⟩
theorem Am1 (α:Type) (n:Nat):LO.Sound (α:=α) PP ⟨46,[]⟩ ⟨R7,A0z,A5 (A0y n) n⟩ (.loop ((A1 Tryz.f163).at [1,1,0,1,0,0])):=Bb (D:=Ado α n) (A8g α n) n
theorem B6a (α:Type) (n:Nat):D3.OK PP TT ⟨46,[]⟩ (Ado α n) (A1 Tryz.f163) :=
 D3.OK.mk3 (A8g α n) (show Aa (A1 Tryz.f163) = [(4,(.loop ((A1 Tryz.f163).at [1,1,0,1,0,0])))] by kernel_rfl) ⟨Ab rfl (Am1 α n),trivial⟩
theorem B1p (n:Nat):(As8 n).Sound PP:=fk (fn:=Tryz.f163) (B6a _ n)

def Zk {α:Type} (n:Nat) (a:LI) (b:Int) (f:LI->Int->Option α) (k0:Bool->Option α) (k1:LI->Option α):Option α :=
 bif (decide (b < (a.length:Int))) then
  gd (decide (0 <= b) && decide (b < (a.length:Int))) (
   ob (f174 n (a.getD b.toNat 0) 0 9999) fun c =>
   bif (!c) then
    k0 false
   else
    f a (W (b + 1)))
 else
  k1 a
abbrev Qm:Tm:=⟨[(0,.d hIs),(3,.d hI)],[],[],[]⟩
abbrev Aq8:Tm:=⟨[(2,.d .bool)],[],[],[]⟩
abbrev Aq7:Tm:=⟨[(0,.d hIs)],[],[],[]⟩
abbrev Zj:List (Exit × Tm):=[(.ret,Aq8),(.exit 0,Aq7)]
def Zi {α:Type} (n:Nat) (v:Qm.den) (f:Qm.den->Option α) (ks:KS α Zj):Option α:=Zk n v.1.1 v.1.2.1 (fun a b=>f ((a,b,()),())) (fun w0=>ks.1 ((w0,()),())) (fun w0=>ks.2.1 ((w0,()),()))
def Of {α:Type} (n m:Nat) (a:LI) (b:Int) (k0:Bool->Option α) (k1:LI->Option α):Option α:=A5 (Zi n) m ((a,b,()),()) (fun w=>k0 w.1.1,fun w=>k1 w.1.1,())
theorem Aq6 {α n m a b k0 k1}:Of (α:=α) n (m + 1) a b k0 k1 = Zk n a b (fun a b=>Of n m a b k0 k1) k0 k1:=rfl
def f216 (n:Nat) (a0:LI):Option Bool :=
 bif (decide ((a0.length:Int) > 4096)) then
  some false
 else
  Of n n a0 0
   (fun b=>(
    some b))
   (fun a=>(
    bif (decide ((a.length:Int) <= 40)) then
     bif ((a.length:Int) == 0) then
      some true
     else
      gd (decide (0 <= (W ((a.length:Int) - 1))) && decide ((W ((a.length:Int) - 1)) < (a.length:Int))) (
       some (decide ((a.getD ((W ((a.length:Int) - 1)).toNat) 0) > 0)))
    else
     some false))
def Ad5 (n:Nat):Ent:=⟨216,[hIs],[.bool],fun x=>f216 n x⟩
def Ad6 (α:Type) (n:Nat):D3 α:={ reg:=[(6,⟨0,[],[(4,{ ent:=some (Cz n) })]⟩)],join:=[],loop:=[(4,⟨Qm,Zj,A5 (Zi n) n⟩)] }
theorem A7w (α:Type) (n:Nat):Al PP (Ah (Ad6 α n).reg):=⟨Cm n,trivial⟩
theorem Ald (α:Type) (n:Nat):LO.Sound (α:=α) PP ⟨36,[]⟩ ⟨Qm,Zj,A5 (Zi n) n⟩ (.loop ((A1 Tryz.f216).at [1,1,0,1,0,0])):=Bb (D:=Ad6 α n) (A7w α n) n
theorem B56 (α:Type) (n:Nat):D3.OK PP TT ⟨36,[]⟩ (Ad6 α n) (A1 Tryz.f216) :=
 D3.OK.mk3 (A7w α n) (show Aa (A1 Tryz.f216) = [(4,(.loop ((A1 Tryz.f216).at [1,1,0,1,0,0])))] by kernel_rfl) ⟨Ab rfl (Ald α n),trivial⟩
theorem Aht (n:Nat):(Ad5 n).Sound PP:=fk (fn:=Tryz.f216) (B56 _ n)

def Ze {α:Type} (n:Nat) (b:LI) (a:Int) (f:LI->Int->Option α) (k0:LI->Int->Option α):Option α :=
 bif (decide (a > 0)) then
  gd (decide (0 <= (W (a - 1))) && decide ((W (a - 1)) < (b.length:Int))) (
   bif ((b.getD ((W (a - 1)).toNat) 0) == 0) then
    f b (W (a - 1))
   else
    k0 b a)
 else
  k0 b a
abbrev Qk:Tm:=⟨[(0,.d hIs),(3,.d hI)],[],[],[]⟩
abbrev Aq4:Tm:=⟨[(0,.d hIs),(3,.d hI)],[],[],[]⟩
abbrev Zd:List (Exit × Tm):=[(.exit 0,Aq4)]
def Zc {α:Type} (n:Nat) (v:Qk.den) (f:Qk.den->Option α) (ks:KS α Zd):Option α:=Ze n v.1.1 v.1.2.1 (fun a b=>f ((a,b,()),())) (fun w0 w1=>ks.1 ((w0,w1,()),()))
def Wk {α:Type} (n m:Nat) (a:LI) (b:Int) (k0:LI->Int->Option α):Option α:=A5 (Zc n) m ((a,b,()),()) (fun w=>k0 w.1.1 w.1.2.1,())
theorem Aq3 {α n m a b k0}:Wk (α:=α) n (m + 1) a b k0 = Ze n a b (fun a b=>Wk n m a b k0) k0:=rfl
def f218 (n:Nat) (a0:LI):Option LI :=
 Wk n n a0 (a0.length:Int)
  (fun b a=>(
   gd (decide (0 <= a) && decide (a <= (b.length:Int))) (
    gd (decide ((0 + ((b.drop 0).take (a.toNat - 0)).length) * 8 <= 140737488355328)) (
     some ((b.drop 0).take (a.toNat - 0))))))
def Uk (n:Nat):Ent:=⟨218,[hIs],[hIs],fun x=>f218 n x⟩
def Ad2 (α:Type) (n:Nat):D3 α:={ reg:=[(4,⟨0,[],[(0,{ sh:=some hI })]⟩)],join:=[],loop:=[(2,⟨Qk,Zd,A5 (Zc n) n⟩)] }
theorem A7s (α:Type) (n:Nat):Al PP (Ah (Ad2 α n).reg):=trivial
theorem Alb (α:Type) (n:Nat):LO.Sound (α:=α) PP ⟨23,[]⟩ ⟨Qk,Zd,A5 (Zc n) n⟩ (.loop ((A1 Tryz.f218).at [1,1,0,0,0])):=Bb (D:=Ad2 α n) (A7s α n) n
theorem B54 (α:Type) (n:Nat):D3.OK PP TT ⟨23,[]⟩ (Ad2 α n) (A1 Tryz.f218) :=
 D3.OK.mk3 (A7s α n) (show Aa (A1 Tryz.f218) = [(2,(.loop ((A1 Tryz.f218).at [1,1,0,0,0])))] by kernel_rfl) ⟨Ab rfl (Alb α n),trivial⟩
theorem Wi (n:Nat):(Uk n).Sound PP:=fk (fn:=Tryz.f218) (B54 _ n)

def A0g {α:Type} (n:Nat) (b c:LI) (a:Int) (f:LI->LI->Int->Option α) (k0:Int->Option α) (k1:Unit->Option α):Option α :=
 bif (decide (a >= 0)) then
  gd (decide (0 <= a) && decide (a < (b.length:Int))) (
   gd (decide (0 <= a) && decide (a < (c.length:Int))) (
    bif ((b.getD a.toNat 0) != (c.getD a.toNat 0)) then
     gd (decide (0 <= a) && decide (a < (b.length:Int))) (
      gd (decide (0 <= a) && decide (a < (c.length:Int))) (
       ob (f170 n (decide ((b.getD a.toNat 0) > (c.getD a.toNat 0)))) fun d =>
       k0 (W ((W (2 * d)) - 1))))
    else
     f b c (W (a - 1))))
 else
  k1 ()
abbrev Qy:Tm:=⟨[(0,.d hIs),(1,.d hIs),(5,.d hI)],[],[],[]⟩
abbrev Arn:Tm:=⟨[(4,.d hI)],[],[],[]⟩
abbrev Arm:Tm:=⟨[],[],[],[]⟩
abbrev A0f:List (Exit × Tm):=[(.ret,Arn),(.exit 0,Arm)]
def A0e {α:Type} (n:Nat) (v:Qy.den) (f:Qy.den->Option α) (ks:KS α A0f):Option α:=A0g n v.1.1 v.1.2.1 v.1.2.2.1 (fun a b c=>f ((a,b,c,()),())) (fun w0=>ks.1 ((w0,()),())) (fun _=>ks.2.1 ((),()))
def Wq {α:Type} (n m:Nat) (a b:LI) (c:Int) (k0:Int->Option α) (k1:Unit->Option α):Option α:=A5 (A0e n) m ((a,b,c,()),()) (fun w=>k0 w.1.1,fun w=>k1 (),())
theorem Arl {α n m a b c k0 k1}:Wq (α:=α) n (m + 1) a b c k0 k1 = A0g n a b c (fun a b c=>Wq n m a b c k0 k1) k0 k1:=rfl
def f188 (n:Nat) (a0 a1:LI):Option Int :=
 bif ((a0.length:Int) != (a1.length:Int)) then
  ob (f170 n (decide ((a0.length:Int) > (a1.length:Int)))) fun a =>
  some (W ((W (2 * a)) - 1))
 else
  Wq n n a0 a1 (W ((a0.length:Int) - 1))
   (fun b=>(
    some b))
   (fun (_:Unit)=>(
    some 0))
def Up (n:Nat):Ent:=⟨188,[hIs,hIs],[hI],fun x=>f188 n x.1 x.2⟩
def Adk (α:Type) (n:Nat):D3 α:={ reg:=[(2,⟨0,[],[(5,{ ent:=some (Ot n) })]⟩),(6,⟨8,[],[]⟩),(7,⟨8,[],[(9,{ ent:=some (Ot n) })]⟩)],join:=[],loop:=[(4,⟨Qy,A0f,A5 (A0e n) n⟩)] }
theorem A8b (α:Type) (n:Nat):Al PP (Ah (Adk α n).reg):=⟨Or n,Or n,trivial⟩
theorem Alt (α:Type) (n:Nat):LO.Sound (α:=α) PP ⟨47,[]⟩ ⟨Qy,A0f,A5 (A0e n) n⟩ (.loop ((A1 Tryz.f188).at [1,1,0,1,0,0])):=Bb (D:=Adk α n) (A8b α n) n
theorem B5t (α:Type) (n:Nat):D3.OK PP TT ⟨47,[]⟩ (Adk α n) (A1 Tryz.f188) :=
 D3.OK.mk3 (A8b α n) (show Aa (A1 Tryz.f188) = [(4,(.loop ((A1 Tryz.f188).at [1,1,0,1,0,0])))] by kernel_rfl) ⟨Ab rfl (Alt α n),trivial⟩
theorem Wp (n:Nat):(Up n).Sound PP:=fk (fn:=Tryz.f188) (B5t _ n)

def A0u {α:Type} (n:Nat) (a:Int) (b:LI) (f:Int->LI->Option α) (k0:LI->Option α):Option α :=
 bif (decide (a > 0)) then
  gd (decide ((b.length + 1) * 8 <= 140737488355328)) (
   f (W (Int.tdiv a 10000)) (b ++ [(Int.tmod a 10000)]))
 else
  k0 b
abbrev R5:Tm:=⟨[(0,.d hI),(3,.k (.hw 4))],[(4,.arr 3 hI false)],[10],[]⟩
abbrev Arx:Tm:=⟨[(3,.k (.hw 4))],[(4,.arr 3 hI false)],[],[]⟩
abbrev A0t:List (Exit × Tm):=[(.exit 0,Arx)]
def A0s {α:Type} (n:Nat) (v:R5.den) (f:R5.den->Option α) (ks:KS α A0t):Option α:=A0u n v.1.1 v.2.1 (fun a b=>f ((a,(),()),(b,()))) (fun w0=>ks.1 (((),()),(w0,())))
def Wu {α:Type} (n m:Nat) (a:Int) (b:LI) (k0:LI->Option α):Option α:=A5 (A0s n) m ((a,(),()),(b,())) (fun w=>k0 w.2.1,())
theorem Arw {α n m a b k0}:Wu (α:=α) n (m + 1) a b k0 = A0u n a b (fun a b=>Wu n m a b k0) k0:=rfl
def f181 (n:Nat) (a0:Int):Option LI :=
 Wu n n a0 []
  (fun a=>(
   some a))
def Ur (n:Nat):Ent:=⟨181,[hI],[hIs],fun x=>f181 n x⟩
def Adm (α:Type) (n:Nat):D3 α:={ reg:=[(1,⟨0,[],[(0,{ sh:=some hI })]⟩),(3,⟨0,[],[(3,{ sh:=some hI })]⟩)],join:=[],loop:=[(2,⟨R5,A0t,A5 (A0s n) n⟩)] }
theorem A8d (α:Type) (n:Nat):Al PP (Ah (Adm α n).reg):=trivial
theorem Alz (α:Type) (n:Nat):LO.Sound (α:=α) PP ⟨15,[]⟩ ⟨R5,A0t,A5 (A0s n) n⟩ (.loop ((A1 Tryz.f181).at [1,1,0,0,0])):=Bb (D:=Adm α n) (A8d α n) n
theorem B5y (α:Type) (n:Nat):D3.OK PP TT ⟨15,[]⟩ (Adm α n) (A1 Tryz.f181) :=
 D3.OK.mk3 (A8d α n) (show Aa (A1 Tryz.f181) = [(2,(.loop ((A1 Tryz.f181).at [1,1,0,0,0])))] by kernel_rfl) ⟨Ab rfl (Alz α n),trivial⟩
theorem Ws (n:Nat):(Ur n).Sound PP:=fk (fn:=Tryz.f181) (B5y _ n)

def A0m {α:Type} (n:Nat) (e d:LI) (b g a:Int) (c:LI) (f:LI->LI->Int->Int->Int->LI->Option α) (k0:LI->LI->Int->LI->Option α):Option α :=
 let h:=fun (_:Unit)=>(
  gd (decide (0 <= (W (b + a))) && decide ((W (b + a)) < (c.length:Int))) (
   gd (decide ((W (b + a)).toNat < c.length)) (
    let i:=fun (j:Int)=>(
     gd (decide (0 <= (W (b + a))) && decide ((W (b + a)) < (c.length:Int))) (
      gd (decide ((W (b + a)).toNat < c.length)) (
       f e d b (W (Int.tdiv j 10000)) (W (a + 1)) (c.set ((W (b + a)).toNat) (Int.tmod j 10000)))))
    bif (decide (a < (d.length:Int))) then
     gd (decide (0 <= b) && decide (b < (e.length:Int))) (
      gd (decide (0 <= a) && decide (a < (d.length:Int))) (
       i (W ((W ((c.getD ((W (b + a)).toNat) 0) + g)) + (W ((e.getD b.toNat 0) * (d.getD a.toNat 0)))))))
    else
     i (W ((c.getD ((W (b + a)).toNat) 0) + g)))))
 bif (decide (a < (d.length:Int))) then
  h ()
 else
  bif (decide (g > 0)) then
   h ()
  else
   k0 e d b c
abbrev R0:Tm:=⟨[(0,.d hIs),(1,.d hIs),(5,.k (.hw 16)),(6,.d hI),(7,.d hI),(8,.d hI)],[(16,.arr 3 hI false)],[],[]⟩
abbrev Ars:Tm:=⟨[(0,.d hIs),(1,.d hIs),(5,.k (.hw 16)),(6,.d hI)],[(16,.arr 3 hI false)],[],[]⟩
abbrev A0l:List (Exit × Tm):=[(.exit 2,Ars)]
def A0k {α:Type} (n:Nat) (v:R0.den) (f:R0.den->Option α) (ks:KS α A0l):Option α:=A0m n v.1.1 v.1.2.1 v.1.2.2.2.1 v.1.2.2.2.2.1 v.1.2.2.2.2.2.1 v.2.1 (fun a b c d e g=>f ((a,b,(),c,d,e,()),(g,()))) (fun w0 w1 w2 w3=>ks.1 ((w0,w1,(),w2,()),(w3,())))
def L6 {α:Type} (n m:Nat) (a b:LI) (c d e:Int) (f:LI) (k0:LI->LI->Int->LI->Option α):Option α:=A5 (A0k n) m ((a,b,(),c,d,e,()),(f,())) (fun w=>k0 w.1.1 w.1.2.1 w.1.2.2.2.1 w.2.1,())
theorem Arr {α n m a b c d e f k0}:L6 (α:=α) n (m + 1) a b c d e f k0 = A0m n a b c d e f (fun a b c d e f=>L6 n m a b c d e f k0) k0:=rfl
def A0p {α:Type} (n:Nat) (a d:LI) (b:Int) (c:LI) (f:LI->LI->Int->LI->Option α) (k0:LI->Option α):Option α :=
 bif (decide (b < (a.length:Int))) then
  L6 n n a d b 0 0 c
   (fun e g h i=>(
    f e g (W (h + 1)) i))
 else
  k0 c
abbrev R1:Tm:=⟨[(0,.d hIs),(1,.d hIs),(5,.k (.hw 16)),(6,.d hI)],[(16,.arr 3 hI false)],[],[]⟩
abbrev Arv:Tm:=⟨[(5,.k (.hw 16))],[(16,.arr 3 hI false)],[],[]⟩
abbrev A0o:List (Exit × Tm):=[(.exit 0,Arv)]
def A0n {α:Type} (n:Nat) (v:R1.den) (f:R1.den->Option α) (ks:KS α A0o):Option α:=A0p n v.1.1 v.1.2.1 v.1.2.2.2.1 v.2.1 (fun a b c d=>f ((a,b,(),c,()),(d,()))) (fun w0=>ks.1 (((),()),(w0,())))
def L7 {α:Type} (n m:Nat) (a b:LI) (c:Int) (d:LI) (k0:LI->Option α):Option α:=A5 (A0n n) m ((a,b,(),c,()),(d,())) (fun w=>k0 w.2.1,())
theorem Art {α n m a b c d k0}:L7 (α:=α) n (m + 1) a b c d k0 = A0p n a b c d (fun a b c d=>L7 n m a b c d k0) k0:=rfl
abbrev B1e:Tm:=⟨[(0,.d hIs),(1,.d hIs),(5,.k (.hw 16)),(6,.d hI),(7,.d hI),(8,.d hI)],[(16,.arr 3 hI false)],[],[]⟩
abbrev Awo:Tm:=⟨[(0,.d hIs),(1,.d hIs),(5,.k (.hw 16)),(6,.d hI),(8,.d hI),(9,.d hI)],[(16,.arr 3 hI false)],[],[]⟩
def f185 (n:Nat) (a0 a1:LI):Option LI :=
 gd (decide (0 <= (W ((W ((a0.length:Int) + (a1.length:Int))) + 1))) && decide ((W ((W ((a0.length:Int) + (a1.length:Int))) + 1)) <= 4611686018427387904) && decide ((8:Int) * (W ((W ((a0.length:Int) + (a1.length:Int))) + 1)) <= 281474976710656)) (
  L7 n n a0 a1 0 (List.replicate ((W ((W ((a0.length:Int) + (a1.length:Int))) + 1)).toNat) 0)
   (fun a=>(
    ob (f218 n a) fun b =>
    some b)))
def Ga (n:Nat):Ent:=⟨185,[hIs,hIs],[hIs],fun x=>f185 n x.1 x.2⟩
def A3a (α:Type) (n:Nat):D3 α:={ reg:=[(11,⟨10,[],[]⟩),(14,⟨0,[],[(1,{ ent:=some (Uk n),fz:=[(65,hIs)] })]⟩)],join:=[(9,B1e),(12,Awo)],loop:=[(7,⟨R0,A0l,A5 (A0k n) n⟩),(3,⟨R1,A0o,A5 (A0n n) n⟩)] }
theorem Uq (α:Type) (n:Nat):Al PP (Ah (A3a α n).reg):=⟨Wi n,trivial⟩
theorem Alv (α:Type) (n:Nat):LO.Sound (α:=α) PP ⟨67,[]⟩ ⟨R0,A0l,A5 (A0k n) n⟩ (.loop ((A1 Tryz.f185).at [1,1,0,1,0,0,1,0,0,1,1,0,0])):=Bb (D:=A3a α n) (Uq α n) n
theorem Aru (α:Type) (n:Nat):D3.OK PP TT ⟨67,[]⟩ (A3a α n) ((A1 Tryz.f185).at [1,1,0,1,0,0]) :=
 D3.OK.mk3 (Uq α n) (show Aa ((A1 Tryz.f185).at [1,1,0,1,0,0]) = [(7,(.loop ((A1 Tryz.f185).at [1,1,0,1,0,0,1,0,0,1,1,0,0])))] by kernel_rfl) ⟨Ab rfl (Alv α n),trivial⟩
theorem Alw (α:Type) (n:Nat):LO.Sound (α:=α) PP ⟨67,[]⟩ ⟨R1,A0o,A5 (A0n n) n⟩ (.loop ((A1 Tryz.f185).at [1,1,0,1,0,0])):=lk (Aru α n) n
theorem B5w (α:Type) (n:Nat):D3.OK PP TT ⟨67,[]⟩ (A3a α n) (A1 Tryz.f185) :=
 D3.OK.mk3 (Uq α n) (show Aa (A1 Tryz.f185) = [(3,(.loop ((A1 Tryz.f185).at [1,1,0,1,0,0])))] by kernel_rfl) ⟨Ab rfl (Alw α n),trivial⟩
theorem Fp (n:Nat):(Ga n).Sound PP:=fk (fn:=Tryz.f185) (B5w _ n)

def A0d {α:Type} (n:Nat) (b c:LI) (e a:Int) (d:LI) (f:LI->LI->Int->Int->LI->Option α) (k0:LI->Option α):Option α :=
 bif (decide (a < (b.length:Int))) then
  gd (decide (0 <= a) && decide (a < (b.length:Int))) (
   let g:=fun (h:Int)=>(
    ob (f170 n (decide (h < 0))) fun i =>
    gd (decide ((d.length + 1) * 8 <= 140737488355328)) (
     f b c i (W (a + 1)) (d ++ [(W (h + (W (i * 10000))))])))
   bif (decide (a < (c.length:Int))) then
    gd (decide (0 <= a) && decide (a < (c.length:Int))) (
     g (W ((W ((b.getD a.toNat 0) - e)) - (c.getD a.toNat 0))))
   else
    g (W ((b.getD a.toNat 0) - e)))
 else
  k0 d
abbrev Qx:Tm:=⟨[(0,.d hIs),(1,.d hIs),(5,.k (.hw 9)),(6,.d hI),(7,.d hI)],[(9,.arr 3 hI false)],[40],[]⟩
abbrev Ark:Tm:=⟨[(5,.k (.hw 9))],[(9,.arr 3 hI false)],[],[]⟩
abbrev A0c:List (Exit × Tm):=[(.exit 0,Ark)]
def A0b {α:Type} (n:Nat) (v:Qx.den) (f:Qx.den->Option α) (ks:KS α A0c):Option α:=A0d n v.1.1 v.1.2.1 v.1.2.2.2.1 v.1.2.2.2.2.1 v.2.1 (fun a b c d e=>f ((a,b,(),c,d,()),(e,()))) (fun w0=>ks.1 (((),()),(w0,())))
def L5 {α:Type} (n m:Nat) (a b:LI) (c d:Int) (e:LI) (k0:LI->Option α):Option α:=A5 (A0b n) m ((a,b,(),c,d,()),(e,())) (fun w=>k0 w.2.1,())
theorem Arj {α n m a b c d e k0}:L5 (α:=α) n (m + 1) a b c d e k0 = A0d n a b c d e (fun a b c d e=>L5 n m a b c d e k0) k0:=rfl
abbrev B17:Tm:=⟨[(0,.d hIs),(1,.d hIs),(5,.k (.hw 9)),(7,.d hI),(8,.d hI)],[(9,.arr 3 hI false)],[],[]⟩
def f189 (n:Nat) (a0 a1:LI):Option LI :=
 L5 n n a0 a1 0 0 []
  (fun a=>(
   ob (f218 n a) fun b =>
   some b))
def A39 (n:Nat):Ent:=⟨189,[hIs,hIs],[hIs],fun x=>f189 n x.1 x.2⟩
def Adj (α:Type) (n:Nat):D3 α:={ reg:=[(1,⟨0,[],[(0,{ sh:=some hI })]⟩),(9,⟨0,[],[(2,{ ent:=some (Ot n) })]⟩),(10,⟨0,[],[(5,{ sh:=some hI })]⟩),(11,⟨0,[],[(1,{ ent:=some (Uk n),fz:=[(42,hIs)] })]⟩)],join:=[(9,B17)],loop:=[(4,⟨Qx,A0c,A5 (A0b n) n⟩)] }
theorem A8a (α:Type) (n:Nat):Al PP (Ah (Adj α n).reg):=⟨Or n,Wi n,trivial⟩
theorem Als (α:Type) (n:Nat):LO.Sound (α:=α) PP ⟨44,[]⟩ ⟨Qx,A0c,A5 (A0b n) n⟩ (.loop ((A1 Tryz.f189).at [1,1,1,0,1,0,0])):=Bb (D:=Adj α n) (A8a α n) n
theorem B5s (α:Type) (n:Nat):D3.OK PP TT ⟨44,[]⟩ (Adj α n) (A1 Tryz.f189) :=
 D3.OK.mk3 (A8a α n) (show Aa (A1 Tryz.f189) = [(4,(.loop ((A1 Tryz.f189).at [1,1,1,0,1,0,0])))] by kernel_rfl) ⟨Ab rfl (Als α n),trivial⟩
theorem A5t (n:Nat):(A39 n).Sound PP:=fk (fn:=Tryz.f189) (B5s _ n)

def Uj {α:Type} (n:Nat) (e c d:LI) (g a b:Int) (h:LI) (f:LI->LI->LI->Int->Int->Int->LI->Option α) (k0:LI->LI->LI->Int->Int->LI->Option α):Option α :=
 bif (decide ((W (b - a)) > 1)) then
  ob (f181 n (W (Int.tdiv (W (a + b)) 2))) fun i =>
  ob (f185 n c i) fun j =>
  ob (f188 n j d) fun k =>
  bif (decide (k <= 0)) then
   f e c d g (W (Int.tdiv (W (a + b)) 2)) b h
  else
   f e c d g a (W (Int.tdiv (W (a + b)) 2)) h
 else
  k0 e c d g a h
abbrev N4:Tm:=⟨[(0,.d hIs),(1,.d hIs),(6,.k (.hw 14)),(7,.d hIs),(8,.d hI),(9,.d hI),(10,.d hI)],[(14,.arr 3 hI false)],[27],[]⟩
abbrev Ala:Tm:=⟨[(0,.d hIs),(1,.d hIs),(6,.k (.hw 14)),(7,.d hIs),(8,.d hI),(9,.d hI)],[(14,.arr 3 hI false)],[],[]⟩
abbrev Ui:List (Exit × Tm):=[(.exit 2,Ala)]
def Uh {α:Type} (n:Nat) (v:N4.den) (f:N4.den->Option α) (ks:KS α Ui):Option α:=Uj n v.1.1 v.1.2.1 v.1.2.2.2.1 v.1.2.2.2.2.1 v.1.2.2.2.2.2.1 v.1.2.2.2.2.2.2.1 v.2.1 (fun a b c d e g h=>f ((a,b,(),c,d,e,g,()),(h,()))) (fun w0 w1 w2 w3 w4 w5=>ks.1 ((w0,w1,(),w2,w3,w4,()),(w5,())))
def M1 {α:Type} (n m:Nat) (a b c:LI) (d e f:Int) (g:LI) (k0:LI->LI->LI->Int->Int->LI->Option α):Option α:=A5 (Uh n) m ((a,b,(),c,d,e,f,()),(g,())) (fun w=>k0 w.1.1 w.1.2.1 w.1.2.2.2.1 w.1.2.2.2.2.1 w.1.2.2.2.2.2.1 w.2.1,())
theorem Al9 {α n m a b c d e f g k0}:M1 (α:=α) n (m + 1) a b c d e f g k0 = Uj n a b c d e f g (fun a b c d e f g=>M1 n m a b c d e f g k0) k0:=rfl
def Qj {α:Type} (n:Nat) (c d e:LI) (a:Int) (g:LI) (f:LI->LI->LI->Int->LI->Option α) (k0:LI->LI->Option α):Option α :=
 bif (decide (a >= 0)) then
  gd (decide (0 <= a) && decide (a < (c.length:Int))) (
   gd (decide ((1 + e.length) * 8 <= 140737488355328)) (
    ob (f218 n ([(c.getD a.toNat 0)] ++ e)) fun h =>
    ob (f188 n h d) fun l =>
    bif (decide (l < 0)) then
     f c d h (W (a - 1)) g
    else
     M1 n n c d h a 0 10000 g
      (fun m j o b k i=>(
       gd (decide (0 <= b) && decide (b < (i.length:Int))) (
        gd (decide (b.toNat < i.length)) (
         ob (f181 n k) fun p =>
         ob (f185 n j p) fun q =>
         ob (f189 n o q) fun r =>
         f m j r (W (b - 1)) (i.set b.toNat k)))))))
 else
  k0 e g
abbrev Qi:Tm:=⟨[(0,.d hIs),(1,.d hIs),(6,.k (.hw 14)),(7,.d hIs),(8,.d hI)],[(14,.arr 3 hI false)],[15,27],[(7,hIs)]⟩
abbrev Aq2:Tm:=⟨[(6,.k (.hw 14)),(7,.d hIs)],[(14,.arr 3 hI false)],[],[]⟩
abbrev Zb:List (Exit × Tm):=[(.exit 0,Aq2)]
def Za {α:Type} (n:Nat) (v:Qi.den) (f:Qi.den->Option α) (ks:KS α Zb):Option α:=Qj n v.1.1 v.1.2.1 v.1.2.2.2.1 v.1.2.2.2.2.1 v.2.1 (fun a b c d e=>f ((a,b,(),c,d,()),(e,()))) (fun w0 w1=>ks.1 (((),w0,()),(w1,())))
def Oe {α:Type} (n m:Nat) (a b c:LI) (d:Int) (e:LI) (k0:LI->LI->Option α):Option α:=A5 (Za n) m ((a,b,(),c,d,()),(e,())) (fun w=>k0 w.1.2.1 w.2.1,())
theorem A7r {α n m a b c d e k0}:Oe (α:=α) n (m + 1) a b c d e k0 = Qj n a b c d e (fun a b c d e=>Oe n m a b c d e k0) k0:=rfl
def f219 (n:Nat) (a0 a1:LI):Option (LI × LI) :=
 gd (decide (0 <= (a0.length:Int)) && decide ((a0.length:Int) <= 4611686018427387904) && decide ((8:Int) * (a0.length:Int) <= 281474976710656)) (
  Oe n n a0 a1 [] (W ((a0.length:Int) - 1)) (List.replicate ((a0.length:Int).toNat) 0)
   (fun a b=>(
    ob (f218 n b) fun c =>
    some (c,a))))
def A35 (n:Nat):Ent:=⟨219,[hIs,hIs],[hIs,hIs],fun x=>f219 n x.1 x.2⟩
def A36 (α:Type) (n:Nat):D3 α:={ reg:=[(2,⟨0,[],[(0,{ sh:=some hI })]⟩),(6,⟨0,[],[(4,{ sh:=some hI }),(7,{ ent:=some (Uk n),fz:=[(29,hIs)] })]⟩),(7,⟨0,[],[(2,{ ent:=some (Up n) })]⟩),(12,⟨0,[],[(2,{ ent:=some (Ur n) }),(3,{ ent:=some (Ga n) }),(5,{ ent:=some (Up n) })]⟩),(16,⟨0,[],[(3,{ ent:=some (Ur n) }),(4,{ ent:=some (Ga n) }),(5,{ ent:=some (A39 n) })]⟩),(17,⟨0,[],[(1,{ ent:=some (Uk n),fz:=[(62,hIs)] })]⟩)],join:=[],loop:=[(10,⟨N4,Ui,A5 (Uh n) n⟩),(4,⟨Qi,Zb,A5 (Za n) n⟩)] }
theorem Ug (α:Type) (n:Nat):Al PP (Ah (A36 α n).reg):=⟨Wi n,Wp n,Ws n,Fp n,Wp n,Ws n,Fp n,A5t n,Wi n,trivial⟩
theorem Ag7 (α:Type) (n:Nat):LO.Sound (α:=α) PP ⟨65,[]⟩ ⟨N4,Ui,A5 (Uh n) n⟩ (.loop ((A1 Tryz.f219).at [1,1,1,0,1,0,0,1,0,0,1,1,1,1,0,0,0])):=Bb (D:=A36 α n) (Ug α n) n
theorem Aq1 (α:Type) (n:Nat):D3.OK PP TT ⟨65,[]⟩ (A36 α n) ((A1 Tryz.f219).at [1,1,1,0,1,0,0]) :=
 D3.OK.mk3 (Ug α n) (show Aa ((A1 Tryz.f219).at [1,1,1,0,1,0,0]) = [(10,(.loop ((A1 Tryz.f219).at [1,1,1,0,1,0,0,1,0,0,1,1,1,1,0,0,0])))] by kernel_rfl) ⟨Ab rfl (Ag7 α n),trivial⟩
theorem Al8 (α:Type) (n:Nat):LO.Sound (α:=α) PP ⟨65,[]⟩ ⟨Qi,Zb,A5 (Za n) n⟩ (.loop ((A1 Tryz.f219).at [1,1,1,0,1,0,0])):=lk (Aq1 α n) n
theorem B53 (α:Type) (n:Nat):D3.OK PP TT ⟨65,[]⟩ (A36 α n) (A1 Tryz.f219) :=
 D3.OK.mk3 (Ug α n) (show Aa (A1 Tryz.f219) = [(4,(.loop ((A1 Tryz.f219).at [1,1,1,0,1,0,0])))] by kernel_rfl) ⟨Ab rfl (Al8 α n),trivial⟩
theorem A5s (n:Nat):(A35 n).Sound PP:=fk (fn:=Tryz.f219) (B53 _ n)

def Zh {α:Type} (n:Nat) (b a:LI) (f:LI->LI->Option α) (k0:LI->Option α):Option α :=
 bif (decide ((a.length:Int) > 0)) then
  ob (f219 n b a) fun c =>
  f a c.2
 else
  k0 b
abbrev Ql:Tm:=⟨[(0,.d hIs),(1,.d hIs)],[],[],[]⟩
abbrev Aq5:Tm:=⟨[(0,.d hIs)],[],[],[]⟩
abbrev Zg:List (Exit × Tm):=[(.exit 0,Aq5)]
def Zf {α:Type} (n:Nat) (v:Ql.den) (f:Ql.den->Option α) (ks:KS α Zg):Option α:=Zh n v.1.1 v.1.2.1 (fun a b=>f ((a,b,()),())) (fun w0=>ks.1 ((w0,()),()))
def Ip {α:Type} (n m:Nat) (a b:LI) (k0:LI->Option α):Option α:=A5 (Zf n) m ((a,b,()),()) (fun w=>k0 w.1.1,())
theorem A7u {α n m a b k0}:Ip (α:=α) n (m + 1) a b k0 = Zh n a b (fun a b=>Ip n m a b k0) k0:=rfl
def f217 (n:Nat) (a0 a1:LI):Option LI :=
 Ip n n a0 a1
  (fun a=>(
   gd (decide ((0 + a.length) * 8 <= 140737488355328)) (
    some a)))
def Ad3 (n:Nat):Ent:=⟨217,[hIs,hIs],[hIs],fun x=>f217 n x.1 x.2⟩
def Ad4 (α:Type) (n:Nat):D3 α:={ reg:=[(2,⟨0,[],[(2,{ ent:=some (A35 n) })]⟩),(5,⟨0,[],[(0,{ sh:=some hI })]⟩)],join:=[],loop:=[(1,⟨Ql,Zg,A5 (Zf n) n⟩)] }
theorem A7t (α:Type) (n:Nat):Al PP (Ah (Ad4 α n).reg):=⟨A5s n,trivial⟩
theorem Alc (α:Type) (n:Nat):LO.Sound (α:=α) PP ⟨21,[]⟩ ⟨Ql,Zg,A5 (Zf n) n⟩ (.loop ((A1 Tryz.f217).at [1,0,0,0])):=Bb (D:=Ad4 α n) (A7t α n) n
theorem B55 (α:Type) (n:Nat):D3.OK PP TT ⟨21,[]⟩ (Ad4 α n) (A1 Tryz.f217) :=
 D3.OK.mk3 (A7t α n) (show Aa (A1 Tryz.f217) = [(1,(.loop ((A1 Tryz.f217).at [1,0,0,0])))] by kernel_rfl) ⟨Ab rfl (Alc α n),trivial⟩
theorem Ahs (n:Nat):(Ad3 n).Sound PP:=fk (fn:=Tryz.f217) (B55 _ n)

abbrev B1h:Tm:=⟨[(1,.k (.hp 1 0 0))],[(1,.var 31 true false [.d .bool,.d hIs,.d hIs])],[],[]⟩
def f177 (n:Nat) (a0:Rq):Option Bool :=
 let a:=fun (_:Unit)=>(
  ob (f217 n a0.2.1 a0.2.2) fun b =>
  ob (f188 n b [1]) fun c =>
  some (c == 0))
 ob (f216 n a0.2.1) fun d =>
 bif (!d) then
  some false
 else
  ob (f216 n a0.2.2) fun e =>
  bif (!e) then
   some false
  else
   bif ((a0.2.2.length:Int) == 0) then
    some false
   else
    bif ((a0.2.1.length:Int) == 0) then
     bif a0.1 then
      some false
     else
      a ()
    else
     a ()
def As0 (n:Nat):Ent:=⟨177,[hR],[.bool],fun x=>f177 n x⟩
def B62 (α:Type) (n:Nat):D3 α:={ reg:=[(1,⟨0,[],[(2,{ ent:=some (Ad5 n) }),(7,{ ent:=some (Ad5 n) })]⟩),(3,⟨0,[],[(4,{ ent:=some (Ad3 n) }),(5,{ sh:=some hI }),(6,{ ent:=some (Up n) })]⟩)],join:=[(3,B1h)],loop:=[] }
theorem B1f (n:Nat):(As0 n).Sound PP:=As (fn:=Tryz.f177) (D:=B62 _ n) ⟨Aht n,Aht n,Ahs n,Wp n,trivial⟩

def A1g {α:Type} (n:Nat) (a:LR) (b:Int) (f:LR->Int->Option α) (k0:Bool->Option α) (k1:LR->Option α):Option α :=
 bif (decide (b < (a.length:Int))) then
  gd (decide (0 <= b) && decide (b < (a.length:Int))) (
   let c:=a.getD b.toNat (false,[],[])
   ob (f177 n c) fun d =>
   bif (!d) then
    k0 false
   else
    f a (W (b + 1)))
 else
  k1 a
abbrev Rf:Tm:=⟨[(0,.d hRs),(3,.d hI)],[],[],[]⟩
abbrev Asu:Tm:=⟨[(2,.d .bool)],[],[],[]⟩
abbrev Ast:Tm:=⟨[(0,.d hRs)],[],[],[]⟩
abbrev A1f:List (Exit × Tm):=[(.ret,Asu),(.exit 0,Ast)]
def A1e {α:Type} (n:Nat) (v:Rf.den) (f:Rf.den->Option α) (ks:KS α A1f):Option α:=A1g n v.1.1 v.1.2.1 (fun a b=>f ((a,b,()),())) (fun w0=>ks.1 ((w0,()),())) (fun w0=>ks.2.1 ((w0,()),()))
def Ox {α:Type} (n m:Nat) (a:LR) (b:Int) (k0:Bool->Option α) (k1:LR->Option α):Option α:=A5 (A1e n) m ((a,b,()),()) (fun w=>k0 w.1.1,fun w=>k1 w.1.1,())
theorem Ass {α n m a b k0 k1}:Ox (α:=α) n (m + 1) a b k0 k1 = A1g n a b (fun a b=>Ox n m a b k0 k1) k0 k1:=rfl
def f119 (n:Nat) (a0:LR):Option Bool :=
 bif (decide ((a0.length:Int) > 4096)) then
  some false
 else
  Ox n n a0 0
   (fun a=>(
    some a))
   (fun b=>(
    ob (f174 n (b.length:Int) 1 4) fun c =>
    some c))
def Asv (n:Nat):Ent:=⟨119,[hRs],[.bool],fun x=>f119 n x⟩
def Ae5 (α:Type) (n:Nat):D3 α:={ reg:=[(6,⟨0,[],[(4,{ ent:=some (As0 n) })]⟩),(8,⟨0,[],[(2,{ ent:=some (Cz n) })]⟩)],join:=[],loop:=[(4,⟨Rf,A1f,A5 (A1e n) n⟩)] }
theorem A8o (α:Type) (n:Nat):Al PP (Ah (Ae5 α n).reg):=⟨B1f n,Cm n,trivial⟩
theorem Amb (α:Type) (n:Nat):LO.Sound (α:=α) PP ⟨22,[]⟩ ⟨Rf,A1f,A5 (A1e n) n⟩ (.loop ((A1 Tryz.f119).at [1,1,0,1,0,0])):=Bb (D:=Ae5 α n) (A8o α n) n
theorem B6w (α:Type) (n:Nat):D3.OK PP TT ⟨22,[]⟩ (Ae5 α n) (A1 Tryz.f119) :=
 D3.OK.mk3 (A8o α n) (show Aa (A1 Tryz.f119) = [(4,(.loop ((A1 Tryz.f119).at [1,1,0,1,0,0])))] by kernel_rfl) ⟨Ab rfl (Amb α n),trivial⟩
theorem B24 (n:Nat):(Asv n).Sound PP:=fk (fn:=Tryz.f119) (B6w _ n)

def A1d {α:Type} (n:Nat) (c a:Int) (b:LN) (f:Int->Int->LN->Option α) (k0:Int->Option α):Option α :=
 bif (decide (a < (b.length:Int))) then
  gd (decide (0 <= a) && decide (a < (b.length:Int))) (
   let d:=b.getD a.toNat (0,0,0,0)
   bif (d.1 == 2) then
    gd (decide (0 <= a) && decide (a < (b.length:Int))) (
     let e:=b.getD a.toNat (0,0,0,0)
     f (max c (W (e.2.2.2 + 1))) (W (a + 1)) b)
   else
    f c (W (a + 1)) b)
 else
  k0 c
abbrev Re:Tm:=⟨[(1,.k (.hp 1 0 0)),(3,.d hI),(4,.d hI)],[(1,.var 25 true false [.d hNs])],[],[]⟩
abbrev Asq:Tm:=⟨[(3,.d hI)],[],[1],[]⟩
abbrev A1c:List (Exit × Tm):=[(.exit 0,Asq)]
def A1b {α:Type} (n:Nat) (v:Re.den) (f:Re.den->Option α) (ks:KS α A1c):Option α:=A1d n v.1.2.1 v.1.2.2.1 v.2.1.1 (fun a b c=>f (((),a,b,()),((c,()),()))) (fun w0=>ks.1 ((w0,()),()))
def X1 {α:Type} (n m:Nat) (a b:Int) (c:LN) (k0:Int->Option α):Option α:=A5 (A1b n) m (((),a,b,()),((c,()),())) (fun w=>k0 w.1.1,())
theorem Asp {α n m a b c k0}:X1 (α:=α) n (m + 1) a b c k0 = A1d n a b c (fun a b c=>X1 n m a b c k0) k0:=rfl
def f120 (n:Nat) (a0:LN):Option Int :=
 X1 n n 0 0 a0
  (fun a=>(
   some a))
def Asr (n:Nat):Ent:=⟨120,[hE],[hI],fun x=>f120 n x⟩
def Ae4 (α:Type) (n:Nat):D3 α:={ reg:=[],join:=[],loop:=[(3,⟨Re,A1c,A5 (A1b n) n⟩)] }
theorem A8m (α:Type) (n:Nat):Al PP (Ah (Ae4 α n).reg):=trivial
theorem Ama (α:Type) (n:Nat):LO.Sound (α:=α) PP ⟨29,[]⟩ ⟨Re,A1c,A5 (A1b n) n⟩ (.loop ((A1 Tryz.f120).at [1,1,0,1,0,0])):=Bb (D:=Ae4 α n) (A8m α n) n
theorem B6v (α:Type) (n:Nat):D3.OK PP TT ⟨29,[]⟩ (Ae4 α n) (A1 Tryz.f120) :=
 D3.OK.mk3 (A8m α n) (show Aa (A1 Tryz.f120) = [(3,(.loop ((A1 Tryz.f120).at [1,1,0,1,0,0])))] by kernel_rfl) ⟨Ab rfl (Ama α n),trivial⟩
theorem B22 (n:Nat):(Asr n).Sound PP:=fk (fn:=Tryz.f120) (B6v _ n)

def f164 (n:Nat) (a0:LN × Int):Option Int :=
 ob (f120 n a0.1) fun a =>
 some a
def As4 (n:Nat):Ent:=⟨164,[(.st (.pair hNs hI))],[hI],fun x=>f164 n x⟩
def B69 (α:Type) (n:Nat):D3 α:={ reg:=[(1,⟨0,[],[(3,{ ent:=some (Asr n) })]⟩)],join:=[],loop:=[] }
theorem B1o (n:Nat):(As4 n).Sound PP:=As (fn:=Tryz.f164) (D:=B69 _ n) ⟨B22 n,trivial⟩

abbrev B2h:Tm:=⟨[(1,.d hRs),(2,.k (.hp 2 0 0)),(9,.d .bool)],[(2,.var 65 true false [.d hNs,.d hI])],[],[]⟩
def f101 (n:Nat) (a0:LN × Int) (a1:LR):Option Int :=
 bif (decide ((a1.length:Int) > 4096)) then
  some 2
 else
  let a:=fun (b:Bool)=>(
   bif b then
    some 1
   else
    ob (f164 n a0) fun c =>
    bif (decide ((a1.length:Int) < c)) then
     some 8
    else
     some 0)
  ob (f163 n a0) fun d =>
  bif (!d) then
   a true
  else
   ob (f119 n a1) fun e =>
   a (!e)
def At8 (n:Nat):Ent:=⟨101,[(.st (.pair hNs hI)),hRs],[hI],fun x=>f101 n x.1 x.2⟩
def B77 (α:Type) (n:Nat):D3 α:={ reg:=[(3,⟨0,[],[(1,{ ent:=some (As8 n) }),(5,{ ent:=some (Asv n) })]⟩),(5,⟨0,[],[(3,{ ent:=some (As4 n) })]⟩)],join:=[(4,B2h)],loop:=[] }
theorem B2g (n:Nat):(At8 n).Sound PP:=As (fn:=Tryz.f101) (D:=B77 _ n) ⟨B1p n,B24 n,B1o n,trivial⟩

def f127 (n:Nat) (a0:Int):Option Rq :=
 bif (decide (a0 < 0)) then
  ob (f181 n (W (0 - a0))) fun a =>
  some (true,a,[1])
 else
  ob (f181 n a0) fun b =>
  some (false,b,[1])
def Ae2 (n:Nat):Ent:=⟨127,[hI],[hR],fun x=>f127 n x⟩
def B6s (α:Type) (n:Nat):D3 α:={ reg:=[(2,⟨0,[],[(2,{ ent:=some (Ur n) }),(3,{ sh:=some hI })]⟩),(3,⟨0,[],[(1,{ ent:=some (Ur n) }),(2,{ sh:=some hI })]⟩)],join:=[],loop:=[] }
theorem Aiq (n:Nat):(Ae2 n).Sound PP:=As (fn:=Tryz.f127) (D:=B6s _ n) ⟨Ws n,Ws n,trivial⟩

def A0j {α:Type} (n:Nat) (b c:LI) (d a:Int) (e:LI) (f:LI->LI->Int->Int->LI->Option α) (k0:LI->Option α):Option α :=
 let g:=fun (_:Unit)=>(
  let h:=fun (i:Int)=>(
   let j:=fun (k:Int)=>(
    gd (decide ((e.length + 1) * 8 <= 140737488355328)) (
     f b c (W (Int.tdiv k 10000)) (W (a + 1)) (e ++ [(Int.tmod k 10000)])))
   bif (decide (a < (c.length:Int))) then
    gd (decide (0 <= a) && decide (a < (c.length:Int))) (
     j (W (i + (c.getD a.toNat 0))))
   else
    j i)
  bif (decide (a < (b.length:Int))) then
   gd (decide (0 <= a) && decide (a < (b.length:Int))) (
    h (W (d + (b.getD a.toNat 0))))
  else
   h d)
 bif (decide (a < (b.length:Int))) then
  g ()
 else
  bif (decide (a < (c.length:Int))) then
   g ()
  else
   bif (decide (d > 0)) then
    g ()
   else
    k0 e
abbrev Qz:Tm:=⟨[(0,.d hIs),(1,.d hIs),(5,.k (.hw 8)),(6,.d hI),(7,.d hI)],[(8,.arr 3 hI false)],[48],[]⟩
abbrev Arp:Tm:=⟨[(5,.k (.hw 8))],[(8,.arr 3 hI false)],[],[]⟩
abbrev A0i:List (Exit × Tm):=[(.exit 0,Arp)]
def A0h {α:Type} (n:Nat) (v:Qz.den) (f:Qz.den->Option α) (ks:KS α A0i):Option α:=A0j n v.1.1 v.1.2.1 v.1.2.2.2.1 v.1.2.2.2.2.1 v.2.1 (fun a b c d e=>f ((a,b,(),c,d,()),(e,()))) (fun w0=>ks.1 (((),()),(w0,())))
def Ol {α:Type} (n m:Nat) (a b:LI) (c d:Int) (e:LI) (k0:LI->Option α):Option α:=A5 (A0h n) m ((a,b,(),c,d,()),(e,())) (fun w=>k0 w.2.1,())
theorem Aro {α n m a b c d e k0}:Ol (α:=α) n (m + 1) a b c d e k0 = A0j n a b c d e (fun a b c d e=>Ol n m a b c d e k0) k0:=rfl
abbrev B1c:Tm:=⟨[(0,.d hIs),(1,.d hIs),(5,.k (.hw 8)),(6,.d hI),(7,.d hI)],[(8,.arr 3 hI false)],[],[]⟩
abbrev B1b:Tm:=⟨[(0,.d hIs),(1,.d hIs),(5,.k (.hw 8)),(6,.d hI),(7,.d hI)],[(8,.arr 3 hI false)],[],[]⟩
abbrev Awn:Tm:=⟨[(0,.d hIs),(1,.d hIs),(5,.k (.hw 8)),(6,.d hI),(7,.d hI)],[(8,.arr 3 hI false)],[],[]⟩
def f187 (n:Nat) (a0 a1:LI):Option LI :=
 Ol n n a0 a1 0 0 []
  (fun a=>(
   some a))
def Arq (n:Nat):Ent:=⟨187,[hIs,hIs],[hIs],fun x=>f187 n x.1 x.2⟩
def Adl (α:Type) (n:Nat):D3 α:={ reg:=[(1,⟨0,[],[(0,{ sh:=some hI })]⟩),(10,⟨0,[],[(3,{ sh:=some hI })]⟩)],join:=[(6,B1c),(8,B1b),(10,Awn)],loop:=[(4,⟨Qz,A0i,A5 (A0h n) n⟩)] }
theorem A8c (α:Type) (n:Nat):Al PP (Ah (Adl α n).reg):=trivial
theorem Alu (α:Type) (n:Nat):LO.Sound (α:=α) PP ⟨53,[]⟩ ⟨Qz,A0i,A5 (A0h n) n⟩ (.loop ((A1 Tryz.f187).at [1,1,1,0,1,0,0])):=Bb (D:=Adl α n) (A8c α n) n
theorem B5u (α:Type) (n:Nat):D3.OK PP TT ⟨53,[]⟩ (Adl α n) (A1 Tryz.f187) :=
 D3.OK.mk3 (A8c α n) (show Aa (A1 Tryz.f187) = [(4,(.loop ((A1 Tryz.f187).at [1,1,1,0,1,0,0])))] by kernel_rfl) ⟨Ab rfl (Alu α n),trivial⟩
theorem B19 (n:Nat):(Arq n).Sound PP:=fk (fn:=Tryz.f187) (B5u _ n)

def f186 (n:Nat) (a0:Bool) (a1 a2:LI):Option Rq :=
 ob (f217 n a1 a2) fun b =>
 ob (f219 n a1 b) fun a =>
 ob (f219 n a2 b) fun c =>
 bif a0 then
  some ((decide ((a.1.length:Int) > 0)),a.1,c.1)
 else
  some (false,a.1,c.1)
def On (n:Nat):Ent:=⟨186,[.bool,hIs,hIs],[hR],fun x=>f186 n x.1 x.2.1 x.2.2⟩
def B5v (α:Type) (n:Nat):D3 α:={ reg:=[(1,⟨0,[],[(2,{ ent:=some (Ad3 n) })]⟩),(2,⟨0,[],[(2,{ ent:=some (A35 n) })]⟩),(3,⟨0,[],[(2,{ ent:=some (A35 n) })]⟩)],join:=[],loop:=[] }
theorem Om (n:Nat):(On n).Sound PP:=As (fn:=Tryz.f186) (D:=B5v _ n) ⟨Ahs n,A5s n,A5s n,trivial⟩

def f148 (n:Nat) (a0 a1:Rq):Option Rq :=
 ob (f185 n a0.2.1 a1.2.2) fun a =>
 ob (f185 n a1.2.1 a0.2.2) fun b =>
 ob (f185 n a0.2.2 a1.2.2) fun c =>
 bif (a0.1 == a1.1) then
  ob (f187 n a b) fun d =>
  ob (f186 n a0.1 d c) fun e =>
  some e
 else
  ob (f188 n a b) fun f =>
  bif (decide (f >= 0)) then
   ob (f189 n a b) fun g =>
   ob (f186 n a0.1 g c) fun h =>
   some h
  else
   ob (f189 n b a) fun i =>
   ob (f186 n a1.1 i c) fun j =>
   some j
def Adv (n:Nat):Ent:=⟨148,[hR,hR],[hR],fun x=>f148 n x.1 x.2⟩
def B6k (α:Type) (n:Nat):D3 α:={ reg:=[(1,⟨0,[],[(4,{ ent:=some (Ga n) })]⟩),(2,⟨0,[],[(4,{ ent:=some (Ga n) })]⟩),(3,⟨0,[],[(4,{ ent:=some (Ga n) })]⟩),(5,⟨6,[],[(4,{ ent:=some (Arq n) }),(6,{ ent:=some (On n) })]⟩),(6,⟨0,[],[(2,{ ent:=some (Up n) })]⟩),(7,⟨6,[],[(4,{ ent:=some (A39 n) }),(6,{ ent:=some (On n) })]⟩),(8,⟨6,[],[(4,{ ent:=some (A39 n) }),(6,{ ent:=some (On n) })]⟩)],join:=[],loop:=[] }
theorem Aik (n:Nat):(Adv n).Sound PP:=As (fn:=Tryz.f148) (D:=B6k _ n) ⟨Fp n,Fp n,Fp n,B19 n,Om n,Wp n,A5t n,Om n,A5t n,Om n,trivial⟩

def f152 (n:Nat) (a0:Rq):Option Rq :=
 bif (!a0.1) then
  some ((decide ((a0.2.1.length:Int) > 0)),a0.2)
 else
  some (false,a0.2)
def Adt (n:Nat):Ent:=⟨152,[hR],[hR],fun x=>f152 n x⟩
def B6g (α:Type) (n:Nat):D3 α:={ reg:=[],join:=[],loop:=[] }
theorem Aii (n:Nat):(Adt n).Sound PP:=As (fn:=Tryz.f152) (D:=B6g _ n) trivial

def f149 (n:Nat) (a0 a1:Rq):Option Rq :=
 ob (f152 n a1) fun a =>
 ob (f148 n a0 a) fun b =>
 some b
def Ase (n:Nat):Ent:=⟨149,[hR,hR],[hR],fun x=>f149 n x.1 x.2⟩
def B6j (α:Type) (n:Nat):D3 α:={ reg:=[(1,⟨3,[],[(2,{ ent:=some (Adt n) }),(3,{ ent:=some (Adv n) })]⟩)],join:=[],loop:=[] }
theorem B1v (n:Nat):(Ase n).Sound PP:=As (fn:=Tryz.f149) (D:=B6j _ n) ⟨Aii n,Aik n,trivial⟩

def f150 (n:Nat) (a0 a1:Rq):Option Rq :=
 ob (f185 n a0.2.1 a1.2.1) fun a =>
 ob (f185 n a0.2.2 a1.2.2) fun b =>
 ob (f186 n (!(a0.1 == a1.1)) a b) fun c =>
 some c
def Adu (n:Nat):Ent:=⟨150,[hR,hR],[hR],fun x=>f150 n x.1 x.2⟩
def B6i (α:Type) (n:Nat):D3 α:={ reg:=[(1,⟨15,[],[(9,{ ent:=some (Ga n) }),(14,{ ent:=some (Ga n) }),(15,{ ent:=some (On n) })]⟩)],join:=[],loop:=[] }
theorem Aij (n:Nat):(Adu n).Sound PP:=As (fn:=Tryz.f150) (D:=B6i _ n) ⟨Fp n,Fp n,Om n,trivial⟩

def f145 (n:Nat) (a0:Rq):Option Bool :=
 some ((a0.2.1.length:Int) == 0)
def Asf (n:Nat):Ent:=⟨145,[hR],[.bool],fun x=>f145 n x⟩
def B6l (α:Type) (n:Nat):D3 α:={ reg:=[],join:=[],loop:=[] }
theorem B1w (n:Nat):(Asf n).Sound PP:=As (fn:=Tryz.f145) (D:=B6l _ n) trivial

def f151 (n:Nat) (a0 a1:Rq):Option Rq :=
 ob (f185 n a0.2.1 a1.2.2) fun a =>
 ob (f185 n a0.2.2 a1.2.1) fun b =>
 ob (f186 n (!(a0.1 == a1.1)) a b) fun c =>
 some c
def Asd (n:Nat):Ent:=⟨151,[hR,hR],[hR],fun x=>f151 n x.1 x.2⟩
def B6h (α:Type) (n:Nat):D3 α:={ reg:=[(1,⟨15,[],[(9,{ ent:=some (Ga n) }),(14,{ ent:=some (Ga n) }),(15,{ ent:=some (On n) })]⟩)],join:=[],loop:=[] }
theorem B1u (n:Nat):(Asd n).Sound PP:=As (fn:=Tryz.f151) (D:=B6h _ n) ⟨Fp n,Fp n,Om n,trivial⟩

def A13 {α:Type} (n:Nat) (b c:Int) (d:Bool) (e g:LI) (h i:Bool) (j k:LI) (f:Int->Int->Bool->LI->LI->Bool->Bool->LI->LI->Option α) (k0:Bool->Bool->LI->LI->Option α):Option α :=
 bif (decide (c < b)) then
  ob (f150 n (i,j,k) (d,e,g)) fun a =>
  f b (W (c + 1)) d e g h a.1 a.2.1 a.2.2
 else
  k0 h i j k
abbrev R8:Tm:=⟨[(1,.d hI),(2,.k (.hp 2 0 0)),(4,.k (.hp 4 0 0)),(5,.k (.hp 5 0 0)),(6,.d hI)],[(2,.var 31 true false [.d .bool,.d hIs,.d hIs]),(4,.var 31 true false [.d .bool,.d .nil,.d .nil]),(5,.var 31 true false [.d .bool,.d hIs,.d hIs])],[],[]⟩
abbrev Asb:Tm:=⟨[(4,.k (.hp 4 0 0)),(5,.k (.hp 5 0 0))],[(4,.var 31 true false [.d .bool,.d .nil,.d .nil]),(5,.var 31 true false [.d .bool,.d hIs,.d hIs])],[2],[]⟩
abbrev A12:List (Exit × Tm):=[(.exit 0,Asb)]
def A11 {α:Type} (n:Nat) (v:R8.den) (f:R8.den->Option α) (ks:KS α A12):Option α:=A13 n v.1.1 v.1.2.2.2.2.1 v.2.1.1 v.2.1.2.1 v.2.1.2.2.1 v.2.2.1.1 v.2.2.2.1.1 v.2.2.2.1.2.1 v.2.2.2.1.2.2.1 (fun a b c d e g h i j=>f ((a,(),(),(),b,()),((c,d,e,()),(g,(),(),()),(h,i,j,()),()))) (fun w0 w1 w2 w3=>ks.1 (((),(),()),((w0,(),(),()),(w1,w2,w3,()),())))
def Wx {α:Type} (n m:Nat) (a b:Int) (c:Bool) (d e:LI) (f g:Bool) (h i:LI) (k0:Bool->Bool->LI->LI->Option α):Option α:=A5 (A11 n) m ((a,(),(),(),b,()),((c,d,e,()),(f,(),(),()),(g,h,i,()),())) (fun w=>k0 w.2.1.1 w.2.2.1.1 w.2.2.1.2.1 w.2.2.1.2.2.1,())
theorem Asa {α n m a b c d e f g h i k0}:Wx (α:=α) n (m + 1) a b c d e f g h i k0 = A13 n a b c d e f g h i (fun a b c d e f g h i=>Wx n m a b c d e f g h i k0) k0:=rfl
def f153 (n:Nat) (a0:Rq) (a1:Int):Option Rq :=
 ob (f127 n 1) fun a =>
 Wx n n a1 0 a0.1 a0.2.1 a0.2.2 false a.1 a.2.1 a.2.2
  (fun e b c d=>(
   some (b,c,d)))
def Asc (n:Nat):Ent:=⟨153,[hR,hI],[hR],fun x=>f153 n x.1 x.2⟩
def Ads (α:Type) (n:Nat):D3 α:={ reg:=[(1,⟨0,[],[(0,{ ent:=some (Ae2 n) })]⟩),(5,⟨0,[],[(2,{ ent:=some (Adu n) })]⟩)],join:=[],loop:=[(3,⟨R8,A12,A5 (A11 n) n⟩)] }
theorem A8h (α:Type) (n:Nat):Al PP (Ah (Ads α n).reg):=⟨Aiq n,Aij n,trivial⟩
theorem Am3 (α:Type) (n:Nat):LO.Sound (α:=α) PP ⟨17,[]⟩ ⟨R8,A12,A5 (A11 n) n⟩ (.loop ((A1 Tryz.f153).at [1,1,0,1,0,0])):=Bb (D:=Ads α n) (A8h α n) n
theorem B6f (α:Type) (n:Nat):D3.OK PP TT ⟨17,[]⟩ (Ads α n) (A1 Tryz.f153) :=
 D3.OK.mk3 (A8h α n) (show Aa (A1 Tryz.f153) = [(3,(.loop ((A1 Tryz.f153).at [1,1,0,1,0,0])))] by kernel_rfl) ⟨Ab rfl (Am3 α n),trivial⟩
theorem B1t (n:Nat):(Asc n).Sound PP:=fk (fn:=Tryz.f153) (B6f _ n)

def f154 (n:Nat) (a0:Rq):Option Bool :=
 bif (decide ((a0.2.1.length:Int) <= 40)) then
  some (decide ((a0.2.2.length:Int) <= 40))
 else
  some false
def As9 (n:Nat):Ent:=⟨154,[hR],[.bool],fun x=>f154 n x⟩
def B6e (α:Type) (n:Nat):D3 α:={ reg:=[],join:=[],loop:=[] }
theorem B1s (n:Nat):(As9 n).Sound PP:=As (fn:=Tryz.f154) (D:=B6e _ n) trivial

abbrev Aoj:Tm:=⟨[(1,.k (.hp 1 0 0)),(2,.k (.hp 2 0 0))],[(1,.var 31 true false [.d .bool,.d hIs,.d hIs]),(2,.var 31 true false [.d .bool,.d .nil,.d .nil])],[],[]⟩
def f91 (n:Nat) (a0:Rq):Option Rq :=
 gd (decide ((0 + a0.2.1.length) * 8 <= 140737488355328)) (
  gd (decide ((0 + a0.2.2.length) * 8 <= 140737488355328)) (
   some a0))
def Axz (n:Nat):Ent:=⟨91,[hR],[hR],fun x=>f91 n x⟩
def Ay0 (α:Type) (n:Nat):D3 α:={ reg:=[(1,⟨0,[],[(2,{ sh:=some hI }),(6,{ sh:=some hI })]⟩)],join:=[],loop:=[],any:=[(1,Aoj)] }
set_option maxHeartbeats 8000000 in
theorem B3q (n:Nat):B4 TT ⟨14,[]⟩ [(2,{ sh:=some hI }),(6,{ sh:=some hI })] Aoj (Af ((A1 Tryz.f91).at [1,0])):=by
 refine ⟨by kernel_rfl,fun w q hq=>?_⟩
 have e:WT [(2,{ sh:=some hI }),(6,{ sh:=some hI })] (A9 (Af ((A1 Tryz.f91).at [1,0])).toList) q = (q = []):=by kernel_rfl
 rw [e] at hq;obtain rfl:=hq
 all_goals exact .inl (Jc.mk (by kernel_rfl))
theorem Avj (α:Type) (n:Nat):Al PP (Ah (Ay0 α n).reg):=trivial
theorem B82 (α:Type) (n:Nat):D3.OK PP TT ⟨14,[]⟩ (Ay0 α n) (A1 Tryz.f91) :=
 D3.OK.mk3a (Avj α n) (show Aa (A1 Tryz.f91) = [] by kernel_rfl) trivial (show Ax (A1 Tryz.f91) = [(1,Af ((A1 Tryz.f91).at [1,0]))] by kernel_rfl) ⟨⟨B3q n,trivial⟩,trivial⟩
theorem B3p (n:Nat):(Axz n).Sound PP:=fk (fn:=Tryz.f91) (B82 _ n)

def O7 {α:Type} (n:Nat) (g:LR) (d:Int) (e:LN) (t:Int) (b:LR) (f:LR->Int->LN->Int->LR->Option α) (k0:LR->Int->Option α) (k1:LR->Option α):Option α :=
 bif (decide (d < (e.length:Int))) then
  gd (decide (0 <= d) && decide (d < (e.length:Int))) (
   let a:=e.getD d.toNat (0,0,0,0)
   ob (f127 n a.2.2.2) fun h =>
   let c:=fun (q:Bool) (r:LI) (s:LI)=>(
    ob (f154 n (q,r,s)) fun u =>
    bif (!u) then
     k0 [] 7
    else
     ob (f91 n (q,r,s)) fun v =>
     gd (decide ((b.length + 1) * 56 <= 140737488355328)) (
      f g (W (d + 1)) e t (b ++ [v])))
   bif (a.1 == 1) then
    c h.1 h.2.1 h.2.2
   else
    bif (a.1 == 2) then
     gd (decide (0 <= a.2.2.2) && decide (a.2.2.2 < (g.length:Int))) (
      let i:=g.getD a.2.2.2.toNat (false,[],[])
      c i.1 i.2.1 i.2.2)
    else
     bif (a.1 == 3) then
      gd (decide (0 <= a.2.1) && decide (a.2.1 < (b.length:Int))) (
       gd (decide (a.2.1.toNat < b.length)) (
        let w:=b.getD a.2.1.toNat (false,[],[])
        gd (decide (0 <= a.2.2.1) && decide (a.2.2.1 < (b.length:Int))) (
         gd (decide (a.2.2.1.toNat < b.length)) (
          let x:=b.getD a.2.2.1.toNat (false,[],[])
          ob (f148 n w x) fun j =>
          c j.1 j.2.1 j.2.2))))
     else
      bif (a.1 == 4) then
       gd (decide (0 <= a.2.1) && decide (a.2.1 < (b.length:Int))) (
        gd (decide (a.2.1.toNat < b.length)) (
         let y:=b.getD a.2.1.toNat (false,[],[])
         gd (decide (0 <= a.2.2.1) && decide (a.2.2.1 < (b.length:Int))) (
          gd (decide (a.2.2.1.toNat < b.length)) (
           let z:=b.getD a.2.2.1.toNat (false,[],[])
           ob (f149 n y z) fun k =>
           c k.1 k.2.1 k.2.2))))
      else
       bif (a.1 == 5) then
        gd (decide (0 <= a.2.1) && decide (a.2.1 < (b.length:Int))) (
         gd (decide (a.2.1.toNat < b.length)) (
          let d0:=b.getD a.2.1.toNat (false,[],[])
          gd (decide (0 <= a.2.2.1) && decide (a.2.2.1 < (b.length:Int))) (
           gd (decide (a.2.2.1.toNat < b.length)) (
            let d1:=b.getD a.2.2.1.toNat (false,[],[])
            ob (f150 n d0 d1) fun l =>
            c l.1 l.2.1 l.2.2))))
       else
        bif (a.1 == 6) then
         gd (decide (0 <= a.2.2.1) && decide (a.2.2.1 < (b.length:Int))) (
          gd (decide (a.2.2.1.toNat < b.length)) (
           let d2:=b.getD a.2.2.1.toNat (false,[],[])
           ob (f145 n d2) fun d3 =>
           bif d3 then
            k0 [] 10
           else
            gd (decide (0 <= a.2.1) && decide (a.2.1 < (b.length:Int))) (
             gd (decide (a.2.1.toNat < b.length)) (
              let d4:=b.getD a.2.1.toNat (false,[],[])
              gd (decide (0 <= a.2.2.1) && decide (a.2.2.1 < (b.length:Int))) (
               gd (decide (a.2.2.1.toNat < b.length)) (
                let d5:=b.getD a.2.2.1.toNat (false,[],[])
                ob (f151 n d4 d5) fun m =>
                c m.1 m.2.1 m.2.2))))))
        else
         bif (a.1 == 7) then
          gd (decide (0 <= a.2.1) && decide (a.2.1 < (b.length:Int))) (
           gd (decide (a.2.1.toNat < b.length)) (
            let d6:=b.getD a.2.1.toNat (false,[],[])
            ob (f152 n d6) fun o =>
            c o.1 o.2.1 o.2.2))
         else
          gd (decide (0 <= a.2.1) && decide (a.2.1 < (b.length:Int))) (
           gd (decide (a.2.1.toNat < b.length)) (
            let d7:=b.getD a.2.1.toNat (false,[],[])
            ob (f153 n d7 a.2.2.2) fun p =>
            c p.1 p.2.1 p.2.2)))
 else
  k1 b
abbrev Vr:Tm:=⟨[(1,.d hRs),(2,.k (.hp 2 0 0)),(6,.k (.hw 10)),(7,.d hI)],[(2,.var 65 true false [.d hNs,.d hI]),(10,.arr 31 hR false)],[9,119],[]⟩
abbrev Avi:Tm:=⟨[(4,.d hRs),(5,.d hI)],[],[2,8,9,10,92,115],[(4,hRs)]⟩
abbrev Avh:Tm:=⟨[(6,.k (.hw 10))],[(10,.arr 31 hR false)],[2],[]⟩
abbrev A4o:List (Exit × Tm):=[(.ret,Avi),(.exit 0,Avh)]
def A4n {α:Type} (n:Nat) (v:Vr.den) (f:Vr.den->Option α) (ks:KS α A4o):Option α:=O7 n v.1.1 v.1.2.2.2.1 v.2.1.1 v.2.1.2.1 v.2.2.1 (fun a b c d e=>f ((a,(),(),b,()),((c,d,()),e,()))) (fun w0 w1=>ks.1 ((w0,w1,()),())) (fun w0=>ks.2.1 (((),()),(w0,())))
def A2m {α:Type} (n m:Nat) (a:LR) (b:Int) (c:LN) (d:Int) (e:LR) (k0:LR->Int->Option α) (k1:LR->Option α):Option α:=A5 (A4n n) m ((a,(),(),b,()),((c,d,()),e,())) (fun w=>k0 w.1.1 w.1.2.1,fun w=>k1 w.2.1,())
theorem Avg {α n m a b c d e k0 k1}:A2m (α:=α) n (m + 1) a b c d e k0 k1 = O7 n a b c d e (fun a b c d e=>A2m n m a b c d e k0 k1) k0 k1:=rfl
abbrev Az7:Tm:=⟨[(1,.d hRs),(2,.k (.hp 2 0 0)),(6,.k (.hw 10)),(7,.d hI),(9,.k (.hp 9 0 0))],[(2,.var 65 true false [.d hNs,.d hI]),(9,.var 31 true false [.d .bool,.d hIs,.d hIs]),(10,.arr 31 hR false)],[8],[]⟩
def f93 (n:Nat) (a0:LN × Int) (a1:LR):Option (LR × Int) :=
 A2m n n a1 0 a0.1 a0.2 []
  (fun a b=>(
   some (a,b)))
  (fun c=>(
   some (c,0)))
def Axy (n:Nat):Ent:=⟨93,[(.st (.pair hNs hI)),hRs],[hRs,hI],fun x=>f93 n x.1 x.2⟩
def Ak6 (α:Type) (n:Nat):D3 α:={ reg:=[(1,⟨0,[],[(0,{ sh:=some hR })]⟩),(6,⟨0,[],[(2,{ ent:=some (Ae2 n) })]⟩),(8,⟨7,[],[(7,{ ent:=some (Asc n) })]⟩),(13,⟨10,[],[(10,{ ent:=some (Adv n) })]⟩),(15,⟨10,[],[(10,{ ent:=some (Ase n) })]⟩),(17,⟨10,[],[(10,{ ent:=some (Adu n) })]⟩),(19,⟨0,[],[(5,{ ent:=some (Asf n) })]⟩),(20,⟨0,[],[(0,{ sh:=some hR })]⟩),(21,⟨10,[],[(10,{ ent:=some (Asd n) })]⟩),(23,⟨0,[],[(5,{ ent:=some (Adt n) })]⟩),(24,⟨0,[],[(1,{ ent:=some (As9 n) })]⟩),(25,⟨0,[],[(0,{ sh:=some hR })]⟩),(26,⟨0,[],[(2,{ ent:=some (Axz n) }),(3,{ sh:=some hR })]⟩)],join:=[(24,Az7)],loop:=[(3,⟨Vr,A4o,A5 (A4n n) n⟩)] }
theorem Abn (α:Type) (n:Nat):Al PP (Ah (Ak6 α n).reg):=⟨Aiq n,B1t n,Aik n,B1v n,Aij n,B1w n,B1u n,Aii n,B1s n,B3p n,trivial⟩
theorem Aoi (α:Type) (n:Nat):LO.Sound (α:=α) PP ⟨122,[]⟩ ⟨Vr,A4o,A5 (A4n n) n⟩ (.loop ((A1 Tryz.f93).at [1,1,0,1,0,0])):=Bb (D:=Ak6 α n) (Abn α n) n
theorem B81 (α:Type) (n:Nat):D3.OK PP TT ⟨122,[]⟩ (Ak6 α n) (A1 Tryz.f93) :=
 D3.OK.mk3 (Abn α n) (show Aa (A1 Tryz.f93) = [(3,(.loop ((A1 Tryz.f93).at [1,1,0,1,0,0])))] by kernel_rfl) ⟨Ab rfl (Aoi α n),trivial⟩
theorem B3o (n:Nat):(Axy n).Sound PP:=fk (fn:=Tryz.f93) (B81 _ n)

def f51 (n:Nat) (a0:LN × Int) (a1:LR):Option (LR × Int) :=
 bif (decide ((a1.length:Int) > 4096)) then
  some ([],2)
 else
  ob (f101 n a0 a1) fun a =>
  bif (a != 0) then
   some ([],a)
  else
   ob (f93 n a0 a1) fun b =>
   some (b.1,b.2)
def Ay8 (n:Nat):Ent:=⟨51,[(.st (.pair hNs hI)),hRs],[hRs,hI],fun x=>f51 n x.1 x.2⟩
def B8g (α:Type) (n:Nat):D3 α:={ reg:=[(2,⟨0,[],[(0,{ sh:=some hR })]⟩),(3,⟨0,[],[(2,{ ent:=some (At8 n) })]⟩),(5,⟨0,[],[(0,{ sh:=some hR })]⟩),(6,⟨0,[],[(2,{ ent:=some (Axy n) })]⟩)],join:=[],loop:=[] }
theorem B49 (n:Nat):(Ay8 n).Sound PP:=As (fn:=Tryz.f51) (D:=B8g _ n) ⟨B2g n,B3o n,trivial⟩

def Q1 {α:Type} (n:Nat) (b:LN) (a:Int) (c:LN) (f:LN->Int->LN->Option α) (k0:LN->Option α):Option α :=
 bif (decide (a < (b.length:Int))) then
  gd (decide (0 <= a) && decide (a < (b.length:Int))) (
   let d:=b.getD a.toNat (0,0,0,0)
   ob (f138 n d) fun e =>
   gd (decide (0 <= a) && decide (a < (c.length:Int))) (
    gd (decide (a.toNat < c.length)) (
     f b (W (a + 1)) (c.set a.toNat e))))
 else
  k0 c
abbrev Q0:Tm:=⟨[(0,.d hNs),(3,.k (.hw 7)),(4,.d hI)],[(7,.arr 125 hN false)],[],[]⟩
abbrev Aoy:Tm:=⟨[(3,.k (.hw 7))],[(7,.arr 125 hN false)],[],[]⟩
abbrev Ys:List (Exit × Tm):=[(.exit 0,Aoy)]
def Yr {α:Type} (n:Nat) (v:Q0.den) (f:Q0.den->Option α) (ks:KS α Ys):Option α:=Q1 n v.1.1 v.1.2.2.1 v.2.1 (fun a b c=>f ((a,(),b,()),(c,()))) (fun w0=>ks.1 (((),()),(w0,())))
def O8 {α:Type} (n m:Nat) (a:LN) (b:Int) (c:LN) (k0:LN->Option α):Option α:=A5 (Yr n) m ((a,(),b,()),(c,())) (fun w=>k0 w.2.1,())
theorem A7i {α n m a b c k0}:O8 (α:=α) n (m + 1) a b c k0 = Q1 n a b c (fun a b c=>O8 n m a b c k0) k0:=rfl
def Avv (n:Nat) (a0:LN):Option LN :=
 gd (decide (0 <= (a0.length:Int)) && decide ((a0.length:Int) <= 4611686018427387904) && decide ((32:Int) * (a0.length:Int) <= 281474976710656)) (
  O8 n n a0 0 (List.replicate ((a0.length:Int).toNat) (0,0,0,0))
   (fun a=>(
    some a)))
def Aoz (n:Nat):Ent3:=⟨82,[.im hNs],[[.one (.own 125 hN)]],fun x=>Avv n x⟩
def Ac1 (α:Type) (n:Nat):D3 α:={ reg:=[(5,⟨0,[],[(6,{ ent:=some (Ae0 n) })]⟩)],join:=[],loop:=[(3,⟨Q0,Ys,A5 (Yr n) n⟩)] }
theorem A7h (α:Type) (n:Nat):Al PP (Ah (Ac1 α n).reg):=⟨Ain n,trivial⟩
theorem Akj (α:Type) (n:Nat):LO.Sound (α:=α) PP ⟨23,[]⟩ ⟨Q0,Ys,A5 (Yr n) n⟩ (.loop ((A1 Tryz.f82).at [1,1,0,1,0,0])):=Bb (D:=Ac1 α n) (A7h α n) n
theorem B3z (α:Type) (n:Nat):D3.OK PP TT ⟨23,[]⟩ (Ac1 α n) (A1 Tryz.f82) :=
 D3.OK.mk3 (A7h α n) (show Aa (A1 Tryz.f82) = [(3,(.loop ((A1 Tryz.f82).at [1,1,0,1,0,0])))] by kernel_rfl) ⟨Ab rfl (Akj α n),trivial⟩
theorem Azd (n:Nat):(Aoz n).Sound PP:=O6 (fn:=Tryz.f82) (B3z _ n)

def Aca (n:Nat) (a0:LN × Int):Option (LN × Int) :=
 ob (Avv n a0.1) fun a =>
 some (a,a0.2)
def Apb (n:Nat):Ent3:=⟨43,[.im (.st (.pair hNs hI))],[[.mix [.own 125 hN,.im hI]]],fun x=>Aca n x⟩
def B4f (α:Type) (n:Nat):D3 α:={ reg:=[(2,⟨0,[],[(2,{ entB:=some (Aoz n),hb:=310 })]⟩)],join:=[],loop:=[] }
theorem Azm (n:Nat):(Apb n).Sound PP:=Abj (fn:=Tryz.f43) (D:=B4f _ n) ⟨Azd n,trivial⟩

def Uu {α:Type} (n:Nat) (b:LI) (a:Int) (c:LI) (f:LI->Int->LI->Option α) (k0:LI->Option α):Option α :=
 bif (decide (a < (b.length:Int))) then
  gd (decide (0 <= a) && decide (a < (b.length:Int))) (
   gd (decide (0 <= a) && decide (a < (c.length:Int))) (
    gd (decide (a.toNat < c.length)) (
     f b (W (a + 1)) (c.set a.toNat (b.getD a.toNat 0)))))
 else
  k0 c
abbrev N5:Tm:=⟨[(0,.d hIs),(3,.k (.hw 7)),(4,.d hI)],[(7,.arr 3 hI false)],[],[]⟩
abbrev Am6:Tm:=⟨[(3,.k (.hw 7))],[(7,.arr 3 hI false)],[],[]⟩
abbrev Ut:List (Exit × Tm):=[(.exit 0,Am6)]
def Us {α:Type} (n:Nat) (v:N5.den) (f:N5.den->Option α) (ks:KS α Ut):Option α:=Uu n v.1.1 v.1.2.2.1 v.2.1 (fun a b c=>f ((a,(),b,()),(c,()))) (fun w0=>ks.1 (((),()),(w0,())))
def Ra {α:Type} (n m:Nat) (a:LI) (b:Int) (c:LI) (k0:LI->Option α):Option α:=A5 (Us n) m ((a,(),b,()),(c,())) (fun w=>k0 w.2.1,())
theorem Am5 {α n m a b c k0}:Ra (α:=α) n (m + 1) a b c k0 = Uu n a b c (fun a b c=>Ra n m a b c k0) k0:=rfl
def A3f (n:Nat) (a0:LI):Option LI :=
 gd (decide (0 <= (a0.length:Int)) && decide ((a0.length:Int) <= 4611686018427387904) && decide ((8:Int) * (a0.length:Int) <= 281474976710656)) (
  Ra n n a0 0 (List.replicate ((a0.length:Int).toNat) 0)
   (fun a=>(
    some a)))
def A5y (n:Nat):Ent3:=⟨139,[.im hIs],[[.one (.own 3 hI)]],fun x=>A3f n x⟩
def A5z (α:Type) (n:Nat):D3 α:={ reg:=[],join:=[],loop:=[(3,⟨N5,Ut,A5 (Us n) n⟩)] }
theorem A3e (α:Type) (n:Nat):Al PP (Ah (A5z α n).reg):=trivial
theorem Aga (α:Type) (n:Nat):LO.Sound (α:=α) PP ⟨22,[]⟩ ⟨N5,Ut,A5 (Us n) n⟩ (.loop ((A1 Tryz.f139).at [1,1,0,1,0,0])):=Bb (D:=A5z α n) (A3e α n) n
theorem B1y (α:Type) (n:Nat):D3.OK PP TT ⟨22,[]⟩ (A5z α n) (A1 Tryz.f139) :=
 D3.OK.mk3 (A3e α n) (show Aa (A1 Tryz.f139) = [(3,(.loop ((A1 Tryz.f139).at [1,1,0,1,0,0])))] by kernel_rfl) ⟨Ab rfl (Aga α n),trivial⟩
theorem Ady (n:Nat):(A5y n).Sound PP:=O6 (fn:=Tryz.f139) (B1y _ n)

def Akh (n:Nat) (a0:Rq):Option (Bool × LI × LI) :=
 ob (A3f n a0.2.1) fun a =>
 ob (A3f n a0.2.2) fun b =>
 some (a0.1,a,b)
def Aow (n:Nat):Ent3:=⟨83,[.im hR],[[.mix [.im .bool,.own 3 hI,.own 3 hI]]],fun x=>Akh n x⟩
def B3x (α:Type) (n:Nat):D3 α:={ reg:=[(3,⟨0,[],[(2,{ entB:=some (A5y n),hb:=310 })]⟩),(4,⟨0,[],[(2,{ entB:=some (A5y n),hb:=320 })]⟩)],join:=[],loop:=[] }
theorem Azb (n:Nat):(Aow n).Sound PP:=Abj (fn:=Tryz.f83) (D:=B3x _ n) ⟨Ady n,Ady n,trivial⟩

def Yy {α:Type} (n:Nat) (b:LR) (a:Int) (c:LR) (f:LR->Int->LR->Option α) (k0:LR->Option α):Option α :=
 bif (decide (a < (b.length:Int))) then
  gd (decide (0 <= a) && decide (a < (b.length:Int))) (
   let d:=b.getD a.toNat (false,[],[])
   ob (Akh n d) fun e =>
   gd (decide (0 <= a) && decide (a < (c.length:Int))) (
    gd (decide (a.toNat < c.length)) (
     f b (W (a + 1)) (c.set a.toNat e))))
 else
  k0 c
abbrev Q6:Tm:=⟨[(0,.d hRs),(3,.k (.hw 7)),(4,.d hI)],[(7,.tree 31 hR false)],[],[]⟩
abbrev Api:Tm:=⟨[(3,.k (.hw 7))],[(7,.tree 31 hR false)],[],[]⟩
abbrev Yx:List (Exit × Tm):=[(.exit 0,Api)]
def Yw {α:Type} (n:Nat) (v:Q6.den) (f:Q6.den->Option α) (ks:KS α Yx):Option α:=Yy n v.1.1 v.1.2.2.1 v.2.1 (fun a b c=>f ((a,(),b,()),(c,()))) (fun w0=>ks.1 (((),()),(w0,())))
def Wf {α:Type} (n m:Nat) (a:LR) (b:Int) (c:LR) (k0:LR->Option α):Option α:=A5 (Yw n) m ((a,(),b,()),(c,())) (fun w=>k0 w.2.1,())
theorem Aph {α n m a b c k0}:Wf (α:=α) n (m + 1) a b c k0 = Yy n a b c (fun a b c=>Wf n m a b c k0) k0:=rfl
def Akv (n:Nat) (a0:LR):Option LR :=
 gd (decide (0 <= (a0.length:Int)) && decide ((a0.length:Int) <= 4611686018427387904) && decide ((56:Int) * (a0.length:Int) <= 281474976710656)) (
  Wf n n a0 0 (List.replicate ((a0.length:Int).toNat) (false,[],[]))
   (fun a=>(
    some a)))
def Apj (n:Nat):Ent3:=⟨32,[.im hRs],[[.one (.tree 31 hR)]],fun x=>Akv n x⟩
def Ack (α:Type) (n:Nat):D3 α:={ reg:=[(1,⟨0,[],[(2,{ tr:=some hR })]⟩),(5,⟨0,[],[(6,{ entB:=some (Aow n),hb:=310 })]⟩)],join:=[],loop:=[(3,⟨Q6,Yx,A5 (Yw n) n⟩)] }
theorem A7n (α:Type) (n:Nat):Al PP (Ah (Ack α n).reg):=⟨Azb n,trivial⟩
theorem Aku (α:Type) (n:Nat):LO.Sound (α:=α) PP ⟨23,[]⟩ ⟨Q6,Yx,A5 (Yw n) n⟩ (.loop ((A1 Tryz.f32).at [1,1,0,1,0,0])):=Bb (D:=Ack α n) (A7n α n) n
theorem B4m (α:Type) (n:Nat):D3.OK PP TT ⟨23,[]⟩ (Ack α n) (A1 Tryz.f32) :=
 D3.OK.mk3 (A7n α n) (show Aa (A1 Tryz.f32) = [(3,(.loop ((A1 Tryz.f32).at [1,1,0,1,0,0])))] by kernel_rfl) ⟨Ab rfl (Aku α n),trivial⟩
theorem Azq (n:Nat):(Apj n).Sound PP:=O6 (fn:=Tryz.f32) (B4m _ n)

def A1a {α:Type} (n:Nat) (c:Int) (b:LI) (d a:Int) (f:Int->LI->Int->Int->Option α) (k0:Int->Option α) (k1:Unit->Option α):Option α :=
 bif (decide (a < d)) then
  gd (decide (0 <= a) && decide (a < (b.length:Int))) (
   bif (decide ((b.getD a.toNat 0) > c)) then
    k0 2
   else
    f c b d (W (a + 1)))
 else
  k1 ()
abbrev Rd:Tm:=⟨[(0,.d hI),(7,.d hIs),(8,.d hI),(9,.d hI)],[],[],[]⟩
abbrev Asn:Tm:=⟨[(4,.d hI)],[],[],[]⟩
abbrev Asm:Tm:=⟨[],[],[],[]⟩
abbrev A19:List (Exit × Tm):=[(.ret,Asn),(.exit 0,Asm)]
def A18 {α:Type} (n:Nat) (v:Rd.den) (f:Rd.den->Option α) (ks:KS α A19):Option α:=A1a n v.1.1 v.1.2.1 v.1.2.2.1 v.1.2.2.2.1 (fun a b c d=>f ((a,b,c,d,()),())) (fun w0=>ks.1 ((w0,()),())) (fun _=>ks.2.1 ((),()))
def Ow {α:Type} (n m:Nat) (a:Int) (b:LI) (c d:Int) (k0:Int->Option α) (k1:Unit->Option α):Option α:=A5 (A18 n) m ((a,b,c,d,()),()) (fun w=>k0 w.1.1,fun w=>k1 (),())
theorem Asl {α n m a b c d k0 k1}:Ow (α:=α) n (m + 1) a b c d k0 k1 = A1a n a b c d (fun a b c d=>Ow n m a b c d k0 k1) k0 k1:=rfl
def f121 (n:Nat) (a0:Int) (a1:LI):Option Int :=
 Ow n n a0 a1 (a1.length:Int) 0
  (fun a=>(
   some a))
  (fun (_:Unit)=>(
   some 0))
def Aso (n:Nat):Ent:=⟨121,[hI,hIs],[hI],fun x=>f121 n x.1 x.2⟩
def Ae3 (α:Type) (n:Nat):D3 α:={ reg:=[],join:=[],loop:=[(2,⟨Rd,A19,A5 (A18 n) n⟩)] }
theorem A8l (α:Type) (n:Nat):Al PP (Ah (Ae3 α n).reg):=trivial
theorem Am9 (α:Type) (n:Nat):LO.Sound (α:=α) PP ⟨17,[]⟩ ⟨Rd,A19,A5 (A18 n) n⟩ (.loop ((A1 Tryz.f121).at [1,0,1,0,0])):=Bb (D:=Ae3 α n) (A8l α n) n
theorem B6u (α:Type) (n:Nat):D3.OK PP TT ⟨17,[]⟩ (Ae3 α n) (A1 Tryz.f121) :=
 D3.OK.mk3 (A8l α n) (show Aa (A1 Tryz.f121) = [(2,(.loop ((A1 Tryz.f121).at [1,0,1,0,0])))] by kernel_rfl) ⟨Ab rfl (Am9 α n),trivial⟩
theorem B21 (n:Nat):(Aso n).Sound PP:=fk (fn:=Tryz.f121) (B6u _ n)

def A55 {α:Type} (n:Nat) (b:List LR) (d a:Int) (c:LI) (f:(List LR)->Int->Int->LI->Option α) (k0:LI->Option α):Option α :=
 bif (decide (a < d)) then
  gd (decide (0 <= a) && decide (a < (b.length:Int))) (
   gd (decide ((c.length + 1) * 8 <= 140737488355328)) (
    f b d (W (a + 1)) (c ++ [(((b.getD a.toNat []).length:Nat):Int)])))
 else
  k0 c
abbrev W5:Tm:=⟨[(3,.k (.hw 6)),(7,.d (.sl hRs)),(8,.d hI),(9,.d hI)],[(6,.arr 3 hI false)],[16],[]⟩
abbrev Avx:Tm:=⟨[(3,.k (.hw 6))],[(6,.arr 3 hI false)],[],[]⟩
abbrev A54:List (Exit × Tm):=[(.exit 0,Avx)]
def A53 {α:Type} (n:Nat) (v:W5.den) (f:W5.den->Option α) (ks:KS α A54):Option α:=A55 n v.1.2.1 v.1.2.2.1 v.1.2.2.2.1 v.2.1 (fun a b c d=>f (((),a,b,c,()),(d,()))) (fun w0=>ks.1 (((),()),(w0,())))
def U4 {α:Type} (n m:Nat) (a:List LR) (b c:Int) (d:LI) (k0:LI->Option α):Option α:=A5 (A53 n) m (((),a,b,c,()),(d,())) (fun w=>k0 w.2.1,())
theorem Avw {α n m a b c d k0}:U4 (α:=α) n (m + 1) a b c d k0 = A55 n a b c d (fun a b c d=>U4 n m a b c d k0) k0:=rfl
def f65 (n:Nat) (a0:List LR):Option Int :=
 U4 n n a0 (a0.length:Int) 0 []
  (fun a=>(
   ob (f121 n 4096 a) fun b =>
   some b))
def W6 (n:Nat):Ent:=⟨65,[(.sl hRs)],[hI],fun x=>f65 n x⟩
def Akl (α:Type) (n:Nat):D3 α:={ reg:=[(1,⟨0,[],[(0,{ sh:=some hI })]⟩),(5,⟨0,[],[(3,{ sh:=some hI })]⟩),(7,⟨0,[],[(1,{ ent:=some (Aso n) })]⟩)],join:=[],loop:=[(3,⟨W5,A54,A5 (A53 n) n⟩)] }
theorem Ac3 (α:Type) (n:Nat):Al PP (Ah (Akl α n).reg):=⟨B21 n,trivial⟩
theorem Ap1 (α:Type) (n:Nat):LO.Sound (α:=α) PP ⟨21,[]⟩ ⟨W5,A54,A5 (A53 n) n⟩ (.loop ((A1 Tryz.f65).at [1,1,0,1,0,0])):=Bb (D:=Akl α n) (Ac3 α n) n
theorem B8c (α:Type) (n:Nat):D3.OK PP TT ⟨21,[]⟩ (Akl α n) (A1 Tryz.f65) :=
 D3.OK.mk3 (Ac3 α n) (show Aa (A1 Tryz.f65) = [(3,(.loop ((A1 Tryz.f65).at [1,1,0,1,0,0])))] by kernel_rfl) ⟨Ab rfl (Ap1 α n),trivial⟩
theorem B43 (n:Nat):(W6 n).Sound PP:=fk (fn:=Tryz.f65) (B8c _ n)

def f184 (n:Nat) (a0 a1 a2:Int):Option Bool :=
 bif (decide (a1 <= a0)) then
  some (decide (a0 <= a2))
 else
  some false
def M6 (n:Nat):Ent:=⟨184,[hI,hI,hI],[.bool],fun x=>f184 n x.1 x.2.1 x.2.2⟩
def B5x (α:Type) (n:Nat):D3 α:={ reg:=[],join:=[],loop:=[] }
theorem L8 (n:Nat):(M6 n).Sound PP:=As (fn:=Tryz.f184) (D:=B5x _ n) trivial

def f236 (n:Nat) (a0:Nq):Option Bool :=
 bif (a0.1 == 1) then
  ob (f184 n a0.2.2.2 0 999999999) fun a =>
  some a
 else
  bif (a0.1 == 2) then
   ob (f184 n a0.2.2.2 0 3) fun b =>
   some b
  else
   bif (a0.1 == 8) then
    ob (f184 n a0.2.2.2 0 8) fun c =>
    some c
   else
    some (a0.2.2.2 == 0)
def Apm (n:Nat):Ent:=⟨236,[hN],[.bool],fun x=>f236 n x⟩
def B4r (α:Type) (n:Nat):D3 α:={ reg:=[(3,⟨0,[],[(2,{ ent:=some (M6 n) })]⟩),(5,⟨0,[],[(2,{ ent:=some (M6 n) })]⟩),(7,⟨0,[],[(2,{ ent:=some (M6 n) })]⟩)],join:=[],loop:=[] }
theorem Azv (n:Nat):(Apm n).Sound PP:=As (fn:=Tryz.f236) (D:=B4r _ n) ⟨L8 n,L8 n,L8 n,trivial⟩

def f109 (n:Nat) (a0:Nq):Option Int :=
 bif (a0.1 == 3) then
  some 2
 else
  bif (a0.1 == 4) then
   some 2
  else
   bif (a0.1 == 5) then
    some 2
   else
    bif (a0.1 == 6) then
     some 2
    else
     bif (a0.1 == 7) then
      some 1
     else
      bif (a0.1 == 8) then
       some 1
      else
       some 0
def A3i (n:Nat):Ent:=⟨109,[hN],[hI],fun x=>f109 n x⟩
def B73 (α:Type) (n:Nat):D3 α:={ reg:=[],join:=[],loop:=[] }
theorem A60 (n:Nat):(A3i n).Sound PP:=As (fn:=Tryz.f109) (D:=B73 _ n) trivial

def f237 (n:Nat) (a0:Bool) (a1 a2:Int):Option Bool :=
 bif a0 then
  ob (f184 n a1 0 (W (a2 - 1))) fun a =>
  bif a then
   some true
  else
   bif (!a0) then
    some (a1 == 0)
   else
    some false
 else
  bif (!a0) then
   some (a1 == 0)
  else
   some false
def Acn (n:Nat):Ent:=⟨237,[.bool,hI,(.ref hI)],[.bool],fun x=>f237 n x.1 x.2.1 x.2.2⟩
def B4q (α:Type) (n:Nat):D3 α:={ reg:=[(1,⟨0,[],[(5,{ ent:=some (M6 n) })]⟩)],join:=[],loop:=[] }
theorem Ahk (n:Nat):(Acn n).Sound PP:=As (fn:=Tryz.f237) (D:=B4q _ n) ⟨L8 n,trivial⟩

def f229 (n:Nat) (a0:Nq) (a1:Int):Option Bool :=
 ob (f184 n a0.1 1 8) fun a =>
 bif (!a) then
  some false
 else
  ob (f236 n a0) fun b =>
  bif (!b) then
   some false
  else
   ob (f109 n a0) fun c =>
   ob (f237 n (decide (c > 0)) a0.2.1 a1) fun d =>
   bif d then
    ob (f109 n a0) fun e =>
    ob (f237 n (decide (e > 1)) a0.2.2.1 a1) fun f =>
    some f
   else
    some false
def Apr (n:Nat):Ent:=⟨229,[hN,hI],[.bool],fun x=>f229 n x.1 x.2⟩
def B4v (α:Type) (n:Nat):D3 α:={ reg:=[(1,⟨0,[],[(2,{ ent:=some (M6 n) }),(6,{ ent:=some (Apm n) })]⟩),(3,⟨0,[],[(0,{ sh:=some (.ref hI) })]⟩),(4,⟨14,[],[(2,{ ent:=some (A3i n) }),(6,{ ent:=some (Acn n) }),(10,{ ent:=some (A3i n) }),(14,{ ent:=some (Acn n) })]⟩)],join:=[],loop:=[] }
theorem B01 (n:Nat):(Apr n).Sound PP:=As (fn:=Tryz.f229) (D:=B4v _ n) ⟨L8 n,Azv n,A60 n,Ahk n,A60 n,Ahk n,trivial⟩

def A1n {α:Type} (n:Nat) (c:LN) (d a e g h i:Int) (f:LN->Int->Int->Int->Int->Int->Int->Option α) (k0:Int->Option α) (k1:Unit->Option α):Option α :=
 bif (decide (a < d)) then
  gd (decide (0 <= a) && decide (a < (c.length:Int))) (
   let b:=c.getD a.toNat (0,0,0,0)
   bif (e == b.1 && (g == b.2.1 && (h == b.2.2.1 && (i == b.2.2.2 && true)))) then
    k0 a
   else
    f c d (W (a + 1)) e g h i)
 else
  k1 ()
abbrev Rh:Tm:=⟨[(0,.d hNs),(3,.k (.hp 3 0 0)),(7,.d hI),(8,.d hI)],[(3,.var 125 true false [.d hI,.d hI,.d hI,.d hI])],[],[]⟩
abbrev At1:Tm:=⟨[(4,.d hI)],[],[3],[]⟩
abbrev At0:Tm:=⟨[],[],[3],[]⟩
abbrev A1m:List (Exit × Tm):=[(.ret,At1),(.exit 0,At0)]
def A1l {α:Type} (n:Nat) (v:Rh.den) (f:Rh.den->Option α) (ks:KS α A1m):Option α:=A1n n v.1.1 v.1.2.2.1 v.1.2.2.2.1 v.2.1.1 v.2.1.2.1 v.2.1.2.2.1 v.2.1.2.2.2.1 (fun a b c d e g h=>f ((a,(),b,c,()),((d,e,g,h,()),()))) (fun w0=>ks.1 ((w0,()),())) (fun _=>ks.2.1 ((),()))
def P0 {α:Type} (n m:Nat) (a:LN) (b c d e f g:Int) (k0:Int->Option α) (k1:Unit->Option α):Option α:=A5 (A1l n) m ((a,(),b,c,()),((d,e,f,g,()),())) (fun w=>k0 w.1.1,fun w=>k1 (),())
theorem Asz {α n m a b c d e f g k0 k1}:P0 (α:=α) n (m + 1) a b c d e f g k0 k1 = A1n n a b c d e f g (fun a b c d e f g=>P0 n m a b c d e f g k0 k1) k0 k1:=rfl
def f110 (n:Nat) (a0:LN) (a1:Nq):Option Int :=
 P0 n n a0 (a0.length:Int) 0 a1.1 a1.2.1 a1.2.2.1 a1.2.2.2
  (fun a=>(
   some a))
  (fun (_:Unit)=>(
   some (-1)))
def At2 (n:Nat):Ent:=⟨110,[hNs,hN],[hI],fun x=>f110 n x.1 x.2⟩
def Ae9 (α:Type) (n:Nat):D3 α:={ reg:=[(4,⟨5,[],[]⟩)],join:=[],loop:=[(2,⟨Rh,A1m,A5 (A1l n) n⟩)] }
theorem A8t (α:Type) (n:Nat):Al PP (Ah (Ae9 α n).reg):=trivial
theorem Ame (α:Type) (n:Nat):LO.Sound (α:=α) PP ⟨19,[]⟩ ⟨Rh,A1m,A5 (A1l n) n⟩ (.loop ((A1 Tryz.f110).at [1,0,1,0,0])):=Bb (D:=Ae9 α n) (A8t α n) n
theorem B70 (α:Type) (n:Nat):D3.OK PP TT ⟨19,[]⟩ (Ae9 α n) (A1 Tryz.f110) :=
 D3.OK.mk3 (A8t α n) (show Aa (A1 Tryz.f110) = [(2,(.loop ((A1 Tryz.f110).at [1,0,1,0,0])))] by kernel_rfl) ⟨Ab rfl (Ame α n),trivial⟩
theorem B2d (n:Nat):(At2 n).Sound PP:=fk (fn:=Tryz.f110) (B70 _ n)

def f230 (n:Nat) (a0:LN) (a1:Nq):Option Bool :=
 ob (f110 n a0 a1) fun a =>
 some (decide (a >= 0))
def Apq (n:Nat):Ent:=⟨230,[hNs,hN],[.bool],fun x=>f230 n x.1 x.2⟩
def B4u (α:Type) (n:Nat):D3 α:={ reg:=[(1,⟨0,[],[(2,{ ent:=some (At2 n) })]⟩)],join:=[],loop:=[] }
theorem Azz (n:Nat):(Apq n).Sound PP:=As (fn:=Tryz.f230) (D:=B4u _ n) ⟨B2d n,trivial⟩

def Zn {α:Type} (n:Nat) (b:LN) (d a:Int) (c:LN) (g:Int) (f:LN->Int->Int->LN->Int->Option α) (k0:Bool->Option α) (k1:Unit->Option α):Option α :=
 bif (decide (a < d)) then
  gd (decide (0 <= a) && decide (a < (b.length:Int))) (
   let e:=b.getD a.toNat (0,0,0,0)
   ob (f229 n e a) fun h =>
   bif (!h) then
    k0 false
   else
    gd (decide (0 <= a) && decide (a <= (c.length:Int))) (
     ob (f230 n ((c.drop 0).take (a.toNat - 0)) e) fun i =>
     bif i then
      k0 false
     else
      f b d (W (a + 1)) c g))
 else
  k1 ()
abbrev Qn:Tm:=⟨[(1,.k (.hp 1 0 0)),(20,.d hNs),(21,.d hI),(22,.d hI)],[(1,.var 65 true false [.d hNs,.d hI])],[4],[]⟩
abbrev Aqd:Tm:=⟨[(2,.d .bool)],[],[1,4],[]⟩
abbrev Aqc:Tm:=⟨[],[],[1],[]⟩
abbrev Zm:List (Exit × Tm):=[(.ret,Aqd),(.exit 0,Aqc)]
def Zl {α:Type} (n:Nat) (v:Qn.den) (f:Qn.den->Option α) (ks:KS α Zm):Option α:=Zn n v.1.2.1 v.1.2.2.1 v.1.2.2.2.1 v.2.1.1 v.2.1.2.1 (fun a b c d e=>f (((),a,b,c,()),((d,e,()),()))) (fun w0=>ks.1 ((w0,()),())) (fun _=>ks.2.1 ((),()))
def Wl {α:Type} (n m:Nat) (a:LN) (b c:Int) (d:LN) (e:Int) (k0:Bool->Option α) (k1:Unit->Option α):Option α:=A5 (Zl n) m (((),a,b,c,()),((d,e,()),())) (fun w=>k0 w.1.1,fun w=>k1 (),())
theorem Aqb {α n m a b c d e k0 k1}:Wl (α:=α) n (m + 1) a b c d e k0 k1 = Zn n a b c d e (fun a b c d e=>Wl n m a b c d e k0 k1) k0 k1:=rfl
def f211 (n:Nat) (a0:LN × Int):Option Bool :=
 ob (f184 n (a0.1.length:Int) 1 60) fun a =>
 bif (!a) then
  some false
 else
  bif (a0.2 != (W ((a0.1.length:Int) - 1))) then
   some false
  else
   Wl n n a0.1 (a0.1.length:Int) 0 a0.1 a0.2
    (fun b=>(
     some b))
    (fun (_:Unit)=>(
     some true))
def Aqe (n:Nat):Ent:=⟨211,[(.st (.pair hNs hI))],[.bool],fun x=>f211 n x⟩
def Ad7 (α:Type) (n:Nat):D3 α:={ reg:=[(1,⟨0,[],[(3,{ ent:=some (M6 n) })]⟩),(6,⟨10,[],[(2,{ ent:=some (Apr n) }),(10,{ ent:=some (Apq n) })]⟩)],join:=[],loop:=[(4,⟨Qn,Zm,A5 (Zl n) n⟩)] }
theorem A7y (α:Type) (n:Nat):Al PP (Ah (Ad7 α n).reg):=⟨L8 n,B01 n,Azz n,trivial⟩
theorem Ale (α:Type) (n:Nat):LO.Sound (α:=α) PP ⟨40,[]⟩ ⟨Qn,Zm,A5 (Zl n) n⟩ (.loop ((A1 Tryz.f211).at [1,1,0,1,0,0])):=Bb (D:=Ad7 α n) (A7y α n) n
theorem B59 (α:Type) (n:Nat):D3.OK PP TT ⟨40,[]⟩ (Ad7 α n) (A1 Tryz.f211) :=
 D3.OK.mk3 (A7y α n) (show Aa (A1 Tryz.f211) = [(4,(.loop ((A1 Tryz.f211).at [1,1,0,1,0,0])))] by kernel_rfl) ⟨Ab rfl (Ale α n),trivial⟩
theorem B0a (n:Nat):(Aqe n).Sound PP:=fk (fn:=Tryz.f211) (B59 _ n)

def f114 (n:Nat) (a0:Bool) (a1:Int):Option Int :=
 bif a0 then
  some 0
 else
  some a1
def Hp (n:Nat):Ent:=⟨114,[.bool,hI],[hI],fun x=>f114 n x.1 x.2⟩
def B6z (α:Type) (n:Nat):D3 α:={ reg:=[],join:=[],loop:=[] }
theorem X3 (n:Nat):(Hp n).Sound PP:=As (fn:=Tryz.f114) (D:=B6z _ n) trivial

def f166 (n:Nat) (a0:LN × Int):Option Int :=
 ob (f211 n a0) fun a =>
 ob (f114 n a 1) fun b =>
 some b
def Ou (n:Nat):Ent:=⟨166,[(.st (.pair hNs hI))],[hI],fun x=>f166 n x⟩
def B68 (α:Type) (n:Nat):D3 α:={ reg:=[(1,⟨0,[],[(1,{ ent:=some (Aqe n) }),(2,{ ent:=some (Hp n) })]⟩)],join:=[],loop:=[] }
theorem B1n (n:Nat):(Ou n).Sound PP:=As (fn:=Tryz.f166) (D:=B68 _ n) ⟨B0a n,X3 n,trivial⟩

def f239 (n:Nat) (a0:Int):Option Bool :=
 bif (decide (a0 < 0)) then
  some true
 else
  some (decide (a0 >= 10000))
def Apl (n:Nat):Ent:=⟨239,[hI],[.bool],fun x=>f239 n x⟩
def B4p (α:Type) (n:Nat):D3 α:={ reg:=[],join:=[],loop:=[] }
theorem Azt (n:Nat):(Apl n).Sound PP:=As (fn:=Tryz.f239) (D:=B4p _ n) trivial

def Lw {α:Type} (n:Nat) (b:LI) (c a:Int) (f:LI->Int->Int->Option α) (k0:Int->Option α) (k1:Unit->Option α):Option α :=
 bif (decide (a < c)) then
  gd (decide (0 <= a) && decide (a < (b.length:Int))) (
   ob (f239 n (b.getD a.toNat 0)) fun d =>
   bif d then
    k0 a
   else
    f b c (W (a + 1)))
 else
  k1 ()
abbrev Hm:Tm:=⟨[(0,.d hIs),(1,.d (.fn 239)),(7,.d hI),(8,.d hI)],[],[],[]⟩
abbrev A9d:Tm:=⟨[(4,.d hI)],[],[],[]⟩
abbrev A9c:Tm:=⟨[],[],[],[]⟩
abbrev Lv:List (Exit × Tm):=[(.ret,A9d),(.exit 0,A9c)]
def Lu {α:Type} (n:Nat) (v:Hm.den) (f:Hm.den->Option α) (ks:KS α Lv):Option α:=Lw n v.1.1 v.1.2.2.1 v.1.2.2.2.1 (fun a b c=>f ((a,(),b,c,()),())) (fun w0=>ks.1 ((w0,()),())) (fun _=>ks.2.1 ((),()))
def G5 {α:Type} (n m:Nat) (a:LI) (b c:Int) (k0:Int->Option α) (k1:Unit->Option α):Option α:=A5 (Lu n) m ((a,(),b,c,()),()) (fun w=>k0 w.1.1,fun w=>k1 (),())
theorem A9b {α n m a b c k0 k1}:G5 (α:=α) n (m + 1) a b c k0 k1 = Lw n a b c (fun a b c=>G5 n m a b c k0 k1) k0 k1:=rfl
def Yz (n:Nat) (a0:LI) (a1:Unit):Option Int :=
 G5 n n a0 (a0.length:Int) 0
  (fun a=>(
   some a))
  (fun (_:Unit)=>(
   some (-1)))
def A2x (n:Nat):Ent:=⟨240,[hIs,(.fn 239)],[hI],fun x=>Yz n x.1 x.2⟩
def Q7 (α:Type) (n:Nat):D3 α:={ reg:=[(4,⟨0,[],[(5,{ ent:=some (Apl n) })]⟩)],join:=[],loop:=[(2,⟨Hm,Lv,A5 (Lu n) n⟩)] }
theorem Su (α:Type) (n:Nat):Al PP (Ah (Q7 α n).reg):=⟨Azt n,trivial⟩
theorem A5o (α:Type) (n:Nat):LO.Sound (α:=α) PP ⟨19,[]⟩ ⟨Hm,Lv,A5 (Lu n) n⟩ (.loop ((A1 Tryz.f240).at [1,0,1,0,0])):=Bb (D:=Q7 α n) (Su α n) n
theorem Akx (α:Type) (n:Nat):D3.OK PP TT ⟨19,[]⟩ (Q7 α n) (A1 Tryz.f240) :=
 D3.OK.mk3 (Su α n) (show Aa (A1 Tryz.f240) = [(2,(.loop ((A1 Tryz.f240).at [1,0,1,0,0])))] by kernel_rfl) ⟨Ab rfl (A5o α n),trivial⟩
theorem Afy (n:Nat):(A2x n).Sound PP:=fk (fn:=Tryz.f240) (Akx _ n)

def Lx (n:Nat) (a0:LI) (a1:Unit):Option Bool :=
 ob (Yz n a0 a1) fun a =>
 some (decide (a >= 0))
def A2y (n:Nat):Ent:=⟨238,[hIs,(.fn 239)],[.bool],fun x=>Lx n x.1 x.2⟩
def Aky (α:Type) (n:Nat):D3 α:={ reg:=[(1,⟨0,[],[(2,{ ent:=some (A2x n) })]⟩)],join:=[],loop:=[] }
theorem Afz (n:Nat):(A2y n).Sound PP:=As (fn:=Tryz.f238) (D:=Aky _ n) ⟨Afy n,trivial⟩

def f231 (n:Nat) (a0:LI):Option Bool :=
 bif (decide ((a0.length:Int) > 40)) then
  some false
 else
  bif (decide ((a0.length:Int) > 0)) then
   gd (decide (0 <= (W ((a0.length:Int) - 1))) && decide ((W ((a0.length:Int) - 1)) < (a0.length:Int))) (
    bif ((a0.getD ((W ((a0.length:Int) - 1)).toNat) 0) == 0) then
     some false
    else
     ob (Lx n a0 ()) fun a =>
     some (!a))
  else
   ob (Lx n a0 ()) fun b =>
   some (!b)
def Acq (n:Nat):Ent:=⟨231,[hIs],[.bool],fun x=>f231 n x⟩
def B4t (α:Type) (n:Nat):D3 α:={ reg:=[(4,⟨0,[],[(1,{ ent:=some (A2y n) })]⟩)],join:=[],loop:=[] }
theorem Ahl (n:Nat):(Acq n).Sound PP:=As (fn:=Tryz.f231) (D:=B4t _ n) ⟨Afz n,trivial⟩

def f195 (n:Nat) (a0:Rq):Option Bool :=
 some ((a0.2.1.length:Int) == 0)
def Ok (n:Nat):Ent:=⟨195,[hR],[.bool],fun x=>f195 n x⟩
def B5m (α:Type) (n:Nat):D3 α:={ reg:=[],join:=[],loop:=[] }
theorem Oj (n:Nat):(Ok n).Sound PP:=As (fn:=Tryz.f195) (D:=B5m _ n) trivial

def f228 (n:Nat) (a0:LI):Option LI :=
 some a0
def Acr (n:Nat):Ent:=⟨228,[hIs],[(.clo 235 (.ref hIs))],fun x=>f228 n x⟩
def B4w (α:Type) (n:Nat):D3 α:={ reg:=[(1,⟨0,[],[(0,{ sh:=some (.ref hIs) })]⟩)],join:=[],loop:=[] }
theorem Ahn (n:Nat):(Acr n).Sound PP:=As (fn:=Tryz.f228) (D:=B4w _ n) trivial

end Go.Ev
