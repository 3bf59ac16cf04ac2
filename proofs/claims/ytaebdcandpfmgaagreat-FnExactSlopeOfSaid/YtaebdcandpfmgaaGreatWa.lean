/- DERIVED. What the functions compute, and that they do. -/
import Derived.Test.YtaebdcandpfmgaaGreatEe

set_option linter.all false
set_option linter.unusedVariables false
set_option linter.unusedSimpArgs false

namespace Go.Ev
open Go Go.Proofs Go.RowKit Go.Shelf
def f80 (n:Nat) (a0:LN) (a1:Int):Option Int :=
 bif (decide ((W (a1 - (a0.length:Int))) < 0)) then
  some (-1)
 else
  some (W (a1 - (a0.length:Int)))
def B0r (n:Nat):Ent:=⟨80,[hNs,hI],[hI],fun x=>f80 n x.1 x.2⟩
def Baa (α:Type) (n:Nat):D3 α:={ reg:=[],join:=[],loop:=[] }
theorem B6g (n:Nat):(B0r n).Sound PP:=At (fn:=Tryz.f80) (D:=Baa _ n) trivial

def f29 (n:Nat) (a0:LN) (a1:Int):Option Int :=
 ob (f80 n a0 a1) fun a =>
 bif (decide (a < 0)) then
  some (-1)
 else
  some a
def B0y (n:Nat):Ent:=⟨29,[hE,hI],[hI],fun x=>f29 n x.1 x.2⟩
def Bau (α:Type) (n:Nat):D3 α:={ reg:=[(1,⟨0,[],[(3,{ ent:=some (B0r n) })]⟩)],join:=[],loop:=[] }
theorem B6y (n:Nat):(B0y n).Sound PP:=At (fn:=Tryz.f29) (D:=Bau _ n) ⟨B6g n,trivial⟩

def f137 (n:Nat) (a0:LI) (a1:Int):Option Int :=
 bif (decide ((W (a1 - (a0.length:Int))) < 0)) then
  some (-1)
 else
  some (W (a1 - (a0.length:Int)))
def Ago (n:Nat):Ent:=⟨137,[hIs,hI],[hI],fun x=>f137 n x.1 x.2⟩
def B8x (α:Type) (n:Nat):D3 α:={ reg:=[],join:=[],loop:=[] }
theorem Al4 (n:Nat):(Ago n).Sound PP:=At (fn:=Tryz.f137) (D:=B8x _ n) trivial

def f81 (n:Nat) (a0:Rq) (a1:Int):Option Int :=
 ob (f137 n a0.2.1 a1) fun a =>
 bif (decide (a < 0)) then
  some (-1)
 else
  ob (f137 n a0.2.2 a) fun b =>
  bif (decide (b < 0)) then
   some (-1)
  else
   some b
def B0q (n:Nat):Ent:=⟨81,[hR,hI],[hI],fun x=>f81 n x.1 x.2⟩
def Ba9 (α:Type) (n:Nat):D3 α:={ reg:=[(1,⟨0,[],[(3,{ ent:=some (Ago n) })]⟩),(4,⟨0,[],[(3,{ ent:=some (Ago n) })]⟩)],join:=[],loop:=[] }
theorem B6e (n:Nat):(B0q n).Sound PP:=At (fn:=Tryz.f81) (D:=Ba9 _ n) ⟨Al4 n,Al4 n,trivial⟩

def A7n {α:Type} (n:Nat) (b:LR) (c a:Int) (f:LR->Int->Int->Option α) (k0 k1:Int->Option α):Option α :=
 bif (decide (a < (b.length:Int))) then
  gd (decide (0 <= a) && decide (a < (b.length:Int))) (
   let e:=b.getD a.toNat (false,[],[])
   ob (f81 n e c) fun d =>
   bif (decide (d < 0)) then
    k0 (-1)
   else
    f b d (W (a + 1)))
 else
  k1 c
abbrev Y2:Tm:=⟨[(0,.d hRs),(1,.d hI),(5,.d hI)],[],[],[]⟩
abbrev Ayn:Tm:=⟨[(4,.d hI)],[],[],[]⟩
abbrev Aym:Tm:=⟨[(1,.d hI)],[],[],[]⟩
abbrev A7m:List (Exit × Tm):=[(.ret,Ayn),(.exit 0,Aym)]
def A7l {α:Type} (n:Nat) (v:Y2.den) (f:Y2.den->Option α) (ks:KS α A7m):Option α:=A7n n v.1.1 v.1.2.1 v.1.2.2.1 (fun a b c=>f ((a,b,c,()),())) (fun w0=>ks.1 ((w0,()),())) (fun w0=>ks.2.1 ((w0,()),()))
def A4i {α:Type} (n m:Nat) (a:LR) (b c:Int) (k0 k1:Int->Option α):Option α:=A5 (A7l n) m ((a,b,c,()),()) (fun w=>k0 w.1.1,fun w=>k1 w.1.1,())
theorem Ayl {α n m a b c k0 k1}:A4i (α:=α) n (m + 1) a b c k0 k1 = A7n n a b c (fun a b c=>A4i n m a b c k0 k1) k0 k1:=rfl
def f30 (n:Nat) (a0:LR) (a1:Int):Option Int :=
 bif (decide ((W (a1 - (a0.length:Int))) < 0)) then
  some (-1)
 else
  A4i n n a0 (W (a1 - (a0.length:Int))) 0
   (fun a=>(
    some a))
   (fun b=>(
    some b))
def Ane (n:Nat):Ent:=⟨30,[hRs,hI],[hI],fun x=>f30 n x.1 x.2⟩
def Anf (α:Type) (n:Nat):D3 α:={ reg:=[(7,⟨0,[],[(5,{ ent:=some (B0q n) })]⟩)],join:=[],loop:=[(5,⟨Y2,A7m,A5 (A7l n) n⟩)] }
theorem Aev (α:Type) (n:Nat):Ao PP (Ai (Anf α n).reg):=⟨B6e n,trivial⟩
theorem Asf (α:Type) (n:Nat):LO.Sound (α:=α) PP ⟨27,[]⟩ ⟨Y2,A7m,A5 (A7l n) n⟩ (.loop ((A1 Tryz.f30).at [1,1,1,0,1,0,0])):=Bj (D:=Anf α n) (Aev α n) n
theorem Bat (α:Type) (n:Nat):D3.OK PP TT ⟨27,[]⟩ (Anf α n) (A1 Tryz.f30) :=
 D3.OK.mk3 (Aev α n) (show Ab (A1 Tryz.f30) = [(5,(.loop ((A1 Tryz.f30).at [1,1,1,0,1,0,0])))] by kernel_rfl) ⟨Ad rfl (Asf α n),trivial⟩
theorem Ase (n:Nat):(Ane n).Sound PP:=fk (fn:=Tryz.f30) (Bat _ n)

def f138 (n:Nat) (a0:Nq):Option Nq :=
 some a0
def Agn (n:Nat):Ent:=⟨138,[hN],[hN],fun x=>f138 n x⟩
def B8w (α:Type) (n:Nat):D3 α:={ reg:=[],join:=[],loop:=[] }
theorem Al3 (n:Nat):(Agn n).Sound PP:=At (fn:=Tryz.f138) (D:=B8w _ n) trivial

def Xv {α:Type} (n:Nat) (b:LN) (a:Int) (c:LN) (f:LN->Int->LN->Option α) (k0:LN->Option α):Option α :=
 bif (decide (a < (b.length:Int))) then
  gd (decide (0 <= a) && decide (a < (b.length:Int))) (
   let d:=b.getD a.toNat (0,0,0,0)
   ob (f138 n d) fun e =>
   gd (decide (0 <= a) && decide (a < (c.length:Int))) (
    gd (decide (a.toNat < c.length)) (
     f b (W (a + 1)) (c.set a.toNat e))))
 else
  k0 c
abbrev Xu:Tm:=⟨[(0,.d hNs),(3,.k (.hw 7)),(4,.d hI)],[(7,.arr 125 hN false)],[],[]⟩
abbrev Ay6:Tm:=⟨[(3,.k (.hw 7))],[(7,.arr 125 hN false)],[],[]⟩
abbrev A77:List (Exit × Tm):=[(.exit 0,Ay6)]
def A76 {α:Type} (n:Nat) (v:Xu.den) (f:Xu.den->Option α) (ks:KS α A77):Option α:=Xv n v.1.1 v.1.2.2.1 v.2.1 (fun a b c=>f ((a,(),b,()),(c,()))) (fun w0=>ks.1 (((),()),(w0,())))
def Vb {α:Type} (n m:Nat) (a:LN) (b:Int) (c:LN) (k0:LN->Option α):Option α:=A5 (A76 n) m ((a,(),b,()),(c,())) (fun w=>k0 w.2.1,())
theorem Ae6 {α n m a b c k0}:Vb (α:=α) n (m + 1) a b c k0 = Xv n a b c (fun a b c=>Vb n m a b c k0) k0:=rfl
def f82 (n:Nat) (a0:LN):Option LN :=
 gd (decide (0 <= (a0.length:Int)) && decide ((a0.length:Int) <= 4611686018427387904) && decide ((32:Int) * (a0.length:Int) <= 281474976710656)) (
  Vb n n a0 0 (List.replicate ((a0.length:Int).toNat) (0,0,0,0))
   (fun a=>(
    some a)))
def B0p (n:Nat):Ent:=⟨82,[hNs],[hNs],fun x=>f82 n x⟩
def An0 (α:Type) (n:Nat):D3 α:={ reg:=[(5,⟨0,[],[(6,{ ent:=some (Agn n) })]⟩)],join:=[],loop:=[(3,⟨Xu,A77,A5 (A76 n) n⟩)] }
theorem Ae5 (α:Type) (n:Nat):Ao PP (Ai (An0 α n).reg):=⟨Al3 n,trivial⟩
theorem Ars (α:Type) (n:Nat):LO.Sound (α:=α) PP ⟨23,[]⟩ ⟨Xu,A77,A5 (A76 n) n⟩ (.loop ((A1 Tryz.f82).at [1,1,0,1,0,0])):=Bj (D:=An0 α n) (Ae5 α n) n
theorem Ba8 (α:Type) (n:Nat):D3.OK PP TT ⟨23,[]⟩ (An0 α n) (A1 Tryz.f82) :=
 D3.OK.mk3 (Ae5 α n) (show Ab (A1 Tryz.f82) = [(3,(.loop ((A1 Tryz.f82).at [1,1,0,1,0,0])))] by kernel_rfl) ⟨Ad rfl (Ars α n),trivial⟩
theorem B6c (n:Nat):(B0p n).Sound PP:=fk (fn:=Tryz.f82) (Ba8 _ n)

def f31 (n:Nat) (a0:LN):Option LN :=
 ob (f82 n a0) fun a =>
 some a
def Aby (n:Nat):Ent:=⟨31,[hE],[hE],fun x=>f31 n x⟩
def Bas (α:Type) (n:Nat):D3 α:={ reg:=[(2,⟨0,[],[(2,{ ent:=some (B0p n) })]⟩)],join:=[],loop:=[] }
theorem Aet (n:Nat):(Aby n).Sound PP:=At (fn:=Tryz.f31) (D:=Bas _ n) ⟨B6c n,trivial⟩

def A2q {α:Type} (n:Nat) (b:LI) (a:Int) (c:LI) (f:LI->Int->LI->Option α) (k0:LI->Option α):Option α :=
 bif (decide (a < (b.length:Int))) then
  gd (decide (0 <= a) && decide (a < (b.length:Int))) (
   gd (decide (0 <= a) && decide (a < (c.length:Int))) (
    gd (decide (a.toNat < c.length)) (
     f b (W (a + 1)) (c.set a.toNat (b.getD a.toNat 0)))))
 else
  k0 c
abbrev Sq:Tm:=⟨[(0,.d hIs),(3,.k (.hw 7)),(4,.d hI)],[(7,.arr 3 hI false)],[],[]⟩
abbrev Aux:Tm:=⟨[(3,.k (.hw 7))],[(7,.arr 3 hI false)],[],[]⟩
abbrev A2p:List (Exit × Tm):=[(.exit 0,Aux)]
def A2o {α:Type} (n:Nat) (v:Sq.den) (f:Sq.den->Option α) (ks:KS α A2p):Option α:=A2q n v.1.1 v.1.2.2.1 v.2.1 (fun a b c=>f ((a,(),b,()),(c,()))) (fun w0=>ks.1 (((),()),(w0,())))
def Yn {α:Type} (n m:Nat) (a:LI) (b:Int) (c:LI) (k0:LI->Option α):Option α:=A5 (A2o n) m ((a,(),b,()),(c,())) (fun w=>k0 w.2.1,())
theorem Auw {α n m a b c k0}:Yn (α:=α) n (m + 1) a b c k0 = A2q n a b c (fun a b c=>Yn n m a b c k0) k0:=rfl
def f139 (n:Nat) (a0:LI):Option LI :=
 gd (decide (0 <= (a0.length:Int)) && decide ((a0.length:Int) <= 4611686018427387904) && decide ((8:Int) * (a0.length:Int) <= 281474976710656)) (
  Yn n n a0 0 (List.replicate ((a0.length:Int).toNat) 0)
   (fun a=>(
    some a)))
def Agj (n:Nat):Ent:=⟨139,[hIs],[hIs],fun x=>f139 n x⟩
def Agk (α:Type) (n:Nat):D3 α:={ reg:=[],join:=[],loop:=[(3,⟨Sq,A2p,A5 (A2o n) n⟩)] }
theorem Aao (α:Type) (n:Nat):Ao PP (Ai (Agk α n).reg):=trivial
theorem Aor (α:Type) (n:Nat):LO.Sound (α:=α) PP ⟨22,[]⟩ ⟨Sq,A2p,A5 (A2o n) n⟩ (.loop ((A1 Tryz.f139).at [1,1,0,1,0,0])):=Bj (D:=Agk α n) (Aao α n) n
theorem B8v (α:Type) (n:Nat):D3.OK PP TT ⟨22,[]⟩ (Agk α n) (A1 Tryz.f139) :=
 D3.OK.mk3 (Aao α n) (show Ab (A1 Tryz.f139) = [(3,(.loop ((A1 Tryz.f139).at [1,1,0,1,0,0])))] by kernel_rfl) ⟨Ad rfl (Aor α n),trivial⟩
theorem Al1 (n:Nat):(Agj n).Sound PP:=fk (fn:=Tryz.f139) (B8v _ n)

def f83 (n:Nat) (a0:Rq):Option Rq :=
 ob (f139 n a0.2.1) fun a =>
 ob (f139 n a0.2.2) fun b =>
 some (a0.1,a,b)
def B0o (n:Nat):Ent:=⟨83,[hR],[hR],fun x=>f83 n x⟩
def Ba7 (α:Type) (n:Nat):D3 α:={ reg:=[(3,⟨0,[],[(2,{ ent:=some (Agj n) })]⟩),(4,⟨0,[],[(2,{ ent:=some (Agj n) })]⟩)],join:=[],loop:=[] }
theorem B69 (n:Nat):(B0o n).Sound PP:=At (fn:=Tryz.f83) (D:=Ba7 _ n) ⟨Al1 n,Al1 n,trivial⟩

def A7k {α:Type} (n:Nat) (b:LR) (a:Int) (c:LR) (f:LR->Int->LR->Option α) (k0:LR->Option α):Option α :=
 bif (decide (a < (b.length:Int))) then
  gd (decide (0 <= a) && decide (a < (b.length:Int))) (
   let d:=b.getD a.toNat (false,[],[])
   ob (f83 n d) fun e =>
   gd (decide (0 <= a) && decide (a < (c.length:Int))) (
    gd (decide (a.toNat < c.length)) (
     f b (W (a + 1)) (c.set a.toNat e))))
 else
  k0 c
abbrev Y0:Tm:=⟨[(0,.d hRs),(3,.k (.hw 7)),(4,.d hI)],[(7,.arr 31 hR false)],[],[]⟩
abbrev Ayk:Tm:=⟨[(3,.k (.hw 7))],[(7,.arr 31 hR false)],[],[]⟩
abbrev A7j:List (Exit × Tm):=[(.exit 0,Ayk)]
def A7i {α:Type} (n:Nat) (v:Y0.den) (f:Y0.den->Option α) (ks:KS α A7j):Option α:=A7k n v.1.1 v.1.2.2.1 v.2.1 (fun a b c=>f ((a,(),b,()),(c,()))) (fun w0=>ks.1 (((),()),(w0,())))
def A4h {α:Type} (n m:Nat) (a:LR) (b:Int) (c:LR) (k0:LR->Option α):Option α:=A5 (A7i n) m ((a,(),b,()),(c,())) (fun w=>k0 w.2.1,())
theorem Ayj {α n m a b c k0}:A4h (α:=α) n (m + 1) a b c k0 = A7k n a b c (fun a b c=>A4h n m a b c k0) k0:=rfl
def f32 (n:Nat) (a0:LR):Option LR :=
 gd (decide (0 <= (a0.length:Int)) && decide ((a0.length:Int) <= 4611686018427387904) && decide ((56:Int) * (a0.length:Int) <= 281474976710656)) (
  A4h n n a0 0 (List.replicate ((a0.length:Int).toNat) (false,[],[]))
   (fun a=>(
    some a)))
def Re (n:Nat):Ent:=⟨32,[hRs],[hRs],fun x=>f32 n x⟩
def Anb (α:Type) (n:Nat):D3 α:={ reg:=[(5,⟨0,[],[(6,{ ent:=some (B0o n) })]⟩)],join:=[],loop:=[(3,⟨Y0,A7j,A5 (A7i n) n⟩)] }
theorem Aep (α:Type) (n:Nat):Ao PP (Ai (Anb α n).reg):=⟨B69 n,trivial⟩
theorem Asa (α:Type) (n:Nat):LO.Sound (α:=α) PP ⟨23,[]⟩ ⟨Y0,A7j,A5 (A7i n) n⟩ (.loop ((A1 Tryz.f32).at [1,1,0,1,0,0])):=Bj (D:=Anb α n) (Aep α n) n
theorem Bar (α:Type) (n:Nat):D3.OK PP TT ⟨23,[]⟩ (Anb α n) (A1 Tryz.f32) :=
 D3.OK.mk3 (Aep α n) (show Ab (A1 Tryz.f32) = [(3,(.loop ((A1 Tryz.f32).at [1,1,0,1,0,0])))] by kernel_rfl) ⟨Ad rfl (Asa α n),trivial⟩
theorem Pl (n:Nat):(Re n).Sound PP:=fk (fn:=Tryz.f32) (Bar _ n)

def f174 (n:Nat) (a0 a1 a2:Int):Option Bool :=
 bif (decide (a1 <= a0)) then
  some (decide (a0 <= a2))
 else
  some false
def Fs (n:Nat):Ent:=⟨174,[hI,hI,hI],[.bool],fun x=>f174 n x.1 x.2.1 x.2.2⟩
def B8a (α:Type) (n:Nat):D3 α:={ reg:=[],join:=[],loop:=[] }
theorem Fc (n:Nat):(Fs n).Sound PP:=At (fn:=Tryz.f174) (D:=B8a _ n) trivial

def f155 (n:Nat) (a0:Int):Option Bool :=
 ob (f174 n a0 3 6) fun a =>
 some a
def A5c (n:Nat):Ent:=⟨155,[hI],[.bool],fun x=>f155 n x⟩
def B8g (α:Type) (n:Nat):D3 α:={ reg:=[(1,⟨0,[],[(1,{ ent:=some (Fs n) })]⟩)],join:=[],loop:=[] }
theorem A84 (n:Nat):(A5c n).Sound PP:=At (fn:=Tryz.f155) (D:=B8g _ n) ⟨Fc n,trivial⟩

def f156 (n:Nat) (a0:Int):Option Bool :=
 bif (a0 == 7) then
  some true
 else
  some (a0 == 8)
def A5b (n:Nat):Ent:=⟨156,[hI],[.bool],fun x=>f156 n x⟩
def B8f (α:Type) (n:Nat):D3 α:={ reg:=[],join:=[],loop:=[] }
theorem A82 (n:Nat):(A5b n).Sound PP:=At (fn:=Tryz.f156) (D:=B8f _ n) trivial

def f170 (n:Nat) (a0:Bool):Option Int :=
 bif a0 then
  some 1
 else
  some 0
def Wd (n:Nat):Ent:=⟨170,[.bool],[hI],fun x=>f170 n x⟩
def B8c (α:Type) (n:Nat):D3 α:={ reg:=[],join:=[],loop:=[] }
theorem Yl (n:Nat):(Wd n).Sound PP:=At (fn:=Tryz.f170) (D:=B8c _ n) trivial

def f175 (n:Nat) (a0:Nq) (a1:Int):Option Bool :=
 ob (f174 n a0.1 1 8) fun a =>
 bif (!a) then
  some false
 else
  ob (f155 n a0.1) fun b =>
  bif b then
   ob (f174 n a0.2.1 0 (W (a1 - 1))) fun c =>
   bif c then
    ob (f174 n a0.2.2.1 (W (a0.2.1 + 1)) (W (a1 - 1))) fun d =>
    bif d then
     some (a0.2.2.2 == 0)
    else
     some false
   else
    some false
  else
   ob (f156 n a0.1) fun e =>
   bif e then
    bif (a0.2.1 == (W (a1 - 1))) then
     bif (decide (a1 > 0)) then
      bif (a0.2.2.1 == 0) then
       ob (f170 n (a0.1 == 8)) fun f =>
       ob (f174 n a0.2.2.2 0 (W (8 * f))) fun g =>
       some g
      else
       some false
     else
      some false
    else
     some false
   else
    bif (a0.1 == 2) then
     bif (a0.2.1 == 0) then
      bif (a0.2.2.1 == 0) then
       ob (f174 n a0.2.2.2 0 3) fun h =>
       some h
      else
       some false
     else
      some false
    else
     bif (a0.2.1 == 0) then
      bif (a0.2.2.1 == 0) then
       ob (f174 n a0.2.2.2 0 999999999) fun i =>
       some i
      else
       some false
     else
      some false
def Aui (n:Nat):Ent:=⟨175,[hN,hI],[.bool],fun x=>f175 n x.1 x.2⟩
def B89 (α:Type) (n:Nat):D3 α:={ reg:=[(1,⟨0,[],[(2,{ ent:=some (Fs n) })]⟩),(3,⟨0,[],[(2,{ ent:=some (A5c n) })]⟩),(4,⟨0,[],[(4,{ ent:=some (Fs n) }),(13,{ ent:=some (Fs n) })]⟩),(5,⟨0,[],[(2,{ ent:=some (A5b n) })]⟩),(6,⟨22,[],[(20,{ ent:=some (Wd n) }),(22,{ ent:=some (Fs n) })]⟩),(8,⟨0,[],[(11,{ ent:=some (Fs n) })]⟩),(9,⟨0,[],[(11,{ ent:=some (Fs n) })]⟩)],join:=[],loop:=[] }
theorem B3z (n:Nat):(Aui n).Sound PP:=At (fn:=Tryz.f175) (D:=B89 _ n) ⟨Fc n,A84 n,Fc n,Fc n,A82 n,Yl n,Fc n,Fc n,Fc n,trivial⟩

def A2n {α:Type} (n:Nat) (g:Int) (c:LN) (d a j k:Int) (f:Int->LN->Int->Int->Int->Int->Option α) (k0:Int->Option α):Option α :=
 let e:=fun (_:Unit)=>(
  gd (decide (0 <= a) && decide (a < (c.length:Int))) (
   let b:=c.getD a.toNat (0,0,0,0)
   f a c b.1 b.2.1 b.2.2.1 b.2.2.2))
 ob (f155 n d) fun h =>
 bif h then
  e ()
 else
  ob (f156 n d) fun i =>
  bif i then
   e ()
  else
   k0 g
abbrev Sp:Tm:=⟨[(1,.d hI),(2,.k (.hp 2 0 0)),(5,.k (.hp 5 0 0))],[(2,.var 25 true false [.d hNs]),(5,.var 125 true false [.d hI,.d hI,.d hI,.d hI])],[],[]⟩
abbrev Auh:Tm:=⟨[(1,.d hI)],[],[2,5],[]⟩
abbrev A2m:List (Exit × Tm):=[(.exit 0,Auh)]
def A2l {α:Type} (n:Nat) (v:Sp.den) (f:Sp.den->Option α) (ks:KS α A2m):Option α:=A2n n v.1.1 v.2.1.1 v.2.2.1.1 v.2.2.1.2.1 v.2.2.1.2.2.1 v.2.2.1.2.2.2.1 (fun a b c d e g=>f ((a,(),(),()),((b,()),(c,d,e,g,()),()))) (fun w0=>ks.1 ((w0,()),()))
def Yk {α:Type} (n m:Nat) (a:Int) (b:LN) (c d e f:Int) (k0:Int->Option α):Option α:=A5 (A2l n) m ((a,(),(),()),((b,()),(c,d,e,f,()),())) (fun w=>k0 w.1.1,())
theorem Aug {α n m a b c d e f k0}:Yk (α:=α) n (m + 1) a b c d e f k0 = A2n n a b c d e f (fun a b c d e f=>Yk n m a b c d e f k0) k0:=rfl
abbrev B3y:Tm:=⟨[(2,.k (.hp 2 0 0)),(5,.k (.hp 5 0 0))],[(2,.var 25 true false [.d hNs]),(5,.var 125 true false [.d hI,.d hI,.d hI,.d hI])],[],[]⟩
def f176 (n:Nat) (a0:LN) (a1:Int):Option Int :=
 gd (decide (0 <= a1) && decide (a1 < (a0.length:Int))) (
  let a:=a0.getD a1.toNat (0,0,0,0)
  Yk n n a1 a0 a.1 a.2.1 a.2.2.1 a.2.2.2
   (fun b=>(
    some b)))
def Agd (n:Nat):Ent:=⟨176,[hE,hI],[hI],fun x=>f176 n x.1 x.2⟩
def Age (α:Type) (n:Nat):D3 α:={ reg:=[(2,⟨0,[],[(2,{ ent:=some (A5c n) }),(6,{ ent:=some (A5b n) })]⟩)],join:=[(3,B3y)],loop:=[(2,⟨Sp,A2m,A5 (A2l n) n⟩)] }
theorem Aal (α:Type) (n:Nat):Ao PP (Ai (Age α n).reg):=⟨A84 n,A82 n,trivial⟩
theorem Aoq (α:Type) (n:Nat):LO.Sound (α:=α) PP ⟨27,[]⟩ ⟨Sp,A2m,A5 (A2l n) n⟩ (.loop ((A1 Tryz.f176).at [1,1,0,0,0])):=Bj (D:=Age α n) (Aal α n) n
theorem B88 (α:Type) (n:Nat):D3.OK PP TT ⟨27,[]⟩ (Age α n) (A1 Tryz.f176) :=
 D3.OK.mk3 (Aal α n) (show Ab (A1 Tryz.f176) = [(2,(.loop ((A1 Tryz.f176).at [1,1,0,0,0])))] by kernel_rfl) ⟨Ad rfl (Aoq α n),trivial⟩
theorem Aku (n:Nat):(Agd n).Sound PP:=fk (fn:=Tryz.f176) (B88 _ n)

def Nk {α:Type} (n:Nat) (c:Int) (d:LN) (b:LI) (f:Int->LN->LI->Option α) (k0:Bool->Option α) (k1:LN->Option α):Option α :=
 bif (decide (c < (d.length:Int))) then
  gd (decide (0 <= c) && decide (c < (d.length:Int))) (
   let a:=d.getD c.toNat (0,0,0,0)
   ob (f175 n a c) fun i =>
   bif (!i) then
    k0 false
   else
    let e:=fun (j:Int)=>(
     let g:=fun (h:Int)=>(
      bif (decide (h > 12)) then
       k0 false
      else
       gd (decide ((b.length + 1) * 8 <= 140737488355328)) (
        f (W (c + 1)) d (b ++ [h])))
     ob (f156 n a.1) fun k =>
     bif k then
      gd (decide (0 <= a.2.1) && decide (a.2.1 < (b.length:Int))) (
       gd (decide (a.2.1.toNat < b.length)) (
        g (W (1 + (b.getD a.2.1.toNat 0)))))
     else
      g j)
    ob (f155 n a.1) fun l =>
    bif l then
     bif (a.2.2.1 != (W (c - 1))) then
      k0 false
     else
      ob (f176 n d a.2.2.1) fun m =>
      bif (m != (W (a.2.1 + 1))) then
       k0 false
      else
       gd (decide (0 <= a.2.1) && decide (a.2.1 < (b.length:Int))) (
        gd (decide (a.2.1.toNat < b.length)) (
         gd (decide (0 <= a.2.2.1) && decide (a.2.2.1 < (b.length:Int))) (
          gd (decide (a.2.2.1.toNat < b.length)) (
           e (W (1 + (max (b.getD a.2.1.toNat 0) (b.getD a.2.2.1.toNat 0))))))))
    else
     e 1)
 else
  k1 d
abbrev Sy:Tm:=⟨[(1,.k (.hp 1 0 0)),(3,.k (.hw 12)),(4,.d hI)],[(1,.var 25 true false [.d hNs]),(12,.arr 3 hI false)],[72],[]⟩
abbrev Avb:Tm:=⟨[(2,.d .bool)],[],[1,5,12],[]⟩
abbrev Ava:Tm:=⟨[(1,.k (.hp 1 0 0))],[(1,.var 25 true false [.d hNs])],[12],[]⟩
abbrev A32:List (Exit × Tm):=[(.ret,Avb),(.exit 0,Ava)]
def A31 {α:Type} (n:Nat) (v:Sy.den) (f:Sy.den->Option α) (ks:KS α A32):Option α:=Nk n v.1.2.2.1 v.2.1.1 v.2.2.1 (fun a b c=>f (((),(),a,()),((b,()),c,()))) (fun w0=>ks.1 ((w0,()),())) (fun w0=>ks.2.1 (((),()),((w0,()),())))
def Yq {α:Type} (n m:Nat) (a:Int) (b:LN) (c:LI) (k0:Bool->Option α) (k1:LN->Option α):Option α:=A5 (A31 n) m (((),(),a,()),((b,()),c,())) (fun w=>k0 w.1.1,fun w=>k1 w.2.1.1,())
theorem Aav {α n m a b c k0 k1}:Yq (α:=α) n (m + 1) a b c k0 k1 = Nk n a b c (fun a b c=>Yq n m a b c k0 k1) k0 k1:=rfl
abbrev Azj:Tm:=⟨[(1,.k (.hp 1 0 0)),(3,.k (.hw 12)),(4,.d hI),(5,.k (.hp 5 0 0)),(6,.d hI)],[(1,.var 25 true false [.d hNs]),(5,.var 125 true false [.d hI,.d hI,.d hI,.d hI]),(12,.arr 3 hI false)],[],[]⟩
abbrev Azi:Tm:=⟨[(1,.k (.hp 1 0 0)),(3,.k (.hw 12)),(4,.d hI),(6,.d hI)],[(1,.var 25 true false [.d hNs]),(12,.arr 3 hI false)],[5],[]⟩
def f118 (n:Nat) (a0:LN):Option Bool :=
 ob (f174 n (a0.length:Int) 1 60) fun b =>
 bif (!b) then
  some false
 else
  Yq n n 0 a0 []
   (fun c=>(
    some c))
   (fun a=>(
    ob (f176 n a (W ((a.length:Int) - 1))) fun d =>
    some (d == 0)))
def Avc (n:Nat):Ent:=⟨118,[hE],[.bool],fun x=>f118 n x⟩
def Ags (α:Type) (n:Nat):D3 α:={ reg:=[(1,⟨0,[],[(3,{ ent:=some (Fs n) })]⟩),(3,⟨0,[],[(0,{ sh:=some hI })]⟩),(8,⟨0,[],[(2,{ ent:=some (Aui n) })]⟩),(11,⟨0,[],[(2,{ ent:=some (A5c n) })]⟩),(12,⟨13,[],[(9,{ ent:=some (Agd n) })]⟩),(14,⟨10,[],[]⟩),(15,⟨0,[],[(2,{ ent:=some (A5b n) })]⟩),(19,⟨0,[],[(2,{ sh:=some hI })]⟩),(20,⟨0,[],[(5,{ ent:=some (Agd n) })]⟩)],join:=[(15,Azj),(17,Azi)],loop:=[(5,⟨Sy,A32,A5 (A31 n) n⟩)] }
theorem Aau (α:Type) (n:Nat):Ao PP (Ai (Ags α n).reg):=⟨Fc n,B3z n,A84 n,Aku n,A82 n,Aku n,trivial⟩
theorem Aoz (α:Type) (n:Nat):LO.Sound (α:=α) PP ⟨81,[]⟩ ⟨Sy,A32,A5 (A31 n) n⟩ (.loop ((A1 Tryz.f118).at [1,1,1,0,1,0,0])):=Bj (D:=Ags α n) (Aau α n) n
theorem B96 (α:Type) (n:Nat):D3.OK PP TT ⟨81,[]⟩ (Ags α n) (A1 Tryz.f118) :=
 D3.OK.mk3 (Aau α n) (show Ab (A1 Tryz.f118) = [(5,(.loop ((A1 Tryz.f118).at [1,1,1,0,1,0,0])))] by kernel_rfl) ⟨Ad rfl (Aoz α n),trivial⟩
theorem B4n (n:Nat):(Avc n).Sound PP:=fk (fn:=Tryz.f118) (B96 _ n)

def A1d {α:Type} (n:Nat) (a:LI) (b:Int) (f:LI->Int->Option α) (k0:Bool->Option α) (k1:LI->Option α):Option α :=
 bif (decide (b < (a.length:Int))) then
  gd (decide (0 <= b) && decide (b < (a.length:Int))) (
   ob (f174 n (a.getD b.toNat 0) 0 9999) fun c =>
   bif (!c) then
    k0 false
   else
    f a (W (b + 1)))
 else
  k1 a
abbrev S0:Tm:=⟨[(0,.d hIs),(3,.d hI)],[],[],[]⟩
abbrev At0:Tm:=⟨[(2,.d .bool)],[],[],[]⟩
abbrev Asz:Tm:=⟨[(0,.d hIs)],[],[],[]⟩
abbrev A1c:List (Exit × Tm):=[(.ret,At0),(.exit 0,Asz)]
def A1b {α:Type} (n:Nat) (v:S0.den) (f:S0.den->Option α) (ks:KS α A1c):Option α:=A1d n v.1.1 v.1.2.1 (fun a b=>f ((a,b,()),())) (fun w0=>ks.1 ((w0,()),())) (fun w0=>ks.2.1 ((w0,()),()))
def Pr {α:Type} (n m:Nat) (a:LI) (b:Int) (k0:Bool->Option α) (k1:LI->Option α):Option α:=A5 (A1b n) m ((a,b,()),()) (fun w=>k0 w.1.1,fun w=>k1 w.1.1,())
theorem Asy {α n m a b k0 k1}:Pr (α:=α) n (m + 1) a b k0 k1 = A1d n a b (fun a b=>Pr n m a b k0 k1) k0 k1:=rfl
def f216 (n:Nat) (a0:LI):Option Bool :=
 bif (decide ((a0.length:Int) > 4096)) then
  some false
 else
  Pr n n a0 0
   (fun b=>(
    some b))
   (fun a=>(
    bif (decide ((a.length:Int) <= 40)) then
     bif ((a.length:Int) == 0) then
      some true
     else
      gd (decide (0 <= (W ((a.length:Int) - 1))) && decide ((W ((a.length:Int) - 1)) < (a.length:Int))) (
       some (decide ((a.getD ((W ((a.length:Int) - 1)).toNat) 0) > 0)))
    else
     some false))
def Afe (n:Nat):Ent:=⟨216,[hIs],[.bool],fun x=>f216 n x⟩
def Aff (α:Type) (n:Nat):D3 α:={ reg:=[(6,⟨0,[],[(4,{ ent:=some (Fs n) })]⟩)],join:=[],loop:=[(4,⟨S0,A1c,A5 (A1b n) n⟩)] }
theorem Aa7 (α:Type) (n:Nat):Ao PP (Ai (Aff α n).reg):=⟨Fc n,trivial⟩
theorem Anx (α:Type) (n:Nat):LO.Sound (α:=α) PP ⟨36,[]⟩ ⟨S0,A1c,A5 (A1b n) n⟩ (.loop ((A1 Tryz.f216).at [1,1,0,1,0,0])):=Bj (D:=Aff α n) (Aa7 α n) n
theorem B7h (α:Type) (n:Nat):D3.OK PP TT ⟨36,[]⟩ (Aff α n) (A1 Tryz.f216) :=
 D3.OK.mk3 (Aa7 α n) (show Ab (A1 Tryz.f216) = [(4,(.loop ((A1 Tryz.f216).at [1,1,0,1,0,0])))] by kernel_rfl) ⟨Ad rfl (Anx α n),trivial⟩
theorem Akf (n:Nat):(Afe n).Sound PP:=fk (fn:=Tryz.f216) (B7h _ n)

def A17 {α:Type} (n:Nat) (b:LI) (a:Int) (f:LI->Int->Option α) (k0:LI->Int->Option α):Option α :=
 bif (decide (a > 0)) then
  gd (decide (0 <= (W (a - 1))) && decide ((W (a - 1)) < (b.length:Int))) (
   bif ((b.getD ((W (a - 1)).toNat) 0) == 0) then
    f b (W (a - 1))
   else
    k0 b a)
 else
  k0 b a
abbrev Ry:Tm:=⟨[(0,.d hIs),(3,.d hI)],[],[],[]⟩
abbrev Asw:Tm:=⟨[(0,.d hIs),(3,.d hI)],[],[],[]⟩
abbrev A16:List (Exit × Tm):=[(.exit 0,Asw)]
def A15 {α:Type} (n:Nat) (v:Ry.den) (f:Ry.den->Option α) (ks:KS α A16):Option α:=A17 n v.1.1 v.1.2.1 (fun a b=>f ((a,b,()),())) (fun w0 w1=>ks.1 ((w0,w1,()),()))
def Y7 {α:Type} (n m:Nat) (a:LI) (b:Int) (k0:LI->Int->Option α):Option α:=A5 (A15 n) m ((a,b,()),()) (fun w=>k0 w.1.1 w.1.2.1,())
theorem Asv {α n m a b k0}:Y7 (α:=α) n (m + 1) a b k0 = A17 n a b (fun a b=>Y7 n m a b k0) k0:=rfl
def f218 (n:Nat) (a0:LI):Option LI :=
 Y7 n n a0 (a0.length:Int)
  (fun b a=>(
   gd (decide (0 <= a) && decide (a <= (b.length:Int))) (
    gd (decide ((0 + ((b.drop 0).take (a.toNat - 0)).length) * 8 <= 140737488355328)) (
     some ((b.drop 0).take (a.toNat - 0))))))
def Vv (n:Nat):Ent:=⟨218,[hIs],[hIs],fun x=>f218 n x⟩
def Afb (α:Type) (n:Nat):D3 α:={ reg:=[(4,⟨0,[],[(0,{ sh:=some hI })]⟩)],join:=[],loop:=[(2,⟨Ry,A16,A5 (A15 n) n⟩)] }
theorem Aa3 (α:Type) (n:Nat):Ao PP (Ai (Afb α n).reg):=trivial
theorem Anv (α:Type) (n:Nat):LO.Sound (α:=α) PP ⟨23,[]⟩ ⟨Ry,A16,A5 (A15 n) n⟩ (.loop ((A1 Tryz.f218).at [1,1,0,0,0])):=Bj (D:=Afb α n) (Aa3 α n) n
theorem B7f (α:Type) (n:Nat):D3.OK PP TT ⟨23,[]⟩ (Afb α n) (A1 Tryz.f218) :=
 D3.OK.mk3 (Aa3 α n) (show Ab (A1 Tryz.f218) = [(2,(.loop ((A1 Tryz.f218).at [1,1,0,0,0])))] by kernel_rfl) ⟨Ad rfl (Anv α n),trivial⟩
theorem Y5 (n:Nat):(Vv n).Sound PP:=fk (fn:=Tryz.f218) (B7f _ n)

def A23 {α:Type} (n:Nat) (b c:LI) (a:Int) (f:LI->LI->Int->Option α) (k0:Int->Option α) (k1:Unit->Option α):Option α :=
 bif (decide (a >= 0)) then
  gd (decide (0 <= a) && decide (a < (b.length:Int))) (
   gd (decide (0 <= a) && decide (a < (c.length:Int))) (
    bif ((b.getD a.toNat 0) != (c.getD a.toNat 0)) then
     gd (decide (0 <= a) && decide (a < (b.length:Int))) (
      gd (decide (0 <= a) && decide (a < (c.length:Int))) (
       ob (f170 n (decide ((b.getD a.toNat 0) > (c.getD a.toNat 0)))) fun d =>
       k0 (W ((W (2 * d)) - 1))))
    else
     f b c (W (a - 1))))
 else
  k1 ()
abbrev Sf:Tm:=⟨[(0,.d hIs),(1,.d hIs),(5,.d hI)],[],[],[]⟩
abbrev Aty:Tm:=⟨[(4,.d hI)],[],[],[]⟩
abbrev Atx:Tm:=⟨[],[],[],[]⟩
abbrev A22:List (Exit × Tm):=[(.ret,Aty),(.exit 0,Atx)]
def A21 {α:Type} (n:Nat) (v:Sf.den) (f:Sf.den->Option α) (ks:KS α A22):Option α:=A23 n v.1.1 v.1.2.1 v.1.2.2.1 (fun a b c=>f ((a,b,c,()),())) (fun w0=>ks.1 ((w0,()),())) (fun _=>ks.2.1 ((),()))
def Yf {α:Type} (n m:Nat) (a b:LI) (c:Int) (k0:Int->Option α) (k1:Unit->Option α):Option α:=A5 (A21 n) m ((a,b,c,()),()) (fun w=>k0 w.1.1,fun w=>k1 (),())
theorem Atw {α n m a b c k0 k1}:Yf (α:=α) n (m + 1) a b c k0 k1 = A23 n a b c (fun a b c=>Yf n m a b c k0 k1) k0 k1:=rfl
def f188 (n:Nat) (a0 a1:LI):Option Int :=
 bif ((a0.length:Int) != (a1.length:Int)) then
  ob (f170 n (decide ((a0.length:Int) > (a1.length:Int)))) fun a =>
  some (W ((W (2 * a)) - 1))
 else
  Yf n n a0 a1 (W ((a0.length:Int) - 1))
   (fun b=>(
    some b))
   (fun (_:Unit)=>(
    some 0))
def W8 (n:Nat):Ent:=⟨188,[hIs,hIs],[hI],fun x=>f188 n x.1 x.2⟩
def Ag9 (α:Type) (n:Nat):D3 α:={ reg:=[(2,⟨0,[],[(5,{ ent:=some (Wd n) })]⟩),(6,⟨8,[],[]⟩),(7,⟨8,[],[(9,{ ent:=some (Wd n) })]⟩)],join:=[],loop:=[(4,⟨Sf,A22,A5 (A21 n) n⟩)] }
theorem Aah (α:Type) (n:Nat):Ao PP (Ai (Ag9 α n).reg):=⟨Yl n,Yl n,trivial⟩
theorem Aoh (α:Type) (n:Nat):LO.Sound (α:=α) PP ⟨47,[]⟩ ⟨Sf,A22,A5 (A21 n) n⟩ (.loop ((A1 Tryz.f188).at [1,1,0,1,0,0])):=Bj (D:=Ag9 α n) (Aah α n) n
theorem B7v (α:Type) (n:Nat):D3.OK PP TT ⟨47,[]⟩ (Ag9 α n) (A1 Tryz.f188) :=
 D3.OK.mk3 (Aah α n) (show Ab (A1 Tryz.f188) = [(4,(.loop ((A1 Tryz.f188).at [1,1,0,1,0,0])))] by kernel_rfl) ⟨Ad rfl (Aoh α n),trivial⟩
theorem Ye (n:Nat):(W8 n).Sound PP:=fk (fn:=Tryz.f188) (B7v _ n)

def A2h {α:Type} (n:Nat) (a:Int) (b:LI) (f:Int->LI->Option α) (k0:LI->Option α):Option α :=
 bif (decide (a > 0)) then
  gd (decide ((b.length + 1) * 8 <= 140737488355328)) (
   f (W (Int.tdiv a 10000)) (b ++ [(Int.tmod a 10000)]))
 else
  k0 b
abbrev Sn:Tm:=⟨[(0,.d hI),(3,.k (.hw 4))],[(4,.arr 3 hI false)],[10],[]⟩
abbrev Au8:Tm:=⟨[(3,.k (.hw 4))],[(4,.arr 3 hI false)],[],[]⟩
abbrev A2g:List (Exit × Tm):=[(.exit 0,Au8)]
def A2f {α:Type} (n:Nat) (v:Sn.den) (f:Sn.den->Option α) (ks:KS α A2g):Option α:=A2h n v.1.1 v.2.1 (fun a b=>f ((a,(),()),(b,()))) (fun w0=>ks.1 (((),()),(w0,())))
def Yi {α:Type} (n m:Nat) (a:Int) (b:LI) (k0:LI->Option α):Option α:=A5 (A2f n) m ((a,(),()),(b,())) (fun w=>k0 w.2.1,())
theorem Au7 {α n m a b k0}:Yi (α:=α) n (m + 1) a b k0 = A2h n a b (fun a b=>Yi n m a b k0) k0:=rfl
def f181 (n:Nat) (a0:Int):Option LI :=
 Yi n n a0 []
  (fun a=>(
   some a))
def Wc (n:Nat):Ent:=⟨181,[hI],[hIs],fun x=>f181 n x⟩
def Agb (α:Type) (n:Nat):D3 α:={ reg:=[(1,⟨0,[],[(0,{ sh:=some hI })]⟩),(3,⟨0,[],[(3,{ sh:=some hI })]⟩)],join:=[],loop:=[(2,⟨Sn,A2g,A5 (A2f n) n⟩)] }
theorem Aaj (α:Type) (n:Nat):Ao PP (Ai (Agb α n).reg):=trivial
theorem Aon (α:Type) (n:Nat):LO.Sound (α:=α) PP ⟨15,[]⟩ ⟨Sn,A2g,A5 (A2f n) n⟩ (.loop ((A1 Tryz.f181).at [1,1,0,0,0])):=Bj (D:=Agb α n) (Aaj α n) n
theorem B80 (α:Type) (n:Nat):D3.OK PP TT ⟨15,[]⟩ (Agb α n) (A1 Tryz.f181) :=
 D3.OK.mk3 (Aaj α n) (show Ab (A1 Tryz.f181) = [(2,(.loop ((A1 Tryz.f181).at [1,1,0,0,0])))] by kernel_rfl) ⟨Ad rfl (Aon α n),trivial⟩
theorem Yh (n:Nat):(Wc n).Sound PP:=fk (fn:=Tryz.f181) (B80 _ n)

def A29 {α:Type} (n:Nat) (e d:LI) (b g a:Int) (c:LI) (f:LI->LI->Int->Int->Int->LI->Option α) (k0:LI->LI->Int->LI->Option α):Option α :=
 let h:=fun (_:Unit)=>(
  gd (decide (0 <= (W (b + a))) && decide ((W (b + a)) < (c.length:Int))) (
   gd (decide ((W (b + a)).toNat < c.length)) (
    let i:=fun (j:Int)=>(
     gd (decide (0 <= (W (b + a))) && decide ((W (b + a)) < (c.length:Int))) (
      gd (decide ((W (b + a)).toNat < c.length)) (
       f e d b (W (Int.tdiv j 10000)) (W (a + 1)) (c.set ((W (b + a)).toNat) (Int.tmod j 10000)))))
    bif (decide (a < (d.length:Int))) then
     gd (decide (0 <= b) && decide (b < (e.length:Int))) (
      gd (decide (0 <= a) && decide (a < (d.length:Int))) (
       i (W ((W ((c.getD ((W (b + a)).toNat) 0) + g)) + (W ((e.getD b.toNat 0) * (d.getD a.toNat 0)))))))
    else
     i (W ((c.getD ((W (b + a)).toNat) 0) + g)))))
 bif (decide (a < (d.length:Int))) then
  h ()
 else
  bif (decide (g > 0)) then
   h ()
  else
   k0 e d b c
abbrev Si:Tm:=⟨[(0,.d hIs),(1,.d hIs),(5,.k (.hw 16)),(6,.d hI),(7,.d hI),(8,.d hI)],[(16,.arr 3 hI false)],[],[]⟩
abbrev Au3:Tm:=⟨[(0,.d hIs),(1,.d hIs),(5,.k (.hw 16)),(6,.d hI)],[(16,.arr 3 hI false)],[],[]⟩
abbrev A28:List (Exit × Tm):=[(.exit 2,Au3)]
def A27 {α:Type} (n:Nat) (v:Si.den) (f:Si.den->Option α) (ks:KS α A28):Option α:=A29 n v.1.1 v.1.2.1 v.1.2.2.2.1 v.1.2.2.2.2.1 v.1.2.2.2.2.2.1 v.2.1 (fun a b c d e g=>f ((a,b,(),c,d,e,()),(g,()))) (fun w0 w1 w2 w3=>ks.1 ((w0,w1,(),w2,()),(w3,())))
def M3 {α:Type} (n m:Nat) (a b:LI) (c d e:Int) (f:LI) (k0:LI->LI->Int->LI->Option α):Option α:=A5 (A27 n) m ((a,b,(),c,d,e,()),(f,())) (fun w=>k0 w.1.1 w.1.2.1 w.1.2.2.2.1 w.2.1,())
theorem Au2 {α n m a b c d e f k0}:M3 (α:=α) n (m + 1) a b c d e f k0 = A29 n a b c d e f (fun a b c d e f=>M3 n m a b c d e f k0) k0:=rfl
def A2c {α:Type} (n:Nat) (a d:LI) (b:Int) (c:LI) (f:LI->LI->Int->LI->Option α) (k0:LI->Option α):Option α :=
 bif (decide (b < (a.length:Int))) then
  M3 n n a d b 0 0 c
   (fun e g h i=>(
    f e g (W (h + 1)) i))
 else
  k0 c
abbrev Sj:Tm:=⟨[(0,.d hIs),(1,.d hIs),(5,.k (.hw 16)),(6,.d hI)],[(16,.arr 3 hI false)],[],[]⟩
abbrev Au6:Tm:=⟨[(5,.k (.hw 16))],[(16,.arr 3 hI false)],[],[]⟩
abbrev A2b:List (Exit × Tm):=[(.exit 0,Au6)]
def A2a {α:Type} (n:Nat) (v:Sj.den) (f:Sj.den->Option α) (ks:KS α A2b):Option α:=A2c n v.1.1 v.1.2.1 v.1.2.2.2.1 v.2.1 (fun a b c d=>f ((a,b,(),c,()),(d,()))) (fun w0=>ks.1 (((),()),(w0,())))
def M4 {α:Type} (n m:Nat) (a b:LI) (c:Int) (d:LI) (k0:LI->Option α):Option α:=A5 (A2a n) m ((a,b,(),c,()),(d,())) (fun w=>k0 w.2.1,())
theorem Au4 {α n m a b c d k0}:M4 (α:=α) n (m + 1) a b c d k0 = A2c n a b c d (fun a b c d=>M4 n m a b c d k0) k0:=rfl
abbrev B3r:Tm:=⟨[(0,.d hIs),(1,.d hIs),(5,.k (.hw 16)),(6,.d hI),(7,.d hI),(8,.d hI)],[(16,.arr 3 hI false)],[],[]⟩
abbrev Azd:Tm:=⟨[(0,.d hIs),(1,.d hIs),(5,.k (.hw 16)),(6,.d hI),(8,.d hI),(9,.d hI)],[(16,.arr 3 hI false)],[],[]⟩
def f185 (n:Nat) (a0 a1:LI):Option LI :=
 gd (decide (0 <= (W ((W ((a0.length:Int) + (a1.length:Int))) + 1))) && decide ((W ((W ((a0.length:Int) + (a1.length:Int))) + 1)) <= 4611686018427387904) && decide ((8:Int) * (W ((W ((a0.length:Int) + (a1.length:Int))) + 1)) <= 281474976710656)) (
  M4 n n a0 a1 0 (List.replicate ((W ((W ((a0.length:Int) + (a1.length:Int))) + 1)).toNat) 0)
   (fun a=>(
    ob (f218 n a) fun b =>
    some b)))
def H3 (n:Nat):Ent:=⟨185,[hIs,hIs],[hIs],fun x=>f185 n x.1 x.2⟩
def A56 (α:Type) (n:Nat):D3 α:={ reg:=[(11,⟨10,[],[]⟩),(14,⟨0,[],[(1,{ ent:=some (Vv n),fz:=[(65,hIs)] })]⟩)],join:=[(9,B3r),(12,Azd)],loop:=[(7,⟨Si,A28,A5 (A27 n) n⟩),(3,⟨Sj,A2b,A5 (A2a n) n⟩)] }
theorem W9 (α:Type) (n:Nat):Ao PP (Ai (A56 α n).reg):=⟨Y5 n,trivial⟩
theorem Aoj (α:Type) (n:Nat):LO.Sound (α:=α) PP ⟨67,[]⟩ ⟨Si,A28,A5 (A27 n) n⟩ (.loop ((A1 Tryz.f185).at [1,1,0,1,0,0,1,0,0,1,1,0,0])):=Bj (D:=A56 α n) (W9 α n) n
theorem Au5 (α:Type) (n:Nat):D3.OK PP TT ⟨67,[]⟩ (A56 α n) ((A1 Tryz.f185).at [1,1,0,1,0,0]) :=
 D3.OK.mk3 (W9 α n) (show Ab ((A1 Tryz.f185).at [1,1,0,1,0,0]) = [(7,(.loop ((A1 Tryz.f185).at [1,1,0,1,0,0,1,0,0,1,1,0,0])))] by kernel_rfl) ⟨Ad rfl (Aoj α n),trivial⟩
theorem Aok (α:Type) (n:Nat):LO.Sound (α:=α) PP ⟨67,[]⟩ ⟨Sj,A2b,A5 (A2a n) n⟩ (.loop ((A1 Tryz.f185).at [1,1,0,1,0,0])):=lk (Au5 α n) n
theorem B7y (α:Type) (n:Nat):D3.OK PP TT ⟨67,[]⟩ (A56 α n) (A1 Tryz.f185) :=
 D3.OK.mk3 (W9 α n) (show Ab (A1 Tryz.f185) = [(3,(.loop ((A1 Tryz.f185).at [1,1,0,1,0,0])))] by kernel_rfl) ⟨Ad rfl (Aok α n),trivial⟩
theorem Gc (n:Nat):(H3 n).Sound PP:=fk (fn:=Tryz.f185) (B7y _ n)

def A20 {α:Type} (n:Nat) (b c:LI) (e a:Int) (d:LI) (f:LI->LI->Int->Int->LI->Option α) (k0:LI->Option α):Option α :=
 bif (decide (a < (b.length:Int))) then
  gd (decide (0 <= a) && decide (a < (b.length:Int))) (
   let g:=fun (h:Int)=>(
    ob (f170 n (decide (h < 0))) fun i =>
    gd (decide ((d.length + 1) * 8 <= 140737488355328)) (
     f b c i (W (a + 1)) (d ++ [(W (h + (W (i * 10000))))])))
   bif (decide (a < (c.length:Int))) then
    gd (decide (0 <= a) && decide (a < (c.length:Int))) (
     g (W ((W ((b.getD a.toNat 0) - e)) - (c.getD a.toNat 0))))
   else
    g (W ((b.getD a.toNat 0) - e)))
 else
  k0 d
abbrev Se:Tm:=⟨[(0,.d hIs),(1,.d hIs),(5,.k (.hw 9)),(6,.d hI),(7,.d hI)],[(9,.arr 3 hI false)],[40],[]⟩
abbrev Atv:Tm:=⟨[(5,.k (.hw 9))],[(9,.arr 3 hI false)],[],[]⟩
abbrev A1z:List (Exit × Tm):=[(.exit 0,Atv)]
def A1y {α:Type} (n:Nat) (v:Se.den) (f:Se.den->Option α) (ks:KS α A1z):Option α:=A20 n v.1.1 v.1.2.1 v.1.2.2.2.1 v.1.2.2.2.2.1 v.2.1 (fun a b c d e=>f ((a,b,(),c,d,()),(e,()))) (fun w0=>ks.1 (((),()),(w0,())))
def M2 {α:Type} (n m:Nat) (a b:LI) (c d:Int) (e:LI) (k0:LI->Option α):Option α:=A5 (A1y n) m ((a,b,(),c,d,()),(e,())) (fun w=>k0 w.2.1,())
theorem Atu {α n m a b c d e k0}:M2 (α:=α) n (m + 1) a b c d e k0 = A20 n a b c d e (fun a b c d e=>M2 n m a b c d e k0) k0:=rfl
abbrev B3k:Tm:=⟨[(0,.d hIs),(1,.d hIs),(5,.k (.hw 9)),(7,.d hI),(8,.d hI)],[(9,.arr 3 hI false)],[],[]⟩
def f189 (n:Nat) (a0 a1:LI):Option LI :=
 M2 n n a0 a1 0 0 []
  (fun a=>(
   ob (f218 n a) fun b =>
   some b))
def A55 (n:Nat):Ent:=⟨189,[hIs,hIs],[hIs],fun x=>f189 n x.1 x.2⟩
def Ag8 (α:Type) (n:Nat):D3 α:={ reg:=[(1,⟨0,[],[(0,{ sh:=some hI })]⟩),(9,⟨0,[],[(2,{ ent:=some (Wd n) })]⟩),(10,⟨0,[],[(5,{ sh:=some hI })]⟩),(11,⟨0,[],[(1,{ ent:=some (Vv n),fz:=[(42,hIs)] })]⟩)],join:=[(9,B3k)],loop:=[(4,⟨Se,A1z,A5 (A1y n) n⟩)] }
theorem Aag (α:Type) (n:Nat):Ao PP (Ai (Ag8 α n).reg):=⟨Yl n,Y5 n,trivial⟩
theorem Aog (α:Type) (n:Nat):LO.Sound (α:=α) PP ⟨44,[]⟩ ⟨Se,A1z,A5 (A1y n) n⟩ (.loop ((A1 Tryz.f189).at [1,1,1,0,1,0,0])):=Bj (D:=Ag8 α n) (Aag α n) n
theorem B7u (α:Type) (n:Nat):D3.OK PP TT ⟨44,[]⟩ (Ag8 α n) (A1 Tryz.f189) :=
 D3.OK.mk3 (Aag α n) (show Ab (A1 Tryz.f189) = [(4,(.loop ((A1 Tryz.f189).at [1,1,1,0,1,0,0])))] by kernel_rfl) ⟨Ad rfl (Aog α n),trivial⟩
theorem A7x (n:Nat):(A55 n).Sound PP:=fk (fn:=Tryz.f189) (B7u _ n)

def Vu {α:Type} (n:Nat) (e c d:LI) (g a b:Int) (h:LI) (f:LI->LI->LI->Int->Int->Int->LI->Option α) (k0:LI->LI->LI->Int->Int->LI->Option α):Option α :=
 bif (decide ((W (b - a)) > 1)) then
  ob (f181 n (W (Int.tdiv (W (a + b)) 2))) fun i =>
  ob (f185 n c i) fun j =>
  ob (f188 n j d) fun k =>
  bif (decide (k <= 0)) then
   f e c d g (W (Int.tdiv (W (a + b)) 2)) b h
  else
   f e c d g a (W (Int.tdiv (W (a + b)) 2)) h
 else
  k0 e c d g a h
abbrev O9:Tm:=⟨[(0,.d hIs),(1,.d hIs),(6,.k (.hw 14)),(7,.d hIs),(8,.d hI),(9,.d hI),(10,.d hI)],[(14,.arr 3 hI false)],[27],[]⟩
abbrev Anu:Tm:=⟨[(0,.d hIs),(1,.d hIs),(6,.k (.hw 14)),(7,.d hIs),(8,.d hI),(9,.d hI)],[(14,.arr 3 hI false)],[],[]⟩
abbrev Vt:List (Exit × Tm):=[(.exit 2,Anu)]
def Vs {α:Type} (n:Nat) (v:O9.den) (f:O9.den->Option α) (ks:KS α Vt):Option α:=Vu n v.1.1 v.1.2.1 v.1.2.2.2.1 v.1.2.2.2.2.1 v.1.2.2.2.2.2.1 v.1.2.2.2.2.2.2.1 v.2.1 (fun a b c d e g h=>f ((a,b,(),c,d,e,g,()),(h,()))) (fun w0 w1 w2 w3 w4 w5=>ks.1 ((w0,w1,(),w2,w3,w4,()),(w5,())))
def N5 {α:Type} (n m:Nat) (a b c:LI) (d e f:Int) (g:LI) (k0:LI->LI->LI->Int->Int->LI->Option α):Option α:=A5 (Vs n) m ((a,b,(),c,d,e,f,()),(g,())) (fun w=>k0 w.1.1 w.1.2.1 w.1.2.2.2.1 w.1.2.2.2.2.1 w.1.2.2.2.2.2.1 w.2.1,())
theorem Ant {α n m a b c d e f g k0}:N5 (α:=α) n (m + 1) a b c d e f g k0 = Vu n a b c d e f g (fun a b c d e f g=>N5 n m a b c d e f g k0) k0:=rfl
def Rx {α:Type} (n:Nat) (c d e:LI) (a:Int) (g:LI) (f:LI->LI->LI->Int->LI->Option α) (k0:LI->LI->Option α):Option α :=
 bif (decide (a >= 0)) then
  gd (decide (0 <= a) && decide (a < (c.length:Int))) (
   gd (decide ((1 + e.length) * 8 <= 140737488355328)) (
    ob (f218 n ([(c.getD a.toNat 0)] ++ e)) fun h =>
    ob (f188 n h d) fun l =>
    bif (decide (l < 0)) then
     f c d h (W (a - 1)) g
    else
     N5 n n c d h a 0 10000 g
      (fun m j o b k i=>(
       gd (decide (0 <= b) && decide (b < (i.length:Int))) (
        gd (decide (b.toNat < i.length)) (
         ob (f181 n k) fun p =>
         ob (f185 n j p) fun q =>
         ob (f189 n o q) fun r =>
         f m j r (W (b - 1)) (i.set b.toNat k)))))))
 else
  k0 e g
abbrev Rw:Tm:=⟨[(0,.d hIs),(1,.d hIs),(6,.k (.hw 14)),(7,.d hIs),(8,.d hI)],[(14,.arr 3 hI false)],[15,27],[(7,hIs)]⟩
abbrev Asu:Tm:=⟨[(6,.k (.hw 14)),(7,.d hIs)],[(14,.arr 3 hI false)],[],[]⟩
abbrev A14:List (Exit × Tm):=[(.exit 0,Asu)]
def A13 {α:Type} (n:Nat) (v:Rw.den) (f:Rw.den->Option α) (ks:KS α A14):Option α:=Rx n v.1.1 v.1.2.1 v.1.2.2.2.1 v.1.2.2.2.2.1 v.2.1 (fun a b c d e=>f ((a,b,(),c,d,()),(e,()))) (fun w0 w1=>ks.1 (((),w0,()),(w1,())))
def Pq {α:Type} (n m:Nat) (a b c:LI) (d:Int) (e:LI) (k0:LI->LI->Option α):Option α:=A5 (A13 n) m ((a,b,(),c,d,()),(e,())) (fun w=>k0 w.1.2.1 w.2.1,())
theorem Aa2 {α n m a b c d e k0}:Pq (α:=α) n (m + 1) a b c d e k0 = Rx n a b c d e (fun a b c d e=>Pq n m a b c d e k0) k0:=rfl
def f219 (n:Nat) (a0 a1:LI):Option (LI × LI) :=
 gd (decide (0 <= (a0.length:Int)) && decide ((a0.length:Int) <= 4611686018427387904) && decide ((8:Int) * (a0.length:Int) <= 281474976710656)) (
  Pq n n a0 a1 [] (W ((a0.length:Int) - 1)) (List.replicate ((a0.length:Int).toNat) 0)
   (fun a b=>(
    ob (f218 n b) fun c =>
    some (c,a))))
def A4p (n:Nat):Ent:=⟨219,[hIs,hIs],[hIs,hIs],fun x=>f219 n x.1 x.2⟩
def A4q (α:Type) (n:Nat):D3 α:={ reg:=[(2,⟨0,[],[(0,{ sh:=some hI })]⟩),(6,⟨0,[],[(4,{ sh:=some hI }),(7,{ ent:=some (Vv n),fz:=[(29,hIs)] })]⟩),(7,⟨0,[],[(2,{ ent:=some (W8 n) })]⟩),(12,⟨0,[],[(2,{ ent:=some (Wc n) }),(3,{ ent:=some (H3 n) }),(5,{ ent:=some (W8 n) })]⟩),(16,⟨0,[],[(3,{ ent:=some (Wc n) }),(4,{ ent:=some (H3 n) }),(5,{ ent:=some (A55 n) })]⟩),(17,⟨0,[],[(1,{ ent:=some (Vv n),fz:=[(62,hIs)] })]⟩)],join:=[],loop:=[(10,⟨O9,Vt,A5 (Vs n) n⟩),(4,⟨Rw,A14,A5 (A13 n) n⟩)] }
theorem Vr (α:Type) (n:Nat):Ao PP (Ai (A4q α n).reg):=⟨Y5 n,Ye n,Yh n,Gc n,Ye n,Yh n,Gc n,A7x n,Y5 n,trivial⟩
theorem Ain (α:Type) (n:Nat):LO.Sound (α:=α) PP ⟨65,[]⟩ ⟨O9,Vt,A5 (Vs n) n⟩ (.loop ((A1 Tryz.f219).at [1,1,1,0,1,0,0,1,0,0,1,1,1,1,0,0,0])):=Bj (D:=A4q α n) (Vr α n) n
theorem Ast (α:Type) (n:Nat):D3.OK PP TT ⟨65,[]⟩ (A4q α n) ((A1 Tryz.f219).at [1,1,1,0,1,0,0]) :=
 D3.OK.mk3 (Vr α n) (show Ab ((A1 Tryz.f219).at [1,1,1,0,1,0,0]) = [(10,(.loop ((A1 Tryz.f219).at [1,1,1,0,1,0,0,1,0,0,1,1,1,1,0,0,0])))] by kernel_rfl) ⟨Ad rfl (Ain α n),trivial⟩
theorem Ans (α:Type) (n:Nat):LO.Sound (α:=α) PP ⟨65,[]⟩ ⟨Rw,A14,A5 (A13 n) n⟩ (.loop ((A1 Tryz.f219).at [1,1,1,0,1,0,0])):=lk (Ast α n) n
theorem B7e (α:Type) (n:Nat):D3.OK PP TT ⟨65,[]⟩ (A4q α n) (A1 Tryz.f219) :=
 D3.OK.mk3 (Vr α n) (show Ab (A1 Tryz.f219) = [(4,(.loop ((A1 Tryz.f219).at [1,1,1,0,1,0,0])))] by kernel_rfl) ⟨Ad rfl (Ans α n),trivial⟩
theorem A7r (n:Nat):(A4p n).Sound PP:=fk (fn:=Tryz.f219) (B7e _ n)

def A1a {α:Type} (n:Nat) (b a:LI) (f:LI->LI->Option α) (k0:LI->Option α):Option α :=
 bif (decide ((a.length:Int) > 0)) then
  ob (f219 n b a) fun c =>
  f a c.2
 else
  k0 b
abbrev Rz:Tm:=⟨[(0,.d hIs),(1,.d hIs)],[],[],[]⟩
abbrev Asx:Tm:=⟨[(0,.d hIs)],[],[],[]⟩
abbrev A19:List (Exit × Tm):=[(.exit 0,Asx)]
def A18 {α:Type} (n:Nat) (v:Rz.den) (f:Rz.den->Option α) (ks:KS α A19):Option α:=A1a n v.1.1 v.1.2.1 (fun a b=>f ((a,b,()),())) (fun w0=>ks.1 ((w0,()),()))
def Jj {α:Type} (n m:Nat) (a b:LI) (k0:LI->Option α):Option α:=A5 (A18 n) m ((a,b,()),()) (fun w=>k0 w.1.1,())
theorem Aa5 {α n m a b k0}:Jj (α:=α) n (m + 1) a b k0 = A1a n a b (fun a b=>Jj n m a b k0) k0:=rfl
def f217 (n:Nat) (a0 a1:LI):Option LI :=
 Jj n n a0 a1
  (fun a=>(
   gd (decide ((0 + a.length) * 8 <= 140737488355328)) (
    some a)))
def Afc (n:Nat):Ent:=⟨217,[hIs,hIs],[hIs],fun x=>f217 n x.1 x.2⟩
def Afd (α:Type) (n:Nat):D3 α:={ reg:=[(2,⟨0,[],[(2,{ ent:=some (A4p n) })]⟩),(5,⟨0,[],[(0,{ sh:=some hI })]⟩)],join:=[],loop:=[(1,⟨Rz,A19,A5 (A18 n) n⟩)] }
theorem Aa4 (α:Type) (n:Nat):Ao PP (Ai (Afd α n).reg):=⟨A7r n,trivial⟩
theorem Anw (α:Type) (n:Nat):LO.Sound (α:=α) PP ⟨21,[]⟩ ⟨Rz,A19,A5 (A18 n) n⟩ (.loop ((A1 Tryz.f217).at [1,0,0,0])):=Bj (D:=Afd α n) (Aa4 α n) n
theorem B7g (α:Type) (n:Nat):D3.OK PP TT ⟨21,[]⟩ (Afd α n) (A1 Tryz.f217) :=
 D3.OK.mk3 (Aa4 α n) (show Ab (A1 Tryz.f217) = [(1,(.loop ((A1 Tryz.f217).at [1,0,0,0])))] by kernel_rfl) ⟨Ad rfl (Anw α n),trivial⟩
theorem Ake (n:Nat):(Afc n).Sound PP:=fk (fn:=Tryz.f217) (B7g _ n)

abbrev B3x:Tm:=⟨[(1,.k (.hp 1 0 0))],[(1,.var 31 true false [.d .bool,.d hIs,.d hIs])],[],[]⟩
def f177 (n:Nat) (a0:Rq):Option Bool :=
 let a:=fun (_:Unit)=>(
  ob (f217 n a0.2.1 a0.2.2) fun b =>
  ob (f188 n b [1]) fun c =>
  some (c == 0))
 ob (f216 n a0.2.1) fun d =>
 bif (!d) then
  some false
 else
  ob (f216 n a0.2.2) fun e =>
  bif (!e) then
   some false
  else
   bif ((a0.2.2.length:Int) == 0) then
    some false
   else
    bif ((a0.2.1.length:Int) == 0) then
     bif a0.1 then
      some false
     else
      a ()
    else
     a ()
def Auf (n:Nat):Ent:=⟨177,[hR],[.bool],fun x=>f177 n x⟩
def B87 (α:Type) (n:Nat):D3 α:={ reg:=[(1,⟨0,[],[(2,{ ent:=some (Afe n) }),(7,{ ent:=some (Afe n) })]⟩),(3,⟨0,[],[(4,{ ent:=some (Afc n) }),(5,{ sh:=some hI }),(6,{ ent:=some (W8 n) })]⟩)],join:=[(3,B3x)],loop:=[] }
theorem B3v (n:Nat):(Auf n).Sound PP:=At (fn:=Tryz.f177) (D:=B87 _ n) ⟨Akf n,Akf n,Ake n,Ye n,trivial⟩

def A30 {α:Type} (n:Nat) (a:LR) (b:Int) (f:LR->Int->Option α) (k0:Bool->Option α) (k1:LR->Option α):Option α :=
 bif (decide (b < (a.length:Int))) then
  gd (decide (0 <= b) && decide (b < (a.length:Int))) (
   let c:=a.getD b.toNat (false,[],[])
   ob (f177 n c) fun d =>
   bif (!d) then
    k0 false
   else
    f a (W (b + 1)))
 else
  k1 a
abbrev Sx:Tm:=⟨[(0,.d hRs),(3,.d hI)],[],[],[]⟩
abbrev Av9:Tm:=⟨[(2,.d .bool)],[],[],[]⟩
abbrev Av8:Tm:=⟨[(0,.d hRs)],[],[],[]⟩
abbrev A2z:List (Exit × Tm):=[(.ret,Av9),(.exit 0,Av8)]
def A2y {α:Type} (n:Nat) (v:Sx.den) (f:Sx.den->Option α) (ks:KS α A2z):Option α:=A30 n v.1.1 v.1.2.1 (fun a b=>f ((a,b,()),())) (fun w0=>ks.1 ((w0,()),())) (fun w0=>ks.2.1 ((w0,()),()))
def Q8 {α:Type} (n m:Nat) (a:LR) (b:Int) (k0:Bool->Option α) (k1:LR->Option α):Option α:=A5 (A2y n) m ((a,b,()),()) (fun w=>k0 w.1.1,fun w=>k1 w.1.1,())
theorem Av7 {α n m a b k0 k1}:Q8 (α:=α) n (m + 1) a b k0 k1 = A30 n a b (fun a b=>Q8 n m a b k0 k1) k0 k1:=rfl
def f119 (n:Nat) (a0:LR):Option Bool :=
 bif (decide ((a0.length:Int) > 4096)) then
  some false
 else
  Q8 n n a0 0
   (fun a=>(
    some a))
   (fun b=>(
    ob (f174 n (b.length:Int) 1 4) fun c =>
    some c))
def A5k (n:Nat):Ent:=⟨119,[hRs],[.bool],fun x=>f119 n x⟩
def Agr (α:Type) (n:Nat):D3 α:={ reg:=[(6,⟨0,[],[(4,{ ent:=some (Auf n) })]⟩),(8,⟨0,[],[(2,{ ent:=some (Fs n) })]⟩)],join:=[],loop:=[(4,⟨Sx,A2z,A5 (A2y n) n⟩)] }
theorem Aat (α:Type) (n:Nat):Ao PP (Ai (Agr α n).reg):=⟨B3v n,Fc n,trivial⟩
theorem Aoy (α:Type) (n:Nat):LO.Sound (α:=α) PP ⟨22,[]⟩ ⟨Sx,A2z,A5 (A2y n) n⟩ (.loop ((A1 Tryz.f119).at [1,1,0,1,0,0])):=Bj (D:=Agr α n) (Aat α n) n
theorem B95 (α:Type) (n:Nat):D3.OK PP TT ⟨22,[]⟩ (Agr α n) (A1 Tryz.f119) :=
 D3.OK.mk3 (Aat α n) (show Ab (A1 Tryz.f119) = [(4,(.loop ((A1 Tryz.f119).at [1,1,0,1,0,0])))] by kernel_rfl) ⟨Ad rfl (Aoy α n),trivial⟩
theorem A8a (n:Nat):(A5k n).Sound PP:=fk (fn:=Tryz.f119) (B95 _ n)

def A2x {α:Type} (n:Nat) (c a:Int) (b:LN) (f:Int->Int->LN->Option α) (k0:Int->Option α):Option α :=
 bif (decide (a < (b.length:Int))) then
  gd (decide (0 <= a) && decide (a < (b.length:Int))) (
   let d:=b.getD a.toNat (0,0,0,0)
   bif (d.1 == 2) then
    gd (decide (0 <= a) && decide (a < (b.length:Int))) (
     let e:=b.getD a.toNat (0,0,0,0)
     f (max c (W (e.2.2.2 + 1))) (W (a + 1)) b)
   else
    f c (W (a + 1)) b)
 else
  k0 c
abbrev Sw:Tm:=⟨[(1,.k (.hp 1 0 0)),(3,.d hI),(4,.d hI)],[(1,.var 25 true false [.d hNs])],[],[]⟩
abbrev Av5:Tm:=⟨[(3,.d hI)],[],[1],[]⟩
abbrev A2w:List (Exit × Tm):=[(.exit 0,Av5)]
def A2v {α:Type} (n:Nat) (v:Sw.den) (f:Sw.den->Option α) (ks:KS α A2w):Option α:=A2x n v.1.2.1 v.1.2.2.1 v.2.1.1 (fun a b c=>f (((),a,b,()),((c,()),()))) (fun w0=>ks.1 ((w0,()),()))
def Yp {α:Type} (n m:Nat) (a b:Int) (c:LN) (k0:Int->Option α):Option α:=A5 (A2v n) m (((),a,b,()),((c,()),())) (fun w=>k0 w.1.1,())
theorem Av4 {α n m a b c k0}:Yp (α:=α) n (m + 1) a b c k0 = A2x n a b c (fun a b c=>Yp n m a b c k0) k0:=rfl
def f120 (n:Nat) (a0:LN):Option Int :=
 Yp n n 0 0 a0
  (fun a=>(
   some a))
def Av6 (n:Nat):Ent:=⟨120,[hE],[hI],fun x=>f120 n x⟩
def Agq (α:Type) (n:Nat):D3 α:={ reg:=[],join:=[],loop:=[(3,⟨Sw,A2w,A5 (A2v n) n⟩)] }
theorem Aar (α:Type) (n:Nat):Ao PP (Ai (Agq α n).reg):=trivial
theorem Aox (α:Type) (n:Nat):LO.Sound (α:=α) PP ⟨29,[]⟩ ⟨Sw,A2w,A5 (A2v n) n⟩ (.loop ((A1 Tryz.f120).at [1,1,0,1,0,0])):=Bj (D:=Agq α n) (Aar α n) n
theorem B94 (α:Type) (n:Nat):D3.OK PP TT ⟨29,[]⟩ (Agq α n) (A1 Tryz.f120) :=
 D3.OK.mk3 (Aar α n) (show Ab (A1 Tryz.f120) = [(3,(.loop ((A1 Tryz.f120).at [1,1,0,1,0,0])))] by kernel_rfl) ⟨Ad rfl (Aox α n),trivial⟩
theorem B4l (n:Nat):(Av6 n).Sound PP:=fk (fn:=Tryz.f120) (B94 _ n)

abbrev B6k:Tm:=⟨[(1,.d hRs),(2,.k (.hp 2 0 0)),(9,.d .bool)],[(2,.var 25 true false [.d hNs])],[],[]⟩
def f62 (n:Nat) (a0:LN) (a1:LR):Option Int :=
 bif (decide ((a1.length:Int) > 4096)) then
  some 2
 else
  let a:=fun (b:Bool)=>(
   bif b then
    some 1
   else
    ob (f120 n a0) fun c =>
    bif (decide ((a1.length:Int) < c)) then
     some 8
    else
     some 0)
  ob (f118 n a0) fun d =>
  bif (!d) then
   a true
  else
   ob (f119 n a1) fun e =>
   a (!e)
def B0t (n:Nat):Ent:=⟨62,[hE,hRs],[hI],fun x=>f62 n x.1 x.2⟩
def Bai (α:Type) (n:Nat):D3 α:={ reg:=[(3,⟨0,[],[(1,{ ent:=some (Avc n) }),(5,{ ent:=some (A5k n) })]⟩),(5,⟨0,[],[(3,{ ent:=some (Av6 n) })]⟩)],join:=[(4,B6k)],loop:=[] }
theorem B6j (n:Nat):(B0t n).Sound PP:=At (fn:=Tryz.f62) (D:=Bai _ n) ⟨B4n n,A8a n,B4l n,trivial⟩

abbrev B4i:Tm:=⟨[(0,.d hRs),(1,.d hRs),(5,.d .bool)],[],[],[]⟩
abbrev B4h:Tm:=⟨[(0,.d hRs),(1,.d hRs),(14,.d .bool)],[],[],[]⟩
def f128 (n:Nat) (a0 a1:LR):Option Int :=
 let a:=fun (c:Bool)=>(
  bif c then
   some 2
  else
   let b:=fun (d:Bool)=>(
    bif d then
     some 1
    else
     bif ((a0.length:Int) != (a1.length:Int)) then
      some 8
     else
      some 0)
   ob (f119 n a0) fun e =>
   bif (!e) then
    b true
   else
    ob (f119 n a1) fun f =>
    b (!f))
 bif (decide ((a0.length:Int) > 4096)) then
  a true
 else
  a (decide ((a1.length:Int) > 4096))
def Auz (n:Nat):Ent:=⟨128,[hRs,hRs],[hI],fun x=>f128 n x.1 x.2⟩
def B90 (α:Type) (n:Nat):D3 α:={ reg:=[(3,⟨0,[],[(1,{ ent:=some (A5k n) }),(5,{ ent:=some (A5k n) })]⟩)],join:=[(2,B4i),(4,B4h)],loop:=[] }
theorem B4g (n:Nat):(Auz n).Sound PP:=At (fn:=Tryz.f128) (D:=B90 _ n) ⟨A8a n,A8a n,trivial⟩

def f74 (n:Nat) (a0:LN) (a1 a2:LR):Option Int :=
 ob (f62 n a0 a1) fun a =>
 bif (a != 0) then
  some a
 else
  ob (f128 n a1 a2) fun b =>
  some b
def B0s (n:Nat):Ent:=⟨74,[hE,hRs,hRs],[hI],fun x=>f74 n x.1 x.2.1 x.2.2⟩
def Bac (α:Type) (n:Nat):D3 α:={ reg:=[(1,⟨0,[],[(2,{ ent:=some (B0t n) })]⟩),(4,⟨0,[],[(2,{ ent:=some (Auz n) })]⟩)],join:=[],loop:=[] }
theorem B6h (n:Nat):(B0s n).Sound PP:=At (fn:=Tryz.f74) (D:=Bac _ n) ⟨B6j n,B4g n,trivial⟩

def f127 (n:Nat) (a0:Int):Option Rq :=
 bif (decide (a0 < 0)) then
  ob (f181 n (W (0 - a0))) fun a =>
  some (true,a,[1])
 else
  ob (f181 n a0) fun b =>
  some (false,b,[1])
def Ca (n:Nat):Ent:=⟨127,[hI],[hR],fun x=>f127 n x⟩
def B91 (α:Type) (n:Nat):D3 α:={ reg:=[(2,⟨0,[],[(2,{ ent:=some (Wc n) }),(3,{ sh:=some hI })]⟩),(3,⟨0,[],[(1,{ ent:=some (Wc n) }),(2,{ sh:=some hI })]⟩)],join:=[],loop:=[] }
theorem Ff (n:Nat):(Ca n).Sound PP:=At (fn:=Tryz.f127) (D:=B91 _ n) ⟨Yh n,Yh n,trivial⟩

def A6t {α:Type} (n:Nat) (b c:Int) (a:LR) (f:Int->Int->LR->Option α) (k0:LR->Option α):Option α :=
 bif (decide (c < b)) then
  ob (f127 n 0) fun d =>
  gd (decide ((a.length + 1) * 56 <= 140737488355328)) (
   f b (W (c + 1)) (a ++ [d]))
 else
  k0 a
abbrev Xg:Tm:=⟨[(0,.d hI),(3,.k (.hw 5)),(4,.d hI)],[(5,.arr 31 hR false)],[13],[]⟩
abbrev Axr:Tm:=⟨[(3,.k (.hw 5))],[(5,.arr 31 hR false)],[],[]⟩
abbrev A6s:List (Exit × Tm):=[(.exit 0,Axr)]
def A6r {α:Type} (n:Nat) (v:Xg.den) (f:Xg.den->Option α) (ks:KS α A6s):Option α:=A6t n v.1.1 v.1.2.2.1 v.2.1 (fun a b c=>f ((a,(),b,()),(c,()))) (fun w0=>ks.1 (((),()),(w0,())))
def A48 {α:Type} (n m:Nat) (a b:Int) (c:LR) (k0:LR->Option α):Option α:=A5 (A6r n) m ((a,(),b,()),(c,())) (fun w=>k0 w.2.1,())
theorem Axq {α n m a b c k0}:A48 (α:=α) n (m + 1) a b c k0 = A6t n a b c (fun a b c=>A48 n m a b c k0) k0:=rfl
def f90 (n:Nat) (a0:Int):Option LR :=
 A48 n n a0 0 []
  (fun a=>(
   some a))
def Xh (n:Nat):Ent:=⟨90,[hI],[hRs],fun x=>f90 n x⟩
def Amo (α:Type) (n:Nat):D3 α:={ reg:=[(1,⟨0,[],[(0,{ sh:=some hR })]⟩),(5,⟨0,[],[(1,{ ent:=some (Ca n) }),(2,{ sh:=some hR })]⟩)],join:=[],loop:=[(3,⟨Xg,A6s,A5 (A6r n) n⟩)] }
theorem Adu (α:Type) (n:Nat):Ao PP (Ai (Amo α n).reg):=⟨Ff n,trivial⟩
theorem Arc (α:Type) (n:Nat):LO.Sound (α:=α) PP ⟨16,[]⟩ ⟨Xg,A6s,A5 (A6r n) n⟩ (.loop ((A1 Tryz.f90).at [1,1,0,1,0,0])):=Bj (D:=Amo α n) (Adu α n) n
theorem Ba1 (α:Type) (n:Nat):D3.OK PP TT ⟨16,[]⟩ (Amo α n) (A1 Tryz.f90) :=
 D3.OK.mk3 (Adu α n) (show Ab (A1 Tryz.f90) = [(3,(.loop ((A1 Tryz.f90).at [1,1,0,1,0,0])))] by kernel_rfl) ⟨Ad rfl (Arc α n),trivial⟩
theorem B64 (n:Nat):(Xh n).Sound PP:=fk (fn:=Tryz.f90) (Ba1 _ n)

def f141 (n:Nat) (a0:Rq):Option (Rq × Rq × Rq × Rq) :=
 ob (f127 n 0) fun a =>
 ob (f127 n 0) fun b =>
 ob (f127 n 0) fun c =>
 some (a0,a,b,c)
def A5e (n:Nat):Ent:=⟨141,[hR],[(.st (.pair hR (.pair hR (.pair hR hR))))],fun x=>f141 n x⟩
def B8t (α:Type) (n:Nat):D3 α:={ reg:=[(1,⟨4,[],[(1,{ ent:=some (Ca n) }),(2,{ ent:=some (Ca n) }),(3,{ ent:=some (Ca n) })]⟩)],join:=[],loop:=[] }
theorem A87 (n:Nat):(A5e n).Sound PP:=At (fn:=Tryz.f141) (D:=B8t _ n) ⟨Ff n,Ff n,Ff n,trivial⟩

def A26 {α:Type} (n:Nat) (b c:LI) (d a:Int) (e:LI) (f:LI->LI->Int->Int->LI->Option α) (k0:LI->Option α):Option α :=
 let g:=fun (_:Unit)=>(
  let h:=fun (i:Int)=>(
   let j:=fun (k:Int)=>(
    gd (decide ((e.length + 1) * 8 <= 140737488355328)) (
     f b c (W (Int.tdiv k 10000)) (W (a + 1)) (e ++ [(Int.tmod k 10000)])))
   bif (decide (a < (c.length:Int))) then
    gd (decide (0 <= a) && decide (a < (c.length:Int))) (
     j (W (i + (c.getD a.toNat 0))))
   else
    j i)
  bif (decide (a < (b.length:Int))) then
   gd (decide (0 <= a) && decide (a < (b.length:Int))) (
    h (W (d + (b.getD a.toNat 0))))
  else
   h d)
 bif (decide (a < (b.length:Int))) then
  g ()
 else
  bif (decide (a < (c.length:Int))) then
   g ()
  else
   bif (decide (d > 0)) then
    g ()
   else
    k0 e
abbrev Sg:Tm:=⟨[(0,.d hIs),(1,.d hIs),(5,.k (.hw 8)),(6,.d hI),(7,.d hI)],[(8,.arr 3 hI false)],[48],[]⟩
abbrev Au0:Tm:=⟨[(5,.k (.hw 8))],[(8,.arr 3 hI false)],[],[]⟩
abbrev A25:List (Exit × Tm):=[(.exit 0,Au0)]
def A24 {α:Type} (n:Nat) (v:Sg.den) (f:Sg.den->Option α) (ks:KS α A25):Option α:=A26 n v.1.1 v.1.2.1 v.1.2.2.2.1 v.1.2.2.2.2.1 v.2.1 (fun a b c d e=>f ((a,b,(),c,d,()),(e,()))) (fun w0=>ks.1 (((),()),(w0,())))
def Px {α:Type} (n m:Nat) (a b:LI) (c d:Int) (e:LI) (k0:LI->Option α):Option α:=A5 (A24 n) m ((a,b,(),c,d,()),(e,())) (fun w=>k0 w.2.1,())
theorem Atz {α n m a b c d e k0}:Px (α:=α) n (m + 1) a b c d e k0 = A26 n a b c d e (fun a b c d e=>Px n m a b c d e k0) k0:=rfl
abbrev B3p:Tm:=⟨[(0,.d hIs),(1,.d hIs),(5,.k (.hw 8)),(6,.d hI),(7,.d hI)],[(8,.arr 3 hI false)],[],[]⟩
abbrev B3o:Tm:=⟨[(0,.d hIs),(1,.d hIs),(5,.k (.hw 8)),(6,.d hI),(7,.d hI)],[(8,.arr 3 hI false)],[],[]⟩
abbrev Azc:Tm:=⟨[(0,.d hIs),(1,.d hIs),(5,.k (.hw 8)),(6,.d hI),(7,.d hI)],[(8,.arr 3 hI false)],[],[]⟩
def f187 (n:Nat) (a0 a1:LI):Option LI :=
 Px n n a0 a1 0 0 []
  (fun a=>(
   some a))
def Au1 (n:Nat):Ent:=⟨187,[hIs,hIs],[hIs],fun x=>f187 n x.1 x.2⟩
def Aga (α:Type) (n:Nat):D3 α:={ reg:=[(1,⟨0,[],[(0,{ sh:=some hI })]⟩),(10,⟨0,[],[(3,{ sh:=some hI })]⟩)],join:=[(6,B3p),(8,B3o),(10,Azc)],loop:=[(4,⟨Sg,A25,A5 (A24 n) n⟩)] }
theorem Aai (α:Type) (n:Nat):Ao PP (Ai (Aga α n).reg):=trivial
theorem Aoi (α:Type) (n:Nat):LO.Sound (α:=α) PP ⟨53,[]⟩ ⟨Sg,A25,A5 (A24 n) n⟩ (.loop ((A1 Tryz.f187).at [1,1,1,0,1,0,0])):=Bj (D:=Aga α n) (Aai α n) n
theorem B7w (α:Type) (n:Nat):D3.OK PP TT ⟨53,[]⟩ (Aga α n) (A1 Tryz.f187) :=
 D3.OK.mk3 (Aai α n) (show Ab (A1 Tryz.f187) = [(4,(.loop ((A1 Tryz.f187).at [1,1,1,0,1,0,0])))] by kernel_rfl) ⟨Ad rfl (Aoi α n),trivial⟩
theorem B3m (n:Nat):(Au1 n).Sound PP:=fk (fn:=Tryz.f187) (B7w _ n)

def f186 (n:Nat) (a0:Bool) (a1 a2:LI):Option Rq :=
 ob (f217 n a1 a2) fun b =>
 ob (f219 n a1 b) fun a =>
 ob (f219 n a2 b) fun c =>
 bif a0 then
  some ((decide ((a.1.length:Int) > 0)),a.1,c.1)
 else
  some (false,a.1,c.1)
def Pz (n:Nat):Ent:=⟨186,[.bool,hIs,hIs],[hR],fun x=>f186 n x.1 x.2.1 x.2.2⟩
def B7x (α:Type) (n:Nat):D3 α:={ reg:=[(1,⟨0,[],[(2,{ ent:=some (Afc n) })]⟩),(2,⟨0,[],[(2,{ ent:=some (A4p n) })]⟩),(3,⟨0,[],[(2,{ ent:=some (A4p n) })]⟩)],join:=[],loop:=[] }
theorem Py (n:Nat):(Pz n).Sound PP:=At (fn:=Tryz.f186) (D:=B7x _ n) ⟨Ake n,A7r n,A7r n,trivial⟩

def f148 (n:Nat) (a0 a1:Rq):Option Rq :=
 ob (f185 n a0.2.1 a1.2.2) fun a =>
 ob (f185 n a1.2.1 a0.2.2) fun b =>
 ob (f185 n a0.2.2 a1.2.2) fun c =>
 bif (a0.1 == a1.1) then
  ob (f187 n a b) fun d =>
  ob (f186 n a0.1 d c) fun e =>
  some e
 else
  ob (f188 n a b) fun f =>
  bif (decide (f >= 0)) then
   ob (f189 n a b) fun g =>
   ob (f186 n a0.1 g c) fun h =>
   some h
  else
   ob (f189 n b a) fun i =>
   ob (f186 n a1.1 i c) fun j =>
   some j
def Ft (n:Nat):Ent:=⟨148,[hR,hR],[hR],fun x=>f148 n x.1 x.2⟩
def B8m (α:Type) (n:Nat):D3 α:={ reg:=[(1,⟨0,[],[(4,{ ent:=some (H3 n) })]⟩),(2,⟨0,[],[(4,{ ent:=some (H3 n) })]⟩),(3,⟨0,[],[(4,{ ent:=some (H3 n) })]⟩),(5,⟨6,[],[(4,{ ent:=some (Au1 n) }),(6,{ ent:=some (Pz n) })]⟩),(6,⟨0,[],[(2,{ ent:=some (W8 n) })]⟩),(7,⟨6,[],[(4,{ ent:=some (A55 n) }),(6,{ ent:=some (Pz n) })]⟩),(8,⟨6,[],[(4,{ ent:=some (A55 n) }),(6,{ ent:=some (Pz n) })]⟩)],join:=[],loop:=[] }
theorem Fe (n:Nat):(Ft n).Sound PP:=At (fn:=Tryz.f148) (D:=B8m _ n) ⟨Gc n,Gc n,Gc n,B3m n,Py n,Ye n,A7x n,Py n,A7x n,Py n,trivial⟩

def f142 (n:Nat) (a0 a1:Rq × Rq × Rq × Rq):Option (Rq × Rq × Rq × Rq) :=
 ob (f148 n a0.1 a1.1) fun a =>
 ob (f148 n a0.2.1 a1.2.1) fun b =>
 ob (f148 n a0.2.2.1 a1.2.2.1) fun c =>
 ob (f148 n a0.2.2.2 a1.2.2.2) fun d =>
 some (a,b,c,d)
def Agi (n:Nat):Ent:=⟨142,[(.st (.pair hR (.pair hR (.pair hR hR)))),(.st (.pair hR (.pair hR (.pair hR hR))))],[(.st (.pair hR (.pair hR (.pair hR hR))))],fun x=>f142 n x.1 x.2⟩
def B8s (α:Type) (n:Nat):D3 α:={ reg:=[(1,⟨19,[],[(4,{ ent:=some (Ft n) }),(9,{ ent:=some (Ft n) }),(14,{ ent:=some (Ft n) }),(19,{ ent:=some (Ft n) })]⟩)],join:=[],loop:=[] }
theorem Al0 (n:Nat):(Agi n).Sound PP:=At (fn:=Tryz.f142) (D:=B8s _ n) ⟨Fe n,Fe n,Fe n,Fe n,trivial⟩

def f152 (n:Nat) (a0:Rq):Option Rq :=
 bif (!a0.1) then
  some ((decide ((a0.2.1.length:Int) > 0)),a0.2)
 else
  some (false,a0.2)
def Kp (n:Nat):Ent:=⟨152,[hR],[hR],fun x=>f152 n x⟩
def B8i (α:Type) (n:Nat):D3 α:={ reg:=[],join:=[],loop:=[] }
theorem Jl (n:Nat):(Kp n).Sound PP:=At (fn:=Tryz.f152) (D:=B8i _ n) trivial

def f143 (n:Nat) (a0:Rq × Rq × Rq × Rq):Option (Rq × Rq × Rq × Rq) :=
 ob (f152 n a0.1) fun a =>
 ob (f152 n a0.2.1) fun b =>
 ob (f152 n a0.2.2.1) fun c =>
 ob (f152 n a0.2.2.2) fun d =>
 some (a,b,c,d)
def Agh (n:Nat):Ent:=⟨143,[(.st (.pair hR (.pair hR (.pair hR hR))))],[(.st (.pair hR (.pair hR (.pair hR hR))))],fun x=>f143 n x⟩
def B8r (α:Type) (n:Nat):D3 α:={ reg:=[(1,⟨11,[],[(2,{ ent:=some (Kp n) }),(5,{ ent:=some (Kp n) }),(8,{ ent:=some (Kp n) }),(11,{ ent:=some (Kp n) })]⟩)],join:=[],loop:=[] }
theorem Akz (n:Nat):(Agh n).Sound PP:=At (fn:=Tryz.f143) (D:=B8r _ n) ⟨Jl n,Jl n,Jl n,Jl n,trivial⟩

def f150 (n:Nat) (a0 a1:Rq):Option Rq :=
 ob (f185 n a0.2.1 a1.2.1) fun a =>
 ob (f185 n a0.2.2 a1.2.2) fun b =>
 ob (f186 n (!(a0.1 == a1.1)) a b) fun c =>
 some c
def Bh (n:Nat):Ent:=⟨150,[hR,hR],[hR],fun x=>f150 n x.1 x.2⟩
def B8k (α:Type) (n:Nat):D3 α:={ reg:=[(1,⟨15,[],[(9,{ ent:=some (H3 n) }),(14,{ ent:=some (H3 n) }),(15,{ ent:=some (Pz n) })]⟩)],join:=[],loop:=[] }
theorem C5 (n:Nat):(Bh n).Sound PP:=At (fn:=Tryz.f150) (D:=B8k _ n) ⟨Gc n,Gc n,Py n,trivial⟩

def f144 (n:Nat) (a0 a1:Rq × Rq × Rq × Rq):Option (Rq × Rq × Rq × Rq) :=
 ob (f150 n a0.1 a1.1) fun a =>
 ob (f150 n a0.2.1 a1.1) fun b =>
 ob (f150 n a0.1 a1.2.1) fun c =>
 ob (f148 n b c) fun d =>
 ob (f150 n a0.2.2.1 a1.1) fun e =>
 ob (f150 n a0.1 a1.2.2.1) fun f =>
 ob (f148 n e f) fun g =>
 ob (f150 n a0.2.2.2 a1.1) fun h =>
 ob (f150 n a0.1 a1.2.2.2) fun i =>
 ob (f148 n h i) fun j =>
 ob (f150 n a0.2.1 a1.2.2.1) fun k =>
 ob (f150 n a0.2.2.1 a1.2.1) fun l =>
 ob (f148 n k l) fun m =>
 ob (f148 n j m) fun o =>
 some (a,d,g,o)
def A5d (n:Nat):Ent:=⟨144,[(.st (.pair hR (.pair hR (.pair hR hR)))),(.st (.pair hR (.pair hR (.pair hR hR))))],[(.st (.pair hR (.pair hR (.pair hR hR))))],fun x=>f144 n x.1 x.2⟩
def B8q (α:Type) (n:Nat):D3 α:={ reg:=[(1,⟨47,[],[(4,{ ent:=some (Bh n) }),(9,{ ent:=some (Bh n) }),(14,{ ent:=some (Bh n) }),(15,{ ent:=some (Ft n) }),(20,{ ent:=some (Bh n) }),(25,{ ent:=some (Bh n) }),(26,{ ent:=some (Ft n) }),(31,{ ent:=some (Bh n) }),(36,{ ent:=some (Bh n) }),(37,{ ent:=some (Ft n) }),(42,{ ent:=some (Bh n) }),(47,{ ent:=some (Bh n) }),(48,{ ent:=some (Ft n) }),(49,{ ent:=some (Ft n) })]⟩)],join:=[],loop:=[] }
theorem A86 (n:Nat):(A5d n).Sound PP:=At (fn:=Tryz.f144) (D:=B8q _ n) ⟨C5 n,C5 n,C5 n,Fe n,C5 n,C5 n,Fe n,C5 n,C5 n,Fe n,C5 n,C5 n,Fe n,Fe n,trivial⟩

def f145 (n:Nat) (a0:Rq):Option Bool :=
 some ((a0.2.1.length:Int) == 0)
def Aut (n:Nat):Ent:=⟨145,[hR],[.bool],fun x=>f145 n x⟩
def B8p (α:Type) (n:Nat):D3 α:={ reg:=[],join:=[],loop:=[] }
theorem B4c (n:Nat):(Aut n).Sound PP:=At (fn:=Tryz.f145) (D:=B8p _ n) trivial

def f151 (n:Nat) (a0 a1:Rq):Option Rq :=
 ob (f185 n a0.2.1 a1.2.2) fun a =>
 ob (f185 n a0.2.2 a1.2.1) fun b =>
 ob (f186 n (!(a0.1 == a1.1)) a b) fun c =>
 some c
def Q6 (n:Nat):Ent:=⟨151,[hR,hR],[hR],fun x=>f151 n x.1 x.2⟩
def B8j (α:Type) (n:Nat):D3 α:={ reg:=[(1,⟨15,[],[(9,{ ent:=some (H3 n) }),(14,{ ent:=some (H3 n) }),(15,{ ent:=some (Pz n) })]⟩)],join:=[],loop:=[] }
theorem B46 (n:Nat):(Q6 n).Sound PP:=At (fn:=Tryz.f151) (D:=B8j _ n) ⟨Gc n,Gc n,Py n,trivial⟩

def f149 (n:Nat) (a0 a1:Rq):Option Rq :=
 ob (f152 n a1) fun a =>
 ob (f148 n a0 a) fun b =>
 some b
def Auo (n:Nat):Ent:=⟨149,[hR,hR],[hR],fun x=>f149 n x.1 x.2⟩
def B8l (α:Type) (n:Nat):D3 α:={ reg:=[(1,⟨3,[],[(2,{ ent:=some (Kp n) }),(3,{ ent:=some (Ft n) })]⟩)],join:=[],loop:=[] }
theorem B47 (n:Nat):(Auo n).Sound PP:=At (fn:=Tryz.f149) (D:=B8l _ n) ⟨Jl n,Fe n,trivial⟩

abbrev Aky:Tm:=⟨[(1,.k (.hp 1 0 0)),(2,.k (.hp 2 0 0))],[(1,.var 108 true false [.d .bool,.d hIs,.d hIs,.d .bool,.d hIs,.d hIs,.d .bool,.d hIs,.d hIs,.d .bool,.d hIs,.d hIs]),(2,.var 108 true false [.d .bool,.d .nil,.d .nil,.d .bool,.d .nil,.d .nil,.d .bool,.d .nil,.d .nil,.d .bool,.d .nil,.d .nil])],[],[]⟩
abbrev Akx:Tm:=⟨[(1,.k (.hp 1 0 0)),(2,.k (.hp 2 0 0)),(3,.k (.hp 3 0 0)),(4,.k (.hp 4 0 0))],[(1,.var 108 true false [.d .bool,.d hIs,.d hIs,.d .bool,.d hIs,.d hIs,.d .bool,.d hIs,.d hIs,.d .bool,.d hIs,.d hIs]),(2,.var 108 true false [.d .bool,.d .nil,.d .nil,.d .bool,.d .nil,.d .nil,.d .bool,.d .nil,.d .nil,.d .bool,.d .nil,.d .nil]),(3,.var 31 true false [.d .bool,.d hIs,.d hIs]),(4,.var 31 true false [.d .bool,.d hIs,.d hIs])],[],[]⟩
def f146 (n:Nat) (a0:Rq × Rq × Rq × Rq):Option (Rq × Rq × Rq × Rq) :=
 ob (f127 n 1) fun c =>
 ob (f151 n c a0.1) fun a =>
 ob (f150 n a a) fun b =>
 ob (f127 n 2) fun d =>
 ob (f150 n b a) fun e =>
 ob (f150 n d e) fun f =>
 ob (f150 n a0.2.1 b) fun g =>
 ob (f152 n g) fun h =>
 ob (f150 n a0.2.2.1 b) fun i =>
 ob (f152 n i) fun j =>
 ob (f150 n a0.2.1 a0.2.2.1) fun k =>
 ob (f150 n f k) fun l =>
 ob (f150 n a0.2.2.2 b) fun m =>
 ob (f149 n l m) fun o =>
 some (a,h,j,o)
def Aur (n:Nat):Ent:=⟨146,[(.st (.pair hR (.pair hR (.pair hR hR))))],[(.st (.pair hR (.pair hR (.pair hR hR))))],fun x=>f146 n x⟩
def Aus (α:Type) (n:Nat):D3 α:={ reg:=[(1,⟨0,[],[(0,{ ent:=some (Ca n) }),(3,{ ent:=some (Q6 n) })]⟩),(2,⟨0,[],[(2,{ ent:=some (Bh n) })]⟩),(3,⟨0,[],[(0,{ ent:=some (Ca n) }),(3,{ ent:=some (Bh n) }),(4,{ ent:=some (Bh n) })]⟩),(4,⟨23,[],[(4,{ ent:=some (Bh n) }),(5,{ ent:=some (Kp n) }),(9,{ ent:=some (Bh n) }),(10,{ ent:=some (Kp n) }),(16,{ ent:=some (Bh n) }),(17,{ ent:=some (Bh n) }),(21,{ ent:=some (Bh n) }),(22,{ ent:=some (Auo n) })]⟩)],join:=[],loop:=[],any:=[(1,Aky),(3,Akx)] }
set_option maxHeartbeats 8000000 in
theorem B4b (n:Nat):Ar TT ⟨42,[]⟩ [(0,{ ent:=some (Ca n) }),(3,{ ent:=some (Q6 n) })] Aky (Aa ((A1 Tryz.f146).at [1,0])):=by
 refine ⟨by kernel_rfl,fun w q hq=>?_⟩
 have e:WT [(0,{ ent:=some (Ca n) }),(3,{ ent:=some (Q6 n) })] (A8 (Aa ((A1 Tryz.f146).at [1,0])).toList) q = (∃ (y0:HL (Ca n).rs) (q0:List (Nat × RV)),q = (0,.sv (Al (Ca n).rs y0)) :: q0 /\ ∃ (y1:HL (Q6 n).rs) (q1:List (Nat × RV)),q0 = (3,.sv (Al (Q6 n).rs y1)) :: q1 /\ q1 = []):=by kernel_rfl
 rw [e] at hq;obtain ⟨y0,q0,rfl,y1,q1,rfl,rfl⟩:=hq
 all_goals exact .inr ⟨5,by kernel_rfl,by kernel_rfl,by kernel_rfl⟩
set_option maxHeartbeats 8000000 in
theorem B4a (n:Nat):Ar TT ⟨42,[]⟩ [(0,{ ent:=some (Ca n) }),(3,{ ent:=some (Bh n) }),(4,{ ent:=some (Bh n) })] Akx (Aa ((A1 Tryz.f146).at [1,1,1,0])):=by
 refine ⟨by kernel_rfl,fun w q hq=>?_⟩
 have e:WT [(0,{ ent:=some (Ca n) }),(3,{ ent:=some (Bh n) }),(4,{ ent:=some (Bh n) })] (A8 (Aa ((A1 Tryz.f146).at [1,1,1,0])).toList) q = (∃ (y0:HL (Ca n).rs) (q0:List (Nat × RV)),q = (0,.sv (Al (Ca n).rs y0)) :: q0 /\ ∃ (y1:HL (Bh n).rs) (q1:List (Nat × RV)),q0 = (3,.sv (Al (Bh n).rs y1)) :: q1 /\ ∃ (y2:HL (Bh n).rs) (q2:List (Nat × RV)),q1 = (4,.sv (Al (Bh n).rs y2)) :: q2 /\ q2 = []):=by kernel_rfl
 rw [e] at hq;obtain ⟨y0,q0,rfl,y1,q1,rfl,y2,q2,rfl,rfl⟩:=hq
 all_goals exact .inr ⟨6,by kernel_rfl,by kernel_rfl,by kernel_rfl⟩
theorem Auq (α:Type) (n:Nat):Ao PP (Ai (Aus α n).reg):=⟨Ff n,B46 n,C5 n,Ff n,C5 n,C5 n,C5 n,Jl n,C5 n,Jl n,C5 n,C5 n,C5 n,B47 n,trivial⟩
theorem B8o (α:Type) (n:Nat):D3.OK PP TT ⟨42,[]⟩ (Aus α n) (A1 Tryz.f146) :=
 D3.OK.mk3a (Auq α n) (show Ab (A1 Tryz.f146) = [] by kernel_rfl) trivial (show Av (A1 Tryz.f146) = [(1,Aa ((A1 Tryz.f146).at [1,0])),(3,Aa ((A1 Tryz.f146).at [1,1,1,0])),(4,Aa ((A1 Tryz.f146).at [1,1,1,1,0]))] by kernel_rfl) ⟨⟨B4b n,trivial⟩,⟨B4a n,trivial⟩,trivial,trivial⟩
theorem B49 (n:Nat):(Aur n).Sound PP:=fk (fn:=Tryz.f146) (B8o _ n)

def f154 (n:Nat) (a0:Rq):Option Bool :=
 bif (decide ((a0.2.1.length:Int) <= 40)) then
  some (decide ((a0.2.2.length:Int) <= 40))
 else
  some false
def We (n:Nat):Ent:=⟨154,[hR],[.bool],fun x=>f154 n x⟩
def B8h (α:Type) (n:Nat):D3 α:={ reg:=[],join:=[],loop:=[] }
theorem Ym (n:Nat):(We n).Sound PP:=At (fn:=Tryz.f154) (D:=B8h _ n) trivial

def f147 (n:Nat) (a0:Rq × Rq × Rq × Rq):Option Bool :=
 ob (f154 n a0.1) fun a =>
 bif a then
  ob (f154 n a0.2.1) fun b =>
  bif b then
   ob (f154 n a0.2.2.1) fun c =>
   bif c then
    ob (f154 n a0.2.2.2) fun d =>
    some d
   else
    some false
  else
   some false
 else
  some false
def Aup (n:Nat):Ent:=⟨147,[(.st (.pair hR (.pair hR (.pair hR hR))))],[.bool],fun x=>f147 n x⟩
def B8n (α:Type) (n:Nat):D3 α:={ reg:=[(1,⟨0,[],[(2,{ ent:=some (We n) }),(6,{ ent:=some (We n) }),(11,{ ent:=some (We n) }),(16,{ ent:=some (We n) })]⟩)],join:=[],loop:=[] }
theorem B48 (n:Nat):(Aup n).Sound PP:=At (fn:=Tryz.f147) (D:=B8n _ n) ⟨Ym n,Ym n,Ym n,Ym n,trivial⟩

def A0f {α:Type} (n:Nat) (d e g:LR) (h i:Int) (j:LN) (k l m o:Bool) (d2 b d3 p:Int) (q:Bool) (r s:LI) (t:Bool) (u v:LI) (w:Bool) (x y:LI) (z:Bool) (d0 d1:LI) (c:List (Rq × Rq × Rq × Rq)) (f:LR->LR->LR->Int->Int->LN->Bool->Bool->Bool->Bool->Int->Int->Int->Int->Bool->LI->LI->Bool->LI->LI->Bool->LI->LI->Bool->LI->LI->(List (Rq × Rq × Rq × Rq))->Option α) (k0:LR->LR->LR->Int->LN->Bool->Bool->Bool->Bool->Bool->LI->LI->Bool->LI->LI->Bool->LI->LI->Bool->LI->LI->(List (Rq × Rq × Rq × Rq))->Option α):Option α :=
 bif (decide (i < p)) then
  gd (decide (0 <= b) && decide (b < (c.length:Int))) (
   gd (decide (b.toNat < c.length)) (
    let d4:=c.getD b.toNat ((false,[],[]),(false,[],[]),(false,[],[]),(false,[],[]))
    ob (f144 n ((q,r,s),(t,u,v),(w,x,y),z,d0,d1) d4) fun a =>
    f d e g h (W (i + 1)) j k l m o d2 b d3 p a.1.1 a.1.2.1 a.1.2.2 a.2.1.1 a.2.1.2.1 a.2.1.2.2 a.2.2.1.1 a.2.2.1.2.1 a.2.2.1.2.2 a.2.2.2.1 a.2.2.2.2.1 a.2.2.2.2.2 c))
 else
  k0 d e g h j k l m o q r s t u v w x y z d0 d1 c
abbrev R2:Tm:=⟨[(1,.d hRs),(2,.d hRs),(3,.d hRs),(4,.k (.hp 4 0 0)),(8,.k (.hp 8 0 0)),(10,.k (.hw 15)),(11,.d hI),(12,.k (.hp 12 0 0)),(13,.k (.hp 13 0 0)),(14,.d hI)],[(4,.var 25 true false [.d hNs]),(8,.var 108 true false [.d .bool,.d .nil,.d .nil,.d .bool,.d .nil,.d .nil,.d .bool,.d .nil,.d .nil,.d .bool,.d .nil,.d .nil]),(12,.var 125 true false [.d hI,.d hI,.d hI,.d hI]),(13,.var 108 true false [.d .bool,.d hIs,.d hIs,.d .bool,.d hIs,.d hIs,.d .bool,.d hIs,.d hIs,.d .bool,.d hIs,.d hIs]),(15,.arr 108 (.st (.pair hR (.pair hR (.pair hR hR)))) false)],[],[]⟩
abbrev Arf:Tm:=⟨[(1,.d hRs),(2,.d hRs),(3,.d hRs),(4,.k (.hp 4 0 0)),(8,.k (.hp 8 0 0)),(10,.k (.hw 15)),(11,.d hI),(13,.k (.hp 13 0 0))],[(4,.var 25 true false [.d hNs]),(8,.var 108 true false [.d .bool,.d .nil,.d .nil,.d .bool,.d .nil,.d .nil,.d .bool,.d .nil,.d .nil,.d .bool,.d .nil,.d .nil]),(13,.var 108 true false [.d .bool,.d hIs,.d hIs,.d .bool,.d hIs,.d hIs,.d .bool,.d hIs,.d hIs,.d .bool,.d hIs,.d hIs]),(15,.arr 108 (.st (.pair hR (.pair hR (.pair hR hR)))) false)],[12],[]⟩
abbrev A0e:List (Exit × Tm):=[(.exit 3,Arf)]
def A0d {α:Type} (n:Nat) (v:R2.den) (f:R2.den->Option α) (ks:KS α A0e):Option α:=A0f n v.1.1 v.1.2.1 v.1.2.2.1 v.1.2.2.2.2.2.2.1 v.1.2.2.2.2.2.2.2.2.2.1 v.2.1.1 v.2.2.1.1 v.2.2.1.2.2.2.1 v.2.2.1.2.2.2.2.2.2.1 v.2.2.1.2.2.2.2.2.2.2.2.2.1 v.2.2.2.1.1 v.2.2.2.1.2.1 v.2.2.2.1.2.2.1 v.2.2.2.1.2.2.2.1 v.2.2.2.2.1.1 v.2.2.2.2.1.2.1 v.2.2.2.2.1.2.2.1 v.2.2.2.2.1.2.2.2.1 v.2.2.2.2.1.2.2.2.2.1 v.2.2.2.2.1.2.2.2.2.2.1 v.2.2.2.2.1.2.2.2.2.2.2.1 v.2.2.2.2.1.2.2.2.2.2.2.2.1 v.2.2.2.2.1.2.2.2.2.2.2.2.2.1 v.2.2.2.2.1.2.2.2.2.2.2.2.2.2.1 v.2.2.2.2.1.2.2.2.2.2.2.2.2.2.2.1 v.2.2.2.2.1.2.2.2.2.2.2.2.2.2.2.2.1 v.2.2.2.2.2.1 (fun a b c d e g h i j k l m o p q r s t u w x y z d0 d1 d2 d3=>f ((a,b,c,(),(),(),d,(),(),e,()),((g,()),(h,(),(),i,(),(),j,(),(),k,(),(),()),(l,m,o,p,()),(q,r,s,t,u,w,x,y,z,d0,d1,d2,()),d3,()))) (fun w0 w1 w2 w3 w4 w5 w6 w7 w8 w9 w10 w11 w12 w13 w14 w15 w16 w17 w18 w19 w20 w21=>ks.1 ((w0,w1,w2,(),(),(),w3,(),()),((w4,()),(w5,(),(),w6,(),(),w7,(),(),w8,(),(),()),(w9,w10,w11,w12,w13,w14,w15,w16,w17,w18,w19,w20,()),w21,())))
def Xj {α:Type} (n m:Nat) (a b c:LR) (d e:Int) (f:LN) (g h i j:Bool) (k l o p:Int) (q:Bool) (r s:LI) (t:Bool) (u v:LI) (x:Bool) (y z:LI) (d0:Bool) (d1 d2:LI) (d3:List (Rq × Rq × Rq × Rq)) (k0:LR->LR->LR->Int->LN->Bool->Bool->Bool->Bool->Bool->LI->LI->Bool->LI->LI->Bool->LI->LI->Bool->LI->LI->(List (Rq × Rq × Rq × Rq))->Option α):Option α:=A5 (A0d n) m ((a,b,c,(),(),(),d,(),(),e,()),((f,()),(g,(),(),h,(),(),i,(),(),j,(),(),()),(k,l,o,p,()),(q,r,s,t,u,v,x,y,z,d0,d1,d2,()),d3,())) (fun w=>k0 w.1.1 w.1.2.1 w.1.2.2.1 w.1.2.2.2.2.2.2.1 w.2.1.1 w.2.2.1.1 w.2.2.1.2.2.2.1 w.2.2.1.2.2.2.2.2.2.1 w.2.2.1.2.2.2.2.2.2.2.2.2.1 w.2.2.2.1.1 w.2.2.2.1.2.1 w.2.2.2.1.2.2.1 w.2.2.2.1.2.2.2.1 w.2.2.2.1.2.2.2.2.1 w.2.2.2.1.2.2.2.2.2.1 w.2.2.2.1.2.2.2.2.2.2.1 w.2.2.2.1.2.2.2.2.2.2.2.1 w.2.2.2.1.2.2.2.2.2.2.2.2.1 w.2.2.2.1.2.2.2.2.2.2.2.2.2.1 w.2.2.2.1.2.2.2.2.2.2.2.2.2.2.1 w.2.2.2.1.2.2.2.2.2.2.2.2.2.2.2.1 w.2.2.2.2.1,())
theorem Are {α n m a b c d e f g h i j k l o p q r s t u v w x y z d0 d1 d2 k0}:Xj (α:=α) n (m + 1) a b c d e f g h i j k l o p q r s t u v w x y z d0 d1 d2 k0 = A0f n a b c d e f g h i j k l o p q r s t u v w x y z d0 d1 d2 (fun a b c d e f g h i j k l o p q r s t u v w x y z d0 d1 d2=>Xj n m a b c d e f g h i j k l o p q r s t u v w x y z d0 d1 d2 k0) k0:=rfl
def Pg {α:Type} (n:Nat) (m o p:LR) (c:Int) (l:LN) (q r s t:Bool) (b:List (Rq × Rq × Rq × Rq)) (f:LR->LR->LR->Int->LN->Bool->Bool->Bool->Bool->(List (Rq × Rq × Rq × Rq))->Option α) (k0:Int->Bool->Bool->Bool->Bool->Option α) (k1:Bool->Bool->Bool->Bool->(List (Rq × Rq × Rq × Rq))->Option α):Option α :=
 bif (decide (c < (l.length:Int))) then
  gd (decide (0 <= c) && decide (c < (l.length:Int))) (
   let a:=l.getD c.toNat (0,0,0,0)
   ob (f127 n 0) fun e2 =>
   ob (f141 n e2) fun j0 =>
   let u:=fun (e3:LR) (e4:LR) (e5:LR) (e6:Int) (e7:LN) (e8:Bool) (e9:Bool) (f0:Bool) (f1:Bool) (z:Bool) (d0:LI) (d1:LI) (d2:Bool) (d3:LI) (d4:LI) (d5:Bool) (d6:LI) (d7:LI) (d8:Bool) (d9:LI) (e0:LI) (e1:List (Rq × Rq × Rq × Rq))=>(
    ob (f147 n ((z,d0,d1),(d2,d3,d4),(d5,d6,d7),d8,d9,e0)) fun f2 =>
    bif (!f2) then
     k0 7 false false false false
    else
     gd (decide ((e1.length + 1) * 224 <= 140737488355328)) (
      f e3 e4 e5 (W (e6 + 1)) e7 e8 e9 f0 f1 (e1 ++ [((z,d0,d1),(d2,d3,d4),(d5,d6,d7),d8,d9,e0)])))
   bif (a.1 == 1) then
    ob (f127 n a.2.2.2) fun f3 =>
    ob (f141 n f3) fun d =>
    u m o p c l q r s t d.1.1 d.1.2.1 d.1.2.2 d.2.1.1 d.2.1.2.1 d.2.1.2.2 d.2.2.1.1 d.2.2.1.2.1 d.2.2.1.2.2 d.2.2.2.1 d.2.2.2.2.1 d.2.2.2.2.2 b
   else
    bif (a.1 == 2) then
     gd (decide (0 <= a.2.2.2) && decide (a.2.2.2 < (m.length:Int))) (
      let v:=m.getD a.2.2.2.toNat (false,[],[])
      gd (decide (0 <= a.2.2.2) && decide (a.2.2.2 < (o.length:Int))) (
       let w:=o.getD a.2.2.2.toNat (false,[],[])
       gd (decide (0 <= a.2.2.2) && decide (a.2.2.2 < (p.length:Int))) (
        let x:=p.getD a.2.2.2.toNat (false,[],[])
        ob (f127 n 0) fun y =>
        u m o p c l q r s t v.1 v.2.1 v.2.2 w.1 w.2.1 w.2.2 x.1 x.2.1 x.2.2 y.1 y.2.1 y.2.2 b)))
    else
     bif (a.1 == 3) then
      gd (decide (0 <= a.2.1) && decide (a.2.1 < (b.length:Int))) (
       gd (decide (a.2.1.toNat < b.length)) (
        let f4:=b.getD a.2.1.toNat ((false,[],[]),(false,[],[]),(false,[],[]),(false,[],[]))
        gd (decide (0 <= a.2.2.1) && decide (a.2.2.1 < (b.length:Int))) (
         gd (decide (a.2.2.1.toNat < b.length)) (
          let f5:=b.getD a.2.2.1.toNat ((false,[],[]),(false,[],[]),(false,[],[]),(false,[],[]))
          ob (f142 n f4 f5) fun e =>
          u m o p c l q r s t e.1.1 e.1.2.1 e.1.2.2 e.2.1.1 e.2.1.2.1 e.2.1.2.2 e.2.2.1.1 e.2.2.1.2.1 e.2.2.1.2.2 e.2.2.2.1 e.2.2.2.2.1 e.2.2.2.2.2 b))))
     else
      bif (a.1 == 4) then
       gd (decide (0 <= a.2.1) && decide (a.2.1 < (b.length:Int))) (
        gd (decide (a.2.1.toNat < b.length)) (
         let f6:=b.getD a.2.1.toNat ((false,[],[]),(false,[],[]),(false,[],[]),(false,[],[]))
         gd (decide (0 <= a.2.2.1) && decide (a.2.2.1 < (b.length:Int))) (
          gd (decide (a.2.2.1.toNat < b.length)) (
           let f7:=b.getD a.2.2.1.toNat ((false,[],[]),(false,[],[]),(false,[],[]),(false,[],[]))
           ob (f143 n f7) fun f8 =>
           ob (f142 n f6 f8) fun g =>
           u m o p c l q r s t g.1.1 g.1.2.1 g.1.2.2 g.2.1.1 g.2.1.2.1 g.2.1.2.2 g.2.2.1.1 g.2.2.1.2.1 g.2.2.1.2.2 g.2.2.2.1 g.2.2.2.2.1 g.2.2.2.2.2 b))))
      else
       bif (a.1 == 5) then
        gd (decide (0 <= a.2.1) && decide (a.2.1 < (b.length:Int))) (
         gd (decide (a.2.1.toNat < b.length)) (
          let f9:=b.getD a.2.1.toNat ((false,[],[]),(false,[],[]),(false,[],[]),(false,[],[]))
          gd (decide (0 <= a.2.2.1) && decide (a.2.2.1 < (b.length:Int))) (
           gd (decide (a.2.2.1.toNat < b.length)) (
            let g0:=b.getD a.2.2.1.toNat ((false,[],[]),(false,[],[]),(false,[],[]),(false,[],[]))
            ob (f144 n f9 g0) fun h =>
            u m o p c l q r s t h.1.1 h.1.2.1 h.1.2.2 h.2.1.1 h.2.1.2.1 h.2.1.2.2 h.2.2.1.1 h.2.2.1.2.1 h.2.2.1.2.2 h.2.2.2.1 h.2.2.2.2.1 h.2.2.2.2.2 b))))
       else
        bif (a.1 == 6) then
         gd (decide (0 <= a.2.2.1) && decide (a.2.2.1 < (b.length:Int))) (
          gd (decide (a.2.2.1.toNat < b.length)) (
           let g1:=b.getD a.2.2.1.toNat ((false,[],[]),(false,[],[]),(false,[],[]),(false,[],[]))
           ob (f145 n g1.1) fun g2 =>
           bif g2 then
            k0 10 false false false false
           else
            gd (decide (0 <= a.2.1) && decide (a.2.1 < (b.length:Int))) (
             gd (decide (a.2.1.toNat < b.length)) (
              let g3:=b.getD a.2.1.toNat ((false,[],[]),(false,[],[]),(false,[],[]),(false,[],[]))
              gd (decide (0 <= a.2.2.1) && decide (a.2.2.1 < (b.length:Int))) (
               gd (decide (a.2.2.1.toNat < b.length)) (
                let g4:=b.getD a.2.2.1.toNat ((false,[],[]),(false,[],[]),(false,[],[]),(false,[],[]))
                ob (f146 n g4) fun g5 =>
                ob (f144 n g3 g5) fun i =>
                u m o p c l q r s t i.1.1 i.1.2.1 i.1.2.2 i.2.1.1 i.2.1.2.1 i.2.1.2.2 i.2.2.1.1 i.2.2.1.2.1 i.2.2.1.2.2 i.2.2.2.1 i.2.2.2.2.1 i.2.2.2.2.2 b))))))
        else
         bif (a.1 == 7) then
          gd (decide (0 <= a.2.1) && decide (a.2.1 < (b.length:Int))) (
           gd (decide (a.2.1.toNat < b.length)) (
            let g6:=b.getD a.2.1.toNat ((false,[],[]),(false,[],[]),(false,[],[]),(false,[],[]))
            ob (f143 n g6) fun j =>
            u m o p c l q r s t j.1.1 j.1.2.1 j.1.2.2 j.2.1.1 j.2.1.2.1 j.2.1.2.2 j.2.2.1.1 j.2.2.1.2.1 j.2.2.1.2.2 j.2.2.2.1 j.2.2.2.2.1 j.2.2.2.2.2 b))
         else
          ob (f127 n 1) fun g7 =>
          ob (f141 n g7) fun k =>
          Xj n n m o p c 0 l q r s t a.1 a.2.1 a.2.2.1 a.2.2.2 k.1.1 k.1.2.1 k.1.2.2 k.2.1.1 k.2.1.2.1 k.2.1.2.2 k.2.2.1.1 k.2.2.1.2.1 k.2.2.1.2.2 k.2.2.2.1 k.2.2.2.2.1 k.2.2.2.2.2 b
           (fun g8 g9 h0 h1 h2 h3 h4 h5 h6 h7 h8 h9 i0 i1 i2 i3 i4 i5 i6 i7 i8 i9=>(
            u g8 g9 h0 h1 h2 h3 h4 h5 h6 h7 h8 h9 i0 i1 i2 i3 i4 i5 i6 i7 i8 i9)))
 else
  k1 q r s t b
abbrev Xi:Tm:=⟨[(1,.d hRs),(2,.d hRs),(3,.d hRs),(4,.k (.hp 4 0 0)),(8,.k (.hp 8 0 0)),(10,.k (.hw 15)),(11,.d hI)],[(4,.var 25 true false [.d hNs]),(8,.var 108 true false [.d .bool,.d .nil,.d .nil,.d .bool,.d .nil,.d .nil,.d .bool,.d .nil,.d .nil,.d .bool,.d .nil,.d .nil]),(15,.arr 108 (.st (.pair hR (.pair hR (.pair hR hR)))) false)],[13,148],[]⟩
abbrev Axv:Tm:=⟨[(8,.k (.hp 8 0 0)),(9,.d hI)],[(8,.var 108 true false [.d .bool,.d .nil,.d .nil,.d .bool,.d .nil,.d .nil,.d .bool,.d .nil,.d .nil,.d .bool,.d .nil,.d .nil])],[4,12,13,15],[]⟩
abbrev Axu:Tm:=⟨[(8,.k (.hp 8 0 0)),(10,.k (.hw 15))],[(8,.var 108 true false [.d .bool,.d .nil,.d .nil,.d .bool,.d .nil,.d .nil,.d .bool,.d .nil,.d .nil,.d .bool,.d .nil,.d .nil]),(15,.arr 108 (.st (.pair hR (.pair hR (.pair hR hR)))) false)],[4],[]⟩
abbrev A6v:List (Exit × Tm):=[(.ret,Axv),(.exit 0,Axu)]
def A6u {α:Type} (n:Nat) (v:Xi.den) (f:Xi.den->Option α) (ks:KS α A6v):Option α:=Pg n v.1.1 v.1.2.1 v.1.2.2.1 v.1.2.2.2.2.2.2.1 v.2.1.1 v.2.2.1.1 v.2.2.1.2.2.2.1 v.2.2.1.2.2.2.2.2.2.1 v.2.2.1.2.2.2.2.2.2.2.2.2.1 v.2.2.2.1 (fun a b c d e g h i j k=>f ((a,b,c,(),(),(),d,()),((e,()),(g,(),(),h,(),(),i,(),(),j,(),(),()),k,()))) (fun w0 w1 w2 w3 w4=>ks.1 (((),w0,()),((w1,(),(),w2,(),(),w3,(),(),w4,(),(),()),()))) (fun w0 w1 w2 w3 w4=>ks.2.1 (((),(),()),((w0,(),(),w1,(),(),w2,(),(),w3,(),(),()),w4,())))
def A49 {α:Type} (n m:Nat) (a b c:LR) (d:Int) (e:LN) (f g h i:Bool) (j:List (Rq × Rq × Rq × Rq)) (k0:Int->Bool->Bool->Bool->Bool->Option α) (k1:Bool->Bool->Bool->Bool->(List (Rq × Rq × Rq × Rq))->Option α):Option α:=A5 (A6u n) m ((a,b,c,(),(),(),d,()),((e,()),(f,(),(),g,(),(),h,(),(),i,(),(),()),j,())) (fun w=>k0 w.1.2.1 w.2.1.1 w.2.1.2.2.2.1 w.2.1.2.2.2.2.2.2.1 w.2.1.2.2.2.2.2.2.2.2.2.1,fun w=>k1 w.2.1.1 w.2.1.2.2.2.1 w.2.1.2.2.2.2.2.2.1 w.2.1.2.2.2.2.2.2.2.2.2.1 w.2.2.1,())
theorem Axs {α n m a b c d e f g h i j k0 k1}:A49 (α:=α) n (m + 1) a b c d e f g h i j k0 k1 = Pg n a b c d e f g h i j (fun a b c d e f g h i j=>A49 n m a b c d e f g h i j k0 k1) k0 k1:=rfl
abbrev B1z:Tm:=⟨[(1,.d hRs),(2,.d hRs),(3,.d hRs),(4,.k (.hp 4 0 0)),(8,.k (.hp 8 0 0)),(10,.k (.hw 15)),(11,.d hI),(13,.k (.hp 13 0 0))],[(4,.var 25 true false [.d hNs]),(8,.var 108 true false [.d .bool,.d .nil,.d .nil,.d .bool,.d .nil,.d .nil,.d .bool,.d .nil,.d .nil,.d .bool,.d .nil,.d .nil]),(13,.var 108 true false [.d .bool,.d hIs,.d hIs,.d .bool,.d hIs,.d hIs,.d .bool,.d hIs,.d hIs,.d .bool,.d hIs,.d hIs]),(15,.arr 108 (.st (.pair hR (.pair hR (.pair hR hR)))) false)],[12],[]⟩
def f89 (n:Nat) (a0:LN) (a1 a2 a3:LR):Option ((Rq × Rq × Rq × Rq) × Int) :=
 A49 n n a1 a2 a3 0 a0 false false false false []
  (fun b c d e f=>(
   some (((c,[],[]),(d,[],[]),(e,[],[]),f,[],[]),b)))
  (fun h i j k a=>(
   gd (decide (0 <= (W ((a.length:Int) - 1))) && decide ((W ((a.length:Int) - 1)) < (a.length:Int))) (
    gd (decide ((W ((a.length:Int) - 1)).toNat < a.length)) (
     let g:=a.getD ((W ((a.length:Int) - 1)).toNat) ((false,[],[]),(false,[],[]),(false,[],[]),(false,[],[]))
     some (g,0)))))
def Xk (n:Nat):Ent:=⟨89,[hE,hRs,hRs,hRs],[(.st (.pair hR (.pair hR (.pair hR hR)))),hI],fun x=>f89 n x.1 x.2.1 x.2.2.1 x.2.2.2⟩
def Abx (α:Type) (n:Nat):D3 α:={ reg:=[(1,⟨0,[],[(0,{ sh:=some (.st (.pair hR (.pair hR (.pair hR hR)))) })]⟩),(6,⟨0,[],[(0,{ ent:=some (Ca n) }),(1,{ ent:=some (A5e n) })]⟩),(8,⟨0,[],[(0,{ ent:=some (Ca n) }),(1,{ ent:=some (A5e n) })]⟩),(12,⟨6,[],[(6,{ ent:=some (A5d n) })]⟩),(14,⟨0,[],[(2,{ ent:=some (Ca n) }),(3,{ ent:=some (A5e n) })]⟩),(16,⟨16,[],[(15,{ ent:=some (Ca n) })]⟩),(18,⟨10,[],[(10,{ ent:=some (Agi n) })]⟩),(20,⟨11,[],[(10,{ ent:=some (Agh n) }),(11,{ ent:=some (Agi n) })]⟩),(22,⟨10,[],[(10,{ ent:=some (A5d n) })]⟩),(24,⟨0,[],[(6,{ ent:=some (Aut n) })]⟩),(26,⟨11,[],[(10,{ ent:=some (Aur n) }),(11,{ ent:=some (A5d n) })]⟩),(28,⟨0,[],[(5,{ ent:=some (Agh n) })]⟩),(29,⟨0,[],[(1,{ ent:=some (Aup n) })]⟩),(31,⟨0,[],[(2,{ sh:=some (.st (.pair hR (.pair hR (.pair hR hR)))) })]⟩)],join:=[(29,B1z)],loop:=[(10,⟨R2,A0e,A5 (A0d n) n⟩),(3,⟨Xi,A6v,A5 (A6u n) n⟩)] }
theorem A0c (α:Type) (n:Nat):Ao PP (Ai (Abx α n).reg):=⟨Ff n,A87 n,Ff n,A87 n,A86 n,Ff n,A87 n,Ff n,Al0 n,Akz n,Al0 n,A86 n,B4c n,B49 n,A86 n,Akz n,B48 n,trivial⟩
theorem Amp (α:Type) (n:Nat):LO.Sound (α:=α) PP ⟨156,[]⟩ ⟨R2,A0e,A5 (A0d n) n⟩ (.loop ((A1 Tryz.f89).at [1,1,0,1,0,0,1,0,0,1,1,0,1,0,1,1,1,1,1,1,1,1,1,1,1,1,1,1,1,1,0,0])):=Bj (D:=Abx α n) (A0c α n) n
theorem Axt (α:Type) (n:Nat):D3.OK PP TT ⟨156,[]⟩ (Abx α n) ((A1 Tryz.f89).at [1,1,0,1,0,0]) :=
 D3.OK.mk3 (A0c α n) (show Ab ((A1 Tryz.f89).at [1,1,0,1,0,0]) = [(10,(.loop ((A1 Tryz.f89).at [1,1,0,1,0,0,1,0,0,1,1,0,1,0,1,1,1,1,1,1,1,1,1,1,1,1,1,1,1,1,0,0])))] by kernel_rfl) ⟨Ad rfl (Amp α n),trivial⟩
theorem Ard (α:Type) (n:Nat):LO.Sound (α:=α) PP ⟨156,[]⟩ ⟨Xi,A6v,A5 (A6u n) n⟩ (.loop ((A1 Tryz.f89).at [1,1,0,1,0,0])):=lk (Axt α n) n
theorem Ba2 (α:Type) (n:Nat):D3.OK PP TT ⟨156,[]⟩ (Abx α n) (A1 Tryz.f89) :=
 D3.OK.mk3 (A0c α n) (show Ab (A1 Tryz.f89) = [(3,(.loop ((A1 Tryz.f89).at [1,1,0,1,0,0])))] by kernel_rfl) ⟨Ad rfl (Ard α n),trivial⟩
theorem B65 (n:Nat):(Xk n).Sound PP:=fk (fn:=Tryz.f89) (Ba2 _ n)

abbrev Arb:Tm:=⟨[(1,.k (.hp 1 0 0)),(2,.k (.hp 2 0 0))],[(1,.var 31 true false [.d .bool,.d hIs,.d hIs]),(2,.var 31 true false [.d .bool,.d .nil,.d .nil])],[],[]⟩
def f91 (n:Nat) (a0:Rq):Option Rq :=
 gd (decide ((0 + a0.2.1.length) * 8 <= 140737488355328)) (
  gd (decide ((0 + a0.2.2.length) * 8 <= 140737488355328)) (
   some a0))
def Amn (n:Nat):Ent:=⟨91,[hR],[hR],fun x=>f91 n x⟩
def B0m (α:Type) (n:Nat):D3 α:={ reg:=[(1,⟨0,[],[(2,{ sh:=some hI }),(6,{ sh:=some hI })]⟩)],join:=[],loop:=[],any:=[(1,Arb)] }
set_option maxHeartbeats 8000000 in
theorem B63 (n:Nat):Ar TT ⟨14,[]⟩ [(2,{ sh:=some hI }),(6,{ sh:=some hI })] Arb (Aa ((A1 Tryz.f91).at [1,0])):=by
 refine ⟨by kernel_rfl,fun w q hq=>?_⟩
 have e:WT [(2,{ sh:=some hI }),(6,{ sh:=some hI })] (A8 (Aa ((A1 Tryz.f91).at [1,0])).toList) q = (q = []):=by kernel_rfl
 rw [e] at hq;obtain rfl:=hq
 all_goals exact .inl (Iw.mk (by kernel_rfl))
theorem Axp (α:Type) (n:Nat):Ao PP (Ai (B0m α n).reg):=trivial
theorem Ba0 (α:Type) (n:Nat):D3.OK PP TT ⟨14,[]⟩ (B0m α n) (A1 Tryz.f91) :=
 D3.OK.mk3a (Axp α n) (show Ab (A1 Tryz.f91) = [] by kernel_rfl) trivial (show Av (A1 Tryz.f91) = [(1,Aa ((A1 Tryz.f91).at [1,0]))] by kernel_rfl) ⟨⟨B63 n,trivial⟩,trivial⟩
theorem Ara (n:Nat):(Amn n).Sound PP:=fk (fn:=Tryz.f91) (Ba0 _ n)

abbrev As2:Tm:=⟨[(1,.d hRs),(2,.d hRs),(3,.k (.hp 3 0 0)),(6,.k (.hp 6 0 0)),(7,.k (.hp 7 0 0))],[(3,.var 25 true false [.d hNs]),(6,.var 31 true false [.d .bool,.d .nil,.d .nil]),(7,.var 31 true false [.d .bool,.d .nil,.d .nil])],[],[]⟩
def f40 (n:Nat) (a0:LN) (a1 a2:LR):Option (Rq × Rq × Int) :=
 bif (decide ((a1.length:Int) > 4096)) then
  some ((false,[],[]),(false,[],[]),2)
 else
  bif (decide ((a2.length:Int) > 4096)) then
   some ((false,[],[]),(false,[],[]),2)
  else
   ob (f74 n a0 a1 a2) fun b =>
   bif (b != 0) then
    some ((false,[],[]),(false,[],[]),b)
   else
    ob (f90 n (a1.length:Int)) fun c =>
    ob (f89 n a0 a1 a2 c) fun a =>
    bif (a.2 != 0) then
     some ((false,[],[]),(false,[],[]),a.2)
    else
     ob (f91 n a.1.1) fun d =>
     ob (f91 n a.1.2.1) fun e =>
     some (d,e,0)
def B0v (n:Nat):Ent:=⟨40,[hE,hRs,hRs],[hR,hR,hI],fun x=>f40 n x.1 x.2.1 x.2.2⟩
def B0w (α:Type) (n:Nat):D3 α:={ reg:=[(3,⟨0,[],[(3,{ ent:=some (B0s n) })]⟩),(6,⟨0,[],[(5,{ ent:=some (Xh n) }),(6,{ ent:=some (Xk n) })]⟩),(9,⟨5,[],[(2,{ ent:=some (Amn n) }),(5,{ ent:=some (Amn n) })]⟩)],join:=[],loop:=[],any:=[(6,As2)] }
set_option maxHeartbeats 8000000 in
theorem B6o (n:Nat):Ar TT ⟨52,[]⟩ [(5,{ ent:=some (Xh n) }),(6,{ ent:=some (Xk n) })] As2 (Aa ((A1 Tryz.f40).at [1,1,1,0])):=by
 refine ⟨by kernel_rfl,fun w q hq=>?_⟩
 have e:WT [(5,{ ent:=some (Xh n) }),(6,{ ent:=some (Xk n) })] (A8 (Aa ((A1 Tryz.f40).at [1,1,1,0])).toList) q = (∃ (y0:HL (Xh n).rs) (q0:List (Nat × RV)),q = (5,.sv (Al (Xh n).rs y0)) :: q0 /\ ∃ (y1:HL (Xk n).rs) (q1:List (Nat × RV)),q0 = (6,.sv (Al (Xk n).rs y1)) :: q1 /\ q1 = []):=by kernel_rfl
 rw [e] at hq;obtain ⟨y0,q0,rfl,y1,q1,rfl,rfl⟩:=hq
 all_goals exact .inr ⟨12,by kernel_rfl,by kernel_rfl,by kernel_rfl⟩
theorem Ayf (α:Type) (n:Nat):Ao PP (Ai (B0w α n).reg):=⟨B6h n,B64 n,B65 n,Ara n,Ara n,trivial⟩
theorem Bal (α:Type) (n:Nat):D3.OK PP TT ⟨52,[]⟩ (B0w α n) (A1 Tryz.f40) :=
 D3.OK.mk3a (Ayf α n) (show Ab (A1 Tryz.f40) = [] by kernel_rfl) trivial (show Av (A1 Tryz.f40) = [(6,Aa ((A1 Tryz.f40).at [1,1,1,0])),(9,Aa ((A1 Tryz.f40).at [1,1,1,1,1,0]))] by kernel_rfl) ⟨⟨B6o n,trivial⟩,trivial,trivial⟩
theorem B6n (n:Nat):(B0v n).Sound PP:=fk (fn:=Tryz.f40) (Bal _ n)

def R9 {α:Type} (n:Nat) (b:LN) (a:Int) (c:LN) (f:LN->Int->LN->Option α) (k0:LN->Option α):Option α :=
 bif (decide (a < (b.length:Int))) then
  gd (decide (0 <= a) && decide (a < (b.length:Int))) (
   let d:=b.getD a.toNat (0,0,0,0)
   ob (f138 n d) fun e =>
   gd (decide (0 <= a) && decide (a < (c.length:Int))) (
    gd (decide (a.toNat < c.length)) (
     f b (W (a + 1)) (c.set a.toNat e))))
 else
  k0 c
abbrev R8:Tm:=⟨[(0,.d hNs),(3,.k (.hw 7)),(4,.d hI)],[(7,.arr 125 hN false)],[],[]⟩
abbrev Art:Tm:=⟨[(3,.k (.hw 7))],[(7,.arr 125 hN false)],[],[]⟩
abbrev A0l:List (Exit × Tm):=[(.exit 0,Art)]
def A0k {α:Type} (n:Nat) (v:R8.den) (f:R8.den->Option α) (ks:KS α A0l):Option α:=R9 n v.1.1 v.1.2.2.1 v.2.1 (fun a b c=>f ((a,(),b,()),(c,()))) (fun w0=>ks.1 (((),()),(w0,())))
def Pj {α:Type} (n m:Nat) (a:LN) (b:Int) (c:LN) (k0:LN->Option α):Option α:=A5 (A0k n) m ((a,(),b,()),(c,())) (fun w=>k0 w.2.1,())
theorem A9t {α n m a b c k0}:Pj (α:=α) n (m + 1) a b c k0 = R9 n a b c (fun a b c=>Pj n m a b c k0) k0:=rfl
def Ay7 (n:Nat) (a0:LN):Option LN :=
 gd (decide (0 <= (a0.length:Int)) && decide ((a0.length:Int) <= 4611686018427387904) && decide ((32:Int) * (a0.length:Int) <= 281474976710656)) (
  Pj n n a0 0 (List.replicate ((a0.length:Int).toNat) (0,0,0,0))
   (fun a=>(
    some a)))
def Aru (n:Nat):Ent3:=⟨82,[.im hNs],[[.one (.own 125 hN)]],fun x=>Ay7 n x⟩
def Ae7 (α:Type) (n:Nat):D3 α:={ reg:=[(5,⟨0,[],[(6,{ ent:=some (Agn n) })]⟩)],join:=[],loop:=[(3,⟨R8,A0l,A5 (A0k n) n⟩)] }
theorem A9s (α:Type) (n:Nat):Ao PP (Ai (Ae7 α n).reg):=⟨Al3 n,trivial⟩
theorem An1 (α:Type) (n:Nat):LO.Sound (α:=α) PP ⟨23,[]⟩ ⟨R8,A0l,A5 (A0k n) n⟩ (.loop ((A1 Tryz.f82).at [1,1,0,1,0,0])):=Bj (D:=Ae7 α n) (A9s α n) n
theorem B6d (α:Type) (n:Nat):D3.OK PP TT ⟨23,[]⟩ (Ae7 α n) (A1 Tryz.f82) :=
 D3.OK.mk3 (A9s α n) (show Ab (A1 Tryz.f82) = [(3,(.loop ((A1 Tryz.f82).at [1,1,0,1,0,0])))] by kernel_rfl) ⟨Ad rfl (An1 α n),trivial⟩
theorem B24 (n:Nat):(Aru n).Sound PP:=Pf (fn:=Tryz.f82) (B6d _ n)

def And (n:Nat) (a0:LN):Option LN :=
 ob (Ay7 n a0) fun a =>
 some a
def Asd (n:Nat):Ent3:=⟨31,[.im hE],[[.mix [.own 125 hN]]],fun x=>And n x⟩
def B6w (α:Type) (n:Nat):D3 α:={ reg:=[(2,⟨0,[],[(2,{ entB:=some (Aru n),hb:=310 })]⟩)],join:=[],loop:=[] }
theorem B2d (n:Nat):(Asd n).Sound PP:=A6p (fn:=Tryz.f31) (D:=B6w _ n) ⟨B24 n,trivial⟩

def Wh {α:Type} (n:Nat) (b:LI) (a:Int) (c:LI) (f:LI->Int->LI->Option α) (k0:LI->Option α):Option α :=
 bif (decide (a < (b.length:Int))) then
  gd (decide (0 <= a) && decide (a < (b.length:Int))) (
   gd (decide (0 <= a) && decide (a < (c.length:Int))) (
    gd (decide (a.toNat < c.length)) (
     f b (W (a + 1)) (c.set a.toNat (b.getD a.toNat 0)))))
 else
  k0 c
abbrev Oc:Tm:=⟨[(0,.d hIs),(3,.k (.hw 7)),(4,.d hI)],[(7,.arr 3 hI false)],[],[]⟩
abbrev Aot:Tm:=⟨[(3,.k (.hw 7))],[(7,.arr 3 hI false)],[],[]⟩
abbrev Wg:List (Exit × Tm):=[(.exit 0,Aot)]
def Wf {α:Type} (n:Nat) (v:Oc.den) (f:Oc.den->Option α) (ks:KS α Wg):Option α:=Wh n v.1.1 v.1.2.2.1 v.2.1 (fun a b c=>f ((a,(),b,()),(c,()))) (fun w0=>ks.1 (((),()),(w0,())))
def Sr {α:Type} (n m:Nat) (a:LI) (b:Int) (c:LI) (k0:LI->Option α):Option α:=A5 (Wf n) m ((a,(),b,()),(c,())) (fun w=>k0 w.2.1,())
theorem Aos {α n m a b c k0}:Sr (α:=α) n (m + 1) a b c k0 = Wh n a b c (fun a b c=>Sr n m a b c k0) k0:=rfl
def A5h (n:Nat) (a0:LI):Option LI :=
 gd (decide (0 <= (a0.length:Int)) && decide ((a0.length:Int) <= 4611686018427387904) && decide ((8:Int) * (a0.length:Int) <= 281474976710656)) (
  Sr n n a0 0 (List.replicate ((a0.length:Int).toNat) 0)
   (fun a=>(
    some a)))
def A88 (n:Nat):Ent3:=⟨139,[.im hIs],[[.one (.own 3 hI)]],fun x=>A5h n x⟩
def A89 (α:Type) (n:Nat):D3 α:={ reg:=[],join:=[],loop:=[(3,⟨Oc,Wg,A5 (Wf n) n⟩)] }
theorem A5g (α:Type) (n:Nat):Ao PP (Ai (A89 α n).reg):=trivial
theorem Aiu (α:Type) (n:Nat):LO.Sound (α:=α) PP ⟨22,[]⟩ ⟨Oc,Wg,A5 (Wf n) n⟩ (.loop ((A1 Tryz.f139).at [1,1,0,1,0,0])):=Bj (D:=A89 α n) (A5g α n) n
theorem B4e (α:Type) (n:Nat):D3.OK PP TT ⟨22,[]⟩ (A89 α n) (A1 Tryz.f139) :=
 D3.OK.mk3 (A5g α n) (show Ab (A1 Tryz.f139) = [(3,(.loop ((A1 Tryz.f139).at [1,1,0,1,0,0])))] by kernel_rfl) ⟨Ad rfl (Aiu α n),trivial⟩
theorem Agl (n:Nat):(A88 n).Sound PP:=Pf (fn:=Tryz.f139) (B4e _ n)

def Amz (n:Nat) (a0:Rq):Option (Bool × LI × LI) :=
 ob (A5h n a0.2.1) fun a =>
 ob (A5h n a0.2.2) fun b =>
 some (a0.1,a,b)
def Arr (n:Nat):Ent3:=⟨83,[.im hR],[[.mix [.im .bool,.own 3 hI,.own 3 hI]]],fun x=>Amz n x⟩
def B6b (α:Type) (n:Nat):D3 α:={ reg:=[(3,⟨0,[],[(2,{ entB:=some (A88 n),hb:=310 })]⟩),(4,⟨0,[],[(2,{ entB:=some (A88 n),hb:=320 })]⟩)],join:=[],loop:=[] }
theorem B22 (n:Nat):(Arr n).Sound PP:=A6p (fn:=Tryz.f83) (D:=B6b _ n) ⟨Agl n,Agl n,trivial⟩

def A0q {α:Type} (n:Nat) (b:LR) (a:Int) (c:LR) (f:LR->Int->LR->Option α) (k0:LR->Option α):Option α :=
 bif (decide (a < (b.length:Int))) then
  gd (decide (0 <= a) && decide (a < (b.length:Int))) (
   let d:=b.getD a.toNat (false,[],[])
   ob (Amz n d) fun e =>
   gd (decide (0 <= a) && decide (a < (c.length:Int))) (
    gd (decide (a.toNat < c.length)) (
     f b (W (a + 1)) (c.set a.toNat e))))
 else
  k0 c
abbrev Rf:Tm:=⟨[(0,.d hRs),(3,.k (.hw 7)),(4,.d hI)],[(7,.tree 31 hR false)],[],[]⟩
abbrev Asc:Tm:=⟨[(3,.k (.hw 7))],[(7,.tree 31 hR false)],[],[]⟩
abbrev A0p:List (Exit × Tm):=[(.exit 0,Asc)]
def A0o {α:Type} (n:Nat) (v:Rf.den) (f:Rf.den->Option α) (ks:KS α A0p):Option α:=A0q n v.1.1 v.1.2.2.1 v.2.1 (fun a b c=>f ((a,(),b,()),(c,()))) (fun w0=>ks.1 (((),()),(w0,())))
def Y1 {α:Type} (n m:Nat) (a:LR) (b:Int) (c:LR) (k0:LR->Option α):Option α:=A5 (A0o n) m ((a,(),b,()),(c,())) (fun w=>k0 w.2.1,())
theorem Asb {α n m a b c k0}:Y1 (α:=α) n (m + 1) a b c k0 = A0q n a b c (fun a b c=>Y1 n m a b c k0) k0:=rfl
def Aes (n:Nat) (a0:LR):Option LR :=
 gd (decide (0 <= (a0.length:Int)) && decide ((a0.length:Int) <= 4611686018427387904) && decide ((56:Int) * (a0.length:Int) <= 281474976710656)) (
  Y1 n n a0 0 (List.replicate ((a0.length:Int).toNat) (false,[],[]))
   (fun a=>(
    some a)))
def Aeq (n:Nat):Ent3:=⟨32,[.im hRs],[[.one (.tree 31 hR)]],fun x=>Aes n x⟩
def Aer (α:Type) (n:Nat):D3 α:={ reg:=[(1,⟨0,[],[(2,{ tr:=some hR })]⟩),(5,⟨0,[],[(6,{ entB:=some (Arr n),hb:=310 })]⟩)],join:=[],loop:=[(3,⟨Rf,A0p,A5 (A0o n) n⟩)] }
theorem A9y (α:Type) (n:Nat):Ao PP (Ai (Aer α n).reg):=⟨B22 n,trivial⟩
theorem Anc (α:Type) (n:Nat):LO.Sound (α:=α) PP ⟨23,[]⟩ ⟨Rf,A0p,A5 (A0o n) n⟩ (.loop ((A1 Tryz.f32).at [1,1,0,1,0,0])):=Bj (D:=Aer α n) (A9y α n) n
theorem B6u (α:Type) (n:Nat):D3.OK PP TT ⟨23,[]⟩ (Aer α n) (A1 Tryz.f32) :=
 D3.OK.mk3 (A9y α n) (show Ab (A1 Tryz.f32) = [(3,(.loop ((A1 Tryz.f32).at [1,1,0,1,0,0])))] by kernel_rfl) ⟨Ad rfl (Anc α n),trivial⟩
theorem Ak4 (n:Nat):(Aeq n).Sound PP:=Pf (fn:=Tryz.f32) (B6u _ n)

def A2u {α:Type} (n:Nat) (c:Int) (b:LI) (d a:Int) (f:Int->LI->Int->Int->Option α) (k0:Int->Option α) (k1:Unit->Option α):Option α :=
 bif (decide (a < d)) then
  gd (decide (0 <= a) && decide (a < (b.length:Int))) (
   bif (decide ((b.getD a.toNat 0) > c)) then
    k0 2
   else
    f c b d (W (a + 1)))
 else
  k1 ()
abbrev Su:Tm:=⟨[(0,.d hI),(7,.d hIs),(8,.d hI),(9,.d hI)],[],[],[]⟩
abbrev Av2:Tm:=⟨[(4,.d hI)],[],[],[]⟩
abbrev Av1:Tm:=⟨[],[],[],[]⟩
abbrev A2t:List (Exit × Tm):=[(.ret,Av2),(.exit 0,Av1)]
def A2s {α:Type} (n:Nat) (v:Su.den) (f:Su.den->Option α) (ks:KS α A2t):Option α:=A2u n v.1.1 v.1.2.1 v.1.2.2.1 v.1.2.2.2.1 (fun a b c d=>f ((a,b,c,d,()),())) (fun w0=>ks.1 ((w0,()),())) (fun _=>ks.2.1 ((),()))
def Q7 {α:Type} (n m:Nat) (a:Int) (b:LI) (c d:Int) (k0:Int->Option α) (k1:Unit->Option α):Option α:=A5 (A2s n) m ((a,b,c,d,()),()) (fun w=>k0 w.1.1,fun w=>k1 (),())
theorem Av0 {α n m a b c d k0 k1}:Q7 (α:=α) n (m + 1) a b c d k0 k1 = A2u n a b c d (fun a b c d=>Q7 n m a b c d k0 k1) k0 k1:=rfl
def f121 (n:Nat) (a0:Int) (a1:LI):Option Int :=
 Q7 n n a0 a1 (a1.length:Int) 0
  (fun a=>(
   some a))
  (fun (_:Unit)=>(
   some 0))
def Av3 (n:Nat):Ent:=⟨121,[hI,hIs],[hI],fun x=>f121 n x.1 x.2⟩
def Agp (α:Type) (n:Nat):D3 α:={ reg:=[],join:=[],loop:=[(2,⟨Su,A2t,A5 (A2s n) n⟩)] }
theorem Aaq (α:Type) (n:Nat):Ao PP (Ai (Agp α n).reg):=trivial
theorem Aow (α:Type) (n:Nat):LO.Sound (α:=α) PP ⟨17,[]⟩ ⟨Su,A2t,A5 (A2s n) n⟩ (.loop ((A1 Tryz.f121).at [1,0,1,0,0])):=Bj (D:=Agp α n) (Aaq α n) n
theorem B93 (α:Type) (n:Nat):D3.OK PP TT ⟨17,[]⟩ (Agp α n) (A1 Tryz.f121) :=
 D3.OK.mk3 (Aaq α n) (show Ab (A1 Tryz.f121) = [(2,(.loop ((A1 Tryz.f121).at [1,0,1,0,0])))] by kernel_rfl) ⟨Ad rfl (Aow α n),trivial⟩
theorem B4k (n:Nat):(Av3 n).Sound PP:=fk (fn:=Tryz.f121) (B93 _ n)

def A7a {α:Type} (n:Nat) (b:List LR) (d a:Int) (c:LI) (f:(List LR)->Int->Int->LI->Option α) (k0:LI->Option α):Option α :=
 bif (decide (a < d)) then
  gd (decide (0 <= a) && decide (a < (b.length:Int))) (
   gd (decide ((c.length + 1) * 8 <= 140737488355328)) (
    f b d (W (a + 1)) (c ++ [(((b.getD a.toNat []).length:Nat):Int)])))
 else
  k0 c
abbrev Xw:Tm:=⟨[(3,.k (.hw 6)),(7,.d (.sl hRs)),(8,.d hI),(9,.d hI)],[(6,.arr 3 hI false)],[16],[]⟩
abbrev Ay9:Tm:=⟨[(3,.k (.hw 6))],[(6,.arr 3 hI false)],[],[]⟩
abbrev A79:List (Exit × Tm):=[(.exit 0,Ay9)]
def A78 {α:Type} (n:Nat) (v:Xw.den) (f:Xw.den->Option α) (ks:KS α A79):Option α:=A7a n v.1.2.1 v.1.2.2.1 v.1.2.2.2.1 v.2.1 (fun a b c d=>f (((),a,b,c,()),(d,()))) (fun w0=>ks.1 (((),()),(w0,())))
def Vc {α:Type} (n m:Nat) (a:List LR) (b c:Int) (d:LI) (k0:LI->Option α):Option α:=A5 (A78 n) m (((),a,b,c,()),(d,())) (fun w=>k0 w.2.1,())
theorem Ay8 {α n m a b c d k0}:Vc (α:=α) n (m + 1) a b c d k0 = A7a n a b c d (fun a b c d=>Vc n m a b c d k0) k0:=rfl
def f65 (n:Nat) (a0:List LR):Option Int :=
 Vc n n a0 (a0.length:Int) 0 []
  (fun a=>(
   ob (f121 n 4096 a) fun b =>
   some b))
def Ed (n:Nat):Ent:=⟨65,[(.sl hRs)],[hI],fun x=>f65 n x⟩
def An3 (α:Type) (n:Nat):D3 α:={ reg:=[(1,⟨0,[],[(0,{ sh:=some hI })]⟩),(5,⟨0,[],[(3,{ sh:=some hI })]⟩),(7,⟨0,[],[(1,{ ent:=some (Av3 n) })]⟩)],join:=[],loop:=[(3,⟨Xw,A79,A5 (A78 n) n⟩)] }
theorem Aea (α:Type) (n:Nat):Ao PP (Ai (An3 α n).reg):=⟨B4k n,trivial⟩
theorem Arx (α:Type) (n:Nat):LO.Sound (α:=α) PP ⟨21,[]⟩ ⟨Xw,A79,A5 (A78 n) n⟩ (.loop ((A1 Tryz.f65).at [1,1,0,1,0,0])):=Bj (D:=An3 α n) (Aea α n) n
theorem Bag (α:Type) (n:Nat):D3.OK PP TT ⟨21,[]⟩ (An3 α n) (A1 Tryz.f65) :=
 D3.OK.mk3 (Aea α n) (show Ab (A1 Tryz.f65) = [(3,(.loop ((A1 Tryz.f65).at [1,1,0,1,0,0])))] by kernel_rfl) ⟨Ad rfl (Arx α n),trivial⟩
theorem Ae8 (n:Nat):(Ed n).Sound PP:=fk (fn:=Tryz.f65) (Bag _ n)

def f184 (n:Nat) (a0 a1 a2:Int):Option Bool :=
 bif (decide (a1 <= a0)) then
  some (decide (a0 <= a2))
 else
  some false
def Nb (n:Nat):Ent:=⟨184,[hI,hI,hI],[.bool],fun x=>f184 n x.1 x.2.1 x.2.2⟩
def B7z (α:Type) (n:Nat):D3 α:={ reg:=[],join:=[],loop:=[] }
theorem M5 (n:Nat):(Nb n).Sound PP:=At (fn:=Tryz.f184) (D:=B7z _ n) trivial

def f236 (n:Nat) (a0:Nq):Option Bool :=
 bif (a0.1 == 1) then
  ob (f184 n a0.2.2.2 0 999999999) fun a =>
  some a
 else
  bif (a0.1 == 2) then
   ob (f184 n a0.2.2.2 0 3) fun b =>
   some b
  else
   bif (a0.1 == 8) then
    ob (f184 n a0.2.2.2 0 8) fun c =>
    some c
   else
    some (a0.2.2.2 == 0)
def Ash (n:Nat):Ent:=⟨236,[hN],[.bool],fun x=>f236 n x⟩
def B72 (α:Type) (n:Nat):D3 α:={ reg:=[(3,⟨0,[],[(2,{ ent:=some (Nb n) })]⟩),(5,⟨0,[],[(2,{ ent:=some (Nb n) })]⟩),(7,⟨0,[],[(2,{ ent:=some (Nb n) })]⟩)],join:=[],loop:=[] }
theorem B2i (n:Nat):(Ash n).Sound PP:=At (fn:=Tryz.f236) (D:=B72 _ n) ⟨M5 n,M5 n,M5 n,trivial⟩

def f109 (n:Nat) (a0:Nq):Option Int :=
 bif (a0.1 == 3) then
  some 2
 else
  bif (a0.1 == 4) then
   some 2
  else
   bif (a0.1 == 5) then
    some 2
   else
    bif (a0.1 == 6) then
     some 2
    else
     bif (a0.1 == 7) then
      some 1
     else
      bif (a0.1 == 8) then
       some 1
      else
       some 0
def Wl (n:Nat):Ent:=⟨109,[hN],[hI],fun x=>f109 n x⟩
def B9a (α:Type) (n:Nat):D3 α:={ reg:=[],join:=[],loop:=[] }
theorem Ys (n:Nat):(Wl n).Sound PP:=At (fn:=Tryz.f109) (D:=B9a _ n) trivial

def f237 (n:Nat) (a0:Bool) (a1 a2:Int):Option Bool :=
 bif a0 then
  ob (f184 n a1 0 (W (a2 - 1))) fun a =>
  bif a then
   some true
  else
   bif (!a0) then
    some (a1 == 0)
   else
    some false
 else
  bif (!a0) then
   some (a1 == 0)
  else
   some false
def Aew (n:Nat):Ent:=⟨237,[.bool,hI,(.ref hI)],[.bool],fun x=>f237 n x.1 x.2.1 x.2.2⟩
def B71 (α:Type) (n:Nat):D3 α:={ reg:=[(1,⟨0,[],[(5,{ ent:=some (Nb n) })]⟩)],join:=[],loop:=[] }
theorem Ak7 (n:Nat):(Aew n).Sound PP:=At (fn:=Tryz.f237) (D:=B71 _ n) ⟨M5 n,trivial⟩

def f229 (n:Nat) (a0:Nq) (a1:Int):Option Bool :=
 ob (f184 n a0.1 1 8) fun a =>
 bif (!a) then
  some false
 else
  ob (f236 n a0) fun b =>
  bif (!b) then
   some false
  else
   ob (f109 n a0) fun c =>
   ob (f237 n (decide (c > 0)) a0.2.1 a1) fun d =>
   bif d then
    ob (f109 n a0) fun e =>
    ob (f237 n (decide (e > 1)) a0.2.2.1 a1) fun f =>
    some f
   else
    some false
def Asl (n:Nat):Ent:=⟨229,[hN,hI],[.bool],fun x=>f229 n x.1 x.2⟩
def B76 (α:Type) (n:Nat):D3 α:={ reg:=[(1,⟨0,[],[(2,{ ent:=some (Nb n) }),(6,{ ent:=some (Ash n) })]⟩),(3,⟨0,[],[(0,{ sh:=some (.ref hI) })]⟩),(4,⟨14,[],[(2,{ ent:=some (Wl n) }),(6,{ ent:=some (Aew n) }),(10,{ ent:=some (Wl n) }),(14,{ ent:=some (Aew n) })]⟩)],join:=[],loop:=[] }
theorem B2n (n:Nat):(Asl n).Sound PP:=At (fn:=Tryz.f229) (D:=B76 _ n) ⟨M5 n,B2i n,Ys n,Ak7 n,Ys n,Ak7 n,trivial⟩

def N6 {α:Type} (n:Nat) (e:LN) (h d:Int) (b c:LI) (f:LN->Int->Int->LI->LI->Option α) (k0:Bool->Option α) (k1:LI->LI->Option α):Option α :=
 bif (decide (d < h)) then
  gd (decide (0 <= d) && decide (d < (e.length:Int))) (
   let a:=e.getD d.toNat (0,0,0,0)
   ob (f229 n a d) fun j =>
   bif (!j) then
    k0 false
   else
    let g:=fun (k:Int) (l:Int)=>(
     gd (decide ((b.length + 1) * 8 <= 140737488355328)) (
      gd (decide ((c.length + 1) * 8 <= 140737488355328)) (
       f e h (W (d + 1)) (b ++ [k]) (c ++ [l]))))
    ob (f109 n a) fun i =>
    bif (i == 1) then
     bif (a.2.1 != (W (d - 1))) then
      k0 false
     else
      gd (decide (0 <= a.2.1) && decide (a.2.1 < (b.length:Int))) (
       gd (decide (a.2.1.toNat < b.length)) (
        gd (decide (0 <= a.2.1) && decide (a.2.1 < (c.length:Int))) (
         gd (decide (a.2.1.toNat < c.length)) (
          g (b.getD a.2.1.toNat 0) (W ((c.getD a.2.1.toNat 0) + 1))))))
    else
     bif (i == 2) then
      bif (a.2.2.1 != (W (d - 1))) then
       k0 false
      else
       gd (decide (0 <= a.2.2.1) && decide (a.2.2.1 < (b.length:Int))) (
        gd (decide (a.2.2.1.toNat < b.length)) (
         bif (a.2.1 != (W ((b.getD a.2.2.1.toNat 0) - 1))) then
          k0 false
         else
          gd (decide (0 <= a.2.1) && decide (a.2.1 < (b.length:Int))) (
           gd (decide (a.2.1.toNat < b.length)) (
            gd (decide (0 <= a.2.1) && decide (a.2.1 < (c.length:Int))) (
             gd (decide (a.2.1.toNat < c.length)) (
              gd (decide (0 <= a.2.2.1) && decide (a.2.2.1 < (c.length:Int))) (
               gd (decide (a.2.2.1.toNat < c.length)) (
                g (b.getD a.2.1.toNat 0) (W ((max (c.getD a.2.1.toNat 0) (c.getD a.2.2.1.toNat 0)) + 1))))))))))
     else
      g d 1)
 else
  k1 b c
abbrev S7:Tm:=⟨[(5,.k (.hw 11)),(6,.k (.hw 12)),(13,.d hNs),(14,.d hI),(15,.d hI)],[(11,.arr 3 hI false),(12,.arr 3 hI false)],[82,86],[]⟩
abbrev At6:Tm:=⟨[(2,.d .nil),(3,.d .nil),(4,.d .bool)],[],[8,11,12],[]⟩
abbrev At5:Tm:=⟨[(5,.k (.hw 11)),(6,.k (.hw 12))],[(11,.arr 3 hI false),(12,.arr 3 hI false)],[],[]⟩
abbrev A1h:List (Exit × Tm):=[(.ret,At6),(.exit 0,At5)]
def A1g {α:Type} (n:Nat) (v:S7.den) (f:S7.den->Option α) (ks:KS α A1h):Option α:=N6 n v.1.2.2.1 v.1.2.2.2.1 v.1.2.2.2.2.1 v.2.1 v.2.2.1 (fun a b c d e=>f (((),(),a,b,c,()),(d,e,()))) (fun w0=>ks.1 (((),(),w0,()),())) (fun w0 w1=>ks.2.1 (((),(),()),(w0,w1,())))
def Y9 {α:Type} (n m:Nat) (a:LN) (b c:Int) (d e:LI) (k0:Bool->Option α) (k1:LI->LI->Option α):Option α:=A5 (A1g n) m (((),(),a,b,c,()),(d,e,())) (fun w=>k0 w.1.2.2.1,fun w=>k1 w.2.1 w.2.2.1,())
theorem Aab {α n m a b c d e k0 k1}:Y9 (α:=α) n (m + 1) a b c d e k0 k1 = N6 n a b c d e (fun a b c d e=>Y9 n m a b c d e k0 k1) k0 k1:=rfl
abbrev Ayu:Tm:=⟨[(5,.k (.hw 11)),(6,.k (.hw 12)),(9,.d hI),(10,.d hI),(13,.d hNs),(14,.d hI),(15,.d hI)],[(11,.arr 3 hI false),(12,.arr 3 hI false)],[8],[]⟩
def f212 (n:Nat) (a0:LN):Option (LI × LI × Bool) :=
 Y9 n n a0 (a0.length:Int) 0 [] []
  (fun a=>(
   some ([],[],a)))
  (fun b c=>(
   some (b,c,true)))
def At7 (n:Nat):Ent:=⟨212,[hNs],[hIs,hIs,.bool],fun x=>f212 n x⟩
def Afh (α:Type) (n:Nat):D3 α:={ reg:=[(1,⟨0,[],[(0,{ sh:=some hI }),(1,{ sh:=some hI })]⟩),(5,⟨0,[],[(2,{ ent:=some (Asl n) })]⟩),(8,⟨0,[],[(1,{ ent:=some (Wl n) })]⟩),(12,⟨12,[],[]⟩),(14,⟨14,[],[]⟩),(16,⟨18,[],[]⟩),(17,⟨0,[],[(2,{ sh:=some hI }),(6,{ sh:=some hI })]⟩)],join:=[(17,Ayu)],loop:=[(3,⟨S7,A1h,A5 (A1g n) n⟩)] }
theorem Aaa (α:Type) (n:Nat):Ao PP (Ai (Afh α n).reg):=⟨B2n n,Ys n,trivial⟩
theorem Anz (α:Type) (n:Nat):LO.Sound (α:=α) PP ⟨91,[]⟩ ⟨S7,A1h,A5 (A1g n) n⟩ (.loop ((A1 Tryz.f212).at [1,1,0,1,0,0])):=Bj (D:=Afh α n) (Aaa α n) n
theorem B7l (α:Type) (n:Nat):D3.OK PP TT ⟨91,[]⟩ (Afh α n) (A1 Tryz.f212) :=
 D3.OK.mk3 (Aaa α n) (show Ab (A1 Tryz.f212) = [(3,(.loop ((A1 Tryz.f212).at [1,1,0,1,0,0])))] by kernel_rfl) ⟨Ad rfl (Anz α n),trivial⟩
theorem B2z (n:Nat):(At7 n).Sound PP:=fk (fn:=Tryz.f212) (B7l _ n)

def S6 {α:Type} (n:Nat) (b:LI) (c a:Int) (f:LI->Int->Int->Option α) (k0:Int->Option α):Option α :=
 bif (decide (a < (b.length:Int))) then
  gd (decide (0 <= a) && decide (a < (b.length:Int))) (
   f b (max c (b.getD a.toNat 0)) (W (a + 1)))
 else
  k0 c
abbrev S5:Tm:=⟨[(0,.d hIs),(3,.d hI),(4,.d hI)],[],[],[]⟩
abbrev At3:Tm:=⟨[(3,.d hI)],[],[],[]⟩
abbrev A1f:List (Exit × Tm):=[(.exit 0,At3)]
def A1e {α:Type} (n:Nat) (v:S5.den) (f:S5.den->Option α) (ks:KS α A1f):Option α:=S6 n v.1.1 v.1.2.1 v.1.2.2.1 (fun a b c=>f ((a,b,c,()),())) (fun w0=>ks.1 ((w0,()),()))
def Y8 {α:Type} (n m:Nat) (a:LI) (b c:Int) (k0:Int->Option α):Option α:=A5 (A1e n) m ((a,b,c,()),()) (fun w=>k0 w.1.1,())
theorem Aa9 {α n m a b c k0}:Y8 (α:=α) n (m + 1) a b c k0 = S6 n a b c (fun a b c=>Y8 n m a b c k0) k0:=rfl
def f213 (n:Nat) (a0:LI):Option Int :=
 bif (decide ((a0.length:Int) < 1)) then
  none
 else
  gd (decide (0 < (a0.length:Int))) (
   Y8 n n a0 (a0.getD 0 0) 1
    (fun a=>(
     some a)))
def At4 (n:Nat):Ent:=⟨213,[hIs],[hI],fun x=>f213 n x⟩
def Afg (α:Type) (n:Nat):D3 α:={ reg:=[],join:=[],loop:=[(5,⟨S5,A1f,A5 (A1e n) n⟩)] }
theorem Aa8 (α:Type) (n:Nat):Ao PP (Ai (Afg α n).reg):=trivial
theorem Any (α:Type) (n:Nat):LO.Sound (α:=α) PP ⟨25,[]⟩ ⟨S5,A1f,A5 (A1e n) n⟩ (.loop ((A1 Tryz.f213).at [1,1,1,0,1,0,0])):=Bj (D:=Afg α n) (Aa8 α n) n
theorem B7k (α:Type) (n:Nat):D3.OK PP TT ⟨25,[]⟩ (Afg α n) (A1 Tryz.f213) :=
 D3.OK.mk3 (Aa8 α n) (show Ab (A1 Tryz.f213) = [(5,(.loop ((A1 Tryz.f213).at [1,1,1,0,1,0,0])))] by kernel_rfl) ⟨Ad rfl (Any α n),trivial⟩
theorem B2x (n:Nat):(At4 n).Sound PP:=fk (fn:=Tryz.f213) (B7k _ n)

def f168 (n:Nat) (a0:LN):Option Bool :=
 ob (f184 n (a0.length:Int) 1 60) fun b =>
 bif (!b) then
  some false
 else
  ob (f212 n a0) fun a =>
  bif a.2.2 then
   gd (decide (0 <= (W ((a0.length:Int) - 1))) && decide ((W ((a0.length:Int) - 1)) < (a.1.length:Int))) (
    bif ((a.1.getD ((W ((a0.length:Int) - 1)).toNat) 0) == 0) then
     ob (f213 n a.2.1) fun c =>
     some (decide (c <= 12))
    else
     some false)
  else
   some false
def Auk (n:Nat):Ent:=⟨168,[hE],[.bool],fun x=>f168 n x⟩
def B8d (α:Type) (n:Nat):D3 α:={ reg:=[(2,⟨0,[],[(1,{ ent:=some (Nb n) })]⟩),(4,⟨0,[],[(2,{ ent:=some (At7 n) })]⟩),(5,⟨0,[],[(11,{ ent:=some (At4 n) })]⟩)],join:=[],loop:=[] }
theorem B43 (n:Nat):(Auk n).Sound PP:=At (fn:=Tryz.f168) (D:=B8d _ n) ⟨M5 n,B2z n,B2x n,trivial⟩

def f114 (n:Nat) (a0:Bool) (a1:Int):Option Int :=
 bif a0 then
  some 0
 else
  some a1
def Fv (n:Nat):Ent:=⟨114,[.bool,hI],[hI],fun x=>f114 n x.1 x.2⟩
def B99 (α:Type) (n:Nat):D3 α:={ reg:=[],join:=[],loop:=[] }
theorem M6 (n:Nat):(Fv n).Sound PP:=At (fn:=Tryz.f114) (D:=B99 _ n) trivial

def f108 (n:Nat) (a0:LN):Option Int :=
 ob (f168 n a0) fun a =>
 ob (f114 n a 1) fun b =>
 some b
def Q9 (n:Nat):Ent:=⟨108,[hE],[hI],fun x=>f108 n x⟩
def B9b (α:Type) (n:Nat):D3 α:={ reg:=[(1,⟨0,[],[(1,{ ent:=some (Auk n) }),(2,{ ent:=some (Fv n) })]⟩)],join:=[],loop:=[] }
theorem B4u (n:Nat):(Q9 n).Sound PP:=At (fn:=Tryz.f108) (D:=B9b _ n) ⟨B43 n,M6 n,trivial⟩

def f239 (n:Nat) (a0:Int):Option Bool :=
 bif (decide (a0 < 0)) then
  some true
 else
  some (decide (a0 >= 10000))
def Asg (n:Nat):Ent:=⟨239,[hI],[.bool],fun x=>f239 n x⟩
def B70 (α:Type) (n:Nat):D3 α:={ reg:=[],join:=[],loop:=[] }
theorem B2g (n:Nat):(Asg n).Sound PP:=At (fn:=Tryz.f239) (D:=B70 _ n) trivial

def Ms {α:Type} (n:Nat) (b:LI) (c a:Int) (f:LI->Int->Int->Option α) (k0:Int->Option α) (k1:Unit->Option α):Option α :=
 bif (decide (a < c)) then
  gd (decide (0 <= a) && decide (a < (b.length:Int))) (
   ob (f239 n (b.getD a.toNat 0)) fun d =>
   bif d then
    k0 a
   else
    f b c (W (a + 1)))
 else
  k1 ()
abbrev If:Tm:=⟨[(0,.d hIs),(1,.d (.fn 239)),(7,.d hI),(8,.d hI)],[],[],[]⟩
abbrev Abf:Tm:=⟨[(4,.d hI)],[],[],[]⟩
abbrev Abe:Tm:=⟨[],[],[],[]⟩
abbrev Mr:List (Exit × Tm):=[(.ret,Abf),(.exit 0,Abe)]
def Mq {α:Type} (n:Nat) (v:If.den) (f:If.den->Option α) (ks:KS α Mr):Option α:=Ms n v.1.1 v.1.2.2.1 v.1.2.2.2.1 (fun a b c=>f ((a,(),b,c,()),())) (fun w0=>ks.1 ((w0,()),())) (fun _=>ks.2.1 ((),()))
def Gv {α:Type} (n m:Nat) (a:LI) (b c:Int) (k0:Int->Option α) (k1:Unit->Option α):Option α:=A5 (Mq n) m ((a,(),b,c,()),()) (fun w=>k0 w.1.1,fun w=>k1 (),())
theorem Abd {α n m a b c k0 k1}:Gv (α:=α) n (m + 1) a b c k0 k1 = Ms n a b c (fun a b c=>Gv n m a b c k0 k1) k0 k1:=rfl
def A0r (n:Nat) (a0:LI) (a1:Unit):Option Int :=
 Gv n n a0 (a0.length:Int) 0
  (fun a=>(
   some a))
  (fun (_:Unit)=>(
   some (-1)))
def A4j (n:Nat):Ent:=⟨240,[hIs,(.fn 239)],[hI],fun x=>A0r n x.1 x.2⟩
def Rg (α:Type) (n:Nat):D3 α:={ reg:=[(4,⟨0,[],[(5,{ ent:=some (Asg n) })]⟩)],join:=[],loop:=[(2,⟨If,Mr,A5 (Mq n) n⟩)] }
theorem U3 (α:Type) (n:Nat):Ao PP (Ai (Rg α n).reg):=⟨B2g n,trivial⟩
theorem A7o (α:Type) (n:Nat):LO.Sound (α:=α) PP ⟨19,[]⟩ ⟨If,Mr,A5 (Mq n) n⟩ (.loop ((A1 Tryz.f240).at [1,0,1,0,0])):=Bj (D:=Rg α n) (U3 α n) n
theorem Ang (α:Type) (n:Nat):D3.OK PP TT ⟨19,[]⟩ (Rg α n) (A1 Tryz.f240) :=
 D3.OK.mk3 (U3 α n) (show Ab (A1 Tryz.f240) = [(2,(.loop ((A1 Tryz.f240).at [1,0,1,0,0])))] by kernel_rfl) ⟨Ad rfl (A7o α n),trivial⟩
theorem Aie (n:Nat):(A4j n).Sound PP:=fk (fn:=Tryz.f240) (Ang _ n)

end Go.Ev
