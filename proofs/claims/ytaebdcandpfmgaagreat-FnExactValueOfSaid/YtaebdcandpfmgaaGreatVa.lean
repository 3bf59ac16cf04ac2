/- DERIVED. What the functions compute, and that they do. -/
import Derived.Test.YtaebdcandpfmgaaGreatEe

set_option linter.all false
set_option linter.unusedVariables false
set_option linter.unusedSimpArgs false

namespace Go.Ev
open Go Go.Proofs Go.RowKit Go.Shelf
def f80 (n : Nat) (a0 : LN) (a1 : Int) : Option Int :=
 bif (decide ((W (a1 - (a0.length : Int))) < 0)) then
  some (-1)
 else
  some (W (a1 - (a0.length : Int)))
def Axh (n : Nat) : Ent := ⟨80, [hNs, hI], [hI], fun x => f80 n x.1 x.2⟩
def B7w (α : Type) (n : Nat) : D3 α := { reg := [], join := [], loop := [] }
theorem B3n (n : Nat) : (Axh n).Sound PP := Ar (fn := Tryz.f80) (D := B7w _ n) trivial 

def f29 (n : Nat) (a0 : LN) (a1 : Int) : Option Int :=
 ob (f80 n a0 a1) fun r_1 =>
 bif (decide (r_1 < 0)) then
  some (-1)
 else
  some r_1
def Axq (n : Nat) : Ent := ⟨29, [hE, hI], [hI], fun x => f29 n x.1 x.2⟩
def B8f (α : Type) (n : Nat) : D3 α := { reg := [(1, ⟨0, [], [(3, { ent := some (Axh n) })]⟩)], join := [], loop := [] }
theorem B49 (n : Nat) : (Axq n).Sound PP := Ar (fn := Tryz.f29) (D := B8f _ n) ⟨B3n n, trivial⟩ 

def f137 (n : Nat) (a0 : LI) (a1 : Int) : Option Int :=
 bif (decide ((W (a1 - (a0.length : Int))) < 0)) then
  some (-1)
 else
  some (W (a1 - (a0.length : Int)))
def Ae8 (n : Nat) : Ent := ⟨137, [hIs, hI], [hI], fun x => f137 n x.1 x.2⟩
def B6g (α : Type) (n : Nat) : D3 α := { reg := [], join := [], loop := [] }
theorem Aii (n : Nat) : (Ae8 n).Sound PP := Ar (fn := Tryz.f137) (D := B6g _ n) trivial 

def f81 (n : Nat) (a0 : Rq) (a1 : Int) : Option Int :=
 ob (f137 n a0.2.1 a1) fun r_1 =>
 bif (decide (r_1 < 0)) then
  some (-1)
 else
  ob (f137 n a0.2.2 r_1) fun r_2 =>
  bif (decide (r_2 < 0)) then
   some (-1)
  else
   some r_2
def Axg (n : Nat) : Ent := ⟨81, [hR, hI], [hI], fun x => f81 n x.1 x.2⟩
def B7v (α : Type) (n : Nat) : D3 α := { reg := [(1, ⟨0, [], [(3, { ent := some (Ae8 n) })]⟩), (4, ⟨0, [], [(3, { ent := some (Ae8 n) })]⟩)], join := [], loop := [] }
theorem B3l (n : Nat) : (Axg n).Sound PP := Ar (fn := Tryz.f81) (D := B7v _ n) ⟨Aii n, Aii n, trivial⟩ 

def A60 {α : Type} (n : Nat) (s0 : LR) (s1 s5 : Int) (f : LR -> Int -> Int -> Option α) (k0 k1 : Int -> Option α) : Option α :=
 bif (decide (s5 < (s0.length : Int))) then
  gd (decide (0 <= s5) && decide (s5 < (s0.length : Int))) (
   let x_1 := s0.getD s5.toNat (false, [], [])
   ob (f81 n x_1 s1) fun r_2 =>
   bif (decide (r_2 < 0)) then
    k0 (-1)
   else
    f s0 r_2 (W (s5 + 1)))
 else
  k1 s1
abbrev Wn : Tm := ⟨[(0, .d hRs), (1, .d hI), (5, .d hI)], [], [], []⟩
abbrev Avr : Tm := ⟨[(4, .d hI)], [], [], []⟩
abbrev Avq : Tm := ⟨[(1, .d hI)], [], [], []⟩
abbrev A5z : List (Exit × Tm) := [(.ret, Avr), (.exit 0, Avq)]
def A5y {α : Type} (n : Nat) (v : Wn.den) (f : Wn.den -> Option α) (ks : KS α A5z) : Option α := A60 n v.1.1 v.1.2.1 v.1.2.2.1 (fun s0 s1 s5 => f ((s0, s1, s5, ()), ())) (fun w0 => ks.1 ((w0, ()), ())) (fun w0 => ks.2.1 ((w0, ()), ()))
def A38 {α : Type} (n m : Nat) (s0 : LR) (s1 s5 : Int) (k0 k1 : Int -> Option α) : Option α := A5 (A5y n) m ((s0, s1, s5, ()), ()) (fun w => k0 w.1.1, fun w => k1 w.1.1, ())
theorem Avp {α n m s0 s1 s5 k0 k1} : A38 (α := α) n (m + 1) s0 s1 s5 k0 k1 = A60 n s0 s1 s5 (fun s0 s1 s5 => A38 n m s0 s1 s5 k0 k1) k0 k1 := rfl
def f30 (n : Nat) (a0 : LR) (a1 : Int) : Option Int :=
 bif (decide ((W (a1 - (a0.length : Int))) < 0)) then
  some (-1)
 else
  A38 n n a0 (W (a1 - (a0.length : Int))) 0
   (fun z_3 => (
    some z_3))
   (fun z_4 => (
    some z_4))
def Axp (n : Nat) : Ent := ⟨30, [hRs, hI], [hI], fun x => f30 n x.1 x.2⟩
def Akj (α : Type) (n : Nat) : D3 α := { reg := [(7, ⟨0, [], [(5, { ent := some (Axg n) })]⟩)], join := [], loop := [(5, ⟨Wn, A5z, A5 (A5y n) n⟩)] }
theorem Acx (α : Type) (n : Nat) : Al PP (Ah (Akj α n).reg) := ⟨B3l n, trivial⟩
theorem Ap4 (α : Type) (n : Nat) : LO.Sound (α := α) PP ⟨27, []⟩ ⟨Wn, A5z, A5 (A5y n) n⟩ (.loop ((A1 Tryz.f30).at [1, 1, 1, 0, 1, 0, 0])) := Bf (D := Akj α n) (Acx α n) n
theorem B8e (α : Type) (n : Nat) : D3.OK PP TT ⟨27, []⟩ (Akj α n) (A1 Tryz.f30) :=
 D3.OK.mk3 (Acx α n) (show Aa (A1 Tryz.f30) = [(5, (.loop ((A1 Tryz.f30).at [1, 1, 1, 0, 1, 0, 0])))] by kernel_rfl) ⟨Ab rfl (Ap4 α n), trivial⟩
theorem B47 (n : Nat) : (Axp n).Sound PP := fk (fn := Tryz.f30) (B8e _ n) 

def f138 (n : Nat) (a0 : Nq) : Option Nq :=
 some a0
def Ae7 (n : Nat) : Ent := ⟨138, [hN], [hN], fun x => f138 n x⟩
def B6f (α : Type) (n : Nat) : D3 α := { reg := [], join := [], loop := [] }
theorem Aih (n : Nat) : (Ae7 n).Sound PP := Ar (fn := Tryz.f138) (D := B6f _ n) trivial 

def Wg {α : Type} (n : Nat) (s0 : LN) (s4 : Int) (b7 : LN) (f : LN -> Int -> LN -> Option α) (k0 : LN -> Option α) : Option α :=
 bif (decide (s4 < (s0.length : Int))) then
  gd (decide (0 <= s4) && decide (s4 < (s0.length : Int))) (
   let x_1 := s0.getD s4.toNat (0, 0, 0, 0)
   ob (f138 n x_1) fun r_2 =>
   gd (decide (0 <= s4) && decide (s4 < (b7.length : Int))) (
    gd (decide (s4.toNat < b7.length)) (
     f s0 (W (s4 + 1)) (b7.set s4.toNat r_2))))
 else
  k0 b7
abbrev Wf : Tm := ⟨[(0, .d hNs), (3, .k (.hw 7)), (4, .d hI)], [(7, .arr 125 hN false)], [], []⟩
abbrev Av8 : Tm := ⟨[(3, .k (.hw 7))], [(7, .arr 125 hN false)], [], []⟩
abbrev A5j : List (Exit × Tm) := [(.exit 0, Av8)]
def A5i {α : Type} (n : Nat) (v : Wf.den) (f : Wf.den -> Option α) (ks : KS α A5j) : Option α := Wg n v.1.1 v.1.2.2.1 v.2.1 (fun s0 s4 b7 => f ((s0, (), s4, ()), (b7, ()))) (fun w0 => ks.1 (((), ()), (w0, ())))
def U9 {α : Type} (n m : Nat) (s0 : LN) (s4 : Int) (b7 : LN) (k0 : LN -> Option α) : Option α := A5 (A5i n) m ((s0, (), s4, ()), (b7, ())) (fun w => k0 w.2.1, ())
theorem Acd {α n m s0 s4 b7 k0} : U9 (α := α) n (m + 1) s0 s4 b7 k0 = Wg n s0 s4 b7 (fun s0 s4 b7 => U9 n m s0 s4 b7 k0) k0 := rfl
def f82 (n : Nat) (a0 : LN) : Option LN :=
 gd (decide (0 <= (a0.length : Int)) && decide ((a0.length : Int) <= 4611686018427387904) && decide ((32 : Int) * (a0.length : Int) <= 281474976710656)) (
  U9 n n a0 0 (List.replicate ((a0.length : Int).toNat) (0, 0, 0, 0))
   (fun z_3 => (
    some z_3)))
def Axf (n : Nat) : Ent := ⟨82, [hNs], [hNs], fun x => f82 n x⟩
def Ak4 (α : Type) (n : Nat) : D3 α := { reg := [(5, ⟨0, [], [(6, { ent := some (Ae7 n) })]⟩)], join := [], loop := [(3, ⟨Wf, A5j, A5 (A5i n) n⟩)] }
theorem Acc (α : Type) (n : Nat) : Al PP (Ah (Ak4 α n).reg) := ⟨Aih n, trivial⟩
theorem Aoj (α : Type) (n : Nat) : LO.Sound (α := α) PP ⟨23, []⟩ ⟨Wf, A5j, A5 (A5i n) n⟩ (.loop ((A1 Tryz.f82).at [1, 1, 0, 1, 0, 0])) := Bf (D := Ak4 α n) (Acc α n) n
theorem B7u (α : Type) (n : Nat) : D3.OK PP TT ⟨23, []⟩ (Ak4 α n) (A1 Tryz.f82) :=
 D3.OK.mk3 (Acc α n) (show Aa (A1 Tryz.f82) = [(3, (.loop ((A1 Tryz.f82).at [1, 1, 0, 1, 0, 0])))] by kernel_rfl) ⟨Ab rfl (Aoj α n), trivial⟩
theorem B3j (n : Nat) : (Axf n).Sound PP := fk (fn := Tryz.f82) (B7u _ n) 

def f31 (n : Nat) (a0 : LN) : Option LN :=
 ob (f82 n a0) fun r_1 =>
 some r_1
def Aad (n : Nat) : Ent := ⟨31, [hE], [hE], fun x => f31 n x⟩
def B8d (α : Type) (n : Nat) : D3 α := { reg := [(2, ⟨0, [], [(2, { ent := some (Axf n) })]⟩)], join := [], loop := [] }
theorem Acv (n : Nat) : (Aad n).Sound PP := Ar (fn := Tryz.f31) (D := B8d _ n) ⟨B3j n, trivial⟩ 

def A1f {α : Type} (n : Nat) (s0 : LI) (s4 : Int) (b7 : LI) (f : LI -> Int -> LI -> Option α) (k0 : LI -> Option α) : Option α :=
 bif (decide (s4 < (s0.length : Int))) then
  gd (decide (0 <= s4) && decide (s4 < (s0.length : Int))) (
   gd (decide (0 <= s4) && decide (s4 < (b7.length : Int))) (
    gd (decide (s4.toNat < b7.length)) (
     f s0 (W (s4 + 1)) (b7.set s4.toNat (s0.getD s4.toNat 0)))))
 else
  k0 b7
abbrev Rg : Tm := ⟨[(0, .d hIs), (3, .k (.hw 7)), (4, .d hI)], [(7, .arr 3 hI false)], [], []⟩
abbrev Arw : Tm := ⟨[(3, .k (.hw 7))], [(7, .arr 3 hI false)], [], []⟩
abbrev A1e : List (Exit × Tm) := [(.exit 0, Arw)]
def A1d {α : Type} (n : Nat) (v : Rg.den) (f : Rg.den -> Option α) (ks : KS α A1e) : Option α := A1f n v.1.1 v.1.2.2.1 v.2.1 (fun s0 s4 b7 => f ((s0, (), s4, ()), (b7, ()))) (fun w0 => ks.1 (((), ()), (w0, ())))
def X6 {α : Type} (n m : Nat) (s0 : LI) (s4 : Int) (b7 : LI) (k0 : LI -> Option α) : Option α := A5 (A1d n) m ((s0, (), s4, ()), (b7, ())) (fun w => k0 w.2.1, ())
theorem Arv {α n m s0 s4 b7 k0} : X6 (α := α) n (m + 1) s0 s4 b7 k0 = A1f n s0 s4 b7 (fun s0 s4 b7 => X6 n m s0 s4 b7 k0) k0 := rfl
def f139 (n : Nat) (a0 : LI) : Option LI :=
 gd (decide (0 <= (a0.length : Int)) && decide ((a0.length : Int) <= 4611686018427387904) && decide ((8 : Int) * (a0.length : Int) <= 281474976710656)) (
  X6 n n a0 0 (List.replicate ((a0.length : Int).toNat) 0)
   (fun z_1 => (
    some z_1)))
def Ae3 (n : Nat) : Ent := ⟨139, [hIs], [hIs], fun x => f139 n x⟩
def Ae4 (α : Type) (n : Nat) : D3 α := { reg := [], join := [], loop := [(3, ⟨Rg, A1e, A5 (A1d n) n⟩)] }
theorem A8z (α : Type) (n : Nat) : Al PP (Ah (Ae4 α n).reg) := trivial
theorem Alq (α : Type) (n : Nat) : LO.Sound (α := α) PP ⟨22, []⟩ ⟨Rg, A1e, A5 (A1d n) n⟩ (.loop ((A1 Tryz.f139).at [1, 1, 0, 1, 0, 0])) := Bf (D := Ae4 α n) (A8z α n) n
theorem B6e (α : Type) (n : Nat) : D3.OK PP TT ⟨22, []⟩ (Ae4 α n) (A1 Tryz.f139) :=
 D3.OK.mk3 (A8z α n) (show Aa (A1 Tryz.f139) = [(3, (.loop ((A1 Tryz.f139).at [1, 1, 0, 1, 0, 0])))] by kernel_rfl) ⟨Ab rfl (Alq α n), trivial⟩
theorem Aif (n : Nat) : (Ae3 n).Sound PP := fk (fn := Tryz.f139) (B6e _ n) 

def f83 (n : Nat) (a0 : Rq) : Option Rq :=
 ob (f139 n a0.2.1) fun r_1 =>
 ob (f139 n a0.2.2) fun r_2 =>
 some (a0.1, r_1, r_2)
def Axe (n : Nat) : Ent := ⟨83, [hR], [hR], fun x => f83 n x⟩
def B7t (α : Type) (n : Nat) : D3 α := { reg := [(3, ⟨0, [], [(2, { ent := some (Ae3 n) })]⟩), (4, ⟨0, [], [(2, { ent := some (Ae3 n) })]⟩)], join := [], loop := [] }
theorem B3g (n : Nat) : (Axe n).Sound PP := Ar (fn := Tryz.f83) (D := B7t _ n) ⟨Aif n, Aif n, trivial⟩ 

def A5x {α : Type} (n : Nat) (s0 : LR) (s4 : Int) (b7 : LR) (f : LR -> Int -> LR -> Option α) (k0 : LR -> Option α) : Option α :=
 bif (decide (s4 < (s0.length : Int))) then
  gd (decide (0 <= s4) && decide (s4 < (s0.length : Int))) (
   let x_1 := s0.getD s4.toNat (false, [], [])
   ob (f83 n x_1) fun r_2 =>
   gd (decide (0 <= s4) && decide (s4 < (b7.length : Int))) (
    gd (decide (s4.toNat < b7.length)) (
     f s0 (W (s4 + 1)) (b7.set s4.toNat r_2))))
 else
  k0 b7
abbrev Wl : Tm := ⟨[(0, .d hRs), (3, .k (.hw 7)), (4, .d hI)], [(7, .arr 31 hR false)], [], []⟩
abbrev Avo : Tm := ⟨[(3, .k (.hw 7))], [(7, .arr 31 hR false)], [], []⟩
abbrev A5w : List (Exit × Tm) := [(.exit 0, Avo)]
def A5v {α : Type} (n : Nat) (v : Wl.den) (f : Wl.den -> Option α) (ks : KS α A5w) : Option α := A5x n v.1.1 v.1.2.2.1 v.2.1 (fun s0 s4 b7 => f ((s0, (), s4, ()), (b7, ()))) (fun w0 => ks.1 (((), ()), (w0, ())))
def A37 {α : Type} (n m : Nat) (s0 : LR) (s4 : Int) (b7 : LR) (k0 : LR -> Option α) : Option α := A5 (A5v n) m ((s0, (), s4, ()), (b7, ())) (fun w => k0 w.2.1, ())
theorem Avn {α n m s0 s4 b7 k0} : A37 (α := α) n (m + 1) s0 s4 b7 k0 = A5x n s0 s4 b7 (fun s0 s4 b7 => A37 n m s0 s4 b7 k0) k0 := rfl
def f32 (n : Nat) (a0 : LR) : Option LR :=
 gd (decide (0 <= (a0.length : Int)) && decide ((a0.length : Int) <= 4611686018427387904) && decide ((56 : Int) * (a0.length : Int) <= 281474976710656)) (
  A37 n n a0 0 (List.replicate ((a0.length : Int).toNat) (false, [], []))
   (fun z_3 => (
    some z_3)))
def Aac (n : Nat) : Ent := ⟨32, [hRs], [hRs], fun x => f32 n x⟩
def Akf (α : Type) (n : Nat) : D3 α := { reg := [(5, ⟨0, [], [(6, { ent := some (Axe n) })]⟩)], join := [], loop := [(3, ⟨Wl, A5w, A5 (A5v n) n⟩)] }
theorem Acs (α : Type) (n : Nat) : Al PP (Ah (Akf α n).reg) := ⟨B3g n, trivial⟩
theorem Aoz (α : Type) (n : Nat) : LO.Sound (α := α) PP ⟨23, []⟩ ⟨Wl, A5w, A5 (A5v n) n⟩ (.loop ((A1 Tryz.f32).at [1, 1, 0, 1, 0, 0])) := Bf (D := Akf α n) (Acs α n) n
theorem B8c (α : Type) (n : Nat) : D3.OK PP TT ⟨23, []⟩ (Akf α n) (A1 Tryz.f32) :=
 D3.OK.mk3 (Acs α n) (show Aa (A1 Tryz.f32) = [(3, (.loop ((A1 Tryz.f32).at [1, 1, 0, 1, 0, 0])))] by kernel_rfl) ⟨Ab rfl (Aoz α n), trivial⟩
theorem Acq (n : Nat) : (Aac n).Sound PP := fk (fn := Tryz.f32) (B8c _ n) 

def f174 (n : Nat) (a0 a1 a2 : Int) : Option Bool :=
 bif (decide (a1 <= a0)) then
  some (decide (a0 <= a2))
 else
  some false
def Fj (n : Nat) : Ent := ⟨174, [hI, hI, hI], [.bool], fun x => f174 n x.1 x.2.1 x.2.2⟩
def B5p (α : Type) (n : Nat) : D3 α := { reg := [], join := [], loop := [] }
theorem F5 (n : Nat) : (Fj n).Sound PP := Ar (fn := Tryz.f174) (D := B5p _ n) trivial 

def f155 (n : Nat) (a0 : Int) : Option Bool :=
 ob (f174 n a0 3 6) fun r_1 =>
 some r_1
def A3q (n : Nat) : Ent := ⟨155, [hI], [.bool], fun x => f155 n x⟩
def B5z (α : Type) (n : Nat) : D3 α := { reg := [(1, ⟨0, [], [(1, { ent := some (Fj n) })]⟩)], join := [], loop := [] }
theorem A6e (n : Nat) : (A3q n).Sound PP := Ar (fn := Tryz.f155) (D := B5z _ n) ⟨F5 n, trivial⟩ 

def f156 (n : Nat) (a0 : Int) : Option Bool :=
 bif (a0 == 7) then
  some true
 else
  some (a0 == 8)
def A3p (n : Nat) : Ent := ⟨156, [hI], [.bool], fun x => f156 n x⟩
def B5y (α : Type) (n : Nat) : D3 α := { reg := [], join := [], loop := [] }
theorem A6c (n : Nat) : (A3p n).Sound PP := Ar (fn := Tryz.f156) (D := B5y _ n) trivial 

def f170 (n : Nat) (a0 : Bool) : Option Int :=
 bif a0 then
  some 1
 else
  some 0
def Uy (n : Nat) : Ent := ⟨170, [.bool], [hI], fun x => f170 n x⟩
def B5r (α : Type) (n : Nat) : D3 α := { reg := [], join := [], loop := [] }
theorem X4 (n : Nat) : (Uy n).Sound PP := Ar (fn := Tryz.f170) (D := B5r _ n) trivial 

def f175 (n : Nat) (a0 : Nq) (a1 : Int) : Option Bool :=
 ob (f174 n a0.1 1 8) fun r_1 =>
 bif (!r_1) then
  some false
 else
  ob (f155 n a0.1) fun r_2 =>
  bif r_2 then
   ob (f174 n a0.2.1 0 (W (a1 - 1))) fun r_3 =>
   bif r_3 then
    ob (f174 n a0.2.2.1 (W (a0.2.1 + 1)) (W (a1 - 1))) fun r_4 =>
    bif r_4 then
     some (a0.2.2.2 == 0)
    else
     some false
   else
    some false
  else
   ob (f156 n a0.1) fun r_5 =>
   bif r_5 then
    bif (a0.2.1 == (W (a1 - 1))) then
     bif (decide (a1 > 0)) then
      bif (a0.2.2.1 == 0) then
       ob (f170 n (a0.1 == 8)) fun r_6 =>
       ob (f174 n a0.2.2.2 0 (W (8 * r_6))) fun r_7 =>
       some r_7
      else
       some false
     else
      some false
    else
     some false
   else
    bif (a0.1 == 2) then
     bif (a0.2.1 == 0) then
      bif (a0.2.2.1 == 0) then
       ob (f174 n a0.2.2.2 0 3) fun r_8 =>
       some r_8
      else
       some false
     else
      some false
    else
     bif (a0.2.1 == 0) then
      bif (a0.2.2.1 == 0) then
       ob (f174 n a0.2.2.2 0 999999999) fun r_9 =>
       some r_9
      else
       some false
     else
      some false
def Ari (n : Nat) : Ent := ⟨175, [hN, hI], [.bool], fun x => f175 n x.1 x.2⟩
def B5o (α : Type) (n : Nat) : D3 α := { reg := [(1, ⟨0, [], [(2, { ent := some (Fj n) })]⟩), (3, ⟨0, [], [(2, { ent := some (A3q n) })]⟩), (4, ⟨0, [], [(4, { ent := some (Fj n) }), (13, { ent := some (Fj n) })]⟩), (5, ⟨0, [], [(2, { ent := some (A3p n) })]⟩), (6, ⟨22, [], [(20, { ent := some (Uy n) }), (22, { ent := some (Fj n) })]⟩), (8, ⟨0, [], [(11, { ent := some (Fj n) })]⟩), (9, ⟨0, [], [(11, { ent := some (Fj n) })]⟩)], join := [], loop := [] }
theorem B0z (n : Nat) : (Ari n).Sound PP := Ar (fn := Tryz.f175) (D := B5o _ n) ⟨F5 n, A6e n, F5 n, F5 n, A6c n, X4 n, F5 n, F5 n, F5 n, trivial⟩ 

def A1c {α : Type} (n : Nat) (s1 : Int) (c2_0 : LN) (c5_0 c5_1 c5_2 c5_3 : Int) (f : Int -> LN -> Int -> Int -> Int -> Int -> Option α) (k0 : Int -> Option α) : Option α :=
 let J_5 := fun (_ : Unit) => (
  gd (decide (0 <= c5_1) && decide (c5_1 < (c2_0.length : Int))) (
   let x_4 := c2_0.getD c5_1.toNat (0, 0, 0, 0)
   f c5_1 c2_0 x_4.1 x_4.2.1 x_4.2.2.1 x_4.2.2.2))
 ob (f155 n c5_0) fun r_2 =>
 bif r_2 then
  J_5 ()
 else
  ob (f156 n c5_0) fun r_3 =>
  bif r_3 then
   J_5 ()
  else
   k0 s1
abbrev Rf : Tm := ⟨[(1, .d hI), (2, .k (.hp 2 0 0)), (5, .k (.hp 5 0 0))], [(2, .var 25 true false [.d hNs]), (5, .var 125 true false [.d hI, .d hI, .d hI, .d hI])], [], []⟩
abbrev Arh : Tm := ⟨[(1, .d hI)], [], [2, 5], []⟩
abbrev A1b : List (Exit × Tm) := [(.exit 0, Arh)]
def A1a {α : Type} (n : Nat) (v : Rf.den) (f : Rf.den -> Option α) (ks : KS α A1b) : Option α := A1c n v.1.1 v.2.1.1 v.2.2.1.1 v.2.2.1.2.1 v.2.2.1.2.2.1 v.2.2.1.2.2.2.1 (fun s1 c2_0 c5_0 c5_1 c5_2 c5_3 => f ((s1, (), (), ()), ((c2_0, ()), (c5_0, c5_1, c5_2, c5_3, ()), ()))) (fun w0 => ks.1 ((w0, ()), ()))
def X3 {α : Type} (n m : Nat) (s1 : Int) (c2_0 : LN) (c5_0 c5_1 c5_2 c5_3 : Int) (k0 : Int -> Option α) : Option α := A5 (A1a n) m ((s1, (), (), ()), ((c2_0, ()), (c5_0, c5_1, c5_2, c5_3, ()), ())) (fun w => k0 w.1.1, ())
theorem Arg {α n m s1 c2_0 c5_0 c5_1 c5_2 c5_3 k0} : X3 (α := α) n (m + 1) s1 c2_0 c5_0 c5_1 c5_2 c5_3 k0 = A1c n s1 c2_0 c5_0 c5_1 c5_2 c5_3 (fun s1 c2_0 c5_0 c5_1 c5_2 c5_3 => X3 n m s1 c2_0 c5_0 c5_1 c5_2 c5_3 k0) k0 := rfl
abbrev B0y : Tm := ⟨[(2, .k (.hp 2 0 0)), (5, .k (.hp 5 0 0))], [(2, .var 25 true false [.d hNs]), (5, .var 125 true false [.d hI, .d hI, .d hI, .d hI])], [], []⟩
def f176 (n : Nat) (a0 : LN) (a1 : Int) : Option Int :=
 gd (decide (0 <= a1) && decide (a1 < (a0.length : Int))) (
  let x_1 := a0.getD a1.toNat (0, 0, 0, 0)
  X3 n n a1 a0 x_1.1 x_1.2.1 x_1.2.2.1 x_1.2.2.2
   (fun z_6 => (
    some z_6)))
def Ady (n : Nat) : Ent := ⟨176, [hE, hI], [hI], fun x => f176 n x.1 x.2⟩
def Adz (α : Type) (n : Nat) : D3 α := { reg := [(2, ⟨0, [], [(2, { ent := some (A3q n) }), (6, { ent := some (A3p n) })]⟩)], join := [(3, B0y)], loop := [(2, ⟨Rf, A1b, A5 (A1a n) n⟩)] }
theorem A8x (α : Type) (n : Nat) : Al PP (Ah (Adz α n).reg) := ⟨A6e n, A6c n, trivial⟩
theorem Alo (α : Type) (n : Nat) : LO.Sound (α := α) PP ⟨27, []⟩ ⟨Rf, A1b, A5 (A1a n) n⟩ (.loop ((A1 Tryz.f176).at [1, 1, 0, 0, 0])) := Bf (D := Adz α n) (A8x α n) n
theorem B5n (α : Type) (n : Nat) : D3.OK PP TT ⟨27, []⟩ (Adz α n) (A1 Tryz.f176) :=
 D3.OK.mk3 (A8x α n) (show Aa (A1 Tryz.f176) = [(2, (.loop ((A1 Tryz.f176).at [1, 1, 0, 0, 0])))] by kernel_rfl) ⟨Ab rfl (Alo α n), trivial⟩
theorem Ai7 (n : Nat) : (Ady n).Sound PP := fk (fn := Tryz.f176) (B5n _ n) 

def Mi {α : Type} (n : Nat) (s4 : Int) (c1_0 : LN) (b12 : LI) (f : Int -> LN -> LI -> Option α) (k0 : Bool -> Option α) (k1 : LN -> Option α) : Option α :=
 bif (decide (s4 < (c1_0.length : Int))) then
  gd (decide (0 <= s4) && decide (s4 < (c1_0.length : Int))) (
   let x_2 := c1_0.getD s4.toNat (0, 0, 0, 0)
   ob (f175 n x_2 s4) fun r_3 =>
   bif (!r_3) then
    k0 false
   else
    let J_10 := fun (y_6 : Int) => (
     let J_9 := fun (y_8 : Int) => (
      bif (decide (y_8 > 12)) then
       k0 false
      else
       gd (decide ((b12.length + 1) * 8 <= 140737488355328)) (
        f (W (s4 + 1)) c1_0 (b12 ++ [y_8])))
     ob (f156 n x_2.1) fun r_7 =>
     bif r_7 then
      gd (decide (0 <= x_2.2.1) && decide (x_2.2.1 < (b12.length : Int))) (
       gd (decide (x_2.2.1.toNat < b12.length)) (
        J_9 (W (1 + (b12.getD x_2.2.1.toNat 0)))))
     else
      J_9 y_6)
    ob (f155 n x_2.1) fun r_4 =>
    bif r_4 then
     bif (x_2.2.2.1 != (W (s4 - 1))) then
      k0 false
     else
      ob (f176 n c1_0 x_2.2.2.1) fun r_5 =>
      bif (r_5 != (W (x_2.2.1 + 1))) then
       k0 false
      else
       gd (decide (0 <= x_2.2.1) && decide (x_2.2.1 < (b12.length : Int))) (
        gd (decide (x_2.2.1.toNat < b12.length)) (
         gd (decide (0 <= x_2.2.2.1) && decide (x_2.2.2.1 < (b12.length : Int))) (
          gd (decide (x_2.2.2.1.toNat < b12.length)) (
           J_10 (W (1 + (max (b12.getD x_2.2.1.toNat 0) (b12.getD x_2.2.2.1.toNat 0))))))))
    else
     J_10 1)
 else
  k1 c1_0
abbrev Rn : Tm := ⟨[(1, .k (.hp 1 0 0)), (3, .k (.hw 12)), (4, .d hI)], [(1, .var 25 true false [.d hNs]), (12, .arr 3 hI false)], [72], []⟩
abbrev Asa : Tm := ⟨[(2, .d .bool)], [], [1, 5, 12], []⟩
abbrev As9 : Tm := ⟨[(1, .k (.hp 1 0 0))], [(1, .var 25 true false [.d hNs])], [12], []⟩
abbrev A1r : List (Exit × Tm) := [(.ret, Asa), (.exit 0, As9)]
def A1q {α : Type} (n : Nat) (v : Rn.den) (f : Rn.den -> Option α) (ks : KS α A1r) : Option α := Mi n v.1.2.2.1 v.2.1.1 v.2.2.1 (fun s4 c1_0 b12 => f (((), (), s4, ()), ((c1_0, ()), b12, ()))) (fun w0 => ks.1 ((w0, ()), ())) (fun w0 => ks.2.1 (((), ()), ((w0, ()), ())))
def X9 {α : Type} (n m : Nat) (s4 : Int) (c1_0 : LN) (b12 : LI) (k0 : Bool -> Option α) (k1 : LN -> Option α) : Option α := A5 (A1q n) m (((), (), s4, ()), ((c1_0, ()), b12, ())) (fun w => k0 w.1.1, fun w => k1 w.2.1.1, ())
theorem A96 {α n m s4 c1_0 b12 k0 k1} : X9 (α := α) n (m + 1) s4 c1_0 b12 k0 k1 = Mi n s4 c1_0 b12 (fun s4 c1_0 b12 => X9 n m s4 c1_0 b12 k0 k1) k0 k1 := rfl
abbrev Aw9 : Tm := ⟨[(1, .k (.hp 1 0 0)), (3, .k (.hw 12)), (4, .d hI), (5, .k (.hp 5 0 0)), (6, .d hI)], [(1, .var 25 true false [.d hNs]), (5, .var 125 true false [.d hI, .d hI, .d hI, .d hI]), (12, .arr 3 hI false)], [], []⟩
abbrev Aw8 : Tm := ⟨[(1, .k (.hp 1 0 0)), (3, .k (.hw 12)), (4, .d hI), (6, .d hI)], [(1, .var 25 true false [.d hNs]), (12, .arr 3 hI false)], [5], []⟩
def f118 (n : Nat) (a0 : LN) : Option Bool :=
 ob (f174 n (a0.length : Int) 1 60) fun r_1 =>
 bif (!r_1) then
  some false
 else
  X9 n n 0 a0 []
   (fun z_11 => (
    some z_11))
   (fun z_12 => (
    ob (f176 n z_12 (W ((z_12.length : Int) - 1))) fun r_13 =>
    some (r_13 == 0)))
def Asb (n : Nat) : Ent := ⟨118, [hE], [.bool], fun x => f118 n x⟩
def Aec (α : Type) (n : Nat) : D3 α := { reg := [(1, ⟨0, [], [(3, { ent := some (Fj n) })]⟩), (3, ⟨0, [], [(0, { sh := some hI })]⟩), (8, ⟨0, [], [(2, { ent := some (Ari n) })]⟩), (11, ⟨0, [], [(2, { ent := some (A3q n) })]⟩), (12, ⟨13, [], [(9, { ent := some (Ady n) })]⟩), (14, ⟨10, [], []⟩), (15, ⟨0, [], [(2, { ent := some (A3p n) })]⟩), (19, ⟨0, [], [(2, { sh := some hI })]⟩), (20, ⟨0, [], [(5, { ent := some (Ady n) })]⟩)], join := [(15, Aw9), (17, Aw8)], loop := [(5, ⟨Rn, A1r, A5 (A1q n) n⟩)] }
theorem A95 (α : Type) (n : Nat) : Al PP (Ah (Aec α n).reg) := ⟨F5 n, B0z n, A6e n, Ai7 n, A6c n, Ai7 n, trivial⟩
theorem Aly (α : Type) (n : Nat) : LO.Sound (α := α) PP ⟨81, []⟩ ⟨Rn, A1r, A5 (A1q n) n⟩ (.loop ((A1 Tryz.f118).at [1, 1, 1, 0, 1, 0, 0])) := Bf (D := Aec α n) (A95 α n) n
theorem B6o (α : Type) (n : Nat) : D3.OK PP TT ⟨81, []⟩ (Aec α n) (A1 Tryz.f118) :=
 D3.OK.mk3 (A95 α n) (show Aa (A1 Tryz.f118) = [(5, (.loop ((A1 Tryz.f118).at [1, 1, 1, 0, 1, 0, 0])))] by kernel_rfl) ⟨Ab rfl (Aly α n), trivial⟩
theorem B1o (n : Nat) : (Asb n).Sound PP := fk (fn := Tryz.f118) (B6o _ n) 

def Zy {α : Type} (n : Nat) (s0 : LI) (s3 : Int) (f : LI -> Int -> Option α) (k0 : Bool -> Option α) (k1 : LI -> Option α) : Option α :=
 bif (decide (s3 < (s0.length : Int))) then
  gd (decide (0 <= s3) && decide (s3 < (s0.length : Int))) (
   ob (f174 n (s0.getD s3.toNat 0) 0 9999) fun r_1 =>
   bif (!r_1) then
    k0 false
   else
    f s0 (W (s3 + 1)))
 else
  k1 s0
abbrev Qs : Tm := ⟨[(0, .d hIs), (3, .d hI)], [], [], []⟩
abbrev Apr : Tm := ⟨[(2, .d .bool)], [], [], []⟩
abbrev Apq : Tm := ⟨[(0, .d hIs)], [], [], []⟩
abbrev Zx : List (Exit × Tm) := [(.ret, Apr), (.exit 0, Apq)]
def Zw {α : Type} (n : Nat) (v : Qs.den) (f : Qs.den -> Option α) (ks : KS α Zx) : Option α := Zy n v.1.1 v.1.2.1 (fun s0 s3 => f ((s0, s3, ()), ())) (fun w0 => ks.1 ((w0, ()), ())) (fun w0 => ks.2.1 ((w0, ()), ()))
def Ol {α : Type} (n m : Nat) (s0 : LI) (s3 : Int) (k0 : Bool -> Option α) (k1 : LI -> Option α) : Option α := A5 (Zw n) m ((s0, s3, ()), ()) (fun w => k0 w.1.1, fun w => k1 w.1.1, ())
theorem App {α n m s0 s3 k0 k1} : Ol (α := α) n (m + 1) s0 s3 k0 k1 = Zy n s0 s3 (fun s0 s3 => Ol n m s0 s3 k0 k1) k0 k1 := rfl
def f216 (n : Nat) (a0 : LI) : Option Bool :=
 bif (decide ((a0.length : Int) > 4096)) then
  some false
 else
  Ol n n a0 0
   (fun z_2 => (
    some z_2))
   (fun z_3 => (
    bif (decide ((z_3.length : Int) <= 40)) then
     bif ((z_3.length : Int) == 0) then
      some true
     else
      gd (decide (0 <= (W ((z_3.length : Int) - 1))) && decide ((W ((z_3.length : Int) - 1)) < (z_3.length : Int))) (
       some (decide ((z_3.getD ((W ((z_3.length : Int) - 1)).toNat) 0) > 0)))
    else
     some false))
def Adf (n : Nat) : Ent := ⟨216, [hIs], [.bool], fun x => f216 n x⟩
def Adg (α : Type) (n : Nat) : D3 α := { reg := [(6, ⟨0, [], [(4, { ent := some (Fj n) })]⟩)], join := [], loop := [(4, ⟨Qs, Zx, A5 (Zw n) n⟩)] }
theorem A8e (α : Type) (n : Nat) : Al PP (Ah (Adg α n).reg) := ⟨F5 n, trivial⟩
theorem Al0 (α : Type) (n : Nat) : LO.Sound (α := α) PP ⟨36, []⟩ ⟨Qs, Zx, A5 (Zw n) n⟩ (.loop ((A1 Tryz.f216).at [1, 1, 0, 1, 0, 0])) := Bf (D := Adg α n) (A8e α n) n
theorem B4r (α : Type) (n : Nat) : D3.OK PP TT ⟨36, []⟩ (Adg α n) (A1 Tryz.f216) :=
 D3.OK.mk3 (A8e α n) (show Aa (A1 Tryz.f216) = [(4, (.loop ((A1 Tryz.f216).at [1, 1, 0, 1, 0, 0])))] by kernel_rfl) ⟨Ab rfl (Al0 α n), trivial⟩
theorem Aho (n : Nat) : (Adf n).Sound PP := fk (fn := Tryz.f216) (B4r _ n) 

def Zs {α : Type} (n : Nat) (s0 : LI) (s3 : Int) (f : LI -> Int -> Option α) (k0 : LI -> Int -> Option α) : Option α :=
 bif (decide (s3 > 0)) then
  gd (decide (0 <= (W (s3 - 1))) && decide ((W (s3 - 1)) < (s0.length : Int))) (
   bif ((s0.getD ((W (s3 - 1)).toNat) 0) == 0) then
    f s0 (W (s3 - 1))
   else
    k0 s0 s3)
 else
  k0 s0 s3
abbrev Qq : Tm := ⟨[(0, .d hIs), (3, .d hI)], [], [], []⟩
abbrev Apn : Tm := ⟨[(0, .d hIs), (3, .d hI)], [], [], []⟩
abbrev Zr : List (Exit × Tm) := [(.exit 0, Apn)]
def Zq {α : Type} (n : Nat) (v : Qq.den) (f : Qq.den -> Option α) (ks : KS α Zr) : Option α := Zs n v.1.1 v.1.2.1 (fun s0 s3 => f ((s0, s3, ()), ())) (fun w0 w1 => ks.1 ((w0, w1, ()), ()))
def Wr {α : Type} (n m : Nat) (s0 : LI) (s3 : Int) (k0 : LI -> Int -> Option α) : Option α := A5 (Zq n) m ((s0, s3, ()), ()) (fun w => k0 w.1.1 w.1.2.1, ())
theorem Apm {α n m s0 s3 k0} : Wr (α := α) n (m + 1) s0 s3 k0 = Zs n s0 s3 (fun s0 s3 => Wr n m s0 s3 k0) k0 := rfl
def f218 (n : Nat) (a0 : LI) : Option LI :=
 Wr n n a0 (a0.length : Int)
  (fun z_1 z_2 => (
   gd (decide (0 <= z_2) && decide (z_2 <= (z_1.length : Int))) (
    gd (decide ((0 + ((z_1.drop 0).take (z_2.toNat - 0)).length) * 8 <= 140737488355328)) (
     some ((z_1.drop 0).take (z_2.toNat - 0))))))
def Uq (n : Nat) : Ent := ⟨218, [hIs], [hIs], fun x => f218 n x⟩
def Adc (α : Type) (n : Nat) : D3 α := { reg := [(4, ⟨0, [], [(0, { sh := some hI })]⟩)], join := [], loop := [(2, ⟨Qq, Zr, A5 (Zq n) n⟩)] }
theorem A8a (α : Type) (n : Nat) : Al PP (Ah (Adc α n).reg) := trivial
theorem Aky (α : Type) (n : Nat) : LO.Sound (α := α) PP ⟨23, []⟩ ⟨Qq, Zr, A5 (Zq n) n⟩ (.loop ((A1 Tryz.f218).at [1, 1, 0, 0, 0])) := Bf (D := Adc α n) (A8a α n) n
theorem B4p (α : Type) (n : Nat) : D3.OK PP TT ⟨23, []⟩ (Adc α n) (A1 Tryz.f218) :=
 D3.OK.mk3 (A8a α n) (show Aa (A1 Tryz.f218) = [(2, (.loop ((A1 Tryz.f218).at [1, 1, 0, 0, 0])))] by kernel_rfl) ⟨Ab rfl (Aky α n), trivial⟩
theorem Wp (n : Nat) : (Uq n).Sound PP := fk (fn := Tryz.f218) (B4p _ n) 

def A0s {α : Type} (n : Nat) (s0 s1 : LI) (s5 : Int) (f : LI -> LI -> Int -> Option α) (k0 : Int -> Option α) (k1 : Unit -> Option α) : Option α :=
 bif (decide (s5 >= 0)) then
  gd (decide (0 <= s5) && decide (s5 < (s0.length : Int))) (
   gd (decide (0 <= s5) && decide (s5 < (s1.length : Int))) (
    bif ((s0.getD s5.toNat 0) != (s1.getD s5.toNat 0)) then
     gd (decide (0 <= s5) && decide (s5 < (s0.length : Int))) (
      gd (decide (0 <= s5) && decide (s5 < (s1.length : Int))) (
       ob (f170 n (decide ((s0.getD s5.toNat 0) > (s1.getD s5.toNat 0)))) fun r_2 =>
       k0 (W ((W (2 * r_2)) - 1))))
    else
     f s0 s1 (W (s5 - 1))))
 else
  k1 ()
abbrev R6 : Tm := ⟨[(0, .d hIs), (1, .d hIs), (5, .d hI)], [], [], []⟩
abbrev Ar2 : Tm := ⟨[(4, .d hI)], [], [], []⟩
abbrev Ar1 : Tm := ⟨[], [], [], []⟩
abbrev A0r : List (Exit × Tm) := [(.ret, Ar2), (.exit 0, Ar1)]
def A0q {α : Type} (n : Nat) (v : R6.den) (f : R6.den -> Option α) (ks : KS α A0r) : Option α := A0s n v.1.1 v.1.2.1 v.1.2.2.1 (fun s0 s1 s5 => f ((s0, s1, s5, ()), ())) (fun w0 => ks.1 ((w0, ()), ())) (fun _ => ks.2.1 ((), ()))
def Wx {α : Type} (n m : Nat) (s0 s1 : LI) (s5 : Int) (k0 : Int -> Option α) (k1 : Unit -> Option α) : Option α := A5 (A0q n) m ((s0, s1, s5, ()), ()) (fun w => k0 w.1.1, fun w => k1 (), ())
theorem Ar0 {α n m s0 s1 s5 k0 k1} : Wx (α := α) n (m + 1) s0 s1 s5 k0 k1 = A0s n s0 s1 s5 (fun s0 s1 s5 => Wx n m s0 s1 s5 k0 k1) k0 k1 := rfl
def f188 (n : Nat) (a0 a1 : LI) : Option Int :=
 bif ((a0.length : Int) != (a1.length : Int)) then
  ob (f170 n (decide ((a0.length : Int) > (a1.length : Int)))) fun r_1 =>
  some (W ((W (2 * r_1)) - 1))
 else
  Wx n n a0 a1 (W ((a0.length : Int) - 1))
   (fun z_3 => (
    some z_3))
   (fun (_ : Unit) => (
    some 0))
def Uv (n : Nat) : Ent := ⟨188, [hIs, hIs], [hI], fun x => f188 n x.1 x.2⟩
def Adu (α : Type) (n : Nat) : D3 α := { reg := [(2, ⟨0, [], [(5, { ent := some (Uy n) })]⟩), (6, ⟨8, [], []⟩), (7, ⟨8, [], [(9, { ent := some (Uy n) })]⟩)], join := [], loop := [(4, ⟨R6, A0r, A5 (A0q n) n⟩)] }
theorem A8t (α : Type) (n : Nat) : Al PP (Ah (Adu α n).reg) := ⟨X4 n, X4 n, trivial⟩
theorem Alg (α : Type) (n : Nat) : LO.Sound (α := α) PP ⟨47, []⟩ ⟨R6, A0r, A5 (A0q n) n⟩ (.loop ((A1 Tryz.f188).at [1, 1, 0, 1, 0, 0])) := Bf (D := Adu α n) (A8t α n) n
theorem B5d (α : Type) (n : Nat) : D3.OK PP TT ⟨47, []⟩ (Adu α n) (A1 Tryz.f188) :=
 D3.OK.mk3 (A8t α n) (show Aa (A1 Tryz.f188) = [(4, (.loop ((A1 Tryz.f188).at [1, 1, 0, 1, 0, 0])))] by kernel_rfl) ⟨Ab rfl (Alg α n), trivial⟩
theorem Ww (n : Nat) : (Uv n).Sound PP := fk (fn := Tryz.f188) (B5d _ n) 

def A16 {α : Type} (n : Nat) (s0 : Int) (b4 : LI) (f : Int -> LI -> Option α) (k0 : LI -> Option α) : Option α :=
 bif (decide (s0 > 0)) then
  gd (decide ((b4.length + 1) * 8 <= 140737488355328)) (
   f (W (Int.tdiv s0 10000)) (b4 ++ [(Int.tmod s0 10000)]))
 else
  k0 b4
abbrev Rd : Tm := ⟨[(0, .d hI), (3, .k (.hw 4))], [(4, .arr 3 hI false)], [10], []⟩
abbrev Arc : Tm := ⟨[(3, .k (.hw 4))], [(4, .arr 3 hI false)], [], []⟩
abbrev A15 : List (Exit × Tm) := [(.exit 0, Arc)]
def A14 {α : Type} (n : Nat) (v : Rd.den) (f : Rd.den -> Option α) (ks : KS α A15) : Option α := A16 n v.1.1 v.2.1 (fun s0 b4 => f ((s0, (), ()), (b4, ()))) (fun w0 => ks.1 (((), ()), (w0, ())))
def X1 {α : Type} (n m : Nat) (s0 : Int) (b4 : LI) (k0 : LI -> Option α) : Option α := A5 (A14 n) m ((s0, (), ()), (b4, ())) (fun w => k0 w.2.1, ())
theorem Arb {α n m s0 b4 k0} : X1 (α := α) n (m + 1) s0 b4 k0 = A16 n s0 b4 (fun s0 b4 => X1 n m s0 b4 k0) k0 := rfl
def f181 (n : Nat) (a0 : Int) : Option LI :=
 X1 n n a0 []
  (fun z_1 => (
   some z_1))
def Ux (n : Nat) : Ent := ⟨181, [hI], [hIs], fun x => f181 n x⟩
def Adw (α : Type) (n : Nat) : D3 α := { reg := [(1, ⟨0, [], [(0, { sh := some hI })]⟩), (3, ⟨0, [], [(3, { sh := some hI })]⟩)], join := [], loop := [(2, ⟨Rd, A15, A5 (A14 n) n⟩)] }
theorem A8v (α : Type) (n : Nat) : Al PP (Ah (Adw α n).reg) := trivial
theorem Alm (α : Type) (n : Nat) : LO.Sound (α := α) PP ⟨15, []⟩ ⟨Rd, A15, A5 (A14 n) n⟩ (.loop ((A1 Tryz.f181).at [1, 1, 0, 0, 0])) := Bf (D := Adw α n) (A8v α n) n
theorem B5i (α : Type) (n : Nat) : D3.OK PP TT ⟨15, []⟩ (Adw α n) (A1 Tryz.f181) :=
 D3.OK.mk3 (A8v α n) (show Aa (A1 Tryz.f181) = [(2, (.loop ((A1 Tryz.f181).at [1, 1, 0, 0, 0])))] by kernel_rfl) ⟨Ab rfl (Alm α n), trivial⟩
theorem Wz (n : Nat) : (Ux n).Sound PP := fk (fn := Tryz.f181) (B5i _ n) 

def A0y {α : Type} (n : Nat) (s0 s1 : LI) (s6 s7 s8 : Int) (b16 : LI) (f : LI -> LI -> Int -> Int -> Int -> LI -> Option α) (k0 : LI -> LI -> Int -> LI -> Option α) : Option α :=
 let J_3 := fun (_ : Unit) => (
  gd (decide (0 <= (W (s6 + s8))) && decide ((W (s6 + s8)) < (b16.length : Int))) (
   gd (decide ((W (s6 + s8)).toNat < b16.length)) (
    let J_2 := fun (y_1 : Int) => (
     gd (decide (0 <= (W (s6 + s8))) && decide ((W (s6 + s8)) < (b16.length : Int))) (
      gd (decide ((W (s6 + s8)).toNat < b16.length)) (
       f s0 s1 s6 (W (Int.tdiv y_1 10000)) (W (s8 + 1)) (b16.set ((W (s6 + s8)).toNat) (Int.tmod y_1 10000)))))
    bif (decide (s8 < (s1.length : Int))) then
     gd (decide (0 <= s6) && decide (s6 < (s0.length : Int))) (
      gd (decide (0 <= s8) && decide (s8 < (s1.length : Int))) (
       J_2 (W ((W ((b16.getD ((W (s6 + s8)).toNat) 0) + s7)) + (W ((s0.getD s6.toNat 0) * (s1.getD s8.toNat 0)))))))
    else
     J_2 (W ((b16.getD ((W (s6 + s8)).toNat) 0) + s7)))))
 bif (decide (s8 < (s1.length : Int))) then
  J_3 ()
 else
  bif (decide (s7 > 0)) then
   J_3 ()
  else
   k0 s0 s1 s6 b16
abbrev R8 : Tm := ⟨[(0, .d hIs), (1, .d hIs), (5, .k (.hw 16)), (6, .d hI), (7, .d hI), (8, .d hI)], [(16, .arr 3 hI false)], [], []⟩
abbrev Ar7 : Tm := ⟨[(0, .d hIs), (1, .d hIs), (5, .k (.hw 16)), (6, .d hI)], [(16, .arr 3 hI false)], [], []⟩
abbrev A0x : List (Exit × Tm) := [(.exit 2, Ar7)]
def A0w {α : Type} (n : Nat) (v : R8.den) (f : R8.den -> Option α) (ks : KS α A0x) : Option α := A0y n v.1.1 v.1.2.1 v.1.2.2.2.1 v.1.2.2.2.2.1 v.1.2.2.2.2.2.1 v.2.1 (fun s0 s1 s6 s7 s8 b16 => f ((s0, s1, (), s6, s7, s8, ()), (b16, ()))) (fun w0 w1 w2 w3 => ks.1 ((w0, w1, (), w2, ()), (w3, ())))
def Ld {α : Type} (n m : Nat) (s0 s1 : LI) (s6 s7 s8 : Int) (b16 : LI) (k0 : LI -> LI -> Int -> LI -> Option α) : Option α := A5 (A0w n) m ((s0, s1, (), s6, s7, s8, ()), (b16, ())) (fun w => k0 w.1.1 w.1.2.1 w.1.2.2.2.1 w.2.1, ())
theorem Ar6 {α n m s0 s1 s6 s7 s8 b16 k0} : Ld (α := α) n (m + 1) s0 s1 s6 s7 s8 b16 k0 = A0y n s0 s1 s6 s7 s8 b16 (fun s0 s1 s6 s7 s8 b16 => Ld n m s0 s1 s6 s7 s8 b16 k0) k0 := rfl
def A11 {α : Type} (n : Nat) (s0 s1 : LI) (s6 : Int) (b16 : LI) (f : LI -> LI -> Int -> LI -> Option α) (k0 : LI -> Option α) : Option α :=
 bif (decide (s6 < (s0.length : Int))) then
  Ld n n s0 s1 s6 0 0 b16
   (fun z_1 z_2 z_3 z_4 => (
    f z_1 z_2 (W (z_3 + 1)) z_4))
 else
  k0 b16
abbrev R9 : Tm := ⟨[(0, .d hIs), (1, .d hIs), (5, .k (.hw 16)), (6, .d hI)], [(16, .arr 3 hI false)], [], []⟩
abbrev Ara : Tm := ⟨[(5, .k (.hw 16))], [(16, .arr 3 hI false)], [], []⟩
abbrev A10 : List (Exit × Tm) := [(.exit 0, Ara)]
def A0z {α : Type} (n : Nat) (v : R9.den) (f : R9.den -> Option α) (ks : KS α A10) : Option α := A11 n v.1.1 v.1.2.1 v.1.2.2.2.1 v.2.1 (fun s0 s1 s6 b16 => f ((s0, s1, (), s6, ()), (b16, ()))) (fun w0 => ks.1 (((), ()), (w0, ())))
def Le {α : Type} (n m : Nat) (s0 s1 : LI) (s6 : Int) (b16 : LI) (k0 : LI -> Option α) : Option α := A5 (A0z n) m ((s0, s1, (), s6, ()), (b16, ())) (fun w => k0 w.2.1, ())
theorem Ar8 {α n m s0 s1 s6 b16 k0} : Le (α := α) n (m + 1) s0 s1 s6 b16 k0 = A11 n s0 s1 s6 b16 (fun s0 s1 s6 b16 => Le n m s0 s1 s6 b16 k0) k0 := rfl
abbrev B0u : Tm := ⟨[(0, .d hIs), (1, .d hIs), (5, .k (.hw 16)), (6, .d hI), (7, .d hI), (8, .d hI)], [(16, .arr 3 hI false)], [], []⟩
abbrev Aw4 : Tm := ⟨[(0, .d hIs), (1, .d hIs), (5, .k (.hw 16)), (6, .d hI), (8, .d hI), (9, .d hI)], [(16, .arr 3 hI false)], [], []⟩
def f185 (n : Nat) (a0 a1 : LI) : Option LI :=
 gd (decide (0 <= (W ((W ((a0.length : Int) + (a1.length : Int))) + 1))) && decide ((W ((W ((a0.length : Int) + (a1.length : Int))) + 1)) <= 4611686018427387904) && decide ((8 : Int) * (W ((W ((a0.length : Int) + (a1.length : Int))) + 1)) <= 281474976710656)) (
  Le n n a0 a1 0 (List.replicate ((W ((W ((a0.length : Int) + (a1.length : Int))) + 1)).toNat) 0)
   (fun z_5 => (
    ob (f218 n z_5) fun r_6 =>
    some r_6)))
def Gk (n : Nat) : Ent := ⟨185, [hIs, hIs], [hIs], fun x => f185 n x.1 x.2⟩
def A3m (α : Type) (n : Nat) : D3 α := { reg := [(11, ⟨10, [], []⟩), (14, ⟨0, [], [(1, { ent := some (Uq n), fz := [(65, hIs)] })]⟩)], join := [(9, B0u), (12, Aw4)], loop := [(7, ⟨R8, A0x, A5 (A0w n) n⟩), (3, ⟨R9, A10, A5 (A0z n) n⟩)] }
theorem Uw (α : Type) (n : Nat) : Al PP (Ah (A3m α n).reg) := ⟨Wp n, trivial⟩
theorem Ali (α : Type) (n : Nat) : LO.Sound (α := α) PP ⟨67, []⟩ ⟨R8, A0x, A5 (A0w n) n⟩ (.loop ((A1 Tryz.f185).at [1, 1, 0, 1, 0, 0, 1, 0, 0, 1, 1, 0, 0])) := Bf (D := A3m α n) (Uw α n) n
theorem Ar9 (α : Type) (n : Nat) : D3.OK PP TT ⟨67, []⟩ (A3m α n) ((A1 Tryz.f185).at [1, 1, 0, 1, 0, 0]) :=
 D3.OK.mk3 (Uw α n) (show Aa ((A1 Tryz.f185).at [1, 1, 0, 1, 0, 0]) = [(7, (.loop ((A1 Tryz.f185).at [1, 1, 0, 1, 0, 0, 1, 0, 0, 1, 1, 0, 0])))] by kernel_rfl) ⟨Ab rfl (Ali α n), trivial⟩
theorem Alj (α : Type) (n : Nat) : LO.Sound (α := α) PP ⟨67, []⟩ ⟨R9, A10, A5 (A0z n) n⟩ (.loop ((A1 Tryz.f185).at [1, 1, 0, 1, 0, 0])) := lk (Ar9 α n) n
theorem B5g (α : Type) (n : Nat) : D3.OK PP TT ⟨67, []⟩ (A3m α n) (A1 Tryz.f185) :=
 D3.OK.mk3 (Uw α n) (show Aa (A1 Tryz.f185) = [(3, (.loop ((A1 Tryz.f185).at [1, 1, 0, 1, 0, 0])))] by kernel_rfl) ⟨Ab rfl (Alj α n), trivial⟩
theorem G2 (n : Nat) : (Gk n).Sound PP := fk (fn := Tryz.f185) (B5g _ n) 

def A0p {α : Type} (n : Nat) (s0 s1 : LI) (s6 s7 : Int) (b9 : LI) (f : LI -> LI -> Int -> Int -> LI -> Option α) (k0 : LI -> Option α) : Option α :=
 bif (decide (s7 < (s0.length : Int))) then
  gd (decide (0 <= s7) && decide (s7 < (s0.length : Int))) (
   let J_3 := fun (y_1 : Int) => (
    ob (f170 n (decide (y_1 < 0))) fun r_2 =>
    gd (decide ((b9.length + 1) * 8 <= 140737488355328)) (
     f s0 s1 r_2 (W (s7 + 1)) (b9 ++ [(W (y_1 + (W (r_2 * 10000))))])))
   bif (decide (s7 < (s1.length : Int))) then
    gd (decide (0 <= s7) && decide (s7 < (s1.length : Int))) (
     J_3 (W ((W ((s0.getD s7.toNat 0) - s6)) - (s1.getD s7.toNat 0))))
   else
    J_3 (W ((s0.getD s7.toNat 0) - s6)))
 else
  k0 b9
abbrev R5 : Tm := ⟨[(0, .d hIs), (1, .d hIs), (5, .k (.hw 9)), (6, .d hI), (7, .d hI)], [(9, .arr 3 hI false)], [40], []⟩
abbrev Aqz : Tm := ⟨[(5, .k (.hw 9))], [(9, .arr 3 hI false)], [], []⟩
abbrev A0o : List (Exit × Tm) := [(.exit 0, Aqz)]
def A0n {α : Type} (n : Nat) (v : R5.den) (f : R5.den -> Option α) (ks : KS α A0o) : Option α := A0p n v.1.1 v.1.2.1 v.1.2.2.2.1 v.1.2.2.2.2.1 v.2.1 (fun s0 s1 s6 s7 b9 => f ((s0, s1, (), s6, s7, ()), (b9, ()))) (fun w0 => ks.1 (((), ()), (w0, ())))
def Lc {α : Type} (n m : Nat) (s0 s1 : LI) (s6 s7 : Int) (b9 : LI) (k0 : LI -> Option α) : Option α := A5 (A0n n) m ((s0, s1, (), s6, s7, ()), (b9, ())) (fun w => k0 w.2.1, ())
theorem Aqy {α n m s0 s1 s6 s7 b9 k0} : Lc (α := α) n (m + 1) s0 s1 s6 s7 b9 k0 = A0p n s0 s1 s6 s7 b9 (fun s0 s1 s6 s7 b9 => Lc n m s0 s1 s6 s7 b9 k0) k0 := rfl
abbrev B0n : Tm := ⟨[(0, .d hIs), (1, .d hIs), (5, .k (.hw 9)), (7, .d hI), (8, .d hI)], [(9, .arr 3 hI false)], [], []⟩
def f189 (n : Nat) (a0 a1 : LI) : Option LI :=
 Lc n n a0 a1 0 0 []
  (fun z_4 => (
   ob (f218 n z_4) fun r_5 =>
   some r_5))
def A3l (n : Nat) : Ent := ⟨189, [hIs, hIs], [hIs], fun x => f189 n x.1 x.2⟩
def Adt (α : Type) (n : Nat) : D3 α := { reg := [(1, ⟨0, [], [(0, { sh := some hI })]⟩), (9, ⟨0, [], [(2, { ent := some (Uy n) })]⟩), (10, ⟨0, [], [(5, { sh := some hI })]⟩), (11, ⟨0, [], [(1, { ent := some (Uq n), fz := [(42, hIs)] })]⟩)], join := [(9, B0n)], loop := [(4, ⟨R5, A0o, A5 (A0n n) n⟩)] }
theorem A8s (α : Type) (n : Nat) : Al PP (Ah (Adt α n).reg) := ⟨X4 n, Wp n, trivial⟩
theorem Alf (α : Type) (n : Nat) : LO.Sound (α := α) PP ⟨44, []⟩ ⟨R5, A0o, A5 (A0n n) n⟩ (.loop ((A1 Tryz.f189).at [1, 1, 1, 0, 1, 0, 0])) := Bf (D := Adt α n) (A8s α n) n
theorem B5c (α : Type) (n : Nat) : D3.OK PP TT ⟨44, []⟩ (Adt α n) (A1 Tryz.f189) :=
 D3.OK.mk3 (A8s α n) (show Aa (A1 Tryz.f189) = [(4, (.loop ((A1 Tryz.f189).at [1, 1, 1, 0, 1, 0, 0])))] by kernel_rfl) ⟨Ab rfl (Alf α n), trivial⟩
theorem A66 (n : Nat) : (A3l n).Sound PP := fk (fn := Tryz.f189) (B5c _ n) 

def Up {α : Type} (n : Nat) (s0 s1 s7 : LI) (s8 s9 s10 : Int) (b14 : LI) (f : LI -> LI -> LI -> Int -> Int -> Int -> LI -> Option α) (k0 : LI -> LI -> LI -> Int -> Int -> LI -> Option α) : Option α :=
 bif (decide ((W (s10 - s9)) > 1)) then
  ob (f181 n (W (Int.tdiv (W (s9 + s10)) 2))) fun r_3 =>
  ob (f185 n s1 r_3) fun r_4 =>
  ob (f188 n r_4 s7) fun r_5 =>
  bif (decide (r_5 <= 0)) then
   f s0 s1 s7 s8 (W (Int.tdiv (W (s9 + s10)) 2)) s10 b14
  else
   f s0 s1 s7 s8 s9 (W (Int.tdiv (W (s9 + s10)) 2)) b14
 else
  k0 s0 s1 s7 s8 s9 b14
abbrev N8 : Tm := ⟨[(0, .d hIs), (1, .d hIs), (6, .k (.hw 14)), (7, .d hIs), (8, .d hI), (9, .d hI), (10, .d hI)], [(14, .arr 3 hI false)], [27], []⟩
abbrev Akx : Tm := ⟨[(0, .d hIs), (1, .d hIs), (6, .k (.hw 14)), (7, .d hIs), (8, .d hI), (9, .d hI)], [(14, .arr 3 hI false)], [], []⟩
abbrev Uo : List (Exit × Tm) := [(.exit 2, Akx)]
def Un {α : Type} (n : Nat) (v : N8.den) (f : N8.den -> Option α) (ks : KS α Uo) : Option α := Up n v.1.1 v.1.2.1 v.1.2.2.2.1 v.1.2.2.2.2.1 v.1.2.2.2.2.2.1 v.1.2.2.2.2.2.2.1 v.2.1 (fun s0 s1 s7 s8 s9 s10 b14 => f ((s0, s1, (), s7, s8, s9, s10, ()), (b14, ()))) (fun w0 w1 w2 w3 w4 w5 => ks.1 ((w0, w1, (), w2, w3, w4, ()), (w5, ())))
def M5 {α : Type} (n m : Nat) (s0 s1 s7 : LI) (s8 s9 s10 : Int) (b14 : LI) (k0 : LI -> LI -> LI -> Int -> Int -> LI -> Option α) : Option α := A5 (Un n) m ((s0, s1, (), s7, s8, s9, s10, ()), (b14, ())) (fun w => k0 w.1.1 w.1.2.1 w.1.2.2.2.1 w.1.2.2.2.2.1 w.1.2.2.2.2.2.1 w.2.1, ())
theorem Akw {α n m s0 s1 s7 s8 s9 s10 b14 k0} : M5 (α := α) n (m + 1) s0 s1 s7 s8 s9 s10 b14 k0 = Up n s0 s1 s7 s8 s9 s10 b14 (fun s0 s1 s7 s8 s9 s10 b14 => M5 n m s0 s1 s7 s8 s9 s10 b14 k0) k0 := rfl
def Qp {α : Type} (n : Nat) (s0 s1 s7 : LI) (s8 : Int) (b14 : LI) (f : LI -> LI -> LI -> Int -> LI -> Option α) (k0 : LI -> LI -> Option α) : Option α :=
 bif (decide (s8 >= 0)) then
  gd (decide (0 <= s8) && decide (s8 < (s0.length : Int))) (
   gd (decide ((1 + s7.length) * 8 <= 140737488355328)) (
    ob (f218 n ([(s0.getD s8.toNat 0)] ++ s7)) fun r_1 =>
    ob (f188 n r_1 s1) fun r_2 =>
    bif (decide (r_2 < 0)) then
     f s0 s1 r_1 (W (s8 - 1)) b14
    else
     M5 n n s0 s1 r_1 s8 0 10000 b14
      (fun z_3 z_4 z_5 z_6 z_7 z_8 => (
       gd (decide (0 <= z_6) && decide (z_6 < (z_8.length : Int))) (
        gd (decide (z_6.toNat < z_8.length)) (
         ob (f181 n z_7) fun r_9 =>
         ob (f185 n z_4 r_9) fun r_10 =>
         ob (f189 n z_5 r_10) fun r_11 =>
         f z_3 z_4 r_11 (W (z_6 - 1)) (z_8.set z_6.toNat z_7)))))))
 else
  k0 s7 b14
abbrev Qo : Tm := ⟨[(0, .d hIs), (1, .d hIs), (6, .k (.hw 14)), (7, .d hIs), (8, .d hI)], [(14, .arr 3 hI false)], [15, 27], [(7, hIs)]⟩
abbrev Apl : Tm := ⟨[(6, .k (.hw 14)), (7, .d hIs)], [(14, .arr 3 hI false)], [], []⟩
abbrev Zp : List (Exit × Tm) := [(.exit 0, Apl)]
def Zo {α : Type} (n : Nat) (v : Qo.den) (f : Qo.den -> Option α) (ks : KS α Zp) : Option α := Qp n v.1.1 v.1.2.1 v.1.2.2.2.1 v.1.2.2.2.2.1 v.2.1 (fun s0 s1 s7 s8 b14 => f ((s0, s1, (), s7, s8, ()), (b14, ()))) (fun w0 w1 => ks.1 (((), w0, ()), (w1, ())))
def Ok {α : Type} (n m : Nat) (s0 s1 s7 : LI) (s8 : Int) (b14 : LI) (k0 : LI -> LI -> Option α) : Option α := A5 (Zo n) m ((s0, s1, (), s7, s8, ()), (b14, ())) (fun w => k0 w.1.2.1 w.2.1, ())
theorem A89 {α n m s0 s1 s7 s8 b14 k0} : Ok (α := α) n (m + 1) s0 s1 s7 s8 b14 k0 = Qp n s0 s1 s7 s8 b14 (fun s0 s1 s7 s8 b14 => Ok n m s0 s1 s7 s8 b14 k0) k0 := rfl
def f219 (n : Nat) (a0 a1 : LI) : Option (LI × LI) :=
 gd (decide (0 <= (a0.length : Int)) && decide ((a0.length : Int) <= 4611686018427387904) && decide ((8 : Int) * (a0.length : Int) <= 281474976710656)) (
  Ok n n a0 a1 [] (W ((a0.length : Int) - 1)) (List.replicate ((a0.length : Int).toNat) 0)
   (fun z_12 z_13 => (
    ob (f218 n z_13) fun r_14 =>
    some (r_14, z_12))))
def A3h (n : Nat) : Ent := ⟨219, [hIs, hIs], [hIs, hIs], fun x => f219 n x.1 x.2⟩
def A3i (α : Type) (n : Nat) : D3 α := { reg := [(2, ⟨0, [], [(0, { sh := some hI })]⟩), (6, ⟨0, [], [(4, { sh := some hI }), (7, { ent := some (Uq n), fz := [(29, hIs)] })]⟩), (7, ⟨0, [], [(2, { ent := some (Uv n) })]⟩), (12, ⟨0, [], [(2, { ent := some (Ux n) }), (3, { ent := some (Gk n) }), (5, { ent := some (Uv n) })]⟩), (16, ⟨0, [], [(3, { ent := some (Ux n) }), (4, { ent := some (Gk n) }), (5, { ent := some (A3l n) })]⟩), (17, ⟨0, [], [(1, { ent := some (Uq n), fz := [(62, hIs)] })]⟩)], join := [], loop := [(10, ⟨N8, Uo, A5 (Un n) n⟩), (4, ⟨Qo, Zp, A5 (Zo n) n⟩)] }
theorem Um (α : Type) (n : Nat) : Al PP (Ah (A3i α n).reg) := ⟨Wp n, Ww n, Wz n, G2 n, Ww n, Wz n, G2 n, A66 n, Wp n, trivial⟩
theorem Ag7 (α : Type) (n : Nat) : LO.Sound (α := α) PP ⟨65, []⟩ ⟨N8, Uo, A5 (Un n) n⟩ (.loop ((A1 Tryz.f219).at [1, 1, 1, 0, 1, 0, 0, 1, 0, 0, 1, 1, 1, 1, 0, 0, 0])) := Bf (D := A3i α n) (Um α n) n
theorem Apk (α : Type) (n : Nat) : D3.OK PP TT ⟨65, []⟩ (A3i α n) ((A1 Tryz.f219).at [1, 1, 1, 0, 1, 0, 0]) :=
 D3.OK.mk3 (Um α n) (show Aa ((A1 Tryz.f219).at [1, 1, 1, 0, 1, 0, 0]) = [(10, (.loop ((A1 Tryz.f219).at [1, 1, 1, 0, 1, 0, 0, 1, 0, 0, 1, 1, 1, 1, 0, 0, 0])))] by kernel_rfl) ⟨Ab rfl (Ag7 α n), trivial⟩
theorem Akv (α : Type) (n : Nat) : LO.Sound (α := α) PP ⟨65, []⟩ ⟨Qo, Zp, A5 (Zo n) n⟩ (.loop ((A1 Tryz.f219).at [1, 1, 1, 0, 1, 0, 0])) := lk (Apk α n) n
theorem B4o (α : Type) (n : Nat) : D3.OK PP TT ⟨65, []⟩ (A3i α n) (A1 Tryz.f219) :=
 D3.OK.mk3 (Um α n) (show Aa (A1 Tryz.f219) = [(4, (.loop ((A1 Tryz.f219).at [1, 1, 1, 0, 1, 0, 0])))] by kernel_rfl) ⟨Ab rfl (Akv α n), trivial⟩
theorem A65 (n : Nat) : (A3h n).Sound PP := fk (fn := Tryz.f219) (B4o _ n) 

def Zv {α : Type} (n : Nat) (s0 s1 : LI) (f : LI -> LI -> Option α) (k0 : LI -> Option α) : Option α :=
 bif (decide ((s1.length : Int) > 0)) then
  ob (f219 n s0 s1) fun r_1 =>
  f s1 r_1.2
 else
  k0 s0
abbrev Qr : Tm := ⟨[(0, .d hIs), (1, .d hIs)], [], [], []⟩
abbrev Apo : Tm := ⟨[(0, .d hIs)], [], [], []⟩
abbrev Zu : List (Exit × Tm) := [(.exit 0, Apo)]
def Zt {α : Type} (n : Nat) (v : Qr.den) (f : Qr.den -> Option α) (ks : KS α Zu) : Option α := Zv n v.1.1 v.1.2.1 (fun s0 s1 => f ((s0, s1, ()), ())) (fun w0 => ks.1 ((w0, ()), ()))
def Iz {α : Type} (n m : Nat) (s0 s1 : LI) (k0 : LI -> Option α) : Option α := A5 (Zt n) m ((s0, s1, ()), ()) (fun w => k0 w.1.1, ())
theorem A8c {α n m s0 s1 k0} : Iz (α := α) n (m + 1) s0 s1 k0 = Zv n s0 s1 (fun s0 s1 => Iz n m s0 s1 k0) k0 := rfl
def f217 (n : Nat) (a0 a1 : LI) : Option LI :=
 Iz n n a0 a1
  (fun z_2 => (
   gd (decide ((0 + z_2.length) * 8 <= 140737488355328)) (
    some z_2)))
def Add (n : Nat) : Ent := ⟨217, [hIs, hIs], [hIs], fun x => f217 n x.1 x.2⟩
def Ade (α : Type) (n : Nat) : D3 α := { reg := [(2, ⟨0, [], [(2, { ent := some (A3h n) })]⟩), (5, ⟨0, [], [(0, { sh := some hI })]⟩)], join := [], loop := [(1, ⟨Qr, Zu, A5 (Zt n) n⟩)] }
theorem A8b (α : Type) (n : Nat) : Al PP (Ah (Ade α n).reg) := ⟨A65 n, trivial⟩
theorem Akz (α : Type) (n : Nat) : LO.Sound (α := α) PP ⟨21, []⟩ ⟨Qr, Zu, A5 (Zt n) n⟩ (.loop ((A1 Tryz.f217).at [1, 0, 0, 0])) := Bf (D := Ade α n) (A8b α n) n
theorem B4q (α : Type) (n : Nat) : D3.OK PP TT ⟨21, []⟩ (Ade α n) (A1 Tryz.f217) :=
 D3.OK.mk3 (A8b α n) (show Aa (A1 Tryz.f217) = [(1, (.loop ((A1 Tryz.f217).at [1, 0, 0, 0])))] by kernel_rfl) ⟨Ab rfl (Akz α n), trivial⟩
theorem Ahn (n : Nat) : (Add n).Sound PP := fk (fn := Tryz.f217) (B4q _ n) 

abbrev B0x : Tm := ⟨[(1, .k (.hp 1 0 0))], [(1, .var 31 true false [.d .bool, .d hIs, .d hIs])], [], []⟩
def f177 (n : Nat) (a0 : Rq) : Option Bool :=
 let J_5 := fun (_ : Unit) => (
  ob (f217 n a0.2.1 a0.2.2) fun r_3 =>
  ob (f188 n r_3 [1]) fun r_4 =>
  some (r_4 == 0))
 ob (f216 n a0.2.1) fun r_1 =>
 bif (!r_1) then
  some false
 else
  ob (f216 n a0.2.2) fun r_2 =>
  bif (!r_2) then
   some false
  else
   bif ((a0.2.2.length : Int) == 0) then
    some false
   else
    bif ((a0.2.1.length : Int) == 0) then
     bif a0.1 then
      some false
     else
      J_5 ()
    else
     J_5 ()
def Arf (n : Nat) : Ent := ⟨177, [hR], [.bool], fun x => f177 n x⟩
def B5m (α : Type) (n : Nat) : D3 α := { reg := [(1, ⟨0, [], [(2, { ent := some (Adf n) }), (7, { ent := some (Adf n) })]⟩), (3, ⟨0, [], [(4, { ent := some (Add n) }), (5, { sh := some hI }), (6, { ent := some (Uv n) })]⟩)], join := [(3, B0x)], loop := [] }
theorem B0v (n : Nat) : (Arf n).Sound PP := Ar (fn := Tryz.f177) (D := B5m _ n) ⟨Aho n, Aho n, Ahn n, Ww n, trivial⟩ 

def A1p {α : Type} (n : Nat) (s0 : LR) (s3 : Int) (f : LR -> Int -> Option α) (k0 : Bool -> Option α) (k1 : LR -> Option α) : Option α :=
 bif (decide (s3 < (s0.length : Int))) then
  gd (decide (0 <= s3) && decide (s3 < (s0.length : Int))) (
   let x_1 := s0.getD s3.toNat (false, [], [])
   ob (f177 n x_1) fun r_2 =>
   bif (!r_2) then
    k0 false
   else
    f s0 (W (s3 + 1)))
 else
  k1 s0
abbrev Rm : Tm := ⟨[(0, .d hRs), (3, .d hI)], [], [], []⟩
abbrev As7 : Tm := ⟨[(2, .d .bool)], [], [], []⟩
abbrev As6 : Tm := ⟨[(0, .d hRs)], [], [], []⟩
abbrev A1o : List (Exit × Tm) := [(.ret, As7), (.exit 0, As6)]
def A1n {α : Type} (n : Nat) (v : Rm.den) (f : Rm.den -> Option α) (ks : KS α A1o) : Option α := A1p n v.1.1 v.1.2.1 (fun s0 s3 => f ((s0, s3, ()), ())) (fun w0 => ks.1 ((w0, ()), ())) (fun w0 => ks.2.1 ((w0, ()), ()))
def P4 {α : Type} (n m : Nat) (s0 : LR) (s3 : Int) (k0 : Bool -> Option α) (k1 : LR -> Option α) : Option α := A5 (A1n n) m ((s0, s3, ()), ()) (fun w => k0 w.1.1, fun w => k1 w.1.1, ())
theorem As5 {α n m s0 s3 k0 k1} : P4 (α := α) n (m + 1) s0 s3 k0 k1 = A1p n s0 s3 (fun s0 s3 => P4 n m s0 s3 k0 k1) k0 k1 := rfl
def f119 (n : Nat) (a0 : LR) : Option Bool :=
 bif (decide ((a0.length : Int) > 4096)) then
  some false
 else
  P4 n n a0 0
   (fun z_3 => (
    some z_3))
   (fun z_4 => (
    ob (f174 n (z_4.length : Int) 1 4) fun r_5 =>
    some r_5))
def As8 (n : Nat) : Ent := ⟨119, [hRs], [.bool], fun x => f119 n x⟩
def Aeb (α : Type) (n : Nat) : D3 α := { reg := [(6, ⟨0, [], [(4, { ent := some (Arf n) })]⟩), (8, ⟨0, [], [(2, { ent := some (Fj n) })]⟩)], join := [], loop := [(4, ⟨Rm, A1o, A5 (A1n n) n⟩)] }
theorem A94 (α : Type) (n : Nat) : Al PP (Ah (Aeb α n).reg) := ⟨B0v n, F5 n, trivial⟩
theorem Alx (α : Type) (n : Nat) : LO.Sound (α := α) PP ⟨22, []⟩ ⟨Rm, A1o, A5 (A1n n) n⟩ (.loop ((A1 Tryz.f119).at [1, 1, 0, 1, 0, 0])) := Bf (D := Aeb α n) (A94 α n) n
theorem B6n (α : Type) (n : Nat) : D3.OK PP TT ⟨22, []⟩ (Aeb α n) (A1 Tryz.f119) :=
 D3.OK.mk3 (A94 α n) (show Aa (A1 Tryz.f119) = [(4, (.loop ((A1 Tryz.f119).at [1, 1, 0, 1, 0, 0])))] by kernel_rfl) ⟨Ab rfl (Alx α n), trivial⟩
theorem B1m (n : Nat) : (As8 n).Sound PP := fk (fn := Tryz.f119) (B6n _ n) 

def A1m {α : Type} (n : Nat) (s3 s4 : Int) (c1_0 : LN) (f : Int -> Int -> LN -> Option α) (k0 : Int -> Option α) : Option α :=
 bif (decide (s4 < (c1_0.length : Int))) then
  gd (decide (0 <= s4) && decide (s4 < (c1_0.length : Int))) (
   let x_1 := c1_0.getD s4.toNat (0, 0, 0, 0)
   bif (x_1.1 == 2) then
    gd (decide (0 <= s4) && decide (s4 < (c1_0.length : Int))) (
     let x_2 := c1_0.getD s4.toNat (0, 0, 0, 0)
     f (max s3 (W (x_2.2.2.2 + 1))) (W (s4 + 1)) c1_0)
   else
    f s3 (W (s4 + 1)) c1_0)
 else
  k0 s3
abbrev Rl : Tm := ⟨[(1, .k (.hp 1 0 0)), (3, .d hI), (4, .d hI)], [(1, .var 25 true false [.d hNs])], [], []⟩
abbrev As3 : Tm := ⟨[(3, .d hI)], [], [1], []⟩
abbrev A1l : List (Exit × Tm) := [(.exit 0, As3)]
def A1k {α : Type} (n : Nat) (v : Rl.den) (f : Rl.den -> Option α) (ks : KS α A1l) : Option α := A1m n v.1.2.1 v.1.2.2.1 v.2.1.1 (fun s3 s4 c1_0 => f (((), s3, s4, ()), ((c1_0, ()), ()))) (fun w0 => ks.1 ((w0, ()), ()))
def X8 {α : Type} (n m : Nat) (s3 s4 : Int) (c1_0 : LN) (k0 : Int -> Option α) : Option α := A5 (A1k n) m (((), s3, s4, ()), ((c1_0, ()), ())) (fun w => k0 w.1.1, ())
theorem As2 {α n m s3 s4 c1_0 k0} : X8 (α := α) n (m + 1) s3 s4 c1_0 k0 = A1m n s3 s4 c1_0 (fun s3 s4 c1_0 => X8 n m s3 s4 c1_0 k0) k0 := rfl
def f120 (n : Nat) (a0 : LN) : Option Int :=
 X8 n n 0 0 a0
  (fun z_3 => (
   some z_3))
def As4 (n : Nat) : Ent := ⟨120, [hE], [hI], fun x => f120 n x⟩
def Aea (α : Type) (n : Nat) : D3 α := { reg := [], join := [], loop := [(3, ⟨Rl, A1l, A5 (A1k n) n⟩)] }
theorem A92 (α : Type) (n : Nat) : Al PP (Ah (Aea α n).reg) := trivial
theorem Alw (α : Type) (n : Nat) : LO.Sound (α := α) PP ⟨29, []⟩ ⟨Rl, A1l, A5 (A1k n) n⟩ (.loop ((A1 Tryz.f120).at [1, 1, 0, 1, 0, 0])) := Bf (D := Aea α n) (A92 α n) n
theorem B6m (α : Type) (n : Nat) : D3.OK PP TT ⟨29, []⟩ (Aea α n) (A1 Tryz.f120) :=
 D3.OK.mk3 (A92 α n) (show Aa (A1 Tryz.f120) = [(3, (.loop ((A1 Tryz.f120).at [1, 1, 0, 1, 0, 0])))] by kernel_rfl) ⟨Ab rfl (Alw α n), trivial⟩
theorem B1k (n : Nat) : (As4 n).Sound PP := fk (fn := Tryz.f120) (B6m _ n) 

abbrev B3s : Tm := ⟨[(1, .d hRs), (2, .k (.hp 2 0 0)), (9, .d .bool)], [(2, .var 25 true false [.d hNs])], [], []⟩
def f62 (n : Nat) (a0 : LN) (a1 : LR) : Option Int :=
 bif (decide ((a1.length : Int) > 4096)) then
  some 2
 else
  let J_5 := fun (y_3 : Bool) => (
   bif y_3 then
    some 1
   else
    ob (f120 n a0) fun r_4 =>
    bif (decide ((a1.length : Int) < r_4)) then
     some 8
    else
     some 0)
  ob (f118 n a0) fun r_1 =>
  bif (!r_1) then
   J_5 true
  else
   ob (f119 n a1) fun r_2 =>
   J_5 (!r_2)
def Axj (n : Nat) : Ent := ⟨62, [hE, hRs], [hI], fun x => f62 n x.1 x.2⟩
def B81 (α : Type) (n : Nat) : D3 α := { reg := [(3, ⟨0, [], [(1, { ent := some (Asb n) }), (5, { ent := some (As8 n) })]⟩), (5, ⟨0, [], [(3, { ent := some (As4 n) })]⟩)], join := [(4, B3s)], loop := [] }
theorem B3r (n : Nat) : (Axj n).Sound PP := Ar (fn := Tryz.f62) (D := B81 _ n) ⟨B1o n, B1m n, B1k n, trivial⟩ 

def f127 (n : Nat) (a0 : Int) : Option Rq :=
 bif (decide (a0 < 0)) then
  ob (f181 n (W (0 - a0))) fun r_1 =>
  some (true, r_1, [1])
 else
  ob (f181 n a0) fun r_2 =>
  some (false, r_2, [1])
def C3 (n : Nat) : Ent := ⟨127, [hI], [hR], fun x => f127 n x⟩
def B6j (α : Type) (n : Nat) : D3 α := { reg := [(2, ⟨0, [], [(2, { ent := some (Ux n) }), (3, { sh := some hI })]⟩), (3, ⟨0, [], [(1, { ent := some (Ux n) }), (2, { sh := some hI })]⟩)], join := [], loop := [] }
theorem F7 (n : Nat) : (C3 n).Sound PP := Ar (fn := Tryz.f127) (D := B6j _ n) ⟨Wz n, Wz n, trivial⟩ 

def A55 {α : Type} (n : Nat) (s0 s4 : Int) (b5 : LR) (f : Int -> Int -> LR -> Option α) (k0 : LR -> Option α) : Option α :=
 bif (decide (s4 < s0)) then
  ob (f127 n 0) fun r_1 =>
  gd (decide ((b5.length + 1) * 56 <= 140737488355328)) (
   f s0 (W (s4 + 1)) (b5 ++ [r_1]))
 else
  k0 b5
abbrev Vx : Tm := ⟨[(0, .d hI), (3, .k (.hw 5)), (4, .d hI)], [(5, .arr 31 hR false)], [13], []⟩
abbrev Aut : Tm := ⟨[(3, .k (.hw 5))], [(5, .arr 31 hR false)], [], []⟩
abbrev A54 : List (Exit × Tm) := [(.exit 0, Aut)]
def A53 {α : Type} (n : Nat) (v : Vx.den) (f : Vx.den -> Option α) (ks : KS α A54) : Option α := A55 n v.1.1 v.1.2.2.1 v.2.1 (fun s0 s4 b5 => f ((s0, (), s4, ()), (b5, ()))) (fun w0 => ks.1 (((), ()), (w0, ())))
def A2z {α : Type} (n m : Nat) (s0 s4 : Int) (b5 : LR) (k0 : LR -> Option α) : Option α := A5 (A53 n) m ((s0, (), s4, ()), (b5, ())) (fun w => k0 w.2.1, ())
theorem Aus {α n m s0 s4 b5 k0} : A2z (α := α) n (m + 1) s0 s4 b5 k0 = A55 n s0 s4 b5 (fun s0 s4 b5 => A2z n m s0 s4 b5 k0) k0 := rfl
def f90 (n : Nat) (a0 : Int) : Option LR :=
 A2z n n a0 0 []
  (fun z_2 => (
   some z_2))
def Axb (n : Nat) : Ent := ⟨90, [hI], [hRs], fun x => f90 n x⟩
def Ajs (α : Type) (n : Nat) : D3 α := { reg := [(1, ⟨0, [], [(0, { sh := some hR })]⟩), (5, ⟨0, [], [(1, { ent := some (C3 n) }), (2, { sh := some hR })]⟩)], join := [], loop := [(3, ⟨Vx, A54, A5 (A53 n) n⟩)] }
theorem Ac1 (α : Type) (n : Nat) : Al PP (Ah (Ajs α n).reg) := ⟨F7 n, trivial⟩
theorem Ao3 (α : Type) (n : Nat) : LO.Sound (α := α) PP ⟨16, []⟩ ⟨Vx, A54, A5 (A53 n) n⟩ (.loop ((A1 Tryz.f90).at [1, 1, 0, 1, 0, 0])) := Bf (D := Ajs α n) (Ac1 α n) n
theorem B7n (α : Type) (n : Nat) : D3.OK PP TT ⟨16, []⟩ (Ajs α n) (A1 Tryz.f90) :=
 D3.OK.mk3 (Ac1 α n) (show Aa (A1 Tryz.f90) = [(3, (.loop ((A1 Tryz.f90).at [1, 1, 0, 1, 0, 0])))] by kernel_rfl) ⟨Ab rfl (Ao3 α n), trivial⟩
theorem B3b (n : Nat) : (Axb n).Sound PP := fk (fn := Tryz.f90) (B7n _ n) 

def f141 (n : Nat) (a0 : Rq) : Option (Rq × Rq × Rq × Rq) :=
 ob (f127 n 0) fun r_1 =>
 ob (f127 n 0) fun r_2 =>
 ob (f127 n 0) fun r_3 =>
 some (a0, r_1, r_2, r_3)
def A3s (n : Nat) : Ent := ⟨141, [hR], [(.st (.pair hR (.pair hR (.pair hR hR))))], fun x => f141 n x⟩
def B6c (α : Type) (n : Nat) : D3 α := { reg := [(1, ⟨4, [], [(1, { ent := some (C3 n) }), (2, { ent := some (C3 n) }), (3, { ent := some (C3 n) })]⟩)], join := [], loop := [] }
theorem A6h (n : Nat) : (A3s n).Sound PP := Ar (fn := Tryz.f141) (D := B6c _ n) ⟨F7 n, F7 n, F7 n, trivial⟩ 

def A0v {α : Type} (n : Nat) (s0 s1 : LI) (s6 s7 : Int) (b8 : LI) (f : LI -> LI -> Int -> Int -> LI -> Option α) (k0 : LI -> Option α) : Option α :=
 let J_5 := fun (_ : Unit) => (
  let J_4 := fun (y_1 : Int) => (
   let J_3 := fun (y_2 : Int) => (
    gd (decide ((b8.length + 1) * 8 <= 140737488355328)) (
     f s0 s1 (W (Int.tdiv y_2 10000)) (W (s7 + 1)) (b8 ++ [(Int.tmod y_2 10000)])))
   bif (decide (s7 < (s1.length : Int))) then
    gd (decide (0 <= s7) && decide (s7 < (s1.length : Int))) (
     J_3 (W (y_1 + (s1.getD s7.toNat 0))))
   else
    J_3 y_1)
  bif (decide (s7 < (s0.length : Int))) then
   gd (decide (0 <= s7) && decide (s7 < (s0.length : Int))) (
    J_4 (W (s6 + (s0.getD s7.toNat 0))))
  else
   J_4 s6)
 bif (decide (s7 < (s0.length : Int))) then
  J_5 ()
 else
  bif (decide (s7 < (s1.length : Int))) then
   J_5 ()
  else
   bif (decide (s6 > 0)) then
    J_5 ()
   else
    k0 b8
abbrev R7 : Tm := ⟨[(0, .d hIs), (1, .d hIs), (5, .k (.hw 8)), (6, .d hI), (7, .d hI)], [(8, .arr 3 hI false)], [48], []⟩
abbrev Ar4 : Tm := ⟨[(5, .k (.hw 8))], [(8, .arr 3 hI false)], [], []⟩
abbrev A0u : List (Exit × Tm) := [(.exit 0, Ar4)]
def A0t {α : Type} (n : Nat) (v : R7.den) (f : R7.den -> Option α) (ks : KS α A0u) : Option α := A0v n v.1.1 v.1.2.1 v.1.2.2.2.1 v.1.2.2.2.2.1 v.2.1 (fun s0 s1 s6 s7 b8 => f ((s0, s1, (), s6, s7, ()), (b8, ()))) (fun w0 => ks.1 (((), ()), (w0, ())))
def Ot {α : Type} (n m : Nat) (s0 s1 : LI) (s6 s7 : Int) (b8 : LI) (k0 : LI -> Option α) : Option α := A5 (A0t n) m ((s0, s1, (), s6, s7, ()), (b8, ())) (fun w => k0 w.2.1, ())
theorem Ar3 {α n m s0 s1 s6 s7 b8 k0} : Ot (α := α) n (m + 1) s0 s1 s6 s7 b8 k0 = A0v n s0 s1 s6 s7 b8 (fun s0 s1 s6 s7 b8 => Ot n m s0 s1 s6 s7 b8 k0) k0 := rfl
abbrev B0s : Tm := ⟨[(0, .d hIs), (1, .d hIs), (5, .k (.hw 8)), (6, .d hI), (7, .d hI)], [(8, .arr 3 hI false)], [], []⟩
abbrev B0r : Tm := ⟨[(0, .d hIs), (1, .d hIs), (5, .k (.hw 8)), (6, .d hI), (7, .d hI)], [(8, .arr 3 hI false)], [], []⟩
abbrev Aw3 : Tm := ⟨[(0, .d hIs), (1, .d hIs), (5, .k (.hw 8)), (6, .d hI), (7, .d hI)], [(8, .arr 3 hI false)], [], []⟩
def f187 (n : Nat) (a0 a1 : LI) : Option LI :=
 Ot n n a0 a1 0 0 []
  (fun z_6 => (
   some z_6))
def Ar5 (n : Nat) : Ent := ⟨187, [hIs, hIs], [hIs], fun x => f187 n x.1 x.2⟩
def Adv (α : Type) (n : Nat) : D3 α := { reg := [(1, ⟨0, [], [(0, { sh := some hI })]⟩), (10, ⟨0, [], [(3, { sh := some hI })]⟩)], join := [(6, B0s), (8, B0r), (10, Aw3)], loop := [(4, ⟨R7, A0u, A5 (A0t n) n⟩)] }
theorem A8u (α : Type) (n : Nat) : Al PP (Ah (Adv α n).reg) := trivial
theorem Alh (α : Type) (n : Nat) : LO.Sound (α := α) PP ⟨53, []⟩ ⟨R7, A0u, A5 (A0t n) n⟩ (.loop ((A1 Tryz.f187).at [1, 1, 1, 0, 1, 0, 0])) := Bf (D := Adv α n) (A8u α n) n
theorem B5e (α : Type) (n : Nat) : D3.OK PP TT ⟨53, []⟩ (Adv α n) (A1 Tryz.f187) :=
 D3.OK.mk3 (A8u α n) (show Aa (A1 Tryz.f187) = [(4, (.loop ((A1 Tryz.f187).at [1, 1, 1, 0, 1, 0, 0])))] by kernel_rfl) ⟨Ab rfl (Alh α n), trivial⟩
theorem B0p (n : Nat) : (Ar5 n).Sound PP := fk (fn := Tryz.f187) (B5e _ n) 

def f186 (n : Nat) (a0 : Bool) (a1 a2 : LI) : Option Rq :=
 ob (f217 n a1 a2) fun r_1 =>
 ob (f219 n a1 r_1) fun r_2 =>
 ob (f219 n a2 r_1) fun r_3 =>
 bif a0 then
  some ((decide ((r_2.1.length : Int) > 0)), r_2.1, r_3.1)
 else
  some (false, r_2.1, r_3.1)
def Ov (n : Nat) : Ent := ⟨186, [.bool, hIs, hIs], [hR], fun x => f186 n x.1 x.2.1 x.2.2⟩
def B5f (α : Type) (n : Nat) : D3 α := { reg := [(1, ⟨0, [], [(2, { ent := some (Add n) })]⟩), (2, ⟨0, [], [(2, { ent := some (A3h n) })]⟩), (3, ⟨0, [], [(2, { ent := some (A3h n) })]⟩)], join := [], loop := [] }
theorem Ou (n : Nat) : (Ov n).Sound PP := Ar (fn := Tryz.f186) (D := B5f _ n) ⟨Ahn n, A65 n, A65 n, trivial⟩ 

def f148 (n : Nat) (a0 a1 : Rq) : Option Rq :=
 ob (f185 n a0.2.1 a1.2.2) fun r_1 =>
 ob (f185 n a1.2.1 a0.2.2) fun r_2 =>
 ob (f185 n a0.2.2 a1.2.2) fun r_3 =>
 bif (a0.1 == a1.1) then
  ob (f187 n r_1 r_2) fun r_4 =>
  ob (f186 n a0.1 r_4 r_3) fun r_5 =>
  some r_5
 else
  ob (f188 n r_1 r_2) fun r_6 =>
  bif (decide (r_6 >= 0)) then
   ob (f189 n r_1 r_2) fun r_7 =>
   ob (f186 n a0.1 r_7 r_3) fun r_8 =>
   some r_8
  else
   ob (f189 n r_2 r_1) fun r_9 =>
   ob (f186 n a1.1 r_9 r_3) fun r_10 =>
   some r_10
def Fk (n : Nat) : Ent := ⟨148, [hR, hR], [hR], fun x => f148 n x.1 x.2⟩
def B65 (α : Type) (n : Nat) : D3 α := { reg := [(1, ⟨0, [], [(4, { ent := some (Gk n) })]⟩), (2, ⟨0, [], [(4, { ent := some (Gk n) })]⟩), (3, ⟨0, [], [(4, { ent := some (Gk n) })]⟩), (5, ⟨6, [], [(4, { ent := some (Ar5 n) }), (6, { ent := some (Ov n) })]⟩), (6, ⟨0, [], [(2, { ent := some (Uv n) })]⟩), (7, ⟨6, [], [(4, { ent := some (A3l n) }), (6, { ent := some (Ov n) })]⟩), (8, ⟨6, [], [(4, { ent := some (A3l n) }), (6, { ent := some (Ov n) })]⟩)], join := [], loop := [] }
theorem F6 (n : Nat) : (Fk n).Sound PP := Ar (fn := Tryz.f148) (D := B65 _ n) ⟨G2 n, G2 n, G2 n, B0p n, Ou n, Ww n, A66 n, Ou n, A66 n, Ou n, trivial⟩ 

def f142 (n : Nat) (a0 a1 : Rq × Rq × Rq × Rq) : Option (Rq × Rq × Rq × Rq) :=
 ob (f148 n a0.1 a1.1) fun r_1 =>
 ob (f148 n a0.2.1 a1.2.1) fun r_2 =>
 ob (f148 n a0.2.2.1 a1.2.2.1) fun r_3 =>
 ob (f148 n a0.2.2.2 a1.2.2.2) fun r_4 =>
 some (r_1, r_2, r_3, r_4)
def Ae2 (n : Nat) : Ent := ⟨142, [(.st (.pair hR (.pair hR (.pair hR hR)))), (.st (.pair hR (.pair hR (.pair hR hR))))], [(.st (.pair hR (.pair hR (.pair hR hR))))], fun x => f142 n x.1 x.2⟩
def B6b (α : Type) (n : Nat) : D3 α := { reg := [(1, ⟨19, [], [(4, { ent := some (Fk n) }), (9, { ent := some (Fk n) }), (14, { ent := some (Fk n) }), (19, { ent := some (Fk n) })]⟩)], join := [], loop := [] }
theorem Aie (n : Nat) : (Ae2 n).Sound PP := Ar (fn := Tryz.f142) (D := B6b _ n) ⟨F6 n, F6 n, F6 n, F6 n, trivial⟩ 

def f152 (n : Nat) (a0 : Rq) : Option Rq :=
 bif (!a0.1) then
  some ((decide ((a0.2.1.length : Int) > 0)), a0.2)
 else
  some (false, a0.2)
def K0 (n : Nat) : Ent := ⟨152, [hR], [hR], fun x => f152 n x⟩
def B61 (α : Type) (n : Nat) : D3 α := { reg := [], join := [], loop := [] }
theorem J1 (n : Nat) : (K0 n).Sound PP := Ar (fn := Tryz.f152) (D := B61 _ n) trivial 

def f143 (n : Nat) (a0 : Rq × Rq × Rq × Rq) : Option (Rq × Rq × Rq × Rq) :=
 ob (f152 n a0.1) fun r_1 =>
 ob (f152 n a0.2.1) fun r_2 =>
 ob (f152 n a0.2.2.1) fun r_3 =>
 ob (f152 n a0.2.2.2) fun r_4 =>
 some (r_1, r_2, r_3, r_4)
def Ae1 (n : Nat) : Ent := ⟨143, [(.st (.pair hR (.pair hR (.pair hR hR))))], [(.st (.pair hR (.pair hR (.pair hR hR))))], fun x => f143 n x⟩
def B6a (α : Type) (n : Nat) : D3 α := { reg := [(1, ⟨11, [], [(2, { ent := some (K0 n) }), (5, { ent := some (K0 n) }), (8, { ent := some (K0 n) }), (11, { ent := some (K0 n) })]⟩)], join := [], loop := [] }
theorem Aid (n : Nat) : (Ae1 n).Sound PP := Ar (fn := Tryz.f143) (D := B6a _ n) ⟨J1 n, J1 n, J1 n, J1 n, trivial⟩ 

def f150 (n : Nat) (a0 a1 : Rq) : Option Rq :=
 ob (f185 n a0.2.1 a1.2.1) fun r_1 =>
 ob (f185 n a0.2.2 a1.2.2) fun r_2 =>
 ob (f186 n (!(a0.1 == a1.1)) r_1 r_2) fun r_3 =>
 some r_3
def Be (n : Nat) : Ent := ⟨150, [hR, hR], [hR], fun x => f150 n x.1 x.2⟩
def B63 (α : Type) (n : Nat) : D3 α := { reg := [(1, ⟨15, [], [(9, { ent := some (Gk n) }), (14, { ent := some (Gk n) }), (15, { ent := some (Ov n) })]⟩)], join := [], loop := [] }
theorem Bz (n : Nat) : (Be n).Sound PP := Ar (fn := Tryz.f150) (D := B63 _ n) ⟨G2 n, G2 n, Ou n, trivial⟩ 

def f144 (n : Nat) (a0 a1 : Rq × Rq × Rq × Rq) : Option (Rq × Rq × Rq × Rq) :=
 ob (f150 n a0.1 a1.1) fun r_1 =>
 ob (f150 n a0.2.1 a1.1) fun r_2 =>
 ob (f150 n a0.1 a1.2.1) fun r_3 =>
 ob (f148 n r_2 r_3) fun r_4 =>
 ob (f150 n a0.2.2.1 a1.1) fun r_5 =>
 ob (f150 n a0.1 a1.2.2.1) fun r_6 =>
 ob (f148 n r_5 r_6) fun r_7 =>
 ob (f150 n a0.2.2.2 a1.1) fun r_8 =>
 ob (f150 n a0.1 a1.2.2.2) fun r_9 =>
 ob (f148 n r_8 r_9) fun r_10 =>
 ob (f150 n a0.2.1 a1.2.2.1) fun r_11 =>
 ob (f150 n a0.2.2.1 a1.2.1) fun r_12 =>
 ob (f148 n r_11 r_12) fun r_13 =>
 ob (f148 n r_10 r_13) fun r_14 =>
 some (r_1, r_4, r_7, r_14)
def A3r (n : Nat) : Ent := ⟨144, [(.st (.pair hR (.pair hR (.pair hR hR)))), (.st (.pair hR (.pair hR (.pair hR hR))))], [(.st (.pair hR (.pair hR (.pair hR hR))))], fun x => f144 n x.1 x.2⟩
def B69 (α : Type) (n : Nat) : D3 α := { reg := [(1, ⟨47, [], [(4, { ent := some (Be n) }), (9, { ent := some (Be n) }), (14, { ent := some (Be n) }), (15, { ent := some (Fk n) }), (20, { ent := some (Be n) }), (25, { ent := some (Be n) }), (26, { ent := some (Fk n) }), (31, { ent := some (Be n) }), (36, { ent := some (Be n) }), (37, { ent := some (Fk n) }), (42, { ent := some (Be n) }), (47, { ent := some (Be n) }), (48, { ent := some (Fk n) }), (49, { ent := some (Fk n) })]⟩)], join := [], loop := [] }
theorem A6g (n : Nat) : (A3r n).Sound PP := Ar (fn := Tryz.f144) (D := B69 _ n) ⟨Bz n, Bz n, Bz n, F6 n, Bz n, Bz n, F6 n, Bz n, Bz n, F6 n, Bz n, Bz n, F6 n, F6 n, trivial⟩ 

def f145 (n : Nat) (a0 : Rq) : Option Bool :=
 some ((a0.2.1.length : Int) == 0)
def Ars (n : Nat) : Ent := ⟨145, [hR], [.bool], fun x => f145 n x⟩
def B68 (α : Type) (n : Nat) : D3 α := { reg := [], join := [], loop := [] }
theorem B1e (n : Nat) : (Ars n).Sound PP := Ar (fn := Tryz.f145) (D := B68 _ n) trivial 

def f151 (n : Nat) (a0 a1 : Rq) : Option Rq :=
 ob (f185 n a0.2.1 a1.2.2) fun r_1 =>
 ob (f185 n a0.2.2 a1.2.1) fun r_2 =>
 ob (f186 n (!(a0.1 == a1.1)) r_1 r_2) fun r_3 =>
 some r_3
def P2 (n : Nat) : Ent := ⟨151, [hR, hR], [hR], fun x => f151 n x.1 x.2⟩
def B62 (α : Type) (n : Nat) : D3 α := { reg := [(1, ⟨15, [], [(9, { ent := some (Gk n) }), (14, { ent := some (Gk n) }), (15, { ent := some (Ov n) })]⟩)], join := [], loop := [] }
theorem B18 (n : Nat) : (P2 n).Sound PP := Ar (fn := Tryz.f151) (D := B62 _ n) ⟨G2 n, G2 n, Ou n, trivial⟩ 

def f149 (n : Nat) (a0 a1 : Rq) : Option Rq :=
 ob (f152 n a1) fun r_1 =>
 ob (f148 n a0 r_1) fun r_2 =>
 some r_2
def Arn (n : Nat) : Ent := ⟨149, [hR, hR], [hR], fun x => f149 n x.1 x.2⟩
def B64 (α : Type) (n : Nat) : D3 α := { reg := [(1, ⟨3, [], [(2, { ent := some (K0 n) }), (3, { ent := some (Fk n) })]⟩)], join := [], loop := [] }
theorem B19 (n : Nat) : (Arn n).Sound PP := Ar (fn := Tryz.f149) (D := B64 _ n) ⟨J1 n, F6 n, trivial⟩ 

abbrev Aic : Tm := ⟨[(1, .k (.hp 1 0 0)), (2, .k (.hp 2 0 0))], [(1, .var 108 true false [.d .bool, .d hIs, .d hIs, .d .bool, .d hIs, .d hIs, .d .bool, .d hIs, .d hIs, .d .bool, .d hIs, .d hIs]), (2, .var 108 true false [.d .bool, .d .nil, .d .nil, .d .bool, .d .nil, .d .nil, .d .bool, .d .nil, .d .nil, .d .bool, .d .nil, .d .nil])], [], []⟩
abbrev Aib : Tm := ⟨[(1, .k (.hp 1 0 0)), (2, .k (.hp 2 0 0)), (3, .k (.hp 3 0 0)), (4, .k (.hp 4 0 0))], [(1, .var 108 true false [.d .bool, .d hIs, .d hIs, .d .bool, .d hIs, .d hIs, .d .bool, .d hIs, .d hIs, .d .bool, .d hIs, .d hIs]), (2, .var 108 true false [.d .bool, .d .nil, .d .nil, .d .bool, .d .nil, .d .nil, .d .bool, .d .nil, .d .nil, .d .bool, .d .nil, .d .nil]), (3, .var 31 true false [.d .bool, .d hIs, .d hIs]), (4, .var 31 true false [.d .bool, .d hIs, .d hIs])], [], []⟩
def f146 (n : Nat) (a0 : Rq × Rq × Rq × Rq) : Option (Rq × Rq × Rq × Rq) :=
 ob (f127 n 1) fun r_1 =>
 ob (f151 n r_1 a0.1) fun r_2 =>
 ob (f150 n r_2 r_2) fun r_3 =>
 ob (f127 n 2) fun r_4 =>
 ob (f150 n r_3 r_2) fun r_5 =>
 ob (f150 n r_4 r_5) fun r_6 =>
 ob (f150 n a0.2.1 r_3) fun r_7 =>
 ob (f152 n r_7) fun r_8 =>
 ob (f150 n a0.2.2.1 r_3) fun r_9 =>
 ob (f152 n r_9) fun r_10 =>
 ob (f150 n a0.2.1 a0.2.2.1) fun r_11 =>
 ob (f150 n r_6 r_11) fun r_12 =>
 ob (f150 n a0.2.2.2 r_3) fun r_13 =>
 ob (f149 n r_12 r_13) fun r_14 =>
 some (r_2, r_8, r_10, r_14)
def Arq (n : Nat) : Ent := ⟨146, [(.st (.pair hR (.pair hR (.pair hR hR))))], [(.st (.pair hR (.pair hR (.pair hR hR))))], fun x => f146 n x⟩
def Arr (α : Type) (n : Nat) : D3 α := { reg := [(1, ⟨0, [], [(0, { ent := some (C3 n) }), (3, { ent := some (P2 n) })]⟩), (2, ⟨0, [], [(2, { ent := some (Be n) })]⟩), (3, ⟨0, [], [(0, { ent := some (C3 n) }), (3, { ent := some (Be n) }), (4, { ent := some (Be n) })]⟩), (4, ⟨23, [], [(4, { ent := some (Be n) }), (5, { ent := some (K0 n) }), (9, { ent := some (Be n) }), (10, { ent := some (K0 n) }), (16, { ent := some (Be n) }), (17, { ent := some (Be n) }), (21, { ent := some (Be n) }), (22, { ent := some (Arn n) })]⟩)], join := [], loop := [], any := [(1, Aic), (3, Aib)] }
set_option maxHeartbeats 8000000 in
theorem B1d (n : Nat) : Ax TT ⟨42, []⟩ [(0, { ent := some (C3 n) }), (3, { ent := some (P2 n) })] Aic (Ad ((A1 Tryz.f146).at [1, 0])) := by
 refine ⟨by kernel_rfl, fun w q hq => ?_⟩
 have e : WT [(0, { ent := some (C3 n) }), (3, { ent := some (P2 n) })] (A8 (Ad ((A1 Tryz.f146).at [1, 0])).toList) q = (∃ (y0 : HL (C3 n).rs) (q0 : List (Nat × RV)), q = (0, .sv (Aq (C3 n).rs y0)) :: q0 /\ ∃ (y1 : HL (P2 n).rs) (q1 : List (Nat × RV)), q0 = (3, .sv (Aq (P2 n).rs y1)) :: q1 /\ q1 = []) := by kernel_rfl
 rw [e] at hq; obtain ⟨y0, q0, rfl, y1, q1, rfl, rfl⟩ := hq
 all_goals exact .inr ⟨5, by kernel_rfl, by kernel_rfl, by kernel_rfl⟩
set_option maxHeartbeats 8000000 in
theorem B1c (n : Nat) : Ax TT ⟨42, []⟩ [(0, { ent := some (C3 n) }), (3, { ent := some (Be n) }), (4, { ent := some (Be n) })] Aib (Ad ((A1 Tryz.f146).at [1, 1, 1, 0])) := by
 refine ⟨by kernel_rfl, fun w q hq => ?_⟩
 have e : WT [(0, { ent := some (C3 n) }), (3, { ent := some (Be n) }), (4, { ent := some (Be n) })] (A8 (Ad ((A1 Tryz.f146).at [1, 1, 1, 0])).toList) q = (∃ (y0 : HL (C3 n).rs) (q0 : List (Nat × RV)), q = (0, .sv (Aq (C3 n).rs y0)) :: q0 /\ ∃ (y1 : HL (Be n).rs) (q1 : List (Nat × RV)), q0 = (3, .sv (Aq (Be n).rs y1)) :: q1 /\ ∃ (y2 : HL (Be n).rs) (q2 : List (Nat × RV)), q1 = (4, .sv (Aq (Be n).rs y2)) :: q2 /\ q2 = []) := by kernel_rfl
 rw [e] at hq; obtain ⟨y0, q0, rfl, y1, q1, rfl, y2, q2, rfl, rfl⟩ := hq
 all_goals exact .inr ⟨6, by kernel_rfl, by kernel_rfl, by kernel_rfl⟩
theorem Arp (α : Type) (n : Nat) : Al PP (Ah (Arr α n).reg) := ⟨F7 n, B18 n, Bz n, F7 n, Bz n, Bz n, Bz n, J1 n, Bz n, J1 n, Bz n, Bz n, Bz n, B19 n, trivial⟩
theorem B67 (α : Type) (n : Nat) : D3.OK PP TT ⟨42, []⟩ (Arr α n) (A1 Tryz.f146) :=
 D3.OK.mk3a (Arp α n) (show Aa (A1 Tryz.f146) = [] by kernel_rfl) trivial (show At (A1 Tryz.f146) = [(1, Ad ((A1 Tryz.f146).at [1, 0])), (3, Ad ((A1 Tryz.f146).at [1, 1, 1, 0])), (4, Ad ((A1 Tryz.f146).at [1, 1, 1, 1, 0]))] by kernel_rfl) ⟨⟨B1d n, trivial⟩, ⟨B1c n, trivial⟩, trivial, trivial⟩
theorem B1b (n : Nat) : (Arq n).Sound PP := fk (fn := Tryz.f146) (B67 _ n) 

def f154 (n : Nat) (a0 : Rq) : Option Bool :=
 bif (decide ((a0.2.1.length : Int) <= 40)) then
  some (decide ((a0.2.2.length : Int) <= 40))
 else
  some false
def Uz (n : Nat) : Ent := ⟨154, [hR], [.bool], fun x => f154 n x⟩
def B60 (α : Type) (n : Nat) : D3 α := { reg := [], join := [], loop := [] }
theorem X5 (n : Nat) : (Uz n).Sound PP := Ar (fn := Tryz.f154) (D := B60 _ n) trivial 

def f147 (n : Nat) (a0 : Rq × Rq × Rq × Rq) : Option Bool :=
 ob (f154 n a0.1) fun r_1 =>
 bif r_1 then
  ob (f154 n a0.2.1) fun r_2 =>
  bif r_2 then
   ob (f154 n a0.2.2.1) fun r_3 =>
   bif r_3 then
    ob (f154 n a0.2.2.2) fun r_4 =>
    some r_4
   else
    some false
  else
   some false
 else
  some false
def Aro (n : Nat) : Ent := ⟨147, [(.st (.pair hR (.pair hR (.pair hR hR))))], [.bool], fun x => f147 n x⟩
def B66 (α : Type) (n : Nat) : D3 α := { reg := [(1, ⟨0, [], [(2, { ent := some (Uz n) }), (6, { ent := some (Uz n) }), (11, { ent := some (Uz n) }), (16, { ent := some (Uz n) })]⟩)], join := [], loop := [] }
theorem B1a (n : Nat) : (Aro n).Sound PP := Ar (fn := Tryz.f147) (D := B66 _ n) ⟨X5 n, X5 n, X5 n, X5 n, trivial⟩ 

def Z1 {α : Type} (n : Nat) (s1 s2 s3 : LR) (s11 s14 : Int) (c4_0 : LN) (c8_0 c8_3 c8_6 c8_9 : Bool) (c12_0 c12_1 c12_2 c12_3 : Int) (c13_0 : Bool) (c13_1 c13_2 : LI) (c13_3 : Bool) (c13_4 c13_5 : LI) (c13_6 : Bool) (c13_7 c13_8 : LI) (c13_9 : Bool) (c13_10 c13_11 : LI) (b15 : List (Rq × Rq × Rq × Rq)) (f : LR -> LR -> LR -> Int -> Int -> LN -> Bool -> Bool -> Bool -> Bool -> Int -> Int -> Int -> Int -> Bool -> LI -> LI -> Bool -> LI -> LI -> Bool -> LI -> LI -> Bool -> LI -> LI -> (List (Rq × Rq × Rq × Rq)) -> Option α) (k0 : LR -> LR -> LR -> Int -> LN -> Bool -> Bool -> Bool -> Bool -> Bool -> LI -> LI -> Bool -> LI -> LI -> Bool -> LI -> LI -> Bool -> LI -> LI -> (List (Rq × Rq × Rq × Rq)) -> Option α) : Option α :=
 bif (decide (s14 < c12_3)) then
  gd (decide (0 <= c12_1) && decide (c12_1 < (b15.length : Int))) (
   gd (decide (c12_1.toNat < b15.length)) (
    let x_30 := b15.getD c12_1.toNat ((false, [], []), (false, [], []), (false, [], []), (false, [], []))
    ob (f144 n ((c13_0, c13_1, c13_2), (c13_3, c13_4, c13_5), (c13_6, c13_7, c13_8), c13_9, c13_10, c13_11) x_30) fun r_31 =>
    f s1 s2 s3 s11 (W (s14 + 1)) c4_0 c8_0 c8_3 c8_6 c8_9 c12_0 c12_1 c12_2 c12_3 r_31.1.1 r_31.1.2.1 r_31.1.2.2 r_31.2.1.1 r_31.2.1.2.1 r_31.2.1.2.2 r_31.2.2.1.1 r_31.2.2.1.2.1 r_31.2.2.1.2.2 r_31.2.2.2.1 r_31.2.2.2.2.1 r_31.2.2.2.2.2 b15))
 else
  k0 s1 s2 s3 s11 c4_0 c8_0 c8_3 c8_6 c8_9 c13_0 c13_1 c13_2 c13_3 c13_4 c13_5 c13_6 c13_7 c13_8 c13_9 c13_10 c13_11 b15
abbrev Q1 : Tm := ⟨[(1, .d hRs), (2, .d hRs), (3, .d hRs), (4, .k (.hp 4 0 0)), (8, .k (.hp 8 0 0)), (10, .k (.hw 15)), (11, .d hI), (12, .k (.hp 12 0 0)), (13, .k (.hp 13 0 0)), (14, .d hI)], [(4, .var 25 true false [.d hNs]), (8, .var 108 true false [.d .bool, .d .nil, .d .nil, .d .bool, .d .nil, .d .nil, .d .bool, .d .nil, .d .nil, .d .bool, .d .nil, .d .nil]), (12, .var 125 true false [.d hI, .d hI, .d hI, .d hI]), (13, .var 108 true false [.d .bool, .d hIs, .d hIs, .d .bool, .d hIs, .d hIs, .d .bool, .d hIs, .d hIs, .d .bool, .d hIs, .d hIs]), (15, .arr 108 (.st (.pair hR (.pair hR (.pair hR hR)))) false)], [], []⟩
abbrev Ao6 : Tm := ⟨[(1, .d hRs), (2, .d hRs), (3, .d hRs), (4, .k (.hp 4 0 0)), (8, .k (.hp 8 0 0)), (10, .k (.hw 15)), (11, .d hI), (13, .k (.hp 13 0 0))], [(4, .var 25 true false [.d hNs]), (8, .var 108 true false [.d .bool, .d .nil, .d .nil, .d .bool, .d .nil, .d .nil, .d .bool, .d .nil, .d .nil, .d .bool, .d .nil, .d .nil]), (13, .var 108 true false [.d .bool, .d hIs, .d hIs, .d .bool, .d hIs, .d hIs, .d .bool, .d hIs, .d hIs, .d .bool, .d hIs, .d hIs]), (15, .arr 108 (.st (.pair hR (.pair hR (.pair hR hR)))) false)], [12], []⟩
abbrev Z0 : List (Exit × Tm) := [(.exit 3, Ao6)]
def Yz {α : Type} (n : Nat) (v : Q1.den) (f : Q1.den -> Option α) (ks : KS α Z0) : Option α := Z1 n v.1.1 v.1.2.1 v.1.2.2.1 v.1.2.2.2.2.2.2.1 v.1.2.2.2.2.2.2.2.2.2.1 v.2.1.1 v.2.2.1.1 v.2.2.1.2.2.2.1 v.2.2.1.2.2.2.2.2.2.1 v.2.2.1.2.2.2.2.2.2.2.2.2.1 v.2.2.2.1.1 v.2.2.2.1.2.1 v.2.2.2.1.2.2.1 v.2.2.2.1.2.2.2.1 v.2.2.2.2.1.1 v.2.2.2.2.1.2.1 v.2.2.2.2.1.2.2.1 v.2.2.2.2.1.2.2.2.1 v.2.2.2.2.1.2.2.2.2.1 v.2.2.2.2.1.2.2.2.2.2.1 v.2.2.2.2.1.2.2.2.2.2.2.1 v.2.2.2.2.1.2.2.2.2.2.2.2.1 v.2.2.2.2.1.2.2.2.2.2.2.2.2.1 v.2.2.2.2.1.2.2.2.2.2.2.2.2.2.1 v.2.2.2.2.1.2.2.2.2.2.2.2.2.2.2.1 v.2.2.2.2.1.2.2.2.2.2.2.2.2.2.2.2.1 v.2.2.2.2.2.1 (fun s1 s2 s3 s11 s14 c4_0 c8_0 c8_3 c8_6 c8_9 c12_0 c12_1 c12_2 c12_3 c13_0 c13_1 c13_2 c13_3 c13_4 c13_5 c13_6 c13_7 c13_8 c13_9 c13_10 c13_11 b15 => f ((s1, s2, s3, (), (), (), s11, (), (), s14, ()), ((c4_0, ()), (c8_0, (), (), c8_3, (), (), c8_6, (), (), c8_9, (), (), ()), (c12_0, c12_1, c12_2, c12_3, ()), (c13_0, c13_1, c13_2, c13_3, c13_4, c13_5, c13_6, c13_7, c13_8, c13_9, c13_10, c13_11, ()), b15, ()))) (fun w0 w1 w2 w3 w4 w5 w6 w7 w8 w9 w10 w11 w12 w13 w14 w15 w16 w17 w18 w19 w20 w21 => ks.1 ((w0, w1, w2, (), (), (), w3, (), ()), ((w4, ()), (w5, (), (), w6, (), (), w7, (), (), w8, (), (), ()), (w9, w10, w11, w12, w13, w14, w15, w16, w17, w18, w19, w20, ()), w21, ())))
def Vz {α : Type} (n m : Nat) (s1 s2 s3 : LR) (s11 s14 : Int) (c4_0 : LN) (c8_0 c8_3 c8_6 c8_9 : Bool) (c12_0 c12_1 c12_2 c12_3 : Int) (c13_0 : Bool) (c13_1 c13_2 : LI) (c13_3 : Bool) (c13_4 c13_5 : LI) (c13_6 : Bool) (c13_7 c13_8 : LI) (c13_9 : Bool) (c13_10 c13_11 : LI) (b15 : List (Rq × Rq × Rq × Rq)) (k0 : LR -> LR -> LR -> Int -> LN -> Bool -> Bool -> Bool -> Bool -> Bool -> LI -> LI -> Bool -> LI -> LI -> Bool -> LI -> LI -> Bool -> LI -> LI -> (List (Rq × Rq × Rq × Rq)) -> Option α) : Option α := A5 (Yz n) m ((s1, s2, s3, (), (), (), s11, (), (), s14, ()), ((c4_0, ()), (c8_0, (), (), c8_3, (), (), c8_6, (), (), c8_9, (), (), ()), (c12_0, c12_1, c12_2, c12_3, ()), (c13_0, c13_1, c13_2, c13_3, c13_4, c13_5, c13_6, c13_7, c13_8, c13_9, c13_10, c13_11, ()), b15, ())) (fun w => k0 w.1.1 w.1.2.1 w.1.2.2.1 w.1.2.2.2.2.2.2.1 w.2.1.1 w.2.2.1.1 w.2.2.1.2.2.2.1 w.2.2.1.2.2.2.2.2.2.1 w.2.2.1.2.2.2.2.2.2.2.2.2.1 w.2.2.2.1.1 w.2.2.2.1.2.1 w.2.2.2.1.2.2.1 w.2.2.2.1.2.2.2.1 w.2.2.2.1.2.2.2.2.1 w.2.2.2.1.2.2.2.2.2.1 w.2.2.2.1.2.2.2.2.2.2.1 w.2.2.2.1.2.2.2.2.2.2.2.1 w.2.2.2.1.2.2.2.2.2.2.2.2.1 w.2.2.2.1.2.2.2.2.2.2.2.2.2.1 w.2.2.2.1.2.2.2.2.2.2.2.2.2.2.1 w.2.2.2.1.2.2.2.2.2.2.2.2.2.2.2.1 w.2.2.2.2.1, ())
theorem Ao5 {α n m s1 s2 s3 s11 s14 c4_0 c8_0 c8_3 c8_6 c8_9 c12_0 c12_1 c12_2 c12_3 c13_0 c13_1 c13_2 c13_3 c13_4 c13_5 c13_6 c13_7 c13_8 c13_9 c13_10 c13_11 b15 k0} : Vz (α := α) n (m + 1) s1 s2 s3 s11 s14 c4_0 c8_0 c8_3 c8_6 c8_9 c12_0 c12_1 c12_2 c12_3 c13_0 c13_1 c13_2 c13_3 c13_4 c13_5 c13_6 c13_7 c13_8 c13_9 c13_10 c13_11 b15 k0 = Z1 n s1 s2 s3 s11 s14 c4_0 c8_0 c8_3 c8_6 c8_9 c12_0 c12_1 c12_2 c12_3 c13_0 c13_1 c13_2 c13_3 c13_4 c13_5 c13_6 c13_7 c13_8 c13_9 c13_10 c13_11 b15 (fun s1 s2 s3 s11 s14 c4_0 c8_0 c8_3 c8_6 c8_9 c12_0 c12_1 c12_2 c12_3 c13_0 c13_1 c13_2 c13_3 c13_4 c13_5 c13_6 c13_7 c13_8 c13_9 c13_10 c13_11 b15 => Vz n m s1 s2 s3 s11 s14 c4_0 c8_0 c8_3 c8_6 c8_9 c12_0 c12_1 c12_2 c12_3 c13_0 c13_1 c13_2 c13_3 c13_4 c13_5 c13_6 c13_7 c13_8 c13_9 c13_10 c13_11 b15 k0) k0 := rfl
def Ob {α : Type} (n : Nat) (s1 s2 s3 : LR) (s11 : Int) (c4_0 : LN) (c8_0 c8_3 c8_6 c8_9 : Bool) (b15 : List (Rq × Rq × Rq × Rq)) (f : LR -> LR -> LR -> Int -> LN -> Bool -> Bool -> Bool -> Bool -> (List (Rq × Rq × Rq × Rq)) -> Option α) (k0 : Int -> Bool -> Bool -> Bool -> Bool -> Option α) (k1 : Bool -> Bool -> Bool -> Bool -> (List (Rq × Rq × Rq × Rq)) -> Option α) : Option α :=
 bif (decide (s11 < (c4_0.length : Int))) then
  gd (decide (0 <= s11) && decide (s11 < (c4_0.length : Int))) (
   let x_1 := c4_0.getD s11.toNat (0, 0, 0, 0)
   ob (f127 n 0) fun r_2 =>
   ob (f141 n r_2) fun r_3 =>
   let J_75 := fun (y_52 : LR) (y_53 : LR) (y_54 : LR) (y_55 : Int) (y_56 : LN) (y_57 : Bool) (y_58 : Bool) (y_59 : Bool) (y_60 : Bool) (y_61 : Bool) (y_62 : LI) (y_63 : LI) (y_64 : Bool) (y_65 : LI) (y_66 : LI) (y_67 : Bool) (y_68 : LI) (y_69 : LI) (y_70 : Bool) (y_71 : LI) (y_72 : LI) (y_73 : List (Rq × Rq × Rq × Rq)) => (
    ob (f147 n ((y_61, y_62, y_63), (y_64, y_65, y_66), (y_67, y_68, y_69), y_70, y_71, y_72)) fun r_74 =>
    bif (!r_74) then
     k0 7 false false false false
    else
     gd (decide ((y_73.length + 1) * 224 <= 140737488355328)) (
      f y_52 y_53 y_54 (W (y_55 + 1)) y_56 y_57 y_58 y_59 y_60 (y_73 ++ [((y_61, y_62, y_63), (y_64, y_65, y_66), (y_67, y_68, y_69), y_70, y_71, y_72)])))
   bif (x_1.1 == 1) then
    ob (f127 n x_1.2.2.2) fun r_4 =>
    ob (f141 n r_4) fun r_5 =>
    J_75 s1 s2 s3 s11 c4_0 c8_0 c8_3 c8_6 c8_9 r_5.1.1 r_5.1.2.1 r_5.1.2.2 r_5.2.1.1 r_5.2.1.2.1 r_5.2.1.2.2 r_5.2.2.1.1 r_5.2.2.1.2.1 r_5.2.2.1.2.2 r_5.2.2.2.1 r_5.2.2.2.2.1 r_5.2.2.2.2.2 b15
   else
    bif (x_1.1 == 2) then
     gd (decide (0 <= x_1.2.2.2) && decide (x_1.2.2.2 < (s1.length : Int))) (
      let x_6 := s1.getD x_1.2.2.2.toNat (false, [], [])
      gd (decide (0 <= x_1.2.2.2) && decide (x_1.2.2.2 < (s2.length : Int))) (
       let x_7 := s2.getD x_1.2.2.2.toNat (false, [], [])
       gd (decide (0 <= x_1.2.2.2) && decide (x_1.2.2.2 < (s3.length : Int))) (
        let x_8 := s3.getD x_1.2.2.2.toNat (false, [], [])
        ob (f127 n 0) fun r_9 =>
        J_75 s1 s2 s3 s11 c4_0 c8_0 c8_3 c8_6 c8_9 x_6.1 x_6.2.1 x_6.2.2 x_7.1 x_7.2.1 x_7.2.2 x_8.1 x_8.2.1 x_8.2.2 r_9.1 r_9.2.1 r_9.2.2 b15)))
    else
     bif (x_1.1 == 3) then
      gd (decide (0 <= x_1.2.1) && decide (x_1.2.1 < (b15.length : Int))) (
       gd (decide (x_1.2.1.toNat < b15.length)) (
        let x_10 := b15.getD x_1.2.1.toNat ((false, [], []), (false, [], []), (false, [], []), (false, [], []))
        gd (decide (0 <= x_1.2.2.1) && decide (x_1.2.2.1 < (b15.length : Int))) (
         gd (decide (x_1.2.2.1.toNat < b15.length)) (
          let x_11 := b15.getD x_1.2.2.1.toNat ((false, [], []), (false, [], []), (false, [], []), (false, [], []))
          ob (f142 n x_10 x_11) fun r_12 =>
          J_75 s1 s2 s3 s11 c4_0 c8_0 c8_3 c8_6 c8_9 r_12.1.1 r_12.1.2.1 r_12.1.2.2 r_12.2.1.1 r_12.2.1.2.1 r_12.2.1.2.2 r_12.2.2.1.1 r_12.2.2.1.2.1 r_12.2.2.1.2.2 r_12.2.2.2.1 r_12.2.2.2.2.1 r_12.2.2.2.2.2 b15))))
     else
      bif (x_1.1 == 4) then
       gd (decide (0 <= x_1.2.1) && decide (x_1.2.1 < (b15.length : Int))) (
        gd (decide (x_1.2.1.toNat < b15.length)) (
         let x_13 := b15.getD x_1.2.1.toNat ((false, [], []), (false, [], []), (false, [], []), (false, [], []))
         gd (decide (0 <= x_1.2.2.1) && decide (x_1.2.2.1 < (b15.length : Int))) (
          gd (decide (x_1.2.2.1.toNat < b15.length)) (
           let x_14 := b15.getD x_1.2.2.1.toNat ((false, [], []), (false, [], []), (false, [], []), (false, [], []))
           ob (f143 n x_14) fun r_15 =>
           ob (f142 n x_13 r_15) fun r_16 =>
           J_75 s1 s2 s3 s11 c4_0 c8_0 c8_3 c8_6 c8_9 r_16.1.1 r_16.1.2.1 r_16.1.2.2 r_16.2.1.1 r_16.2.1.2.1 r_16.2.1.2.2 r_16.2.2.1.1 r_16.2.2.1.2.1 r_16.2.2.1.2.2 r_16.2.2.2.1 r_16.2.2.2.2.1 r_16.2.2.2.2.2 b15))))
      else
       bif (x_1.1 == 5) then
        gd (decide (0 <= x_1.2.1) && decide (x_1.2.1 < (b15.length : Int))) (
         gd (decide (x_1.2.1.toNat < b15.length)) (
          let x_17 := b15.getD x_1.2.1.toNat ((false, [], []), (false, [], []), (false, [], []), (false, [], []))
          gd (decide (0 <= x_1.2.2.1) && decide (x_1.2.2.1 < (b15.length : Int))) (
           gd (decide (x_1.2.2.1.toNat < b15.length)) (
            let x_18 := b15.getD x_1.2.2.1.toNat ((false, [], []), (false, [], []), (false, [], []), (false, [], []))
            ob (f144 n x_17 x_18) fun r_19 =>
            J_75 s1 s2 s3 s11 c4_0 c8_0 c8_3 c8_6 c8_9 r_19.1.1 r_19.1.2.1 r_19.1.2.2 r_19.2.1.1 r_19.2.1.2.1 r_19.2.1.2.2 r_19.2.2.1.1 r_19.2.2.1.2.1 r_19.2.2.1.2.2 r_19.2.2.2.1 r_19.2.2.2.2.1 r_19.2.2.2.2.2 b15))))
       else
        bif (x_1.1 == 6) then
         gd (decide (0 <= x_1.2.2.1) && decide (x_1.2.2.1 < (b15.length : Int))) (
          gd (decide (x_1.2.2.1.toNat < b15.length)) (
           let x_20 := b15.getD x_1.2.2.1.toNat ((false, [], []), (false, [], []), (false, [], []), (false, [], []))
           ob (f145 n x_20.1) fun r_21 =>
           bif r_21 then
            k0 10 false false false false
           else
            gd (decide (0 <= x_1.2.1) && decide (x_1.2.1 < (b15.length : Int))) (
             gd (decide (x_1.2.1.toNat < b15.length)) (
              let x_22 := b15.getD x_1.2.1.toNat ((false, [], []), (false, [], []), (false, [], []), (false, [], []))
              gd (decide (0 <= x_1.2.2.1) && decide (x_1.2.2.1 < (b15.length : Int))) (
               gd (decide (x_1.2.2.1.toNat < b15.length)) (
                let x_23 := b15.getD x_1.2.2.1.toNat ((false, [], []), (false, [], []), (false, [], []), (false, [], []))
                ob (f146 n x_23) fun r_24 =>
                ob (f144 n x_22 r_24) fun r_25 =>
                J_75 s1 s2 s3 s11 c4_0 c8_0 c8_3 c8_6 c8_9 r_25.1.1 r_25.1.2.1 r_25.1.2.2 r_25.2.1.1 r_25.2.1.2.1 r_25.2.1.2.2 r_25.2.2.1.1 r_25.2.2.1.2.1 r_25.2.2.1.2.2 r_25.2.2.2.1 r_25.2.2.2.2.1 r_25.2.2.2.2.2 b15))))))
        else
         bif (x_1.1 == 7) then
          gd (decide (0 <= x_1.2.1) && decide (x_1.2.1 < (b15.length : Int))) (
           gd (decide (x_1.2.1.toNat < b15.length)) (
            let x_26 := b15.getD x_1.2.1.toNat ((false, [], []), (false, [], []), (false, [], []), (false, [], []))
            ob (f143 n x_26) fun r_27 =>
            J_75 s1 s2 s3 s11 c4_0 c8_0 c8_3 c8_6 c8_9 r_27.1.1 r_27.1.2.1 r_27.1.2.2 r_27.2.1.1 r_27.2.1.2.1 r_27.2.1.2.2 r_27.2.2.1.1 r_27.2.2.1.2.1 r_27.2.2.1.2.2 r_27.2.2.2.1 r_27.2.2.2.2.1 r_27.2.2.2.2.2 b15))
         else
          ob (f127 n 1) fun r_28 =>
          ob (f141 n r_28) fun r_29 =>
          Vz n n s1 s2 s3 s11 0 c4_0 c8_0 c8_3 c8_6 c8_9 x_1.1 x_1.2.1 x_1.2.2.1 x_1.2.2.2 r_29.1.1 r_29.1.2.1 r_29.1.2.2 r_29.2.1.1 r_29.2.1.2.1 r_29.2.1.2.2 r_29.2.2.1.1 r_29.2.2.1.2.1 r_29.2.2.1.2.2 r_29.2.2.2.1 r_29.2.2.2.2.1 r_29.2.2.2.2.2 b15
           (fun z_30 z_31 z_32 z_33 z_34 z_35 z_36 z_37 z_38 z_39 z_40 z_41 z_42 z_43 z_44 z_45 z_46 z_47 z_48 z_49 z_50 z_51 => (
            J_75 z_30 z_31 z_32 z_33 z_34 z_35 z_36 z_37 z_38 z_39 z_40 z_41 z_42 z_43 z_44 z_45 z_46 z_47 z_48 z_49 z_50 z_51)))
 else
  k1 c8_0 c8_3 c8_6 c8_9 b15
abbrev Vy : Tm := ⟨[(1, .d hRs), (2, .d hRs), (3, .d hRs), (4, .k (.hp 4 0 0)), (8, .k (.hp 8 0 0)), (10, .k (.hw 15)), (11, .d hI)], [(4, .var 25 true false [.d hNs]), (8, .var 108 true false [.d .bool, .d .nil, .d .nil, .d .bool, .d .nil, .d .nil, .d .bool, .d .nil, .d .nil, .d .bool, .d .nil, .d .nil]), (15, .arr 108 (.st (.pair hR (.pair hR (.pair hR hR)))) false)], [13, 148], []⟩
abbrev Aux : Tm := ⟨[(8, .k (.hp 8 0 0)), (9, .d hI)], [(8, .var 108 true false [.d .bool, .d .nil, .d .nil, .d .bool, .d .nil, .d .nil, .d .bool, .d .nil, .d .nil, .d .bool, .d .nil, .d .nil])], [4, 12, 13, 15], []⟩
abbrev Auw : Tm := ⟨[(8, .k (.hp 8 0 0)), (10, .k (.hw 15))], [(8, .var 108 true false [.d .bool, .d .nil, .d .nil, .d .bool, .d .nil, .d .nil, .d .bool, .d .nil, .d .nil, .d .bool, .d .nil, .d .nil]), (15, .arr 108 (.st (.pair hR (.pair hR (.pair hR hR)))) false)], [4], []⟩
abbrev A57 : List (Exit × Tm) := [(.ret, Aux), (.exit 0, Auw)]
def A56 {α : Type} (n : Nat) (v : Vy.den) (f : Vy.den -> Option α) (ks : KS α A57) : Option α := Ob n v.1.1 v.1.2.1 v.1.2.2.1 v.1.2.2.2.2.2.2.1 v.2.1.1 v.2.2.1.1 v.2.2.1.2.2.2.1 v.2.2.1.2.2.2.2.2.2.1 v.2.2.1.2.2.2.2.2.2.2.2.2.1 v.2.2.2.1 (fun s1 s2 s3 s11 c4_0 c8_0 c8_3 c8_6 c8_9 b15 => f ((s1, s2, s3, (), (), (), s11, ()), ((c4_0, ()), (c8_0, (), (), c8_3, (), (), c8_6, (), (), c8_9, (), (), ()), b15, ()))) (fun w0 w1 w2 w3 w4 => ks.1 (((), w0, ()), ((w1, (), (), w2, (), (), w3, (), (), w4, (), (), ()), ()))) (fun w0 w1 w2 w3 w4 => ks.2.1 (((), (), ()), ((w0, (), (), w1, (), (), w2, (), (), w3, (), (), ()), w4, ())))
def A30 {α : Type} (n m : Nat) (s1 s2 s3 : LR) (s11 : Int) (c4_0 : LN) (c8_0 c8_3 c8_6 c8_9 : Bool) (b15 : List (Rq × Rq × Rq × Rq)) (k0 : Int -> Bool -> Bool -> Bool -> Bool -> Option α) (k1 : Bool -> Bool -> Bool -> Bool -> (List (Rq × Rq × Rq × Rq)) -> Option α) : Option α := A5 (A56 n) m ((s1, s2, s3, (), (), (), s11, ()), ((c4_0, ()), (c8_0, (), (), c8_3, (), (), c8_6, (), (), c8_9, (), (), ()), b15, ())) (fun w => k0 w.1.2.1 w.2.1.1 w.2.1.2.2.2.1 w.2.1.2.2.2.2.2.2.1 w.2.1.2.2.2.2.2.2.2.2.2.1, fun w => k1 w.2.1.1 w.2.1.2.2.2.1 w.2.1.2.2.2.2.2.2.1 w.2.1.2.2.2.2.2.2.2.2.2.1 w.2.2.1, ())
theorem Auu {α n m s1 s2 s3 s11 c4_0 c8_0 c8_3 c8_6 c8_9 b15 k0 k1} : A30 (α := α) n (m + 1) s1 s2 s3 s11 c4_0 c8_0 c8_3 c8_6 c8_9 b15 k0 k1 = Ob n s1 s2 s3 s11 c4_0 c8_0 c8_3 c8_6 c8_9 b15 (fun s1 s2 s3 s11 c4_0 c8_0 c8_3 c8_6 c8_9 b15 => A30 n m s1 s2 s3 s11 c4_0 c8_0 c8_3 c8_6 c8_9 b15 k0 k1) k0 k1 := rfl
abbrev Ayq : Tm := ⟨[(1, .d hRs), (2, .d hRs), (3, .d hRs), (4, .k (.hp 4 0 0)), (8, .k (.hp 8 0 0)), (10, .k (.hw 15)), (11, .d hI), (13, .k (.hp 13 0 0))], [(4, .var 25 true false [.d hNs]), (8, .var 108 true false [.d .bool, .d .nil, .d .nil, .d .bool, .d .nil, .d .nil, .d .bool, .d .nil, .d .nil, .d .bool, .d .nil, .d .nil]), (13, .var 108 true false [.d .bool, .d hIs, .d hIs, .d .bool, .d hIs, .d hIs, .d .bool, .d hIs, .d hIs, .d .bool, .d hIs, .d hIs]), (15, .arr 108 (.st (.pair hR (.pair hR (.pair hR hR)))) false)], [12], []⟩
def f89 (n : Nat) (a0 : LN) (a1 a2 a3 : LR) : Option ((Rq × Rq × Rq × Rq) × Int) :=
 A30 n n a1 a2 a3 0 a0 false false false false []
  (fun z_76 z_77 z_78 z_79 z_80 => (
   some (((z_77, [], []), (z_78, [], []), (z_79, [], []), z_80, [], []), z_76)))
  (fun z_81 z_82 z_83 z_84 z_85 => (
   gd (decide (0 <= (W ((z_85.length : Int) - 1))) && decide ((W ((z_85.length : Int) - 1)) < (z_85.length : Int))) (
    gd (decide ((W ((z_85.length : Int) - 1)).toNat < z_85.length)) (
     let x_86 := z_85.getD ((W ((z_85.length : Int) - 1)).toNat) ((false, [], []), (false, [], []), (false, [], []), (false, [], []))
     some (x_86, 0)))))
def Axc (n : Nat) : Ent := ⟨89, [hE, hRs, hRs, hRs], [(.st (.pair hR (.pair hR (.pair hR hR)))), hI], fun x => f89 n x.1 x.2.1 x.2.2.1 x.2.2.2⟩
def Aa9 (α : Type) (n : Nat) : D3 α := { reg := [(1, ⟨0, [], [(0, { sh := some (.st (.pair hR (.pair hR (.pair hR hR)))) })]⟩), (6, ⟨0, [], [(0, { ent := some (C3 n) }), (1, { ent := some (A3s n) })]⟩), (8, ⟨0, [], [(0, { ent := some (C3 n) }), (1, { ent := some (A3s n) })]⟩), (12, ⟨6, [], [(6, { ent := some (A3r n) })]⟩), (14, ⟨0, [], [(2, { ent := some (C3 n) }), (3, { ent := some (A3s n) })]⟩), (16, ⟨16, [], [(15, { ent := some (C3 n) })]⟩), (18, ⟨10, [], [(10, { ent := some (Ae2 n) })]⟩), (20, ⟨11, [], [(10, { ent := some (Ae1 n) }), (11, { ent := some (Ae2 n) })]⟩), (22, ⟨10, [], [(10, { ent := some (A3r n) })]⟩), (24, ⟨0, [], [(6, { ent := some (Ars n) })]⟩), (26, ⟨11, [], [(10, { ent := some (Arq n) }), (11, { ent := some (A3r n) })]⟩), (28, ⟨0, [], [(5, { ent := some (Ae1 n) })]⟩), (29, ⟨0, [], [(1, { ent := some (Aro n) })]⟩), (31, ⟨0, [], [(2, { sh := some (.st (.pair hR (.pair hR (.pair hR hR)))) })]⟩)], join := [(29, Ayq)], loop := [(10, ⟨Q1, Z0, A5 (Yz n) n⟩), (3, ⟨Vy, A57, A5 (A56 n) n⟩)] }
theorem Yy (α : Type) (n : Nat) : Al PP (Ah (Aa9 α n).reg) := ⟨F7 n, A6h n, F7 n, A6h n, A6g n, F7 n, A6h n, F7 n, Aie n, Aid n, Aie n, A6g n, B1e n, B1b n, A6g n, Aid n, B1a n, trivial⟩
theorem Ajt (α : Type) (n : Nat) : LO.Sound (α := α) PP ⟨156, []⟩ ⟨Q1, Z0, A5 (Yz n) n⟩ (.loop ((A1 Tryz.f89).at [1, 1, 0, 1, 0, 0, 1, 0, 0, 1, 1, 0, 1, 0, 1, 1, 1, 1, 1, 1, 1, 1, 1, 1, 1, 1, 1, 1, 1, 1, 0, 0])) := Bf (D := Aa9 α n) (Yy α n) n
theorem Auv (α : Type) (n : Nat) : D3.OK PP TT ⟨156, []⟩ (Aa9 α n) ((A1 Tryz.f89).at [1, 1, 0, 1, 0, 0]) :=
 D3.OK.mk3 (Yy α n) (show Aa ((A1 Tryz.f89).at [1, 1, 0, 1, 0, 0]) = [(10, (.loop ((A1 Tryz.f89).at [1, 1, 0, 1, 0, 0, 1, 0, 0, 1, 1, 0, 1, 0, 1, 1, 1, 1, 1, 1, 1, 1, 1, 1, 1, 1, 1, 1, 1, 1, 0, 0])))] by kernel_rfl) ⟨Ab rfl (Ajt α n), trivial⟩
theorem Ao4 (α : Type) (n : Nat) : LO.Sound (α := α) PP ⟨156, []⟩ ⟨Vy, A57, A5 (A56 n) n⟩ (.loop ((A1 Tryz.f89).at [1, 1, 0, 1, 0, 0])) := lk (Auv α n) n
theorem B7o (α : Type) (n : Nat) : D3.OK PP TT ⟨156, []⟩ (Aa9 α n) (A1 Tryz.f89) :=
 D3.OK.mk3 (Yy α n) (show Aa (A1 Tryz.f89) = [(3, (.loop ((A1 Tryz.f89).at [1, 1, 0, 1, 0, 0])))] by kernel_rfl) ⟨Ab rfl (Ao4 α n), trivial⟩
theorem B3c (n : Nat) : (Axc n).Sound PP := fk (fn := Tryz.f89) (B7o _ n) 

abbrev Ao2 : Tm := ⟨[(1, .k (.hp 1 0 0)), (2, .k (.hp 2 0 0))], [(1, .var 31 true false [.d .bool, .d hIs, .d hIs]), (2, .var 31 true false [.d .bool, .d .nil, .d .nil])], [], []⟩
def f91 (n : Nat) (a0 : Rq) : Option Rq :=
 gd (decide ((0 + a0.2.1.length) * 8 <= 140737488355328)) (
  gd (decide ((0 + a0.2.2.length) * 8 <= 140737488355328)) (
   some a0))
def Ax9 (n : Nat) : Ent := ⟨91, [hR], [hR], fun x => f91 n x⟩
def Axa (α : Type) (n : Nat) : D3 α := { reg := [(1, ⟨0, [], [(2, { sh := some hI }), (6, { sh := some hI })]⟩)], join := [], loop := [], any := [(1, Ao2)] }
set_option maxHeartbeats 8000000 in
theorem B3a (n : Nat) : Ax TT ⟨14, []⟩ [(2, { sh := some hI }), (6, { sh := some hI })] Ao2 (Ad ((A1 Tryz.f91).at [1, 0])) := by
 refine ⟨by kernel_rfl, fun w q hq => ?_⟩
 have e : WT [(2, { sh := some hI }), (6, { sh := some hI })] (A8 (Ad ((A1 Tryz.f91).at [1, 0])).toList) q = (q = []) := by kernel_rfl
 rw [e] at hq; obtain rfl := hq
 all_goals exact .inl (Jp.mk (by kernel_rfl))
theorem Aur (α : Type) (n : Nat) : Al PP (Ah (Axa α n).reg) := trivial
theorem B7m (α : Type) (n : Nat) : D3.OK PP TT ⟨14, []⟩ (Axa α n) (A1 Tryz.f91) :=
 D3.OK.mk3a (Aur α n) (show Aa (A1 Tryz.f91) = [] by kernel_rfl) trivial (show At (A1 Tryz.f91) = [(1, Ad ((A1 Tryz.f91).at [1, 0]))] by kernel_rfl) ⟨⟨B3a n, trivial⟩, trivial⟩
theorem B39 (n : Nat) : (Ax9 n).Sound PP := fk (fn := Tryz.f91) (B7m _ n) 

def f63 (n : Nat) (a0 : LN) (a1 : LR) : Option (Rq × Int) :=
 ob (f90 n (a1.length : Int)) fun r_1 =>
 ob (f89 n a0 a1 r_1 r_1) fun r_2 =>
 bif (r_2.2 != 0) then
  some ((false, [], []), r_2.2)
 else
  ob (f91 n r_2.1.1) fun r_3 =>
  some (r_3, 0)
def Axi (n : Nat) : Ent := ⟨63, [hE, hRs], [hR, hI], fun x => f63 n x.1 x.2⟩
def B80 (α : Type) (n : Nat) : D3 α := { reg := [(1, ⟨0, [], [(2, { ent := some (Axb n) })]⟩), (2, ⟨0, [], [(4, { ent := some (Axc n) })]⟩), (5, ⟨0, [], [(2, { ent := some (Ax9 n) })]⟩)], join := [], loop := [] }
theorem B3q (n : Nat) : (Axi n).Sound PP := Ar (fn := Tryz.f63) (D := B80 _ n) ⟨B3b n, B3c n, B39 n, trivial⟩ 

def f16 (n : Nat) (a0 : LN) (a1 : LR) : Option (Rq × Int) :=
 bif (decide ((a1.length : Int) > 4096)) then
  some ((false, [], []), 2)
 else
  ob (f62 n a0 a1) fun r_1 =>
  bif (r_1 != 0) then
   some ((false, [], []), r_1)
  else
   ob (f63 n a0 a1) fun r_2 =>
   some (r_2.1, r_2.2)
def Axr (n : Nat) : Ent := ⟨16, [hE, hRs], [hR, hI], fun x => f16 n x.1 x.2⟩
def B8g (α : Type) (n : Nat) : D3 α := { reg := [(3, ⟨0, [], [(2, { ent := some (Axj n) })]⟩), (6, ⟨0, [], [(2, { ent := some (Axi n) })]⟩)], join := [], loop := [] }
theorem B5s (n : Nat) : (Axr n).Sound PP := Ar (fn := Tryz.f16) (D := B8g _ n) ⟨B3r n, B3q n, trivial⟩ 

def Q8 {α : Type} (n : Nat) (s0 : LN) (s4 : Int) (b7 : LN) (f : LN -> Int -> LN -> Option α) (k0 : LN -> Option α) : Option α :=
 bif (decide (s4 < (s0.length : Int))) then
  gd (decide (0 <= s4) && decide (s4 < (s0.length : Int))) (
   let x_1 := s0.getD s4.toNat (0, 0, 0, 0)
   ob (f138 n x_1) fun r_2 =>
   gd (decide (0 <= s4) && decide (s4 < (b7.length : Int))) (
    gd (decide (s4.toNat < b7.length)) (
     f s0 (W (s4 + 1)) (b7.set s4.toNat r_2))))
 else
  k0 b7
abbrev Q7 : Tm := ⟨[(0, .d hNs), (3, .k (.hw 7)), (4, .d hI)], [(7, .arr 125 hN false)], [], []⟩
abbrev Aok : Tm := ⟨[(3, .k (.hw 7))], [(7, .arr 125 hN false)], [], []⟩
abbrev Z8 : List (Exit × Tm) := [(.exit 0, Aok)]
def Z7 {α : Type} (n : Nat) (v : Q7.den) (f : Q7.den -> Option α) (ks : KS α Z8) : Option α := Q8 n v.1.1 v.1.2.2.1 v.2.1 (fun s0 s4 b7 => f ((s0, (), s4, ()), (b7, ()))) (fun w0 => ks.1 (((), ()), (w0, ())))
def Oe {α : Type} (n m : Nat) (s0 : LN) (s4 : Int) (b7 : LN) (k0 : LN -> Option α) : Option α := A5 (Z7 n) m ((s0, (), s4, ()), (b7, ())) (fun w => k0 w.2.1, ())
theorem A80 {α n m s0 s4 b7 k0} : Oe (α := α) n (m + 1) s0 s4 b7 k0 = Q8 n s0 s4 b7 (fun s0 s4 b7 => Oe n m s0 s4 b7 k0) k0 := rfl
def Av9 (n : Nat) (a0 : LN) : Option LN :=
 gd (decide (0 <= (a0.length : Int)) && decide ((a0.length : Int) <= 4611686018427387904) && decide ((32 : Int) * (a0.length : Int) <= 281474976710656)) (
  Oe n n a0 0 (List.replicate ((a0.length : Int).toNat) (0, 0, 0, 0))
   (fun z_3 => (
    some z_3)))
def Aol (n : Nat) : Ent3 := ⟨82, [.im hNs], [[.one (.own 125 hN)]], fun x => Av9 n x⟩
def Ace (α : Type) (n : Nat) : D3 α := { reg := [(5, ⟨0, [], [(6, { ent := some (Ae7 n) })]⟩)], join := [], loop := [(3, ⟨Q7, Z8, A5 (Z7 n) n⟩)] }
theorem A7z (α : Type) (n : Nat) : Al PP (Ah (Ace α n).reg) := ⟨Aih n, trivial⟩
theorem Ak5 (α : Type) (n : Nat) : LO.Sound (α := α) PP ⟨23, []⟩ ⟨Q7, Z8, A5 (Z7 n) n⟩ (.loop ((A1 Tryz.f82).at [1, 1, 0, 1, 0, 0])) := Bf (D := Ace α n) (A7z α n) n
theorem B3k (α : Type) (n : Nat) : D3.OK PP TT ⟨23, []⟩ (Ace α n) (A1 Tryz.f82) :=
 D3.OK.mk3 (A7z α n) (show Aa (A1 Tryz.f82) = [(3, (.loop ((A1 Tryz.f82).at [1, 1, 0, 1, 0, 0])))] by kernel_rfl) ⟨Ab rfl (Ak5 α n), trivial⟩
theorem Ayv (n : Nat) : (Aol n).Sound PP := Sx (fn := Tryz.f82) (B3k _ n) 

def Aki (n : Nat) (a0 : LN) : Option LN :=
 ob (Av9 n a0) fun r_1 =>
 some r_1
def Ap3 (n : Nat) : Ent3 := ⟨31, [.im hE], [[.mix [.own 125 hN]]], fun x => Aki n x⟩
def B46 (α : Type) (n : Nat) : D3 α := { reg := [(2, ⟨0, [], [(2, { entB := some (Aol n), hb := 310 })]⟩)], join := [], loop := [] }
theorem Az9 (n : Nat) : (Ap3 n).Sound PP := Yx (fn := Tryz.f31) (D := B46 _ n) ⟨Ayv n, trivial⟩ 

def V2 {α : Type} (n : Nat) (s0 : LI) (s4 : Int) (b7 : LI) (f : LI -> Int -> LI -> Option α) (k0 : LI -> Option α) : Option α :=
 bif (decide (s4 < (s0.length : Int))) then
  gd (decide (0 <= s4) && decide (s4 < (s0.length : Int))) (
   gd (decide (0 <= s4) && decide (s4 < (b7.length : Int))) (
    gd (decide (s4.toNat < b7.length)) (
     f s0 (W (s4 + 1)) (b7.set s4.toNat (s0.getD s4.toNat 0)))))
 else
  k0 b7
abbrev N9 : Tm := ⟨[(0, .d hIs), (3, .k (.hw 7)), (4, .d hI)], [(7, .arr 3 hI false)], [], []⟩
abbrev Als : Tm := ⟨[(3, .k (.hw 7))], [(7, .arr 3 hI false)], [], []⟩
abbrev V1 : List (Exit × Tm) := [(.exit 0, Als)]
def V0 {α : Type} (n : Nat) (v : N9.den) (f : N9.den -> Option α) (ks : KS α V1) : Option α := V2 n v.1.1 v.1.2.2.1 v.2.1 (fun s0 s4 b7 => f ((s0, (), s4, ()), (b7, ()))) (fun w0 => ks.1 (((), ()), (w0, ())))
def Rh {α : Type} (n m : Nat) (s0 : LI) (s4 : Int) (b7 : LI) (k0 : LI -> Option α) : Option α := A5 (V0 n) m ((s0, (), s4, ()), (b7, ())) (fun w => k0 w.2.1, ())
theorem Alr {α n m s0 s4 b7 k0} : Rh (α := α) n (m + 1) s0 s4 b7 k0 = V2 n s0 s4 b7 (fun s0 s4 b7 => Rh n m s0 s4 b7 k0) k0 := rfl
def A3v (n : Nat) (a0 : LI) : Option LI :=
 gd (decide (0 <= (a0.length : Int)) && decide ((a0.length : Int) <= 4611686018427387904) && decide ((8 : Int) * (a0.length : Int) <= 281474976710656)) (
  Rh n n a0 0 (List.replicate ((a0.length : Int).toNat) 0)
   (fun z_1 => (
    some z_1)))
def A6i (n : Nat) : Ent3 := ⟨139, [.im hIs], [[.one (.own 3 hI)]], fun x => A3v n x⟩
def A6j (α : Type) (n : Nat) : D3 α := { reg := [], join := [], loop := [(3, ⟨N9, V1, A5 (V0 n) n⟩)] }
theorem A3u (α : Type) (n : Nat) : Al PP (Ah (A6j α n).reg) := trivial
theorem Aga (α : Type) (n : Nat) : LO.Sound (α := α) PP ⟨22, []⟩ ⟨N9, V1, A5 (V0 n) n⟩ (.loop ((A1 Tryz.f139).at [1, 1, 0, 1, 0, 0])) := Bf (D := A6j α n) (A3u α n) n
theorem B1g (α : Type) (n : Nat) : D3.OK PP TT ⟨22, []⟩ (A6j α n) (A1 Tryz.f139) :=
 D3.OK.mk3 (A3u α n) (show Aa (A1 Tryz.f139) = [(3, (.loop ((A1 Tryz.f139).at [1, 1, 0, 1, 0, 0])))] by kernel_rfl) ⟨Ab rfl (Aga α n), trivial⟩
theorem Ae5 (n : Nat) : (A6i n).Sound PP := Sx (fn := Tryz.f139) (B1g _ n) 

def Ak3 (n : Nat) (a0 : Rq) : Option (Bool × LI × LI) :=
 ob (A3v n a0.2.1) fun r_1 =>
 ob (A3v n a0.2.2) fun r_2 =>
 some (a0.1, r_1, r_2)
def Aoi (n : Nat) : Ent3 := ⟨83, [.im hR], [[.mix [.im .bool, .own 3 hI, .own 3 hI]]], fun x => Ak3 n x⟩
def B3i (α : Type) (n : Nat) : D3 α := { reg := [(3, ⟨0, [], [(2, { entB := some (A6i n), hb := 310 })]⟩), (4, ⟨0, [], [(2, { entB := some (A6i n), hb := 320 })]⟩)], join := [], loop := [] }
theorem Ayt (n : Nat) : (Aoi n).Sound PP := Yx (fn := Tryz.f83) (D := B3i _ n) ⟨Ae5 n, Ae5 n, trivial⟩ 

def Zd {α : Type} (n : Nat) (s0 : LR) (s4 : Int) (b7 : LR) (f : LR -> Int -> LR -> Option α) (k0 : LR -> Option α) : Option α :=
 bif (decide (s4 < (s0.length : Int))) then
  gd (decide (0 <= s4) && decide (s4 < (s0.length : Int))) (
   let x_1 := s0.getD s4.toNat (false, [], [])
   ob (Ak3 n x_1) fun r_2 =>
   gd (decide (0 <= s4) && decide (s4 < (b7.length : Int))) (
    gd (decide (s4.toNat < b7.length)) (
     f s0 (W (s4 + 1)) (b7.set s4.toNat r_2))))
 else
  k0 b7
abbrev Qc : Tm := ⟨[(0, .d hRs), (3, .k (.hw 7)), (4, .d hI)], [(7, .tree 31 hR false)], [], []⟩
abbrev Ap1 : Tm := ⟨[(3, .k (.hw 7))], [(7, .tree 31 hR false)], [], []⟩
abbrev Zc : List (Exit × Tm) := [(.exit 0, Ap1)]
def Zb {α : Type} (n : Nat) (v : Qc.den) (f : Qc.den -> Option α) (ks : KS α Zc) : Option α := Zd n v.1.1 v.1.2.2.1 v.2.1 (fun s0 s4 b7 => f ((s0, (), s4, ()), (b7, ()))) (fun w0 => ks.1 (((), ()), (w0, ())))
def Wm {α : Type} (n m : Nat) (s0 : LR) (s4 : Int) (b7 : LR) (k0 : LR -> Option α) : Option α := A5 (Zb n) m ((s0, (), s4, ()), (b7, ())) (fun w => k0 w.2.1, ())
theorem Ap0 {α n m s0 s4 b7 k0} : Wm (α := α) n (m + 1) s0 s4 b7 k0 = Zd n s0 s4 b7 (fun s0 s4 b7 => Wm n m s0 s4 b7 k0) k0 := rfl
def Akh (n : Nat) (a0 : LR) : Option LR :=
 gd (decide (0 <= (a0.length : Int)) && decide ((a0.length : Int) <= 4611686018427387904) && decide ((56 : Int) * (a0.length : Int) <= 281474976710656)) (
  Wm n n a0 0 (List.replicate ((a0.length : Int).toNat) (false, [], []))
   (fun z_3 => (
    some z_3)))
def Ap2 (n : Nat) : Ent3 := ⟨32, [.im hRs], [[.one (.tree 31 hR)]], fun x => Akh n x⟩
def Acu (α : Type) (n : Nat) : D3 α := { reg := [(1, ⟨0, [], [(2, { tr := some hR })]⟩), (5, ⟨0, [], [(6, { entB := some (Aoi n), hb := 310 })]⟩)], join := [], loop := [(3, ⟨Qc, Zc, A5 (Zb n) n⟩)] }
theorem A85 (α : Type) (n : Nat) : Al PP (Ah (Acu α n).reg) := ⟨Ayt n, trivial⟩
theorem Akg (α : Type) (n : Nat) : LO.Sound (α := α) PP ⟨23, []⟩ ⟨Qc, Zc, A5 (Zb n) n⟩ (.loop ((A1 Tryz.f32).at [1, 1, 0, 1, 0, 0])) := Bf (D := Acu α n) (A85 α n) n
theorem B44 (α : Type) (n : Nat) : D3.OK PP TT ⟨23, []⟩ (Acu α n) (A1 Tryz.f32) :=
 D3.OK.mk3 (A85 α n) (show Aa (A1 Tryz.f32) = [(3, (.loop ((A1 Tryz.f32).at [1, 1, 0, 1, 0, 0])))] by kernel_rfl) ⟨Ab rfl (Akg α n), trivial⟩
theorem Az7 (n : Nat) : (Ap2 n).Sound PP := Sx (fn := Tryz.f32) (B44 _ n) 

def A1j {α : Type} (n : Nat) (s0 : Int) (s7 : LI) (s8 s9 : Int) (f : Int -> LI -> Int -> Int -> Option α) (k0 : Int -> Option α) (k1 : Unit -> Option α) : Option α :=
 bif (decide (s9 < s8)) then
  gd (decide (0 <= s9) && decide (s9 < (s7.length : Int))) (
   bif (decide ((s7.getD s9.toNat 0) > s0)) then
    k0 2
   else
    f s0 s7 s8 (W (s9 + 1)))
 else
  k1 ()
abbrev Rk : Tm := ⟨[(0, .d hI), (7, .d hIs), (8, .d hI), (9, .d hI)], [], [], []⟩
abbrev As0 : Tm := ⟨[(4, .d hI)], [], [], []⟩
abbrev Arz : Tm := ⟨[], [], [], []⟩
abbrev A1i : List (Exit × Tm) := [(.ret, As0), (.exit 0, Arz)]
def A1h {α : Type} (n : Nat) (v : Rk.den) (f : Rk.den -> Option α) (ks : KS α A1i) : Option α := A1j n v.1.1 v.1.2.1 v.1.2.2.1 v.1.2.2.2.1 (fun s0 s7 s8 s9 => f ((s0, s7, s8, s9, ()), ())) (fun w0 => ks.1 ((w0, ()), ())) (fun _ => ks.2.1 ((), ()))
def P3 {α : Type} (n m : Nat) (s0 : Int) (s7 : LI) (s8 s9 : Int) (k0 : Int -> Option α) (k1 : Unit -> Option α) : Option α := A5 (A1h n) m ((s0, s7, s8, s9, ()), ()) (fun w => k0 w.1.1, fun w => k1 (), ())
theorem Ary {α n m s0 s7 s8 s9 k0 k1} : P3 (α := α) n (m + 1) s0 s7 s8 s9 k0 k1 = A1j n s0 s7 s8 s9 (fun s0 s7 s8 s9 => P3 n m s0 s7 s8 s9 k0 k1) k0 k1 := rfl
def f121 (n : Nat) (a0 : Int) (a1 : LI) : Option Int :=
 P3 n n a0 a1 (a1.length : Int) 0
  (fun z_1 => (
   some z_1))
  (fun (_ : Unit) => (
   some 0))
def As1 (n : Nat) : Ent := ⟨121, [hI, hIs], [hI], fun x => f121 n x.1 x.2⟩
def Ae9 (α : Type) (n : Nat) : D3 α := { reg := [], join := [], loop := [(2, ⟨Rk, A1i, A5 (A1h n) n⟩)] }
theorem A91 (α : Type) (n : Nat) : Al PP (Ah (Ae9 α n).reg) := trivial
theorem Alv (α : Type) (n : Nat) : LO.Sound (α := α) PP ⟨17, []⟩ ⟨Rk, A1i, A5 (A1h n) n⟩ (.loop ((A1 Tryz.f121).at [1, 0, 1, 0, 0])) := Bf (D := Ae9 α n) (A91 α n) n
theorem B6l (α : Type) (n : Nat) : D3.OK PP TT ⟨17, []⟩ (Ae9 α n) (A1 Tryz.f121) :=
 D3.OK.mk3 (A91 α n) (show Aa (A1 Tryz.f121) = [(2, (.loop ((A1 Tryz.f121).at [1, 0, 1, 0, 0])))] by kernel_rfl) ⟨Ab rfl (Alv α n), trivial⟩
theorem B1j (n : Nat) : (As1 n).Sound PP := fk (fn := Tryz.f121) (B6l _ n) 

def A5m {α : Type} (n : Nat) (s7 : List LR) (s8 s9 : Int) (b6 : LI) (f : (List LR) -> Int -> Int -> LI -> Option α) (k0 : LI -> Option α) : Option α :=
 bif (decide (s9 < s8)) then
  gd (decide (0 <= s9) && decide (s9 < (s7.length : Int))) (
   gd (decide ((b6.length + 1) * 8 <= 140737488355328)) (
    f s7 s8 (W (s9 + 1)) (b6 ++ [(((s7.getD s9.toNat []).length : Nat) : Int)])))
 else
  k0 b6
abbrev Wh : Tm := ⟨[(3, .k (.hw 6)), (7, .d (.sl hRs)), (8, .d hI), (9, .d hI)], [(6, .arr 3 hI false)], [16], []⟩
abbrev Avb : Tm := ⟨[(3, .k (.hw 6))], [(6, .arr 3 hI false)], [], []⟩
abbrev A5l : List (Exit × Tm) := [(.exit 0, Avb)]
def A5k {α : Type} (n : Nat) (v : Wh.den) (f : Wh.den -> Option α) (ks : KS α A5l) : Option α := A5m n v.1.2.1 v.1.2.2.1 v.1.2.2.2.1 v.2.1 (fun s7 s8 s9 b6 => f (((), s7, s8, s9, ()), (b6, ()))) (fun w0 => ks.1 (((), ()), (w0, ())))
def Ua {α : Type} (n m : Nat) (s7 : List LR) (s8 s9 : Int) (b6 : LI) (k0 : LI -> Option α) : Option α := A5 (A5k n) m (((), s7, s8, s9, ()), (b6, ())) (fun w => k0 w.2.1, ())
theorem Ava {α n m s7 s8 s9 b6 k0} : Ua (α := α) n (m + 1) s7 s8 s9 b6 k0 = A5m n s7 s8 s9 b6 (fun s7 s8 s9 b6 => Ua n m s7 s8 s9 b6 k0) k0 := rfl
def f65 (n : Nat) (a0 : List LR) : Option Int :=
 Ua n n a0 (a0.length : Int) 0 []
  (fun z_1 => (
   ob (f121 n 4096 z_1) fun r_2 =>
   some r_2))
def Wi (n : Nat) : Ent := ⟨65, [(.sl hRs)], [hI], fun x => f65 n x⟩
def Ak7 (α : Type) (n : Nat) : D3 α := { reg := [(1, ⟨0, [], [(0, { sh := some hI })]⟩), (5, ⟨0, [], [(3, { sh := some hI })]⟩), (7, ⟨0, [], [(1, { ent := some (As1 n) })]⟩)], join := [], loop := [(3, ⟨Wh, A5l, A5 (A5k n) n⟩)] }
theorem Acg (α : Type) (n : Nat) : Al PP (Ah (Ak7 α n).reg) := ⟨B1j n, trivial⟩
theorem Aon (α : Type) (n : Nat) : LO.Sound (α := α) PP ⟨21, []⟩ ⟨Wh, A5l, A5 (A5k n) n⟩ (.loop ((A1 Tryz.f65).at [1, 1, 0, 1, 0, 0])) := Bf (D := Ak7 α n) (Acg α n) n
theorem B7y (α : Type) (n : Nat) : D3.OK PP TT ⟨21, []⟩ (Ak7 α n) (A1 Tryz.f65) :=
 D3.OK.mk3 (Acg α n) (show Aa (A1 Tryz.f65) = [(3, (.loop ((A1 Tryz.f65).at [1, 1, 0, 1, 0, 0])))] by kernel_rfl) ⟨Ab rfl (Aon α n), trivial⟩
theorem B3o (n : Nat) : (Wi n).Sound PP := fk (fn := Tryz.f65) (B7y _ n) 

def f184 (n : Nat) (a0 a1 a2 : Int) : Option Bool :=
 bif (decide (a1 <= a0)) then
  some (decide (a0 <= a2))
 else
  some false
def Mb (n : Nat) : Ent := ⟨184, [hI, hI, hI], [.bool], fun x => f184 n x.1 x.2.1 x.2.2⟩
def B5h (α : Type) (n : Nat) : D3 α := { reg := [], join := [], loop := [] }
theorem Lf (n : Nat) : (Mb n).Sound PP := Ar (fn := Tryz.f184) (D := B5h _ n) trivial 

end Go.Ev
