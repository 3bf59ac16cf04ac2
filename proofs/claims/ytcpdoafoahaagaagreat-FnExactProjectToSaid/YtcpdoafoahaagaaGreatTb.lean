/- DERIVED. What the functions compute, and that they do. -/
import Derived.Test.YtcpdoafoahaagaaGreatTa

set_option linter.all false
set_option linter.unusedVariables false
set_option linter.unusedSimpArgs false

namespace Go.Ev
open Go Go.Proofs Go.RowKit Go.Shelf
def Aho (n : Nat) (a0 : LN) : Option LN :=
 ob (Ajg n a0) fun r_1 =>
 some r_1
def Aly (n : Nat) : Ent3 := ⟨83, [.im hE], [[.mix [.own 150 hN]]], fun x => Aho n x⟩
def Ayh (α : Type) (n : Nat) : D3 α := { reg := [(2, ⟨0, [], [(2, { entB := some (Afz n), hb := 310 })]⟩)], join := [], loop := [] }
theorem Av6 (n : Nat) : (Aly n).Sound PP := Km (fn := Tryz.f83) (D := Ayh _ n) ⟨Asy n, trivial⟩ 

def To {α : Type} (n : Nat) (s0 : LI) (s4 : Int) (b7 : LI) (f : LI → Int → LI → Option α) (k0 : LI → Option α) : Option α :=
 bif (decide (s4 < (s0.length : Int))) then
  gd (decide (0 ≤ s4) && decide (s4 < (s0.length : Int))) (
   gd (decide (0 ≤ s4) && decide (s4 < (b7.length : Int))) (
    gd (decide (s4.toNat < b7.length)) (
     f s0 (W (s4 + 1)) (b7.set s4.toNat (s0.getD s4.toNat 0)))))
 else
  k0 b7
abbrev M8 : Tm := ⟨[(0, .d hIs), (3, .k (.hw 7)), (4, .d hI)], [(7, .arr 3 hI false)], [], []⟩
abbrev Ajo : Tm := ⟨[(3, .k (.hw 7))], [(7, .arr 3 hI false)], [], []⟩
abbrev Tn : List (Exit × Tm) := [(.exit 0, Ajo)]
def Tl {α : Type} (n : Nat) (v : M8.den) (f : M8.den → Option α) (ks : KS α Tn) : Option α := To n v.1.1 v.1.2.2.1 v.2.1 (fun s0 s4 b7 => f ((s0, (), s4, ()), (b7, ()))) (fun w0 => ks.1 (((), ()), (w0, ())))
def Qc {α : Type} (n m : Nat) (s0 : LI) (s4 : Int) (b7 : LI) (k0 : LI → Option α) : Option α := A5 (Tl n) m ((s0, (), s4, ()), (b7, ())) (fun w => k0 w.2.1, ())
theorem Ajn {α n m s0 s4 b7 k0} : Qc (α := α) n (m + 1) s0 s4 b7 k0 = To n s0 s4 b7 (fun s0 s4 b7 => Qc n m s0 s4 b7 k0) k0 := rfl
def A26 (n : Nat) (a0 : LI) : Option LI :=
 gd (decide (0 ≤ (a0.length : Int)) && decide ((a0.length : Int) ≤ 4611686018427387904) && decide ((8 : Int) * (a0.length : Int) ≤ 281474976710656)) (
  Qc n n a0 0 (List.replicate ((a0.length : Int).toNat) 0)
   (fun z_1 => (
    some z_1)))
def A4q (n : Nat) : Ent3 := ⟨132, [.im hIs], [[.one (.own 3 hI)]], fun x => A26 n x⟩
def A4r (α : Type) (n : Nat) : D3 α := { reg := [], join := [], loop := [(3, ⟨M8, Tn, A5 (Tl n) n⟩)] }
theorem A25 (α : Type) (n : Nat) : Aj PP (Ah (A4r α n).reg) := trivial
theorem Adz (α : Type) (n : Nat) : LO.Sound (α := α) PP ⟨22, []⟩ ⟨M8, Tn, A5 (Tl n) n⟩ (.loop ((A1 Tryz.f132).at [1, 1, 0, 1, 0, 0])) := Ay (D := A4r α n) (A25 α n) n
theorem Ax4 (α : Type) (n : Nat) : D3.OK PP TT ⟨22, []⟩ (A4r α n) (A1 Tryz.f132) :=
 D3.OK.mk3 (A25 α n) (show Ad (A1 Tryz.f132) = [(3, (.loop ((A1 Tryz.f132).at [1, 1, 0, 1, 0, 0])))] by kernel_rfl) ⟨A9 rfl (Adz α n), trivial⟩
theorem Ac2 (n : Nat) : (A4q n).Sound PP := Si (fn := Tryz.f132) (Ax4 _ n) 

def Aa6 (n : Nat) (a0 : Rq) : Option (Bool × LI × LI) :=
 ob (A26 n a0.2.1) fun r_1 =>
 ob (A26 n a0.2.2) fun r_2 =>
 some (a0.1, r_1, r_2)
def Aa5 (n : Nat) : Ent3 := ⟨61, [.im hR], [[.mix [.im .bool, .own 3 hI, .own 3 hI]]], fun x => Aa6 n x⟩
def Ayo (α : Type) (n : Nat) : D3 α := { reg := [(3, ⟨0, [], [(2, { entB := some (A4q n), hb := 310 })]⟩), (4, ⟨0, [], [(2, { entB := some (A4q n), hb := 320 })]⟩)], join := [], loop := [] }
theorem Af7 (n : Nat) : (Aa5 n).Sound PP := Km (fn := Tryz.f61) (D := Ayo _ n) ⟨Ac2 n, Ac2 n, trivial⟩ 

def Y3 {α : Type} (n : Nat) (s0 : LR) (s4 : Int) (b7 : LR) (f : LR → Int → LR → Option α) (k0 : LR → Option α) : Option α :=
 bif (decide (s4 < (s0.length : Int))) then
  gd (decide (0 ≤ s4) && decide (s4 < (s0.length : Int))) (
   let x_1 := s0.getD s4.toNat (false, [], [])
   ob (Aa6 n x_1) fun r_2 =>
   gd (decide (0 ≤ s4) && decide (s4 < (b7.length : Int))) (
    gd (decide (s4.toNat < b7.length)) (
     f s0 (W (s4 + 1)) (b7.set s4.toNat r_2))))
 else
  k0 b7
abbrev Pi : Tm := ⟨[(0, .d hRs), (3, .k (.hw 7)), (4, .d hI)], [(7, .tree 30 hR false)], [], []⟩
abbrev Ana : Tm := ⟨[(3, .k (.hw 7))], [(7, .tree 30 hR false)], [], []⟩
abbrev Y2 : List (Exit × Tm) := [(.exit 0, Ana)]
def Y1 {α : Type} (n : Nat) (v : Pi.den) (f : Pi.den → Option α) (ks : KS α Y2) : Option α := Y3 n v.1.1 v.1.2.2.1 v.2.1 (fun s0 s4 b7 => f ((s0, (), s4, ()), (b7, ()))) (fun w0 => ks.1 (((), ()), (w0, ())))
def V6 {α : Type} (n m : Nat) (s0 : LR) (s4 : Int) (b7 : LR) (k0 : LR → Option α) : Option α := A5 (Y1 n) m ((s0, (), s4, ()), (b7, ())) (fun w => k0 w.2.1, ())
theorem An9 {α n m s0 s4 b7 k0} : V6 (α := α) n (m + 1) s0 s4 b7 k0 = Y3 n s0 s4 b7 (fun s0 s4 b7 => V6 n m s0 s4 b7 k0) k0 := rfl
def Y4 (n : Nat) (a0 : LR) : Option LR :=
 gd (decide (0 ≤ (a0.length : Int)) && decide ((a0.length : Int) ≤ 4611686018427387904) && decide ((56 : Int) * (a0.length : Int) ≤ 281474976710656)) (
  V6 n n a0 0 (List.replicate ((a0.length : Int).toNat) (false, [], []))
   (fun z_3 => (
    some z_3)))
def T4 (n : Nat) : Ent3 := ⟨19, [.im hRs], [[.one (.tree 30 hR)]], fun x => Y4 n x⟩
def Aav (α : Type) (n : Nat) : D3 α := { reg := [(1, ⟨0, [], [(2, { tr := some hR })]⟩), (5, ⟨0, [], [(6, { entB := some (Aa5 n), hb := 310 })]⟩)], join := [], loop := [(3, ⟨Pi, Y2, A5 (Y1 n) n⟩)] }
theorem A6n (α : Type) (n : Nat) : Aj PP (Ah (Aav α n).reg) := ⟨Af7 n, trivial⟩
theorem Aik (α : Type) (n : Nat) : LO.Sound (α := α) PP ⟨23, []⟩ ⟨Pi, Y2, A5 (Y1 n) n⟩ (.loop ((A1 Tryz.f19).at [1, 1, 0, 1, 0, 0])) := Ay (D := Aav α n) (A6n α n) n
theorem Azi (α : Type) (n : Nat) : D3.OK PP TT ⟨23, []⟩ (Aav α n) (A1 Tryz.f19) :=
 D3.OK.mk3 (A6n α n) (show Ad (A1 Tryz.f19) = [(3, (.loop ((A1 Tryz.f19).at [1, 1, 0, 1, 0, 0])))] by kernel_rfl) ⟨A9 rfl (Aik α n), trivial⟩
theorem V4 (n : Nat) : (T4 n).Sound PP := Si (fn := Tryz.f19) (Azi _ n) 

def Ai1 (n : Nat) (a0 : LN × LR × LR × LR × Int × Rq × Int × Int) : Option (LN × LR × LR × LR × Int × Bool × LI × LI × Int × Int) :=
 ob (Aho n a0.1) fun r_1 =>
 ob (Y4 n a0.2.1) fun r_2 =>
 ob (Y4 n a0.2.2.1) fun r_3 =>
 ob (Y4 n a0.2.2.2.1) fun r_4 =>
 ob (Aa6 n a0.2.2.2.2.2.1) fun r_5 =>
 some (r_1, r_2, r_3, r_4, a0.2.2.2.2.1, r_5.1, r_5.2.1, r_5.2.2, a0.2.2.2.2.2.2.1, a0.2.2.2.2.2.2.2)
def Amh (n : Nat) : Ent3 := ⟨30, [.im (.st (.pair hE (.pair hRs (.pair hRs (.pair hRs (.pair hI (.pair hR (.pair hI hI))))))))], [[.mix [.own 150 hN, .tree 30 hR, .tree 30 hR, .tree 30 hR, .im hI, .im .bool, .own 3 hI, .own 3 hI, .im hI, .im hI]]], fun x => Ai1 n x⟩
def Ayx (α : Type) (n : Nat) : D3 α := { reg := [(2, ⟨0, [], [(2, { entB := some (Aly n), hb := 310 })]⟩), (3, ⟨0, [], [(2, { entB := some (T4 n), hb := 320 })]⟩), (4, ⟨0, [], [(2, { entB := some (T4 n), hb := 330 })]⟩), (5, ⟨0, [], [(2, { entB := some (T4 n), hb := 340 })]⟩), (7, ⟨0, [], [(2, { entB := some (Aa5 n), hb := 350 })]⟩)], join := [], loop := [] }
theorem Avc (n : Nat) : (Amh n).Sound PP := Km (fn := Tryz.f30) (D := Ayx _ n) ⟨Av6 n, V4 n, V4 n, V4 n, Af7 n, trivial⟩ 

def Z9 {α : Type} (n : Nat) (s0 : Int) (s7 : LI) (s8 s9 : Int) (f : Int → LI → Int → Int → Option α) (k0 : Int → Option α) (k1 : Unit → Option α) : Option α :=
 bif (decide (s9 < s8)) then
  gd (decide (0 ≤ s9) && decide (s9 < (s7.length : Int))) (
   bif (decide ((s7.getD s9.toNat 0) > s0)) then
    k0 2
   else
    f s0 s7 s8 (W (s9 + 1)))
 else
  k1 ()
abbrev Pz : Tm := ⟨[(0, .d hI), (7, .d hIs), (8, .d hI), (9, .d hI)], [], [], []⟩
abbrev Aol : Tm := ⟨[(4, .d hI)], [], [], []⟩
abbrev Aok : Tm := ⟨[], [], [], []⟩
abbrev Z8 : List (Exit × Tm) := [(.ret, Aol), (.exit 0, Aok)]
def Z7 {α : Type} (n : Nat) (v : Pz.den) (f : Pz.den → Option α) (ks : KS α Z8) : Option α := Z9 n v.1.1 v.1.2.1 v.1.2.2.1 v.1.2.2.2.1 (fun s0 s7 s8 s9 => f ((s0, s7, s8, s9, ()), ())) (fun w0 => ks.1 ((w0, ()), ())) (fun _ => ks.2.1 ((), ()))
def No {α : Type} (n m : Nat) (s0 : Int) (s7 : LI) (s8 s9 : Int) (k0 : Int → Option α) (k1 : Unit → Option α) : Option α := A5 (Z7 n) m ((s0, s7, s8, s9, ()), ()) (fun w => k0 w.1.1, fun w => k1 (), ())
theorem Aoj {α n m s0 s7 s8 s9 k0 k1} : No (α := α) n (m + 1) s0 s7 s8 s9 k0 k1 = Z9 n s0 s7 s8 s9 (fun s0 s7 s8 s9 => No n m s0 s7 s8 s9 k0 k1) k0 k1 := rfl
def f167 (n : Nat) (a0 : Int) (a1 : LI) : Option Int :=
 No n n a0 a1 (a1.length : Int) 0
  (fun z_1 => (
   some z_1))
  (fun (_ : Unit) => (
   some 0))
def Aom (n : Nat) : Ent := ⟨167, [hI, hIs], [hI], fun x => f167 n x.1 x.2⟩
def Abj (α : Type) (n : Nat) : D3 α := { reg := [], join := [], loop := [(2, ⟨Pz, Z8, A5 (Z7 n) n⟩)] }
theorem A73 (α : Type) (n : Nat) : Aj PP (Ah (Abj α n).reg) := trivial
theorem Aj7 (α : Type) (n : Nat) : LO.Sound (α := α) PP ⟨17, []⟩ ⟨Pz, Z8, A5 (Z7 n) n⟩ (.loop ((A1 Tryz.f167).at [1, 0, 1, 0, 0])) := Ay (D := Abj α n) (A73 α n) n
theorem B06 (α : Type) (n : Nat) : D3.OK PP TT ⟨17, []⟩ (Abj α n) (A1 Tryz.f167) :=
 D3.OK.mk3 (A73 α n) (show Ad (A1 Tryz.f167) = [(2, (.loop ((A1 Tryz.f167).at [1, 0, 1, 0, 0])))] by kernel_rfl) ⟨A9 rfl (Aj7 α n), trivial⟩
theorem Awe (n : Nat) : (Aom n).Sound PP := fk (fn := Tryz.f167) (B06 _ n) 

def A3h {α : Type} (n : Nat) (s7 : List LR) (s8 s9 : Int) (b6 : LI) (f : (List LR) → Int → Int → LI → Option α) (k0 : LI → Option α) : Option α :=
 bif (decide (s9 < s8)) then
  gd (decide (0 ≤ s9) && decide (s9 < (s7.length : Int))) (
   gd (decide ((b6.length + 1) * 8 ≤ 140737488355328)) (
    f s7 s8 (W (s9 + 1)) (b6 ++ [(((s7.getD s9.toNat []).length : Nat) : Int)])))
 else
  k0 b6
abbrev Uj : Tm := ⟨[(3, .k (.hw 6)), (7, .d (.sl hRs)), (8, .d hI), (9, .d hI)], [(6, .arr 3 hI false)], [16], []⟩
abbrev Ars : Tm := ⟨[(3, .k (.hw 6))], [(6, .arr 3 hI false)], [], []⟩
abbrev A3g : List (Exit × Tm) := [(.exit 0, Ars)]
def A3f {α : Type} (n : Nat) (v : Uj.den) (f : Uj.den → Option α) (ks : KS α A3g) : Option α := A3h n v.1.2.1 v.1.2.2.1 v.1.2.2.2.1 v.2.1 (fun s7 s8 s9 b6 => f (((), s7, s8, s9, ()), (b6, ()))) (fun w0 => ks.1 (((), ()), (w0, ())))
def Sk {α : Type} (n m : Nat) (s7 : List LR) (s8 s9 : Int) (b6 : LI) (k0 : LI → Option α) : Option α := A5 (A3f n) m (((), s7, s8, s9, ()), (b6, ())) (fun w => k0 w.2.1, ())
theorem Arr {α n m s7 s8 s9 b6 k0} : Sk (α := α) n (m + 1) s7 s8 s9 b6 k0 = A3h n s7 s8 s9 b6 (fun s7 s8 s9 b6 => Sk n m s7 s8 s9 b6 k0) k0 := rfl
def f98 (n : Nat) (a0 : List LR) : Option Int :=
 Sk n n a0 (a0.length : Int) 0 []
  (fun z_1 => (
   ob (f167 n 4096 z_1) fun r_2 =>
   some r_2))
def Ou (n : Nat) : Ent := ⟨98, [(.sl hRs)], [hI], fun x => f98 n x⟩
def Ahh (α : Type) (n : Nat) : D3 α := { reg := [(1, ⟨0, [], [(0, { sh := some hI })]⟩), (5, ⟨0, [], [(3, { sh := some hI })]⟩), (7, ⟨0, [], [(1, { ent := some (Aom n) })]⟩)], join := [], loop := [(3, ⟨Uj, A3g, A5 (A3f n) n⟩)] }
theorem A9w (α : Type) (n : Nat) : Aj PP (Ah (Ahh α n).reg) := ⟨Awe n, trivial⟩
theorem Alk (α : Type) (n : Nat) : LO.Sound (α := α) PP ⟨21, []⟩ ⟨Uj, A3g, A5 (A3f n) n⟩ (.loop ((A1 Tryz.f98).at [1, 1, 0, 1, 0, 0])) := Ay (D := Ahh α n) (A9w α n) n
theorem B1o (α : Type) (n : Nat) : D3.OK PP TT ⟨21, []⟩ (Ahh α n) (A1 Tryz.f98) :=
 D3.OK.mk3 (A9w α n) (show Ad (A1 Tryz.f98) = [(3, (.loop ((A1 Tryz.f98).at [1, 1, 0, 1, 0, 0])))] by kernel_rfl) ⟨A9 rfl (Alk α n), trivial⟩
theorem Ali (n : Nat) : (Ou n).Sound PP := fk (fn := Tryz.f98) (B1o _ n) 

def f70 (n : Nat) (a0 a1 a2 : Int) : Option Bool :=
 bif (decide (a1 ≤ a0)) then
  some (decide (a0 ≤ a2))
 else
  some false
def Ie (n : Nat) : Ent := ⟨70, [hI, hI, hI], [.bool], fun x => f70 n x.1 x.2.1 x.2.2⟩
def B22 (α : Type) (n : Nat) : D3 α := { reg := [], join := [], loop := [] }
theorem Gy (n : Nat) : (Ie n).Sound PP := Ap (fn := Tryz.f70) (D := B22 _ n) trivial 

def f231 (n : Nat) (a0 : Nq) : Option Bool :=
 bif (a0.1 == 1) then
  ob (f70 n a0.2.2.2 0 999999999) fun r_1 =>
  some r_1
 else
  bif (a0.1 == 2) then
   ob (f70 n a0.2.2.2 0 3) fun r_2 =>
   some r_2
  else
   bif (a0.1 == 8) then
    ob (f70 n a0.2.2.2 0 8) fun r_3 =>
    some r_3
   else
    some (a0.2.2.2 == 0)
def Ami (n : Nat) : Ent := ⟨231, [hN], [.bool], fun x => f231 n x⟩
def Az1 (α : Type) (n : Nat) : D3 α := { reg := [(3, ⟨0, [], [(2, { ent := some (Ie n) })]⟩), (5, ⟨0, [], [(2, { ent := some (Ie n) })]⟩), (7, ⟨0, [], [(2, { ent := some (Ie n) })]⟩)], join := [], loop := [] }
theorem Ave (n : Nat) : (Ami n).Sound PP := Ap (fn := Tryz.f231) (D := Az1 _ n) ⟨Gy n, Gy n, Gy n, trivial⟩ 

def f214 (n : Nat) (a0 : Nq) : Option Int :=
 bif (a0.1 == 3) then
  some 2
 else
  bif (a0.1 == 4) then
   some 2
  else
   bif (a0.1 == 5) then
    some 2
   else
    bif (a0.1 == 6) then
     some 2
    else
     bif (a0.1 == 7) then
      some 1
     else
      bif (a0.1 == 8) then
       some 1
      else
       some 0
def A1e (n : Nat) : Ent := ⟨214, [hN], [hI], fun x => f214 n x⟩
def Az6 (α : Type) (n : Nat) : D3 α := { reg := [], join := [], loop := [] }
theorem A41 (n : Nat) : (A1e n).Sound PP := Ap (fn := Tryz.f214) (D := Az6 _ n) trivial 

def f232 (n : Nat) (a0 : Bool) (a1 a2 : Int) : Option Bool :=
 bif a0 then
  ob (f70 n a1 0 (W (a2 - 1))) fun r_1 =>
  bif r_1 then
   some true
  else
   bif (!a0) then
    some (a1 == 0)
   else
    some false
 else
  bif (!a0) then
   some (a1 == 0)
  else
   some false
def Aab (n : Nat) : Ent := ⟨232, [.bool, hI, (.ref hI)], [.bool], fun x => f232 n x.1 x.2.1 x.2.2⟩
def Az0 (α : Type) (n : Nat) : D3 α := { reg := [(1, ⟨0, [], [(5, { ent := some (Ie n) })]⟩)], join := [], loop := [] }
theorem Af9 (n : Nat) : (Aab n).Sound PP := Ap (fn := Tryz.f232) (D := Az0 _ n) ⟨Gy n, trivial⟩ 

def f225 (n : Nat) (a0 : Nq) (a1 : Int) : Option Bool :=
 ob (f70 n a0.1 1 8) fun r_1 =>
 bif (!r_1) then
  some false
 else
  ob (f231 n a0) fun r_2 =>
  bif (!r_2) then
   some false
  else
   ob (f214 n a0) fun r_3 =>
   ob (f232 n (decide (r_3 > 0)) a0.2.1 a1) fun r_4 =>
   bif r_4 then
    ob (f214 n a0) fun r_5 =>
    ob (f232 n (decide (r_5 > 1)) a0.2.2.1 a1) fun r_6 =>
    some r_6
   else
    some false
def Aml (n : Nat) : Ent := ⟨225, [hN, hI], [.bool], fun x => f225 n x.1 x.2⟩
def Az3 (α : Type) (n : Nat) : D3 α := { reg := [(1, ⟨0, [], [(2, { ent := some (Ie n) }), (6, { ent := some (Ami n) })]⟩), (3, ⟨0, [], [(0, { sh := some (.ref hI) })]⟩), (4, ⟨14, [], [(2, { ent := some (A1e n) }), (6, { ent := some (Aab n) }), (10, { ent := some (A1e n) }), (14, { ent := some (Aab n) })]⟩)], join := [], loop := [] }
theorem Avh (n : Nat) : (Aml n).Sound PP := Ap (fn := Tryz.f225) (D := Az3 _ n) ⟨Gy n, Ave n, A41 n, Af9 n, A41 n, Af9 n, trivial⟩ 

def Kr {α : Type} (n : Nat) (s13 : LN) (s14 s15 : Int) (b11 b12 : LI) (f : LN → Int → Int → LI → LI → Option α) (k0 : Bool → Option α) (k1 : LI → LI → Option α) : Option α :=
 bif (decide (s15 < s14)) then
  gd (decide (0 ≤ s15) && decide (s15 < (s13.length : Int))) (
   let x_1 := s13.getD s15.toNat (0, 0, 0, 0)
   ob (f225 n x_1 s15) fun r_2 =>
   bif (!r_2) then
    k0 false
   else
    let J_6 := fun (y_4 : Int) (y_5 : Int) => (
     gd (decide ((b11.length + 1) * 8 ≤ 140737488355328)) (
      gd (decide ((b12.length + 1) * 8 ≤ 140737488355328)) (
       f s13 s14 (W (s15 + 1)) (b11 ++ [y_4]) (b12 ++ [y_5]))))
    ob (f214 n x_1) fun r_3 =>
    bif (r_3 == 1) then
     bif (x_1.2.1 != (W (s15 - 1))) then
      k0 false
     else
      gd (decide (0 ≤ x_1.2.1) && decide (x_1.2.1 < (b11.length : Int))) (
       gd (decide (x_1.2.1.toNat < b11.length)) (
        gd (decide (0 ≤ x_1.2.1) && decide (x_1.2.1 < (b12.length : Int))) (
         gd (decide (x_1.2.1.toNat < b12.length)) (
          J_6 (b11.getD x_1.2.1.toNat 0) (W ((b12.getD x_1.2.1.toNat 0) + 1))))))
    else
     bif (r_3 == 2) then
      bif (x_1.2.2.1 != (W (s15 - 1))) then
       k0 false
      else
       gd (decide (0 ≤ x_1.2.2.1) && decide (x_1.2.2.1 < (b11.length : Int))) (
        gd (decide (x_1.2.2.1.toNat < b11.length)) (
         bif (x_1.2.1 != (W ((b11.getD x_1.2.2.1.toNat 0) - 1))) then
          k0 false
         else
          gd (decide (0 ≤ x_1.2.1) && decide (x_1.2.1 < (b11.length : Int))) (
           gd (decide (x_1.2.1.toNat < b11.length)) (
            gd (decide (0 ≤ x_1.2.1) && decide (x_1.2.1 < (b12.length : Int))) (
             gd (decide (x_1.2.1.toNat < b12.length)) (
              gd (decide (0 ≤ x_1.2.2.1) && decide (x_1.2.2.1 < (b12.length : Int))) (
               gd (decide (x_1.2.2.1.toNat < b12.length)) (
                J_6 (b11.getD x_1.2.1.toNat 0) (W ((max (b12.getD x_1.2.1.toNat 0) (b12.getD x_1.2.2.1.toNat 0)) + 1))))))))))
     else
      J_6 s15 1)
 else
  k1 b11 b12
abbrev P5 : Tm := ⟨[(5, .k (.hw 11)), (6, .k (.hw 12)), (13, .d hNs), (14, .d hI), (15, .d hI)], [(11, .arr 3 hI false), (12, .arr 3 hI false)], [82, 86], []⟩
abbrev Amr : Tm := ⟨[(2, .d .nil), (3, .d .nil), (4, .d .bool)], [], [8, 11, 12], []⟩
abbrev Amq : Tm := ⟨[(5, .k (.hw 11)), (6, .k (.hw 12))], [(11, .arr 3 hI false), (12, .arr 3 hI false)], [], []⟩
abbrev Xp : List (Exit × Tm) := [(.ret, Amr), (.exit 0, Amq)]
def Xo {α : Type} (n : Nat) (v : P5.den) (f : P5.den → Option α) (ks : KS α Xp) : Option α := Kr n v.1.2.2.1 v.1.2.2.2.1 v.1.2.2.2.2.1 v.2.1 v.2.2.1 (fun s13 s14 s15 b11 b12 => f (((), (), s13, s14, s15, ()), (b11, b12, ()))) (fun w0 => ks.1 (((), (), w0, ()), ())) (fun w0 w1 => ks.2.1 (((), (), ()), (w0, w1, ())))
def Uw {α : Type} (n m : Nat) (s13 : LN) (s14 s15 : Int) (b11 b12 : LI) (k0 : Bool → Option α) (k1 : LI → LI → Option α) : Option α := A5 (Xo n) m (((), (), s13, s14, s15, ()), (b11, b12, ())) (fun w => k0 w.1.2.2.1, fun w => k1 w.2.1 w.2.2.1, ())
theorem A6g {α n m s13 s14 s15 b11 b12 k0 k1} : Uw (α := α) n (m + 1) s13 s14 s15 b11 b12 k0 k1 = Kr n s13 s14 s15 b11 b12 (fun s13 s14 s15 b11 b12 => Uw n m s13 s14 s15 b11 b12 k0 k1) k0 k1 := rfl
abbrev Asb : Tm := ⟨[(5, .k (.hw 11)), (6, .k (.hw 12)), (9, .d hI), (10, .d hI), (13, .d hNs), (14, .d hI), (15, .d hI)], [(11, .arr 3 hI false), (12, .arr 3 hI false)], [8], []⟩
def f212 (n : Nat) (a0 : LN) : Option (LI × LI × Bool) :=
 Uw n n a0 (a0.length : Int) 0 [] []
  (fun z_7 => (
   some ([], [], z_7)))
  (fun z_8 z_9 => (
   some (z_8, z_9, true)))
def Ams (n : Nat) : Ent := ⟨212, [hNs], [hIs, hIs, .bool], fun x => f212 n x⟩
def Aai (α : Type) (n : Nat) : D3 α := { reg := [(1, ⟨0, [], [(0, { sh := some hI }), (1, { sh := some hI })]⟩), (5, ⟨0, [], [(2, { ent := some (Aml n) })]⟩), (8, ⟨0, [], [(1, { ent := some (A1e n) })]⟩), (12, ⟨12, [], []⟩), (14, ⟨14, [], []⟩), (16, ⟨18, [], []⟩), (17, ⟨0, [], [(2, { sh := some hI }), (6, { sh := some hI })]⟩)], join := [(17, Asb)], loop := [(3, ⟨P5, Xp, A5 (Xo n) n⟩)] }
theorem A6f (α : Type) (n : Nat) : Aj PP (Ah (Aai α n).reg) := ⟨Avh n, A41 n, trivial⟩
theorem Ai8 (α : Type) (n : Nat) : LO.Sound (α := α) PP ⟨91, []⟩ ⟨P5, Xp, A5 (Xo n) n⟩ (.loop ((A1 Tryz.f212).at [1, 1, 0, 1, 0, 0])) := Ay (D := Aai α n) (A6f α n) n
theorem Az8 (α : Type) (n : Nat) : D3.OK PP TT ⟨91, []⟩ (Aai α n) (A1 Tryz.f212) :=
 D3.OK.mk3 (A6f α n) (show Ad (A1 Tryz.f212) = [(3, (.loop ((A1 Tryz.f212).at [1, 1, 0, 1, 0, 0])))] by kernel_rfl) ⟨A9 rfl (Ai8 α n), trivial⟩
theorem Avm (n : Nat) : (Ams n).Sound PP := fk (fn := Tryz.f212) (Az8 _ n) 

def P4 {α : Type} (n : Nat) (s0 : LI) (s3 s4 : Int) (f : LI → Int → Int → Option α) (k0 : Int → Option α) : Option α :=
 bif (decide (s4 < (s0.length : Int))) then
  gd (decide (0 ≤ s4) && decide (s4 < (s0.length : Int))) (
   f s0 (max s3 (s0.getD s4.toNat 0)) (W (s4 + 1)))
 else
  k0 s3
abbrev P3 : Tm := ⟨[(0, .d hIs), (3, .d hI), (4, .d hI)], [], [], []⟩
abbrev Amo : Tm := ⟨[(3, .d hI)], [], [], []⟩
abbrev Xn : List (Exit × Tm) := [(.exit 0, Amo)]
def Xm {α : Type} (n : Nat) (v : P3.den) (f : P3.den → Option α) (ks : KS α Xn) : Option α := P4 n v.1.1 v.1.2.1 v.1.2.2.1 (fun s0 s3 s4 => f ((s0, s3, s4, ()), ())) (fun w0 => ks.1 ((w0, ()), ()))
def Uv {α : Type} (n m : Nat) (s0 : LI) (s3 s4 : Int) (k0 : Int → Option α) : Option α := A5 (Xm n) m ((s0, s3, s4, ()), ()) (fun w => k0 w.1.1, ())
theorem A6e {α n m s0 s3 s4 k0} : Uv (α := α) n (m + 1) s0 s3 s4 k0 = P4 n s0 s3 s4 (fun s0 s3 s4 => Uv n m s0 s3 s4 k0) k0 := rfl
def f213 (n : Nat) (a0 : LI) : Option Int :=
 bif (decide ((a0.length : Int) < 1)) then
  none
 else
  gd (decide (0 < (a0.length : Int))) (
   Uv n n a0 (a0.getD 0 0) 1
    (fun z_1 => (
     some z_1)))
def Amp (n : Nat) : Ent := ⟨213, [hIs], [hI], fun x => f213 n x⟩
def Aah (α : Type) (n : Nat) : D3 α := { reg := [], join := [], loop := [(5, ⟨P3, Xn, A5 (Xm n) n⟩)] }
theorem A6d (α : Type) (n : Nat) : Aj PP (Ah (Aah α n).reg) := trivial
theorem Ai7 (α : Type) (n : Nat) : LO.Sound (α := α) PP ⟨25, []⟩ ⟨P3, Xn, A5 (Xm n) n⟩ (.loop ((A1 Tryz.f213).at [1, 1, 1, 0, 1, 0, 0])) := Ay (D := Aah α n) (A6d α n) n
theorem Az7 (α : Type) (n : Nat) : D3.OK PP TT ⟨25, []⟩ (Aah α n) (A1 Tryz.f213) :=
 D3.OK.mk3 (A6d α n) (show Ad (A1 Tryz.f213) = [(5, (.loop ((A1 Tryz.f213).at [1, 1, 1, 0, 1, 0, 0])))] by kernel_rfl) ⟨A9 rfl (Ai7 α n), trivial⟩
theorem Avk (n : Nat) : (Amp n).Sound PP := fk (fn := Tryz.f213) (Az7 _ n) 

def f198 (n : Nat) (a0 : LN) : Option Bool :=
 ob (f70 n (a0.length : Int) 1 60) fun r_1 =>
 bif (!r_1) then
  some false
 else
  ob (f212 n a0) fun r_2 =>
  bif r_2.2.2 then
   gd (decide (0 ≤ (W ((a0.length : Int) - 1))) && decide ((W ((a0.length : Int) - 1)) < (r_2.1.length : Int))) (
    bif ((r_2.1.getD ((W ((a0.length : Int) - 1)).toNat) 0) == 0) then
     ob (f213 n r_2.2.1) fun r_3 =>
     some (decide (r_3 ≤ 12))
    else
     some false)
  else
   some false
def Anb (n : Nat) : Ent := ⟨198, [hE], [.bool], fun x => f198 n x⟩
def Azj (α : Type) (n : Nat) : D3 α := { reg := [(2, ⟨0, [], [(1, { ent := some (Ie n) })]⟩), (4, ⟨0, [], [(2, { ent := some (Ams n) })]⟩), (5, ⟨0, [], [(11, { ent := some (Amp n) })]⟩)], join := [], loop := [] }
theorem Avt (n : Nat) : (Anb n).Sound PP := Ap (fn := Tryz.f198) (D := Azj _ n) ⟨Gy n, Avm n, Avk n, trivial⟩ 

def f211 (n : Nat) (a0 : Int) : Option Bool :=
 bif (decide (a0 < 0)) then
  some true
 else
  some (decide (a0 ≥ 10000))
def Amt (n : Nat) : Ent := ⟨211, [hI], [.bool], fun x => f211 n x⟩
def Az9 (α : Type) (n : Nat) : D3 α := { reg := [], join := [], loop := [] }
theorem Avo (n : Nat) : (Amt n).Sound PP := Ap (fn := Tryz.f211) (D := Az9 _ n) trivial 

def Kq {α : Type} (n : Nat) (s0 : LI) (s7 s8 : Int) (f : LI → Int → Int → Option α) (k0 : Int → Option α) (k1 : Unit → Option α) : Option α :=
 bif (decide (s8 < s7)) then
  gd (decide (0 ≤ s8) && decide (s8 < (s0.length : Int))) (
   ob (f211 n (s0.getD s8.toNat 0)) fun r_1 =>
   bif r_1 then
    k0 s8
   else
    f s0 s7 (W (s8 + 1)))
 else
  k1 ()
abbrev Gz : Tm := ⟨[(0, .d hIs), (1, .d (.fn 211)), (7, .d hI), (8, .d hI)], [], [], []⟩
abbrev A82 : Tm := ⟨[(4, .d hI)], [], [], []⟩
abbrev A81 : Tm := ⟨[], [], [], []⟩
abbrev Kp : List (Exit × Tm) := [(.ret, A82), (.exit 0, A81)]
def Ko {α : Type} (n : Nat) (v : Gz.den) (f : Gz.den → Option α) (ks : KS α Kp) : Option α := Kq n v.1.1 v.1.2.2.1 v.1.2.2.2.1 (fun s0 s7 s8 => f ((s0, (), s7, s8, ()), ())) (fun w0 => ks.1 ((w0, ()), ())) (fun _ => ks.2.1 ((), ()))
def Fv {α : Type} (n m : Nat) (s0 : LI) (s7 s8 : Int) (k0 : Int → Option α) (k1 : Unit → Option α) : Option α := A5 (Ko n) m ((s0, (), s7, s8, ()), ()) (fun w => k0 w.1.1, fun w => k1 (), ())
theorem A80 {α n m s0 s7 s8 k0 k1} : Fv (α := α) n (m + 1) s0 s7 s8 k0 k1 = Kq n s0 s7 s8 (fun s0 s7 s8 => Fv n m s0 s7 s8 k0 k1) k0 k1 := rfl
def Xj (n : Nat) (a0 : LI) (a1 : Unit) : Option Int :=
 Fv n n a0 (a0.length : Int) 0
  (fun z_2 => (
   some z_2))
  (fun (_ : Unit) => (
   some (-1)))
def A1d (n : Nat) : Ent := ⟨224, [hIs, (.fn 211)], [hI], fun x => Xj n x.1 x.2⟩
def Oz (α : Type) (n : Nat) : D3 α := { reg := [(4, ⟨0, [], [(5, { ent := some (Amt n) })]⟩)], join := [], loop := [(2, ⟨Gz, Kp, A5 (Ko n) n⟩)] }
theorem Ra (α : Type) (n : Nat) : Aj PP (Ah (Oz α n).reg) := ⟨Avo n, trivial⟩
theorem A3y (α : Type) (n : Nat) : LO.Sound (α := α) PP ⟨19, []⟩ ⟨Gz, Kp, A5 (Ko n) n⟩ (.loop ((A1 Tryz.f224).at [1, 0, 1, 0, 0])) := Ay (D := Oz α n) (Ra α n) n
theorem Ai4 (α : Type) (n : Nat) : D3.OK PP TT ⟨19, []⟩ (Oz α n) (A1 Tryz.f224) :=
 D3.OK.mk3 (Ra α n) (show Ad (A1 Tryz.f224) = [(2, (.loop ((A1 Tryz.f224).at [1, 0, 1, 0, 0])))] by kernel_rfl) ⟨A9 rfl (A3y α n), trivial⟩
theorem Adm (n : Nat) : (A1d n).Sound PP := fk (fn := Tryz.f224) (Ai4 _ n) 

def Kt (n : Nat) (a0 : LI) (a1 : Unit) : Option Bool :=
 ob (Xj n a0 a1) fun r_1 =>
 some (decide (r_1 ≥ 0))
def A1f (n : Nat) : Ent := ⟨210, [hIs, (.fn 211)], [.bool], fun x => Kt n x.1 x.2⟩
def Ai9 (α : Type) (n : Nat) : D3 α := { reg := [(1, ⟨0, [], [(2, { ent := some (A1d n) })]⟩)], join := [], loop := [] }
theorem Adn (n : Nat) : (A1f n).Sound PP := Ap (fn := Tryz.f210) (D := Ai9 _ n) ⟨Adm n, trivial⟩ 

def f197 (n : Nat) (a0 : LI) : Option Bool :=
 bif (decide ((a0.length : Int) > 40)) then
  some false
 else
  bif (decide ((a0.length : Int) > 0)) then
   gd (decide (0 ≤ (W ((a0.length : Int) - 1))) && decide ((W ((a0.length : Int) - 1)) < (a0.length : Int))) (
    bif ((a0.getD ((W ((a0.length : Int) - 1)).toNat) 0) == 0) then
     some false
    else
     ob (Kt n a0 ()) fun r_1 =>
     some (!r_1))
  else
   ob (Kt n a0 ()) fun r_2 =>
   some (!r_2)
def Aaw (n : Nat) : Ent := ⟨197, [hIs], [.bool], fun x => f197 n x⟩
def Azk (α : Type) (n : Nat) : D3 α := { reg := [(4, ⟨0, [], [(1, { ent := some (A1f n) })]⟩)], join := [], loop := [] }
theorem Afh (n : Nat) : (Aaw n).Sound PP := Ap (fn := Tryz.f197) (D := Azk _ n) ⟨Adn n, trivial⟩ 

def f74 (n : Nat) (a0 : Rq) : Option Bool :=
 some ((a0.2.1.length : Int) == 0)
def Ahp (n : Nat) : Ent := ⟨74, [hR], [.bool], fun x => f74 n x⟩
def B21 (α : Type) (n : Nat) : D3 α := { reg := [], join := [], loop := [] }
theorem Alz (n : Nat) : (Ahp n).Sound PP := Ap (fn := Tryz.f74) (D := B21 _ n) trivial 

def f201 (n : Nat) (a0 : LI) : Option LI :=
 some a0
def Aas (n : Nat) : Ent := ⟨201, [hIs], [(.clo 223 (.ref hIs))], fun x => f201 n x⟩
def Azh (α : Type) (n : Nat) : D3 α := { reg := [(1, ⟨0, [], [(0, { sh := some (.ref hIs) })]⟩)], join := [], loop := [] }
theorem Afg (n : Nat) : (Aas n).Sound PP := Ap (fn := Tryz.f201) (D := Azh _ n) trivial 

def Z6 {α : Type} (n : Nat) (i : Nat) (z : Int) (s18 : LI) (c3_0 : LI) (c4_0 : Int) (f : LI → LI → Int → Option α) (k0 : Int → Option α) (k1 : Int → Option α) : Option α :=
 gd (decide (0 ≤ (i : Int)) && decide ((i : Int) < (c3_0.length : Int))) (
  bif (z != (c3_0.getD ((i : Int).toNat) 0)) then
   gd (decide (0 ≤ (i : Int)) && decide ((i : Int) < (c3_0.length : Int))) (
    bif (decide (z < (c3_0.getD ((i : Int).toNat) 0))) then
     k1 (-1)
    else
     k1 1)
  else
   f s18 c3_0 c4_0)
abbrev I1 : Tm := ⟨[(3, .k (.hp 3 0 0)), (4, .k (.hp 4 0 0)), (18, .d (.clo 223 (.ref hIs)))], [(3, .var 28 true false [.d hIs]), (4, .var 3 true false [.d hI])], [], []⟩
abbrev Aoi : Tm := ⟨[(4, .k (.hp 4 0 0))], [(4, .var 3 true false [.d hI])], [3], []⟩
abbrev Aoh : Tm := ⟨[(4, .k (.hp 4 0 0))], [(4, .var 3 true false [.d hI])], [3], []⟩
abbrev Py : List (Exit × Tm) := [(.normal, Aoi), (.ret, Aoh)]
def L6 (v : I1.den) : List Int := (fun s18 c3_0 c4_0 => s18) v.1.2.2.1 v.2.1.1 v.2.2.1.1
def L7 {α : Type} (n : Nat) (i : Nat) (z : Int) (v : I1.den) (f : I1.den → Option α) (ks : KS α Py) : Option α := Z6 n i z v.1.2.2.1 v.2.1.1 v.2.2.1.1 (fun s18 c3_0 c4_0 => f (((), (), s18, ()), ((c3_0, ()), (c4_0, ()), ()))) (fun w0 => ks.1 (((), ()), ((w0, ()), ()))) (fun w0 => ks.2.1 (((), ()), ((w0, ()), ())))
def L9 {α : Type} (v : I1.den) (ks : KS α Py) : Option α := (fun s18 c3_0 c4_0 => ks.1 (((), ()), ((c4_0, ()), ()))) v.1.2.2.1 v.2.1.1 v.2.2.1.1
def Afr {α : Type} (n : Nat) (s18 : LI) (c3_0 : LI) (c4_0 : Int) (k0 : Int → Option α) (k1 : Int → Option α) : Option α := Kg L6 (L7 n) L9 (((), (), s18, ()), ((c3_0, ()), (c4_0, ()), ())) (fun w => k0 w.2.1.1, fun w => k1 w.2.1.1, ())
def L8 {α : Type} (n : Nat) (zs : List Int) (i : Nat) (s18 : LI) (c3_0 : LI) (c4_0 : Int) (k0 : Int → Option α) (k1 : Int → Option α) : Option α := Kh L6 (L7 n) zs i (((), (), s18, ()), ((c3_0, ()), (c4_0, ()), ())) (fun v => L9 v (fun w => k0 w.2.1.1, fun w => k1 w.2.1.1, ())) (fun w => k0 w.2.1.1, fun w => k1 w.2.1.1, ())
theorem Aof {α : Type} (n : Nat) (s18 : LI) (c3_0 : LI) (c4_0 : Int) (k0 : Int → Option α) (k1 : Int → Option α) : Afr (α := α) n s18 c3_0 c4_0 k0 k1 = gd (decide (s18.length ≤ 4611686018427387904)) (L8 n s18 s18.length s18 c3_0 c4_0 k0 k1) := rfl
theorem Aog {α : Type} (n : Nat) (zs : List Int) (s18 : LI) (c3_0 : LI) (c4_0 : Int) (k0 : Int → Option α) (k1 : Int → Option α) : L8 (α := α) n zs 0 s18 c3_0 c4_0 k0 k1 = k0 c4_0 := rfl
theorem Aoe {α : Type} (n : Nat) (zs : List Int) (i : Nat) (s18 : LI) (c3_0 : LI) (c4_0 : Int) (k0 : Int → Option α) (k1 : Int → Option α) : L8 (α := α) n zs (i + 1) s18 c3_0 c4_0 k0 k1 = Z6 n i (zs.getD i 0) s18 c3_0 c4_0 (fun s18 c3_0 c4_0 => gd (decide (s18 = zs)) (L8 n zs i s18 c3_0 c4_0 k0 k1)) k0 k1 := rfl
def f170 (n : Nat) (a0 a1 : LI) : Option Int :=
 bif ((a0.length : Int) != (a1.length : Int)) then
  bif (decide ((a0.length : Int) < (a1.length : Int))) then
   some (-1)
  else
   some 1
 else
  ob (f201 n a0) fun r_1 =>
  Afr n r_1 a1 0
   (fun z_2 => (
    some 0))
   (fun z_3 => (
    some z_3))
def A1w (n : Nat) : Ent := ⟨170, [hIs, hIs], [hI], fun x => f170 n x.1 x.2⟩
def A1x (α : Type) (n : Nat) : D3 α := { reg := [(5, ⟨0, [], [(1, { ent := some (Aas n) })]⟩)], join := [], loop := [(6, ⟨I1, Py, Kg L6 (L7 n) L9⟩)] }
theorem Tb (α : Type) (n : Nat) : Aj PP (Ah (A1x α n).reg) := ⟨Afg n, trivial⟩
theorem Aj6 (α : Type) (n : Nat) : D3.OK PP TT ⟨33, []⟩ (A1x α n) ((A1 Tryz.f170).at [1, 1, 0, 1, 0, 0]) :=
 D3.OK.mk3 (Tb α n) (show Ad ((A1 Tryz.f170).at [1, 1, 0, 1, 0, 0]) = [] by kernel_rfl) trivial
theorem Aj5 (α : Type) (n : Nat) : D3.OK PP TT ⟨33, []⟩ (A1x α n) ((A1 Tryz.f170).at [1, 1, 0, 1, 0, 1]) :=
 D3.OK.mk3 (Tb α n) (show Ad ((A1 Tryz.f170).at [1, 1, 0, 1, 0, 1]) = [] by kernel_rfl) trivial
theorem Aj4 (α : Type) (n : Nat) : LO.Sound (α := α) PP ⟨33, []⟩ ⟨I1, Py, Kg L6 (L7 n) L9⟩ (.rangeFunc (.tmp 18) #[19, 20] ((A1 Tryz.f170).at [1, 1, 0, 1, 0, 0]) ((A1 Tryz.f170).at [1, 1, 0, 1, 0, 1])) :=
 A9b (My _) Ki L6 (L7 n) L9 Agg rfl rfl rfl rfl (Aj6 α n) (Aj5 α n) (by intro v; rfl) (by intro i z v f ks; kernel_rfl) (by intro v ks; kernel_rfl)
theorem B04 (α : Type) (n : Nat) : D3.OK PP TT ⟨33, []⟩ (A1x α n) (A1 Tryz.f170) :=
 D3.OK.mk3 (Tb α n) (show Ad (A1 Tryz.f170) = [(6, (.rangeFunc (.tmp 18) #[19, 20] ((A1 Tryz.f170).at [1, 1, 0, 1, 0, 0]) ((A1 Tryz.f170).at [1, 1, 0, 1, 0, 1])))] by kernel_rfl) ⟨A9 rfl (Aj4 α n), trivial⟩
theorem A4l (n : Nat) : (A1w n).Sound PP := fk (fn := Tryz.f170) (B04 _ n) 

def Aji (n : Nat) (a0 : LI) : Option LI :=
 gd ((!a0.isEmpty)) (
  gd (decide ((0 + a0.length) * 8 ≤ 140737488355328)) (
   some a0))
def Awy (n : Nat) : Ent := ⟨145, [hIs], [hIs], fun x => Aji n x⟩
def Awz (α : Type) (n : Nat) : D3 α := { reg := [(3, ⟨0, [], [(0, { sh := some hI })]⟩)], join := [], loop := [] }
theorem Asz (n : Nat) : (Awy n).Sound PP := Ap (fn := Tryz.f145) (D := Awz _ n) trivial 

set_option maxRecDepth 100000 in
set_option maxHeartbeats 2000000 in
theorem Aq8 (ad : Option Addr) (cap : Nat) (hc : ad = none → cap = 0) (w : World) : Calls Tryz.prog 145 #[.slice ad 0 cap] w fun e w' => (∃ a c, e = .returned (.slice a 0 c) ∧ (a = none → c = 0)) ∧ w.grownBy w' none := by
 refine (callsIn_wide (n := 3)).1 ?_
 refine callsIn_of_wp Tryz.func145 rfl trivial ?_ rfl
 simp only [Tryz.ntmps145, List.size_toArray, List.length_cons, List.length_nil, Nat.reduceAdd, Nat.reduceSub, Array.replicate_succ, Array.replicate_zero, List.push_toArray, List.append_toArray, List.nil_append, List.cons_append]
 have hi : ∃ i, Tryz.prog.info? 3 = some i := ⟨_, rfl⟩
 obtain ⟨i3, hi3⟩ := hi
 have hap : ∀ (base : Option Addr) (sCap : Nat) (a : Option Addr) (cp : Nat) (w : World), (Builtin.append_ #[28, 28] 28 #[.slice base 0 sCap, .slice a 0 cp]).run Tryz.prog w = .ok (.slice base 0 sCap) w := fun base sCap a cp w =>
  Ls w 28 28 3 i3 Tryz.underlying28 hi3 base 0 sCap (Nat.zero_le _) a cp
 cases ad with
 | none =>
  obtain rfl := hc rfl
  have hb : ∀ w, (binOp BinOp.eql 28 (.slice none 0 0) (.slice none 0 0)).run Tryz.prog w = .ok (.bool true) w := fun w => by kernel_rfl
  gi_wp2
  refine bodyPost_ret (results_tmp rfl _ _ _) rfl ?_
  exact ⟨⟨none, 0, rfl, fun _ => rfl⟩, ⟨rfl, rfl, rfl, Nat.le_refl _, fun _ _ _ => rfl⟩⟩
 | some ad =>
  have hb : ∀ w, (binOp BinOp.eql 28 (.slice (some ad) 0 cap) (.slice none 0 0)).run Tryz.prog w = .ok (.bool false) w := fun w => by kernel_rfl
  gi_wp2
  refine bodyPost_ret (results_tmp rfl _ _ _) rfl ?_
  exact ⟨⟨_, 0, rfl, fun _ => rfl⟩, World.grownBy_alloc w _ none⟩
def f145 (n : Nat) (a0 : List Int) : Option (List Int) := bif a0.isEmpty then some [] else Aji n a0
def A22 (n : Nat) : Ent := ⟨145, [hIs], [hIs], fun x => f145 n x⟩
theorem Abu (nt : Nat) : Hf Tryz.prog 145 nt [] [] [.one (.i (.sl 0 false 1 []))] (.v (.one (.i (.sl 0 false 1 [])))) nt [] := by
 refine ⟨⟨Tryz.f145, by kernel_rfl, by kernel_rfl, by kernel_rfl⟩, fun w E vs hin hv => ?_⟩
 obtain ⟨hl, hget⟩ := hv
 match vs, hl with
 | [v], _ =>
  have h1 : Rv w E v (.one (.i (.sl 0 false 1 []))) := hget 0 v _ rfl rfl
  cases h1 with
  | one h1 =>
   cases h1 with
   | i h1 =>
    cases h1 with
    | sl _ _ _ _ _ _ _ hne => exact absurd rfl hne
    | nil _ _ cap a _ hn hc =>
     refine (Aq8 a cap hc w).mono ?_
     rintro e w' ⟨⟨a', c', rfl, hc'⟩, hg⟩
     exact ⟨_, E, rfl, .v (.one (.i (.nil 0 1 c' a' false (fun e => by cases e) hc'))), ⟨hg.os, hg.tape, hg.output, hg.size, fun b hb _ => hg.block b hb (by simp)⟩,
      ⟨fun b hb => Nat.lt_of_lt_of_le (hin.wf.alt b hb) hg.size, hin.wf.tag, hin.wf.inj, fun b h hb => by cases hin.odom b h hb⟩, fun _ _ => Iff.rfl, Nat.le_refl _, fun _ _ => rfl, fun t g ht h => absurd (hin.wf.tag t g h).1 (Nat.not_lt.2 ht),
      fun h b hb => (by cases hb), fun h h' b b' g g' z z' hb => (by cases hb), fun h b g z hb => (by cases hb), fun h b hb => (by cases hb), fun g h hg => (by cases hin.odom g h hg)⟩
theorem A4o (n : Nat) : (A22 n).Sound Tryz.prog := by
 intro nt x r h
 cases x with
 | cons z l => exact Asz n nt (z :: l) r h
 | nil =>
  have h : some ([] : List Int) = some r := h
  obtain rfl := Option.some.inj h
  exact Abu nt

def Yr {α : Type} (n : Nat) (s0 : LI) (s3 : Int) (f : LI → Int → Option α) (k0 : LI → Int → Option α) : Option α :=
 bif (decide (s3 > 0)) then
  gd (decide (0 ≤ (W (s3 - 1))) && decide ((W (s3 - 1)) < (s0.length : Int))) (
   bif ((s0.getD ((W (s3 - 1)).toNat) 0) == 0) then
    f s0 (W (s3 - 1))
   else
    k0 s0 s3)
 else
  k0 s0 s3
abbrev Pq : Tm := ⟨[(0, .d hIs), (3, .d hI)], [], [], []⟩
abbrev Anz : Tm := ⟨[(0, .d hIs), (3, .d hI)], [], [], []⟩
abbrev Yq : List (Exit × Tm) := [(.exit 0, Anz)]
def Yp {α : Type} (n : Nat) (v : Pq.den) (f : Pq.den → Option α) (ks : KS α Yq) : Option α := Yr n v.1.1 v.1.2.1 (fun s0 s3 => f ((s0, s3, ()), ())) (fun w0 w1 => ks.1 ((w0, w1, ()), ()))
def Vf {α : Type} (n m : Nat) (s0 : LI) (s3 : Int) (k0 : LI → Int → Option α) : Option α := A5 (Yp n) m ((s0, s3, ()), ()) (fun w => k0 w.1.1 w.1.2.1, ())
theorem Any {α n m s0 s3 k0} : Vf (α := α) n (m + 1) s0 s3 k0 = Yr n s0 s3 (fun s0 s3 => Vf n m s0 s3 k0) k0 := rfl
def f185 (n : Nat) (a0 : LI) : Option LI :=
 Vf n n a0 (a0.length : Int)
  (fun z_1 z_2 => (
   gd (decide (0 ≤ z_2) && decide (z_2 ≤ (z_1.length : Int))) (
    some ((z_1.drop 0).take (z_2.toNat - 0)))))
def H0 (n : Nat) : Ent := ⟨185, [hIs], [hIs], fun x => f185 n x⟩
def Aba (α : Type) (n : Nat) : D3 α := { reg := [], join := [], loop := [(2, ⟨Pq, Yq, A5 (Yp n) n⟩)] }
theorem A6y (α : Type) (n : Nat) : Aj PP (Ah (Aba α n).reg) := trivial
theorem Ait (α : Type) (n : Nat) : LO.Sound (α := α) PP ⟨21, []⟩ ⟨Pq, Yq, A5 (Yp n) n⟩ (.loop ((A1 Tryz.f185).at [1, 1, 0, 0, 0])) := Ay (D := Aba α n) (A6y α n) n
theorem Azx (α : Type) (n : Nat) : D3.OK PP TT ⟨21, []⟩ (Aba α n) (A1 Tryz.f185) :=
 D3.OK.mk3 (A6y α n) (show Ad (A1 Tryz.f185) = [(2, (.loop ((A1 Tryz.f185).at [1, 1, 0, 0, 0])))] by kernel_rfl) ⟨A9 rfl (Ait α n), trivial⟩
theorem Vd (n : Nat) : (H0 n).Sound PP := fk (fn := Tryz.f185) (Azx _ n) 

def Zf {α : Type} (n : Nat) (s0 : Int) (b4 : LI) (f : Int → LI → Option α) (k0 : LI → Option α) : Option α :=
 bif (decide (s0 > 0)) then
  gd (decide ((b4.length + 1) * 8 ≤ 140737488355328)) (
   f (W (Int.tdiv s0 10000)) (b4 ++ [(Int.tmod s0 10000)]))
 else
  k0 b4
abbrev Q1 : Tm := ⟨[(0, .d hI), (3, .k (.hw 4))], [(4, .arr 3 hI false)], [12], []⟩
abbrev Aot : Tm := ⟨[(3, .k (.hw 4))], [(4, .arr 3 hI false)], [], []⟩
abbrev Ze : List (Exit × Tm) := [(.exit 0, Aot)]
def Zd {α : Type} (n : Nat) (v : Q1.den) (f : Q1.den → Option α) (ks : KS α Ze) : Option α := Zf n v.1.1 v.2.1 (fun s0 b4 => f ((s0, (), ()), (b4, ()))) (fun w0 => ks.1 (((), ()), (w0, ())))
def Vi {α : Type} (n m : Nat) (s0 : Int) (b4 : LI) (k0 : LI → Option α) : Option α := A5 (Zd n) m ((s0, (), ()), (b4, ())) (fun w => k0 w.2.1, ())
theorem Aos {α n m s0 b4 k0} : Vi (α := α) n (m + 1) s0 b4 k0 = Zf n s0 b4 (fun s0 b4 => Vi n m s0 b4 k0) k0 := rfl
def f160 (n : Nat) (a0 : Int) : Option LI :=
 Vi n n a0 []
  (fun z_1 => (
   some z_1))
def Np (n : Nat) : Ent := ⟨160, [hI], [hIs], fun x => f160 n x⟩
def Abm (α : Type) (n : Nat) : D3 α := { reg := [(1, ⟨0, [], [(0, { sh := some hI })]⟩), (4, ⟨0, [], [(3, { sh := some hI })]⟩)], join := [], loop := [(2, ⟨Q1, Ze, A5 (Zd n) n⟩)] }
theorem A75 (α : Type) (n : Nat) : Aj PP (Ah (Abm α n).reg) := trivial
theorem Aj9 (α : Type) (n : Nat) : LO.Sound (α := α) PP ⟨15, []⟩ ⟨Q1, Ze, A5 (Zd n) n⟩ (.loop ((A1 Tryz.f160).at [1, 1, 0, 0, 0])) := Ay (D := Abm α n) (A75 α n) n
theorem B0b (α : Type) (n : Nat) : D3.OK PP TT ⟨15, []⟩ (Abm α n) (A1 Tryz.f160) :=
 D3.OK.mk3 (A75 α n) (show Ad (A1 Tryz.f160) = [(2, (.loop ((A1 Tryz.f160).at [1, 1, 0, 0, 0])))] by kernel_rfl) ⟨A9 rfl (Aj9 α n), trivial⟩
theorem Awk (n : Nat) : (Np n).Sound PP := fk (fn := Tryz.f160) (B0b _ n) 

def M7 (n : Nat) (a0 : LI) : Option LI :=
 gd ((!a0.isEmpty)) (
  gd (decide ((0 + a0.length) * 8 ≤ 140737488355328)) (
   some a0))
def I2 (n : Nat) : Ent3 := ⟨145, [.im hIs], [[.one (.own 3 hI)]], fun x => M7 n x⟩
def Ax0 (α : Type) (n : Nat) : D3 α := { reg := [(3, ⟨0, [], [(0, { sh := some hI })]⟩)], join := [], loop := [] }
theorem Abv (n : Nat) : (I2 n).Sound PP := Km (fn := Tryz.f145) (D := Ax0 _ n) trivial 

def Sx {α : Type} (n : Nat) (s0o s0l : Nat) (s1 : LI) (s5 s7 s8 s50 s51 : Int) (b1000 : LI) (f : Nat → Nat → LI → Int → Int → Int → Int → Int → LI → Option α) (k0 : Nat → Nat → LI → Int → Int → Int → LI → Option α) : Option α :=
 bif (decide (s51 < s50)) then
  gd (decide (0 ≤ s51) && decide (s51 < (s0l : Int))) (
   gd (decide ((s0o + s51.toNat) < b1000.length)) (
    let J_4 := fun (y_1 : Int) => (
     let J_3 := fun (y_2 : Int) => (
      gd (decide (0 ≤ s51) && decide (s51 < (s0l : Int))) (
       gd (decide ((s0o + s51.toNat) < b1000.length)) (
        f s0o s0l s1 s5 s7 y_2 s50 (W (s51 + 1)) (b1000.set (s0o + s51.toNat) (W (y_1 - (W (y_2 * 10000))))))))
     bif (decide (y_1 < 0)) then
      J_3 (W (Int.tdiv (W ((W (y_1 - 10000)) + 1)) 10000))
     else
      J_3 0)
    bif (decide (s51 < s5)) then
     gd (decide (0 ≤ s51) && decide (s51 < (s1.length : Int))) (
      J_4 (W ((W ((b1000.getD (s0o + s51.toNat) 0) + s8)) - (W (s7 * (s1.getD s51.toNat 0))))))
    else
     J_4 (W ((b1000.getD (s0o + s51.toNat) 0) + s8))))
 else
  k0 s0o s0l s1 s5 s7 s8 b1000
abbrev Lz : Tm := ⟨[(0, .hs 1000), (1, .d hIs), (5, .d hI), (7, .d hI), (8, .d hI), (50, .d hI), (51, .d hI)], [(1000, .arr 3 hI false)], [], []⟩
abbrev Aie : Tm := ⟨[(0, .hs 1000), (1, .d hIs), (5, .d hI), (7, .d hI), (8, .d hI)], [(1000, .arr 3 hI false)], [], []⟩
abbrev Sw : List (Exit × Tm) := [(.exit 0, Aie)]
def Su {α : Type} (n : Nat) (v : Lz.den) (f : Lz.den → Option α) (ks : KS α Sw) : Option α := Sx n v.1.1.1 v.1.1.2 v.1.2.1 v.1.2.2.1 v.1.2.2.2.1 v.1.2.2.2.2.1 v.1.2.2.2.2.2.1 v.1.2.2.2.2.2.2.1 v.2.1 (fun s0o s0l s1 s5 s7 s8 s50 s51 b1000 => f (((s0o, s0l), s1, s5, s7, s8, s50, s51, ()), (b1000, ()))) (fun w0 w1 w2 w3 w4 w5 w6 => ks.1 (((w0, w1), w2, w3, w4, w5, ()), (w6, ())))
def F0 {α : Type} (n m : Nat) (s0o s0l : Nat) (s1 : LI) (s5 s7 s8 s50 s51 : Int) (b1000 : LI) (k0 : Nat → Nat → LI → Int → Int → Int → LI → Option α) : Option α := A5 (Su n) m (((s0o, s0l), s1, s5, s7, s8, s50, s51, ()), (b1000, ())) (fun w => k0 w.1.1.1 w.1.1.2 w.1.2.1 w.1.2.2.1 w.1.2.2.2.1 w.1.2.2.2.2.1 w.2.1, ())
theorem Aid {α n m s0o s0l s1 s5 s7 s8 s50 s51 b1000 k0} : F0 (α := α) n (m + 1) s0o s0l s1 s5 s7 s8 s50 s51 b1000 k0 = Sx n s0o s0l s1 s5 s7 s8 s50 s51 b1000 (fun s0o s0l s1 s5 s7 s8 s50 s51 b1000 => F0 n m s0o s0l s1 s5 s7 s8 s50 s51 b1000 k0) k0 := rfl
def Pa {α : Type} (n : Nat) (s0o s0l : Nat) (s1 : LI) (s5 s7 s8 s11 s90 s91 : Int) (b1000 : LI) (f : Nat → Nat → LI → Int → Int → Int → Int → Int → Int → LI → Option α) (k0 : Nat → Nat → LI → Int → Int → Int → Int → LI → Option α) : Option α :=
 bif (decide (s91 < s90)) then
  gd (decide (0 ≤ s91) && decide (s91 < (s0l : Int))) (
   gd (decide ((s0o + s91.toNat) < b1000.length)) (
    let J_13 := fun (y_12 : Int) => (
     gd (decide (0 ≤ s91) && decide (s91 < (s0l : Int))) (
      gd (decide ((s0o + s91.toNat) < b1000.length)) (
       f s0o s0l s1 s5 s7 s8 (W (Int.tdiv y_12 10000)) s90 (W (s91 + 1)) (b1000.set (s0o + s91.toNat) (Int.tmod y_12 10000)))))
    bif (decide (s91 < s5)) then
     gd (decide (0 ≤ s91) && decide (s91 < (s1.length : Int))) (
      J_13 (W ((W ((b1000.getD (s0o + s91.toNat) 0) + s11)) + (s1.getD s91.toNat 0))))
    else
     J_13 (W ((b1000.getD (s0o + s91.toNat) 0) + s11))))
 else
  k0 s0o s0l s1 s5 s7 s8 s11 b1000
abbrev Jh : Tm := ⟨[(0, .hs 1000), (1, .d hIs), (5, .d hI), (7, .d hI), (8, .d hI), (11, .d hI), (90, .d hI), (91, .d hI)], [(1000, .arr 3 hI false)], [], []⟩
abbrev Adq : Tm := ⟨[(0, .hs 1000), (1, .d hIs), (5, .d hI), (7, .d hI), (8, .d hI), (11, .d hI)], [(1000, .arr 3 hI false)], [], []⟩
abbrev P9 : List (Exit × Tm) := [(.exit 4, Adq)]
def P8 {α : Type} (n : Nat) (v : Jh.den) (f : Jh.den → Option α) (ks : KS α P9) : Option α := Pa n v.1.1.1 v.1.1.2 v.1.2.1 v.1.2.2.1 v.1.2.2.2.1 v.1.2.2.2.2.1 v.1.2.2.2.2.2.1 v.1.2.2.2.2.2.2.1 v.1.2.2.2.2.2.2.2.1 v.2.1 (fun s0o s0l s1 s5 s7 s8 s11 s90 s91 b1000 => f (((s0o, s0l), s1, s5, s7, s8, s11, s90, s91, ()), (b1000, ()))) (fun w0 w1 w2 w3 w4 w5 w6 w7 => ks.1 (((w0, w1), w2, w3, w4, w5, w6, ()), (w7, ())))
def Gd {α : Type} (n m : Nat) (s0o s0l : Nat) (s1 : LI) (s5 s7 s8 s11 s90 s91 : Int) (b1000 : LI) (k0 : Nat → Nat → LI → Int → Int → Int → Int → LI → Option α) : Option α := A5 (P8 n) m (((s0o, s0l), s1, s5, s7, s8, s11, s90, s91, ()), (b1000, ())) (fun w => k0 w.1.1.1 w.1.1.2 w.1.2.1 w.1.2.2.1 w.1.2.2.2.1 w.1.2.2.2.2.1 w.1.2.2.2.2.2.1 w.2.1, ())
theorem Adp {α n m s0o s0l s1 s5 s7 s8 s11 s90 s91 b1000 k0} : Gd (α := α) n (m + 1) s0o s0l s1 s5 s7 s8 s11 s90 s91 b1000 k0 = Pa n s0o s0l s1 s5 s7 s8 s11 s90 s91 b1000 (fun s0o s0l s1 s5 s7 s8 s11 s90 s91 b1000 => Gd n m s0o s0l s1 s5 s7 s8 s11 s90 s91 b1000 k0) k0 := rfl
def Pd {α : Type} (n : Nat) (s0o s0l : Nat) (s1 : LI) (s5 s7 s8 : Int) (b1000 : LI) (f : Nat → Nat → LI → Int → Int → Int → LI → Option α) (k0 : Int → LI → Option α) : Option α :=
 bif (decide (s8 < 0)) then
  Gd n n s0o s0l s1 s5 (W (s7 - 1)) s8 0 (s0l : Int) 0 b1000
   (fun z_12 z_13 z_14 z_15 z_16 z_17 z_18 z_19 => (
    f z_12 z_13 z_14 z_15 z_16 (W (z_17 + z_18)) z_19))
 else
  k0 s7 b1000
abbrev Ji : Tm := ⟨[(0, .hs 1000), (1, .d hIs), (5, .d hI), (7, .d hI), (8, .d hI)], [(1000, .arr 3 hI false)], [], []⟩
abbrev Adt : Tm := ⟨[(7, .d hI)], [(1000, .arr 3 hI false)], [], []⟩
abbrev Pc : List (Exit × Tm) := [(.exit 2, Adt)]
def Pb {α : Type} (n : Nat) (v : Ji.den) (f : Ji.den → Option α) (ks : KS α Pc) : Option α := Pd n v.1.1.1 v.1.1.2 v.1.2.1 v.1.2.2.1 v.1.2.2.2.1 v.1.2.2.2.2.1 v.2.1 (fun s0o s0l s1 s5 s7 s8 b1000 => f (((s0o, s0l), s1, s5, s7, s8, ()), (b1000, ()))) (fun w0 w1 => ks.1 ((w0, ()), (w1, ())))
def Ge {α : Type} (n m : Nat) (s0o s0l : Nat) (s1 : LI) (s5 s7 s8 : Int) (b1000 : LI) (k0 : Int → LI → Option α) : Option α := A5 (Pb n) m (((s0o, s0l), s1, s5, s7, s8, ()), (b1000, ())) (fun w => k0 w.1.1 w.2.1, ())
theorem Adr {α n m s0o s0l s1 s5 s7 s8 b1000 k0} : Ge (α := α) n (m + 1) s0o s0l s1 s5 s7 s8 b1000 k0 = Pd n s0o s0l s1 s5 s7 s8 b1000 (fun s0o s0l s1 s5 s7 s8 b1000 => Ge n m s0o s0l s1 s5 s7 s8 b1000 k0) k0 := rfl
abbrev An3 : Tm := ⟨[(0, .hs 1000), (1, .d hIs), (5, .d hI), (7, .d hI), (9, .d hI), (10, .d hI), (50, .d hI), (51, .d hI)], [(1000, .arr 3 hI false)], [], []⟩
abbrev An2 : Tm := ⟨[(0, .hs 1000), (1, .d hIs), (5, .d hI), (7, .d hI), (8, .d hI), (9, .d hI), (10, .d hI), (50, .d hI), (51, .d hI)], [(1000, .arr 3 hI false)], [], []⟩
abbrev An1 : Tm := ⟨[(0, .hs 1000), (1, .d hIs), (5, .d hI), (7, .d hI), (8, .d hI), (12, .d hI), (13, .d hI), (90, .d hI), (91, .d hI)], [(1000, .arr 3 hI false)], [], []⟩
def A8j (n : Nat) (a0 : LI × Nat × Nat) (a1 : LI) : Option (Int × LI) :=
 gd (decide (0 ≤ (a1.length : Int)) && decide ((a1.length : Int) < (a0.2.2 : Int))) (
  gd (decide ((a0.2.1 + (a1.length : Int).toNat) < a0.1.length)) (
   gd (decide (0 ≤ (W ((a1.length : Int) - 1))) && decide ((W ((a1.length : Int) - 1)) < (a0.2.2 : Int))) (
    gd (decide ((a0.2.1 + (W ((a1.length : Int) - 1)).toNat) < a0.1.length)) (
     gd (decide (0 ≤ (W ((a1.length : Int) - 2))) && decide ((W ((a1.length : Int) - 2)) < (a0.2.2 : Int))) (
      gd (decide ((a0.2.1 + (W ((a1.length : Int) - 2)).toNat) < a0.1.length)) (
       gd (decide (0 ≤ (W ((a1.length : Int) - 1))) && decide ((W ((a1.length : Int) - 1)) < (a1.length : Int))) (
        gd (decide (0 ≤ (W ((a1.length : Int) - 2))) && decide ((W ((a1.length : Int) - 2)) < (a1.length : Int))) (
         gd (decide ((W ((W ((a1.getD ((W ((a1.length : Int) - 1)).toNat) 0) * 10000)) + (a1.getD ((W ((a1.length : Int) - 2)).toNat) 0))) ≠ 0)) (
          F0 n n a0.2.1 a0.2.2 a1 (a1.length : Int) (min (W (Int.tdiv (W ((W ((W ((W ((a0.1.getD (a0.2.1 + (a1.length : Int).toNat) 0) * 10000)) + (a0.1.getD (a0.2.1 + (W ((a1.length : Int) - 1)).toNat) 0))) * 10000)) + (a0.1.getD (a0.2.1 + (W ((a1.length : Int) - 2)).toNat) 0))) (W ((W ((a1.getD ((W ((a1.length : Int) - 1)).toNat) 0) * 10000)) + (a1.getD ((W ((a1.length : Int) - 2)).toNat) 0))))) 9999) 0 (a0.2.2 : Int) 0 a0.1
           (fun z_5 z_6 z_7 z_8 z_9 z_10 z_11 => (
            Ge n n z_5 z_6 z_7 z_8 z_9 z_10 z_11
             (fun z_20 z_21 => (
              some (z_20, z_21))))))))))))))
def Hw (n : Nat) : Ent3 := ⟨204, [.one (.win 3 hI), .im hIs], [[.im hI]], fun x => A8j n x.1 x.2⟩
def Nh (α : Type) (n : Nat) : D3 α := { reg := [(2, ⟨17, [], []⟩), (3, ⟨13, [], []⟩)], join := [(11, An3), (14, An2), (25, An1)], loop := [(6, ⟨Lz, Sw, A5 (Su n) n⟩), (20, ⟨Jh, P9, A5 (P8 n) n⟩), (16, ⟨Ji, Pc, A5 (Pb n) n⟩)] }
theorem Jg (α : Type) (n : Nat) : Aj PP (Ah (Nh α n).reg) := trivial
theorem Ado (α : Type) (n : Nat) : LO.Sound (α := α) PP ⟨121, []⟩ ⟨Lz, Sw, A5 (Su n) n⟩ (.loop ((A1 Tryz.f204).at [1, 1, 1, 1, 1, 0, 1, 0, 0])) := Ay (D := Nh α n) (Jg α n) n
theorem Aap (α : Type) (n : Nat) : LO.Sound (α := α) PP ⟨121, []⟩ ⟨Jh, P9, A5 (P8 n) n⟩ (.loop ((A1 Tryz.f204).at [1, 1, 1, 1, 1, 1, 0, 0, 0, 1, 0, 1, 1, 0, 1, 0, 0])) := Ay (D := Nh α n) (Jg α n) n
theorem Ads (α : Type) (n : Nat) : D3.OK PP TT ⟨121, []⟩ (Nh α n) ((A1 Tryz.f204).at [1, 1, 1, 1, 1, 1, 0, 0, 0]) :=
 D3.OK.mk3 (Jg α n) (show Ad ((A1 Tryz.f204).at [1, 1, 1, 1, 1, 1, 0, 0, 0]) = [(20, (.loop ((A1 Tryz.f204).at [1, 1, 1, 1, 1, 1, 0, 0, 0, 1, 0, 1, 1, 0, 1, 0, 0])))] by kernel_rfl) ⟨A9 rfl (Aap α n), trivial⟩
theorem Aaq (α : Type) (n : Nat) : LO.Sound (α := α) PP ⟨121, []⟩ ⟨Ji, Pc, A5 (Pb n) n⟩ (.loop ((A1 Tryz.f204).at [1, 1, 1, 1, 1, 1, 0, 0, 0])) := lk (Ads α n) n
theorem Avs (α : Type) (n : Nat) : D3.OK PP TT ⟨121, []⟩ (Nh α n) (A1 Tryz.f204) :=
 D3.OK.mk3 (Jg α n) (show Ad (A1 Tryz.f204) = [(6, (.loop ((A1 Tryz.f204).at [1, 1, 1, 1, 1, 0, 1, 0, 0]))), (16, (.loop ((A1 Tryz.f204).at [1, 1, 1, 1, 1, 1, 0, 0, 0])))] by kernel_rfl) ⟨A9 rfl (Ado α n), A9 rfl (Aaq α n), trivial⟩
theorem Asf (n : Nat) : (Hw n).Sound PP := Si (fn := Tryz.f204) (Avs _ n) 

def Ys {α : Type} (n : Nat) (i : Nat) (z : Int) (s29 : LI) (c3_0 : LI) (c8_0 : Int) (b27 : LI) (f : LI → LI → Int → LI → Option α) (k0 : Int → LI → Option α) : Option α :=
 gd (decide (0 < (c3_0.length : Int))) (
  gd (decide ((c3_0.getD 0 0) ≠ 0)) (
   gd (decide (0 < (c3_0.length : Int))) (
    gd (decide ((c3_0.getD 0 0) ≠ 0)) (
     gd (decide (0 ≤ (i : Int)) && decide ((i : Int) < (b27.length : Int))) (
      gd (decide ((i : Int).toNat < b27.length)) (
       f s29 c3_0 (Int.tmod (W ((W (c8_0 * 10000)) + z)) (c3_0.getD 0 0)) (b27.set ((i : Int).toNat) (W (Int.tdiv (W ((W (c8_0 * 10000)) + z)) (c3_0.getD 0 0))))))))))
abbrev Hz : Tm := ⟨[(3, .k (.hp 3 0 0)), (7, .k (.hp 7 0 0)), (8, .k (.hp 8 0 0)), (29, .d (.clo 223 (.ref hIs)))], [(3, .var 28 true false [.d hIs]), (7, .var 28 false false [.k (.hw 27)]), (8, .var 3 true false [.d hI]), (27, .arr 3 hI false)], [], []⟩
abbrev Ao3 : Tm := ⟨[(7, .k (.hp 7 0 0)), (8, .k (.hp 8 0 0))], [(7, .var 28 false false [.k (.hw 27)]), (8, .var 3 true false [.d hI]), (27, .arr 3 hI false)], [3], []⟩
abbrev Pr : List (Exit × Tm) := [(.normal, Ao3)]
def Kx (v : Hz.den) : List Int := (fun s29 c3_0 c8_0 b27 => s29) v.1.2.2.2.1 v.2.1.1 v.2.2.2.1.1 v.2.2.2.2.1
def Ky {α : Type} (n : Nat) (i : Nat) (z : Int) (v : Hz.den) (f : Hz.den → Option α) (ks : KS α Pr) : Option α := Ys n i z v.1.2.2.2.1 v.2.1.1 v.2.2.2.1.1 v.2.2.2.2.1 (fun s29 c3_0 c8_0 b27 => f (((), (), (), s29, ()), ((c3_0, ()), ((), ()), (c8_0, ()), b27, ()))) (fun w0 w1 => ks.1 (((), (), ()), (((), ()), (w0, ()), w1, ())))
def Kz {α : Type} (v : Hz.den) (ks : KS α Pr) : Option α := (fun s29 c3_0 c8_0 b27 => ks.1 (((), (), ()), (((), ()), (c8_0, ()), b27, ()))) v.1.2.2.2.1 v.2.1.1 v.2.2.2.1.1 v.2.2.2.2.1
def Afo {α : Type} (n : Nat) (s29 : LI) (c3_0 : LI) (c8_0 : Int) (b27 : LI) (k0 : Int → LI → Option α) : Option α := Kg Kx (Ky n) Kz (((), (), (), s29, ()), ((c3_0, ()), ((), ()), (c8_0, ()), b27, ())) (fun w => k0 w.2.2.1.1 w.2.2.2.1, ())
def Hy {α : Type} (n : Nat) (zs : List Int) (i : Nat) (s29 : LI) (c3_0 : LI) (c8_0 : Int) (b27 : LI) (k0 : Int → LI → Option α) : Option α := Kh Kx (Ky n) zs i (((), (), (), s29, ()), ((c3_0, ()), ((), ()), (c8_0, ()), b27, ())) (fun v => Kz v (fun w => k0 w.2.2.1.1 w.2.2.2.1, ())) (fun w => k0 w.2.2.1.1 w.2.2.2.1, ())
theorem Ao1 {α : Type} (n : Nat) (s29 : LI) (c3_0 : LI) (c8_0 : Int) (b27 : LI) (k0 : Int → LI → Option α) : Afo (α := α) n s29 c3_0 c8_0 b27 k0 = gd (decide (s29.length ≤ 4611686018427387904)) (Hy n s29 s29.length s29 c3_0 c8_0 b27 k0) := rfl
theorem Ao2 {α : Type} (n : Nat) (zs : List Int) (s29 : LI) (c3_0 : LI) (c8_0 : Int) (b27 : LI) (k0 : Int → LI → Option α) : Hy (α := α) n zs 0 s29 c3_0 c8_0 b27 k0 = k0 c8_0 b27 := rfl
theorem Ao0 {α : Type} (n : Nat) (zs : List Int) (i : Nat) (s29 : LI) (c3_0 : LI) (c8_0 : Int) (b27 : LI) (k0 : Int → LI → Option α) : Hy (α := α) n zs (i + 1) s29 c3_0 c8_0 b27 k0 = Ys n i (zs.getD i 0) s29 c3_0 c8_0 b27 (fun s29 c3_0 c8_0 b27 => gd (decide (s29 = zs)) (Hy n zs i s29 c3_0 c8_0 b27 k0)) k0 := rfl
def M3 {α : Type} (n : Nat) (s6 s13 : Int) (c3_0 b62 b310 : LI) (f : Int → Int → LI → LI → LI → Option α) (k0 : LI → LI → Option α) : Option α :=
 bif (decide (s13 ≥ 0)) then
  gd (decide (0 ≤ s13) && decide (s13 ≤ (W ((W (s13 + s6)) + 1))) && decide ((W ((W (s13 + s6)) + 1)) ≤ (b310.length : Int))) (
   ob (A8j n (b310, s13.toNat, ((W ((W (s13 + s6)) + 1)).toNat - s13.toNat)) c3_0) fun r_9 =>
   gd (Nat.beq r_9.2.length b310.length && true) (
    gd (decide (0 ≤ s13) && decide (s13 < (b62.length : Int))) (
     gd (decide (s13.toNat < b62.length)) (
      f s6 (W (s13 - 1)) c3_0 (b62.set s13.toNat r_9.1) r_9.2))))
 else
  k0 b62 b310
abbrev M2 : Tm := ⟨[(3, .k (.hp 3 0 0)), (6, .d hI), (11, .k (.hw 310)), (12, .k (.hw 62)), (13, .d hI)], [(3, .var 28 true false [.d hIs]), (62, .arr 3 hI false), (310, .arr 3 hI false)], [55], []⟩
abbrev Aiy : Tm := ⟨[(11, .k (.hw 310)), (12, .k (.hw 62))], [(62, .arr 3 hI false), (310, .arr 3 hI false)], [3], []⟩
abbrev T8 : List (Exit × Tm) := [(.exit 2, Aiy)]
def T7 {α : Type} (n : Nat) (v : M2.den) (f : M2.den → Option α) (ks : KS α T8) : Option α := M3 n v.1.2.1 v.1.2.2.2.2.1 v.2.1.1 v.2.2.1 v.2.2.2.1 (fun s6 s13 c3_0 b62 b310 => f (((), s6, (), (), s13, ()), ((c3_0, ()), b62, b310, ()))) (fun w0 w1 => ks.1 (((), (), ()), (w0, w1, ())))
def Ps {α : Type} (n m : Nat) (s6 s13 : Int) (c3_0 b62 b310 : LI) (k0 : LI → LI → Option α) : Option α := A5 (T7 n) m (((), s6, (), (), s13, ()), ((c3_0, ()), b62, b310, ())) (fun w => k0 w.2.1 w.2.2.1, ())
theorem A1r {α n m s6 s13 c3_0 b62 b310 k0} : Ps (α := α) n (m + 1) s6 s13 c3_0 b62 b310 k0 = M3 n s6 s13 c3_0 b62 b310 (fun s6 s13 c3_0 b62 b310 => Ps n m s6 s13 c3_0 b62 b310 k0) k0 := rfl
abbrev Abe : Tm := ⟨[(3, .k (.hp 3 0 0)), (7, .k (.hp 7 0 0)), (8, .k (.hp 8 0 0)), (9, .d hI), (10, .d hI), (29, .d (.clo 223 (.ref hIs))), (30, .d hI), (31, .d hI)], [(3, .var 28 true false [.d hIs]), (7, .var 28 false false [.k (.hw 27)]), (8, .var 3 true false [.d hI]), (27, .arr 3 hI false)], [], []⟩
abbrev Abd : Tm := ⟨[(7, .k (.hp 7 0 0)), (8, .k (.hp 8 0 0))], [(7, .var 28 false false [.k (.hw 27)]), (8, .var 3 true false [.d hI]), (27, .arr 3 hI false)], [], []⟩
abbrev Abc : Tm := ⟨[(0, .d hIs), (3, .k (.hp 3 0 0)), (6, .d hI)], [(3, .var 28 true false [.d hIs])], [], []⟩
abbrev Abb : Tm := ⟨[(3, .k (.hp 3 0 0)), (6, .d hI), (11, .k (.hw 310)), (12, .k (.hw 62)), (13, .d hI)], [(3, .var 28 true false [.d hIs]), (62, .arr 3 hI false), (310, .arr 3 hI false)], [], []⟩
def f184 (n : Nat) (a0 a1 : LI) : Option (LI × LI) :=
 ob (f170 n a0 a1) fun r_1 =>
 bif (decide (r_1 < 0)) then
  ob (f145 n a0) fun r_2 =>
  some ([], r_2)
 else
  bif ((a1.length : Int) == 1) then
   gd (decide (0 ≤ (a0.length : Int)) && decide ((a0.length : Int) ≤ 4611686018427387904) && decide ((8 : Int) * (a0.length : Int) ≤ 281474976710656)) (
    ob (f201 n a0) fun r_3 =>
    Afo n r_3 a1 0 (List.replicate ((a0.length : Int).toNat) 0)
     (fun z_4 z_5 => (
      ob (f185 n z_5) fun r_6 =>
      ob (f160 n z_4) fun r_7 =>
      some (r_6, r_7))))
  else
   ob (M7 n a0) fun r_8 =>
   gd (decide ((r_8.length + 1) * 8 ≤ 140737488355328)) (
    gd (decide (0 ≤ (W ((W ((a0.length : Int) - (a1.length : Int))) + 1))) && decide ((W ((W ((a0.length : Int) - (a1.length : Int))) + 1)) ≤ 4611686018427387904) && decide ((8 : Int) * (W ((W ((a0.length : Int) - (a1.length : Int))) + 1)) ≤ 281474976710656)) (
     Ps n n (a1.length : Int) (W ((a0.length : Int) - (a1.length : Int))) a1 (List.replicate ((W ((W ((a0.length : Int) - (a1.length : Int))) + 1)).toNat) 0) (r_8 ++ [0])
      (fun z_10 z_11 => (
       ob (f185 n z_10) fun r_12 =>
       ob (f185 n z_11) fun r_13 =>
       some (r_12, r_13)))))
def Ao4 (n : Nat) : Ent := ⟨184, [hIs, hIs], [hIs, hIs], fun x => f184 n x.1 x.2⟩
def T9 (α : Type) (n : Nat) : D3 α := { reg := [(1, ⟨0, [], [(2, { ent := some (A1w n) })]⟩), (2, ⟨0, [], [(0, { sh := some hI }), (2, { ent := some (A22 n) })]⟩), (6, ⟨0, [], [(1, { ent := some (Aas n) })]⟩), (11, ⟨0, [], [(1, { ent := some (H0 n), fz := [(49, hIs)] }), (3, { ent := some (Np n) })]⟩), (12, ⟨0, [], [(1, { entB := some (I2 n), hb := 310 }), (2, { sh := some hI })]⟩), (16, ⟨0, [], [(10, { entB := some (Hw n), hb := 320 })]⟩), (17, ⟨0, [], [(1, { ent := some (H0 n), fz := [(83, hIs)] }), (3, { ent := some (H0 n), fz := [(85, hIs)] })]⟩)], join := [], loop := [(7, ⟨Hz, Pr, Kg Kx (Ky n) Kz⟩), (14, ⟨M2, T8, A5 (T7 n) n⟩)], any := [(10, Abe), (11, Abd), (12, Abc), (16, Abb)] }
set_option maxHeartbeats 8000000 in
theorem Ass (n : Nat) : Fb TT ⟨87, []⟩ [] Abe (Bi ((A1 Tryz.f184).at [1, 1, 1, 0, 1, 0, 1, 0, 1, 0, 1, 0, 1])) := by
 refine ⟨by kernel_rfl, fun w q hq => ?_⟩
 have e : WT [] (Aa (Bi ((A1 Tryz.f184).at [1, 1, 1, 0, 1, 0, 1, 0, 1, 0, 1, 0, 1])).toList) q = (q = []) := by kernel_rfl
 rw [e] at hq
 obtain rfl := hq
 all_goals exact .inr ⟨14, by kernel_rfl, by kernel_rfl, by kernel_rfl⟩
set_option maxHeartbeats 8000000 in
theorem Asr (n : Nat) : Fb TT ⟨87, []⟩ [(1, { ent := some (H0 n), fz := [(49, hIs)] }), (3, { ent := some (Np n) })] Abd (Bi ((A1 Tryz.f184).at [1, 1, 1, 0, 1, 0, 1, 1, 0])) := by
 refine ⟨by kernel_rfl, fun w q hq => ?_⟩
 have e : WT [(1, { ent := some (H0 n), fz := [(49, hIs)] }), (3, { ent := some (Np n) })] (Aa (Bi ((A1 Tryz.f184).at [1, 1, 1, 0, 1, 0, 1, 1, 0])).toList) q = (∃ (y0 : HL (H0 n).rs) (q0 : List (Nat × RV)), q = (1, .sv (Eo (H0 n).rs y0)) :: q0 ∧ ∃ (y1 : HL (Np n).rs) (q1 : List (Nat × RV)), q0 = (3, .sv (Eo (Np n).rs y1)) :: q1 ∧ q1 = []) := by kernel_rfl
 rw [e] at hq
 obtain ⟨y0, q0, rfl, y1, q1, rfl, rfl⟩ := hq
 all_goals exact .inl (R0.mk (by kernel_rfl))
set_option maxHeartbeats 8000000 in
theorem Asq (n : Nat) : Fb TT ⟨87, []⟩ [(1, { entB := some (I2 n), hb := 310 }), (2, { sh := some hI })] Abc (Bi ((A1 Tryz.f184).at [1, 1, 1, 1, 0])) := by
 refine ⟨by kernel_rfl, fun w q hq => ?_⟩
 have e : WT [(1, { entB := some (I2 n), hb := 310 }), (2, { sh := some hI })] (Aa (Bi ((A1 Tryz.f184).at [1, 1, 1, 1, 0])).toList) q = (∃ (y0 : HF (Ai 1000 (I2 n).ts) (I2 n).forms) (q0 : List (Nat × RV)), q = (1, .bx (I2 n) y0) :: q0 ∧ q0 = []) := by kernel_rfl
 rw [e] at hq
 obtain ⟨y0, q0, rfl, rfl⟩ := hq
 all_goals exact .inl (R0.mk (by kernel_rfl))
set_option maxHeartbeats 8000000 in
theorem Asp (n : Nat) : Fb TT ⟨87, []⟩ [(10, { entB := some (Hw n), hb := 320 })] Abb (Bi ((A1 Tryz.f184).at [1, 1, 1, 1, 1, 0, 1, 0, 0, 1, 0, 0])) := by
 refine ⟨by kernel_rfl, fun w q hq => ?_⟩
 have e : WT [(10, { entB := some (Hw n), hb := 320 })] (Aa (Bi ((A1 Tryz.f184).at [1, 1, 1, 1, 1, 0, 1, 0, 0, 1, 0, 0])).toList) q = (∃ (y0 : HF (Ai 1000 (Hw n).ts) (Hw n).forms) (q0 : List (Nat × RV)), q = (10, .bx (Hw n) y0) :: q0 ∧ q0 = []) := by kernel_rfl
 rw [e] at hq
 obtain ⟨y0, q0, rfl, rfl⟩ := hq
 all_goals exact .inr ⟨11, by kernel_rfl, by kernel_rfl, by kernel_rfl⟩
theorem M1 (α : Type) (n : Nat) : Aj PP (Ah (T9 α n).reg) := ⟨A4l n, A4o n, Afg n, Vd n, Awk n, Abv n, Asf n, Vd n, Vd n, trivial⟩
theorem Aiw (α : Type) (n : Nat) : D3.OK PP TT ⟨87, []⟩ (T9 α n) ((A1 Tryz.f184).at [1, 1, 1, 0, 1, 0, 1, 0, 1, 0, 0]) :=
 D3.OK.mk3a (M1 α n) (show Ad ((A1 Tryz.f184).at [1, 1, 1, 0, 1, 0, 1, 0, 1, 0, 0]) = [] by kernel_rfl) trivial (show Co ((A1 Tryz.f184).at [1, 1, 1, 0, 1, 0, 1, 0, 1, 0, 0]) = [] by kernel_rfl) trivial
theorem Aiv (α : Type) (n : Nat) : D3.OK PP TT ⟨87, []⟩ (T9 α n) ((A1 Tryz.f184).at [1, 1, 1, 0, 1, 0, 1, 0, 1, 0, 1]) :=
 D3.OK.mk3a (M1 α n) (show Ad ((A1 Tryz.f184).at [1, 1, 1, 0, 1, 0, 1, 0, 1, 0, 1]) = [] by kernel_rfl) trivial (show Co ((A1 Tryz.f184).at [1, 1, 1, 0, 1, 0, 1, 0, 1, 0, 1]) = [(10, Bi ((A1 Tryz.f184).at [1, 1, 1, 0, 1, 0, 1, 0, 1, 0, 1, 0, 1]))] by kernel_rfl) ⟨fun X h => (by cases h; exact Ass n), trivial⟩
theorem Aiu (α : Type) (n : Nat) : LO.Sound (α := α) PP ⟨87, []⟩ ⟨Hz, Pr, Kg Kx (Ky n) Kz⟩ (.rangeFunc (.tmp 29) #[30, 31] ((A1 Tryz.f184).at [1, 1, 1, 0, 1, 0, 1, 0, 1, 0, 0]) ((A1 Tryz.f184).at [1, 1, 1, 0, 1, 0, 1, 0, 1, 0, 1])) :=
 A9b (My _) Ki Kx (Ky n) Kz Agg rfl rfl rfl rfl (Aiw α n) (Aiv α n) (by intro v; rfl) (by intro i z v f ks; kernel_rfl) (by intro v ks; kernel_rfl)
theorem Aix (α : Type) (n : Nat) : D3.OK PP TT ⟨87, []⟩ (T9 α n) ((A1 Tryz.f184).at [1, 1, 1, 1, 1, 0, 1, 0, 0]) :=
 D3.OK.mk3a (M1 α n) (show Ad ((A1 Tryz.f184).at [1, 1, 1, 1, 1, 0, 1, 0, 0]) = [] by kernel_rfl) trivial (show Co ((A1 Tryz.f184).at [1, 1, 1, 1, 1, 0, 1, 0, 0]) = [(16, Bi ((A1 Tryz.f184).at [1, 1, 1, 1, 1, 0, 1, 0, 0, 1, 0, 0]))] by kernel_rfl) ⟨fun X h => (by cases h; exact Asp n), trivial⟩
theorem Adv (α : Type) (n : Nat) : LO.Sound (α := α) PP ⟨87, []⟩ ⟨M2, T8, A5 (T7 n) n⟩ (.loop ((A1 Tryz.f184).at [1, 1, 1, 1, 1, 0, 1, 0, 0])) := lk (Aix α n) n
theorem Azy (α : Type) (n : Nat) : D3.OK PP TT ⟨87, []⟩ (T9 α n) (A1 Tryz.f184) :=
 D3.OK.mk3a (M1 α n) (show Ad (A1 Tryz.f184) = [(7, (.rangeFunc (.tmp 29) #[30, 31] ((A1 Tryz.f184).at [1, 1, 1, 0, 1, 0, 1, 0, 1, 0, 0]) ((A1 Tryz.f184).at [1, 1, 1, 0, 1, 0, 1, 0, 1, 0, 1]))), (14, (.loop ((A1 Tryz.f184).at [1, 1, 1, 1, 1, 0, 1, 0, 0])))] by kernel_rfl) ⟨A9 rfl (Aiu α n), A9 rfl (Adv α n), trivial⟩ (show Co (A1 Tryz.f184) = [(11, Bi ((A1 Tryz.f184).at [1, 1, 1, 0, 1, 0, 1, 1, 0])), (12, Bi ((A1 Tryz.f184).at [1, 1, 1, 1, 0]))] by kernel_rfl) ⟨fun X h => (by cases h; exact Asr n), fun X h => (by cases h; exact Asq n), trivial⟩
theorem Aw9 (n : Nat) : (Ao4 n).Sound PP := fk (fn := Tryz.f184) (Azy _ n) 

def Yv {α : Type} (n : Nat) (s0 s1 : LI) (f : LI → LI → Option α) (k0 : LI → Option α) : Option α :=
 bif (decide ((s1.length : Int) > 0)) then
  ob (f184 n s0 s1) fun r_1 =>
  f s1 r_1.2
 else
  k0 s0
abbrev Pt : Tm := ⟨[(0, .d hIs), (1, .d hIs)], [], [], []⟩
abbrev Ao5 : Tm := ⟨[(0, .d hIs)], [], [], []⟩
abbrev Yu : List (Exit × Tm) := [(.exit 0, Ao5)]
def Yt {α : Type} (n : Nat) (v : Pt.den) (f : Pt.den → Option α) (ks : KS α Yu) : Option α := Yv n v.1.1 v.1.2.1 (fun s0 s1 => f ((s0, s1, ()), ())) (fun w0 => ks.1 ((w0, ()), ()))
def I0 {α : Type} (n m : Nat) (s0 s1 : LI) (k0 : LI → Option α) : Option α := A5 (Yt n) m ((s0, s1, ()), ()) (fun w => k0 w.1.1, ())
theorem A70 {α n m s0 s1 k0} : I0 (α := α) n (m + 1) s0 s1 k0 = Yv n s0 s1 (fun s0 s1 => I0 n m s0 s1 k0) k0 := rfl
def f183 (n : Nat) (a0 a1 : LI) : Option LI :=
 I0 n n a0 a1
  (fun z_2 => (
   some z_2))
def Ao6 (n : Nat) : Ent := ⟨183, [hIs, hIs], [hIs], fun x => f183 n x.1 x.2⟩
def Abf (α : Type) (n : Nat) : D3 α := { reg := [(2, ⟨0, [], [(2, { ent := some (Ao4 n) })]⟩)], join := [], loop := [(1, ⟨Pt, Yu, A5 (Yt n) n⟩)] }
theorem A6z (α : Type) (n : Nat) : Aj PP (Ah (Abf α n).reg) := ⟨Aw9 n, trivial⟩
theorem Aiz (α : Type) (n : Nat) : LO.Sound (α := α) PP ⟨19, []⟩ ⟨Pt, Yu, A5 (Yt n) n⟩ (.loop ((A1 Tryz.f183).at [1, 0, 0, 0])) := Ay (D := Abf α n) (A6z α n) n
theorem Azz (α : Type) (n : Nat) : D3.OK PP TT ⟨19, []⟩ (Abf α n) (A1 Tryz.f183) :=
 D3.OK.mk3 (A6z α n) (show Ad (A1 Tryz.f183) = [(1, (.loop ((A1 Tryz.f183).at [1, 0, 0, 0])))] by kernel_rfl) ⟨A9 rfl (Aiz α n), trivial⟩
theorem Awa (n : Nat) : (Ao6 n).Sound PP := fk (fn := Tryz.f183) (Azz _ n) 

def f161 (n : Nat)  : Option LI :=
 some [1]
def Aor (n : Nat) : Ent := ⟨161, [], [hIs], fun _ => f161 n⟩
def B0a (α : Type) (n : Nat) : D3 α := { reg := [(1, ⟨0, [], [(0, { sh := some hI })]⟩)], join := [], loop := [] }
theorem Awj (n : Nat) : (Aor n).Sound PP := Ap (fn := Tryz.f161) (D := B0a _ n) trivial 

abbrev Awh : Tm := ⟨[(1, .k (.hp 1 0 0))], [(1, .var 30 true false [.d .bool, .d hIs, .d hIs])], [], []⟩
def f163 (n : Nat) (a0 : Rq) : Option Bool :=
 let J_7 := fun (_ : Unit) => (
  ob (f183 n a0.2.1 a0.2.2) fun r_4 =>
  ob (f161 n) fun r_5 =>
  ob (f170 n r_4 r_5) fun r_6 =>
  some (r_6 == 0))
 ob (f197 n a0.2.1) fun r_1 =>
 bif (!r_1) then
  some false
 else
  ob (f197 n a0.2.2) fun r_2 =>
  bif (!r_2) then
   some false
  else
   bif ((a0.2.2.length : Int) == 0) then
    some false
   else
    bif a0.1 then
     ob (f74 n a0) fun r_3 =>
     bif r_3 then
      some false
     else
      J_7 ()
    else
     J_7 ()
def Abl (n : Nat) : Ent := ⟨163, [hR], [.bool], fun x => f163 n x⟩
def B08 (α : Type) (n : Nat) : D3 α := { reg := [(1, ⟨0, [], [(2, { ent := some (Aaw n) }), (7, { ent := some (Aaw n) }), (21, { ent := some (Ahp n) })]⟩), (3, ⟨0, [], [(4, { ent := some (Ao6 n) }), (5, { ent := some (Aor n) }), (6, { ent := some (A1w n) })]⟩)], join := [(3, Awh)], loop := [] }
theorem Aft (n : Nat) : (Abl n).Sound PP := Ap (fn := Tryz.f163) (D := B08 _ n) ⟨Afh n, Afh n, Alz n, Awa n, Awj n, A4l n, trivial⟩ 

def f162 (n : Nat) (a0 : Rq) : Option Bool :=
 ob (f163 n a0) fun r_1 =>
 some (!r_1)
def Aoq (n : Nat) : Ent := ⟨162, [hR], [.bool], fun x => f162 n x⟩
def B09 (α : Type) (n : Nat) : D3 α := { reg := [(1, ⟨0, [], [(1, { ent := some (Abl n) })]⟩)], join := [], loop := [] }
theorem Awi (n : Nat) : (Aoq n).Sound PP := Ap (fn := Tryz.f162) (D := B09 _ n) ⟨Aft n, trivial⟩ 

def L5 {α : Type} (n : Nat) (s0 : LR) (s7 s8 : Int) (f : LR → Int → Int → Option α) (k0 : Int → Option α) (k1 : Unit → Option α) : Option α :=
 bif (decide (s8 < s7)) then
  gd (decide (0 ≤ s8) && decide (s8 < (s0.length : Int))) (
   let x_1 := s0.getD s8.toNat (false, [], [])
   ob (f162 n x_1) fun r_2 =>
   bif r_2 then
    k0 s8
   else
    f s0 s7 (W (s8 + 1)))
 else
  k1 ()
abbrev H2 : Tm := ⟨[(0, .d hRs), (1, .d (.fn 162)), (7, .d hI), (8, .d hI)], [], [], []⟩
abbrev A85 : Tm := ⟨[(4, .d hI)], [], [], []⟩
abbrev A84 : Tm := ⟨[], [], [], []⟩
abbrev L4 : List (Exit × Tm) := [(.ret, A85), (.exit 0, A84)]
def L3 {α : Type} (n : Nat) (v : H2.den) (f : H2.den → Option α) (ks : KS α L4) : Option α := L5 n v.1.1 v.1.2.2.1 v.1.2.2.2.1 (fun s0 s7 s8 => f ((s0, (), s7, s8, ()), ())) (fun w0 => ks.1 ((w0, ()), ())) (fun _ => ks.2.1 ((), ()))
def Fw {α : Type} (n m : Nat) (s0 : LR) (s7 s8 : Int) (k0 : Int → Option α) (k1 : Unit → Option α) : Option α := A5 (L3 n) m ((s0, (), s7, s8, ()), ()) (fun w => k0 w.1.1, fun w => k1 (), ())
theorem A83 {α n m s0 s7 s8 k0 k1} : Fw (α := α) n (m + 1) s0 s7 s8 k0 k1 = L5 n s0 s7 s8 (fun s0 s7 s8 => Fw n m s0 s7 s8 k0 k1) k0 k1 := rfl
def Z2 (n : Nat) (a0 : LR) (a1 : Unit) : Option Int :=
 Fw n n a0 (a0.length : Int) 0
  (fun z_3 => (
   some z_3))
  (fun (_ : Unit) => (
   some (-1)))
def A1v (n : Nat) : Ent := ⟨175, [hRs, (.fn 162)], [hI], fun x => Z2 n x.1 x.2⟩
def Pw (α : Type) (n : Nat) : D3 α := { reg := [(4, ⟨0, [], [(5, { ent := some (Aoq n) })]⟩)], join := [], loop := [(2, ⟨H2, L4, A5 (L3 n) n⟩)] }
theorem Rd (α : Type) (n : Nat) : Aj PP (Ah (Pw α n).reg) := ⟨Awi n, trivial⟩
theorem A4k (α : Type) (n : Nat) : LO.Sound (α := α) PP ⟨19, []⟩ ⟨H2, L4, A5 (L3 n) n⟩ (.loop ((A1 Tryz.f175).at [1, 0, 1, 0, 0])) := Ay (D := Pw α n) (Rd α n) n
theorem Aj2 (α : Type) (n : Nat) : D3.OK PP TT ⟨19, []⟩ (Pw α n) (A1 Tryz.f175) :=
 D3.OK.mk3 (Rd α n) (show Ad (A1 Tryz.f175) = [(2, (.loop ((A1 Tryz.f175).at [1, 0, 1, 0, 0])))] by kernel_rfl) ⟨A9 rfl (A4k α n), trivial⟩
theorem Adw (n : Nat) : (A1v n).Sound PP := fk (fn := Tryz.f175) (Aj2 _ n) 

def Qg (n : Nat) (a0 : LR) (a1 : Unit) : Option Bool :=
 ob (Z2 n a0 a1) fun r_1 =>
 some (decide (r_1 ≥ 0))
def A2b (n : Nat) : Ent := ⟨111, [hRs, (.fn 162)], [.bool], fun x => Qg n x.1 x.2⟩
def Ajs (α : Type) (n : Nat) : D3 α := { reg := [(1, ⟨0, [], [(2, { ent := some (A1v n) })]⟩)], join := [], loop := [] }
theorem Ae4 (n : Nat) : (A2b n).Sound PP := Ap (fn := Tryz.f111) (D := Ajs _ n) ⟨Adw n, trivial⟩ 

def f69 (n : Nat) (a0 : Bool) (a1 : Int) : Option Int :=
 bif a0 then
  some 0
 else
  some a1
def Jf (n : Nat) : Ent := ⟨69, [.bool, hI], [hI], fun x => f69 n x.1 x.2⟩
def B23 (α : Type) (n : Nat) : D3 α := { reg := [], join := [], loop := [] }
theorem A19 (n : Nat) : (Jf n).Sound PP := Ap (fn := Tryz.f69) (D := B23 _ n) trivial 

def f94 (n : Nat) (a0 : LR) : Option Int :=
 ob (Qg n a0 ()) fun r_1 =>
 ob (f69 n (!r_1) 1) fun r_2 =>
 some r_2
def Atz (n : Nat) : Ent := ⟨94, [hRs], [hI], fun x => f94 n x⟩
def B1q (α : Type) (n : Nat) : D3 α := { reg := [(1, ⟨0, [], [(1, { ent := some (A2b n) }), (3, { ent := some (Jf n) })]⟩)], join := [], loop := [] }
theorem Ay2 (n : Nat) : (Atz n).Sound PP := Ap (fn := Tryz.f94) (D := B1q _ n) ⟨Ae4 n, A19 n, trivial⟩ 

def f109 (n : Nat) (a0 : LR) : Option Bool :=
 bif (decide ((a0.length : Int) ≥ 1)) then
  bif (decide ((a0.length : Int) ≤ 4)) then
   ob (f94 n a0) fun r_1 =>
   some (r_1 == 0)
  else
   some false
 else
  some false
def Ir (n : Nat) : Ent := ⟨109, [hRs], [.bool], fun x => f109 n x⟩
def B11 (α : Type) (n : Nat) : D3 α := { reg := [(1, ⟨0, [], [(10, { ent := some (Atz n) })]⟩)], join := [], loop := [] }
theorem A4y (n : Nat) : (Ir n).Sound PP := Ap (fn := Tryz.f109) (D := B11 _ n) ⟨Ay2 n, trivial⟩ 

def Zc {α : Type} (n : Nat) (s3 : Int) (s6 : LN) (s7 s8 : Int) (f : Int → LN → Int → Int → Option α) (k0 : Int → Option α) : Option α :=
 bif (decide (s8 < s7)) then
  gd (decide (0 ≤ s8) && decide (s8 < (s6.length : Int))) (
   let x_1 := s6.getD s8.toNat (0, 0, 0, 0)
   bif (x_1.1 == 2) then
    f (max s3 (W (x_1.2.2.2 + 1))) s6 s7 (W (s8 + 1))
   else
    f s3 s6 s7 (W (s8 + 1)))
 else
  k0 s3
abbrev Q0 : Tm := ⟨[(3, .d hI), (6, .d hNs), (7, .d hI), (8, .d hI)], [], [5], []⟩
abbrev Aoo : Tm := ⟨[(3, .d hI)], [], [], []⟩
abbrev Zb : List (Exit × Tm) := [(.exit 0, Aoo)]
def Za {α : Type} (n : Nat) (v : Q0.den) (f : Q0.den → Option α) (ks : KS α Zb) : Option α := Zc n v.1.1 v.1.2.1 v.1.2.2.1 v.1.2.2.2.1 (fun s3 s6 s7 s8 => f ((s3, s6, s7, s8, ()), ())) (fun w0 => ks.1 ((w0, ()), ()))
def Vh {α : Type} (n m : Nat) (s3 : Int) (s6 : LN) (s7 s8 : Int) (k0 : Int → Option α) : Option α := A5 (Za n) m ((s3, s6, s7, s8, ()), ()) (fun w => k0 w.1.1, ())
theorem Aon {α n m s3 s6 s7 s8 k0} : Vh (α := α) n (m + 1) s3 s6 s7 s8 k0 = Zc n s3 s6 s7 s8 (fun s3 s6 s7 s8 => Vh n m s3 s6 s7 s8 k0) k0 := rfl
def f165 (n : Nat) (a0 : LN) : Option Int :=
 Vh n n 0 a0 (a0.length : Int) 0
  (fun z_2 => (
   some z_2))
def Aop (n : Nat) : Ent := ⟨165, [hNs], [hI], fun x => f165 n x⟩
def Abk (α : Type) (n : Nat) : D3 α := { reg := [], join := [], loop := [(3, ⟨Q0, Zb, A5 (Za n) n⟩)] }
theorem A74 (α : Type) (n : Nat) : Aj PP (Ah (Abk α n).reg) := trivial
theorem Aj8 (α : Type) (n : Nat) : LO.Sound (α := α) PP ⟨22, []⟩ ⟨Q0, Zb, A5 (Za n) n⟩ (.loop ((A1 Tryz.f165).at [1, 1, 0, 1, 0, 0])) := Ay (D := Abk α n) (A74 α n) n
theorem B07 (α : Type) (n : Nat) : D3.OK PP TT ⟨22, []⟩ (Abk α n) (A1 Tryz.f165) :=
 D3.OK.mk3 (A74 α n) (show Ad (A1 Tryz.f165) = [(3, (.loop ((A1 Tryz.f165).at [1, 1, 0, 1, 0, 0])))] by kernel_rfl) ⟨A9 rfl (Aj8 α n), trivial⟩
theorem Awf (n : Nat) : (Aop n).Sound PP := fk (fn := Tryz.f165) (B07 _ n) 

def A3l {α : Type} (n : Nat) (s0 s13 : List LR) (s14 s15 : Int) (f : (List LR) → (List LR) → Int → Int → Option α) (k0 : Int → Option α) (k1 : (List LR) → Option α) : Option α :=
 bif (decide (s15 < s14)) then
  gd (decide (0 ≤ s15) && decide (s15 < (s13.length : Int))) (
   ob (f109 n (s13.getD s15.toNat [])) fun r_2 =>
   bif (!r_2) then
    k0 1
   else
    f s0 s13 s14 (W (s15 + 1)))
 else
  k1 s0
abbrev Uk : Tm := ⟨[(0, .d (.sl hRs)), (13, .d (.sl hRs)), (14, .d hI), (15, .d hI)], [], [], []⟩
abbrev Arv : Tm := ⟨[(2, .d hI)], [], [], []⟩
abbrev Aru : Tm := ⟨[(0, .d (.sl hRs))], [], [], []⟩
abbrev A3k : List (Exit × Tm) := [(.ret, Arv), (.exit 0, Aru)]
def A3j {α : Type} (n : Nat) (v : Uk.den) (f : Uk.den → Option α) (ks : KS α A3k) : Option α := A3l n v.1.1 v.1.2.1 v.1.2.2.1 v.1.2.2.2.1 (fun s0 s13 s14 s15 => f ((s0, s13, s14, s15, ()), ())) (fun w0 => ks.1 ((w0, ()), ())) (fun w0 => ks.2.1 ((w0, ()), ()))
def Sl {α : Type} (n m : Nat) (s0 s13 : List LR) (s14 s15 : Int) (k0 : Int → Option α) (k1 : (List LR) → Option α) : Option α := A5 (A3j n) m ((s0, s13, s14, s15, ()), ()) (fun w => k0 w.1.1, fun w => k1 w.1.1, ())
theorem Art {α n m s0 s13 s14 s15 k0 k1} : Sl (α := α) n (m + 1) s0 s13 s14 s15 k0 k1 = A3l n s0 s13 s14 s15 (fun s0 s13 s14 s15 => Sl n m s0 s13 s14 s15 k0 k1) k0 k1 := rfl
def Xf {α : Type} (n : Nat) (s0 s23 : List LR) (s24 s25 : Int) (f : (List LR) → (List LR) → Int → Int → Option α) (k0 : Int → Option α) (k1 : Unit → Option α) : Option α :=
 bif (decide (s25 < s24)) then
  gd (decide (0 ≤ s25) && decide (s25 < (s23.length : Int))) (
   gd (decide (0 < (s0.length : Int))) (
    bif ((((s23.getD s25.toNat []).length : Nat) : Int) != (((s0.getD 0 []).length : Nat) : Int)) then
     k0 8
    else
     f s0 s23 s24 (W (s25 + 1))))
 else
  k1 ()
abbrev Ov : Tm := ⟨[(0, .d (.sl hRs)), (23, .d (.sl hRs)), (24, .d hI), (25, .d hI)], [], [], []⟩
abbrev Als : Tm := ⟨[(2, .d hI)], [], [], []⟩
abbrev Alr : Tm := ⟨[], [], [], []⟩
abbrev Xe : List (Exit × Tm) := [(.ret, Als), (.exit 2, Alr)]
def Xd {α : Type} (n : Nat) (v : Ov.den) (f : Ov.den → Option α) (ks : KS α Xe) : Option α := Xf n v.1.1 v.1.2.1 v.1.2.2.1 v.1.2.2.2.1 (fun s0 s23 s24 s25 => f ((s0, s23, s24, s25, ()), ())) (fun w0 => ks.1 ((w0, ()), ())) (fun _ => ks.2.1 ((), ()))
def Ju {α : Type} (n m : Nat) (s0 s23 : List LR) (s24 s25 : Int) (k0 : Int → Option α) (k1 : Unit → Option α) : Option α := A5 (Xd n) m ((s0, s23, s24, s25, ()), ()) (fun w => k0 w.1.1, fun w => k1 (), ())
theorem Alq {α n m s0 s23 s24 s25 k0 k1} : Ju (α := α) n (m + 1) s0 s23 s24 s25 k0 k1 = Xf n s0 s23 s24 s25 (fun s0 s23 s24 s25 => Ju n m s0 s23 s24 s25 k0 k1) k0 k1 := rfl
def f93 (n : Nat) (a0 : List LR) : Option Int :=
 ob (f98 n a0) fun r_1 =>
 bif (r_1 != 0) then
  some r_1
 else
  Sl n n a0 a0 (a0.length : Int) 0
   (fun z_3 => (
    some z_3))
   (fun z_4 => (
    Ju n n z_4 z_4 (z_4.length : Int) 0
     (fun z_5 => (
      some z_5))
     (fun (_ : Unit) => (
      some 0))))
def Au0 (n : Nat) : Ent := ⟨93, [(.sl hRs)], [hI], fun x => f93 n x⟩
def A8h (α : Type) (n : Nat) : D3 α := { reg := [(1, ⟨0, [], [(1, { ent := some (Ou n) })]⟩), (7, ⟨0, [], [(1, { ent := some (Ir n) })]⟩)], join := [], loop := [(5, ⟨Uk, A3k, A5 (A3j n) n⟩), (11, ⟨Ov, Xe, A5 (Xd n) n⟩)] }
theorem Xc (α : Type) (n : Nat) : Aj PP (Ah (A8h α n).reg) := ⟨Ali n, A4y n, trivial⟩
theorem Alp (α : Type) (n : Nat) : LO.Sound (α := α) PP ⟨37, []⟩ ⟨Uk, A3k, A5 (A3j n) n⟩ (.loop ((A1 Tryz.f93).at [1, 1, 0, 1, 0, 0])) := Ay (D := A8h α n) (Xc α n) n
theorem Ahj (α : Type) (n : Nat) : LO.Sound (α := α) PP ⟨37, []⟩ ⟨Ov, Xe, A5 (Xd n) n⟩ (.loop ((A1 Tryz.f93).at [1, 1, 1, 0, 1, 0, 0])) := Ay (D := A8h α n) (Xc α n) n
theorem B1r (α : Type) (n : Nat) : D3.OK PP TT ⟨37, []⟩ (A8h α n) (A1 Tryz.f93) :=
 D3.OK.mk3 (Xc α n) (show Ad (A1 Tryz.f93) = [(5, (.loop ((A1 Tryz.f93).at [1, 1, 0, 1, 0, 0]))), (11, (.loop ((A1 Tryz.f93).at [1, 1, 1, 0, 1, 0, 0])))] by kernel_rfl) ⟨A9 rfl (Alp α n), A9 rfl (Ahj α n), trivial⟩
theorem Ay4 (n : Nat) : (Au0 n).Sound PP := fk (fn := Tryz.f93) (B1r _ n) 

def f141 (n : Nat) (a0 : Rq) : Option Int :=
 ob (f74 n a0) fun r_1 =>
 bif r_1 then
  some 0
 else
  bif a0.1 then
   some (-1)
  else
   some 1
def Tj (n : Nat) : Ent := ⟨141, [hR], [hI], fun x => f141 n x⟩
def B0p (α : Type) (n : Nat) : D3 α := { reg := [(1, ⟨0, [], [(1, { ent := some (Ahp n) })]⟩)], join := [], loop := [] }
theorem Vl (n : Nat) : (Tj n).Sound PP := Ap (fn := Tryz.f141) (D := B0p _ n) ⟨Alz n, trivial⟩ 

def Zt {α : Type} (n : Nat) (s1 : LI) (s6 s7 s8 s9 : Int) (s16 : LI) (s17 s18 : Int) (b15 : LI) (f : LI → Int → Int → Int → Int → LI → Int → Int → LI → Option α) (k0 : LI → LI → Int → Int → LI → Option α) : Option α :=
 let J_3 := fun (_ : Unit) => (
  let J_2 := fun (y_1 : Int) => (
   gd (decide (0 ≤ (W (s6 + s9))) && decide ((W (s6 + s9)) < (b15.length : Int))) (
    gd (decide ((W (s6 + s9)).toNat < b15.length)) (
     gd (decide (0 ≤ (W (s6 + s9))) && decide ((W (s6 + s9)) < (b15.length : Int))) (
      gd (decide ((W (s6 + s9)).toNat < b15.length)) (
       f s1 s6 s7 (W (Int.tdiv (W (y_1 + (b15.getD ((W (s6 + s9)).toNat) 0))) 10000)) (W (s9 + 1)) s16 s17 s18 (b15.set ((W (s6 + s9)).toNat) (Int.tmod (W (y_1 + (b15.getD ((W (s6 + s9)).toNat) 0))) 10000)))))))
  bif (decide (s9 < (s1.length : Int))) then
   gd (decide (0 ≤ s9) && decide (s9 < (s1.length : Int))) (
    J_2 (W (s8 + (W (s7 * (s1.getD s9.toNat 0))))))
  else
   J_2 s8)
 bif (decide (s9 < (s1.length : Int))) then
  J_3 ()
 else
  bif (decide (s8 > 0)) then
   J_3 ()
  else
   k0 s1 s16 s17 s18 b15
abbrev Q8 : Tm := ⟨[(1, .d hIs), (5, .k (.hw 15)), (6, .d hI), (7, .d hI), (8, .d hI), (9, .d hI), (16, .d hIs), (17, .d hI), (18, .d hI)], [(15, .arr 3 hI false)], [], []⟩
abbrev Apb : Tm := ⟨[(1, .d hIs), (5, .k (.hw 15)), (16, .d hIs), (17, .d hI), (18, .d hI)], [(15, .arr 3 hI false)], [], []⟩
abbrev Zs : List (Exit × Tm) := [(.exit 2, Apb)]
def Zr {α : Type} (n : Nat) (v : Q8.den) (f : Q8.den → Option α) (ks : KS α Zs) : Option α := Zt n v.1.1 v.1.2.2.1 v.1.2.2.2.1 v.1.2.2.2.2.1 v.1.2.2.2.2.2.1 v.1.2.2.2.2.2.2.1 v.1.2.2.2.2.2.2.2.1 v.1.2.2.2.2.2.2.2.2.1 v.2.1 (fun s1 s6 s7 s8 s9 s16 s17 s18 b15 => f ((s1, (), s6, s7, s8, s9, s16, s17, s18, ()), (b15, ()))) (fun w0 w1 w2 w3 w4 => ks.1 ((w0, (), w1, w2, w3, ()), (w4, ())))
def K0 {α : Type} (n m : Nat) (s1 : LI) (s6 s7 s8 s9 : Int) (s16 : LI) (s17 s18 : Int) (b15 : LI) (k0 : LI → LI → Int → Int → LI → Option α) : Option α := A5 (Zr n) m ((s1, (), s6, s7, s8, s9, s16, s17, s18, ()), (b15, ())) (fun w => k0 w.1.1 w.1.2.2.1 w.1.2.2.2.1 w.1.2.2.2.2.1 w.2.1, ())
theorem Apa {α n m s1 s6 s7 s8 s9 s16 s17 s18 b15 k0} : K0 (α := α) n (m + 1) s1 s6 s7 s8 s9 s16 s17 s18 b15 k0 = Zt n s1 s6 s7 s8 s9 s16 s17 s18 b15 (fun s1 s6 s7 s8 s9 s16 s17 s18 b15 => K0 n m s1 s6 s7 s8 s9 s16 s17 s18 b15 k0) k0 := rfl
def Zw {α : Type} (n : Nat) (s1 s16 : LI) (s17 s18 : Int) (b15 : LI) (f : LI → LI → Int → Int → LI → Option α) (k0 : LI → Option α) : Option α :=
 bif (decide (s18 < s17)) then
  gd (decide (0 ≤ s18) && decide (s18 < (s16.length : Int))) (
   K0 n n s1 s18 (s16.getD s18.toNat 0) 0 0 s16 s17 s18 b15
    (fun z_1 z_2 z_3 z_4 z_5 => (
     f z_1 z_2 z_3 (W (z_4 + 1)) z_5)))
 else
  k0 b15
abbrev Q9 : Tm := ⟨[(1, .d hIs), (5, .k (.hw 15)), (16, .d hIs), (17, .d hI), (18, .d hI)], [(15, .arr 3 hI false)], [], []⟩
abbrev Ape : Tm := ⟨[(5, .k (.hw 15))], [(15, .arr 3 hI false)], [], []⟩
abbrev Zv : List (Exit × Tm) := [(.exit 0, Ape)]
def Zu {α : Type} (n : Nat) (v : Q9.den) (f : Q9.den → Option α) (ks : KS α Zv) : Option α := Zw n v.1.1 v.1.2.2.1 v.1.2.2.2.1 v.1.2.2.2.2.1 v.2.1 (fun s1 s16 s17 s18 b15 => f ((s1, (), s16, s17, s18, ()), (b15, ()))) (fun w0 => ks.1 (((), ()), (w0, ())))
def K5 {α : Type} (n m : Nat) (s1 s16 : LI) (s17 s18 : Int) (b15 : LI) (k0 : LI → Option α) : Option α := A5 (Zu n) m ((s1, (), s16, s17, s18, ()), (b15, ())) (fun w => k0 w.2.1, ())
theorem Apc {α n m s1 s16 s17 s18 b15 k0} : K5 (α := α) n (m + 1) s1 s16 s17 s18 b15 k0 = Zw n s1 s16 s17 s18 b15 (fun s1 s16 s17 s18 b15 => K5 n m s1 s16 s17 s18 b15 k0) k0 := rfl
abbrev Ax2 : Tm := ⟨[(1, .d hIs), (5, .k (.hw 15)), (6, .d hI), (7, .d hI), (8, .d hI), (9, .d hI), (16, .d hIs), (17, .d hI), (18, .d hI)], [(15, .arr 3 hI false)], [], []⟩
abbrev At1 : Tm := ⟨[(1, .d hIs), (5, .k (.hw 15)), (6, .d hI), (7, .d hI), (8, .d hI), (9, .d hI), (16, .d hIs), (17, .d hI), (18, .d hI)], [(15, .arr 3 hI false)], [], []⟩
def f143 (n : Nat) (a0 a1 : LI) : Option LI :=
 gd (decide (0 ≤ (W ((a0.length : Int) + (a1.length : Int)))) && decide ((W ((a0.length : Int) + (a1.length : Int))) ≤ 4611686018427387904) && decide ((8 : Int) * (W ((a0.length : Int) + (a1.length : Int))) ≤ 281474976710656)) (
  K5 n n a1 a0 (a0.length : Int) 0 (List.replicate ((W ((a0.length : Int) + (a1.length : Int))).toNat) 0)
   (fun z_6 => (
    ob (f185 n z_6) fun r_7 =>
    some r_7)))
def Abw (n : Nat) : Ent := ⟨143, [hIs, hIs], [hIs], fun x => f143 n x.1 x.2⟩
def A23 (α : Type) (n : Nat) : D3 α := { reg := [(14, ⟨0, [], [(1, { ent := some (H0 n), fz := [(63, hIs)] })]⟩)], join := [(9, Ax2), (11, At1)], loop := [(7, ⟨Q8, Zs, A5 (Zr n) n⟩), (3, ⟨Q9, Zv, A5 (Zu n) n⟩)] }
theorem Ti (α : Type) (n : Nat) : Aj PP (Ah (A23 α n).reg) := ⟨Vd n, trivial⟩
theorem Ajj (α : Type) (n : Nat) : LO.Sound (α := α) PP ⟨65, []⟩ ⟨Q8, Zs, A5 (Zr n) n⟩ (.loop ((A1 Tryz.f143).at [1, 1, 0, 1, 0, 0, 1, 1, 0, 0, 1, 1, 1, 0, 0])) := Ay (D := A23 α n) (Ti α n) n
theorem Apd (α : Type) (n : Nat) : D3.OK PP TT ⟨65, []⟩ (A23 α n) ((A1 Tryz.f143).at [1, 1, 0, 1, 0, 0]) :=
 D3.OK.mk3 (Ti α n) (show Ad ((A1 Tryz.f143).at [1, 1, 0, 1, 0, 0]) = [(7, (.loop ((A1 Tryz.f143).at [1, 1, 0, 1, 0, 0, 1, 1, 0, 0, 1, 1, 1, 0, 0])))] by kernel_rfl) ⟨A9 rfl (Ajj α n), trivial⟩
theorem Ajk (α : Type) (n : Nat) : LO.Sound (α := α) PP ⟨65, []⟩ ⟨Q9, Zv, A5 (Zu n) n⟩ (.loop ((A1 Tryz.f143).at [1, 1, 0, 1, 0, 0])) := lk (Apd α n) n
theorem B0o (α : Type) (n : Nat) : D3.OK PP TT ⟨65, []⟩ (A23 α n) (A1 Tryz.f143) :=
 D3.OK.mk3 (Ti α n) (show Ad (A1 Tryz.f143) = [(3, (.loop ((A1 Tryz.f143).at [1, 1, 0, 1, 0, 0])))] by kernel_rfl) ⟨A9 rfl (Ajk α n), trivial⟩
theorem Ag2 (n : Nat) : (Abw n).Sound PP := fk (fn := Tryz.f143) (B0o _ n) 

end Go.Ev
