/- DERIVED. What the functions compute, and that they do. -/
import Derived.Test.YtaebdcandpfmgaaGreatVa

set_option linter.all false
set_option linter.unusedVariables false
set_option linter.unusedSimpArgs false

namespace Go.Ev
open Go Go.Proofs Go.RowKit Go.Shelf
def f236 (n : Nat) (a0 : Nq) : Option Bool :=
 bif (a0.1 == 1) then
  ob (f184 n a0.2.2.2 0 999999999) fun r_1 =>
  some r_1
 else
  bif (a0.1 == 2) then
   ob (f184 n a0.2.2.2 0 3) fun r_2 =>
   some r_2
  else
   bif (a0.1 == 8) then
    ob (f184 n a0.2.2.2 0 8) fun r_3 =>
    some r_3
   else
    some (a0.2.2.2 == 0)
def Ap6 (n : Nat) : Ent := ⟨236, [hN], [.bool], fun x => f236 n x⟩
def B4d (α : Type) (n : Nat) : D3 α := { reg := [(3, ⟨0, [], [(2, { ent := some (Mb n) })]⟩), (5, ⟨0, [], [(2, { ent := some (Mb n) })]⟩), (7, ⟨0, [], [(2, { ent := some (Mb n) })]⟩)], join := [], loop := [] }
theorem Azf (n : Nat) : (Ap6 n).Sound PP := Ar (fn := Tryz.f236) (D := B4d _ n) ⟨Lf n, Lf n, Lf n, trivial⟩ 

def f109 (n : Nat) (a0 : Nq) : Option Int :=
 bif (a0.1 == 3) then
  some 2
 else
  bif (a0.1 == 4) then
   some 2
  else
   bif (a0.1 == 5) then
    some 2
   else
    bif (a0.1 == 6) then
     some 2
    else
     bif (a0.1 == 7) then
      some 1
     else
      bif (a0.1 == 8) then
       some 1
      else
       some 0
def V6 (n : Nat) : Ent := ⟨109, [hN], [hI], fun x => f109 n x⟩
def B6s (α : Type) (n : Nat) : D3 α := { reg := [], join := [], loop := [] }
theorem Xc (n : Nat) : (V6 n).Sound PP := Ar (fn := Tryz.f109) (D := B6s _ n) trivial 

def f237 (n : Nat) (a0 : Bool) (a1 a2 : Int) : Option Bool :=
 bif a0 then
  ob (f184 n a1 0 (W (a2 - 1))) fun r_1 =>
  bif r_1 then
   some true
  else
   bif (!a0) then
    some (a1 == 0)
   else
    some false
 else
  bif (!a0) then
   some (a1 == 0)
  else
   some false
def Acy (n : Nat) : Ent := ⟨237, [.bool, hI, (.ref hI)], [.bool], fun x => f237 n x.1 x.2.1 x.2.2⟩
def B4c (α : Type) (n : Nat) : D3 α := { reg := [(1, ⟨0, [], [(5, { ent := some (Mb n) })]⟩)], join := [], loop := [] }
theorem Ahf (n : Nat) : (Acy n).Sound PP := Ar (fn := Tryz.f237) (D := B4c _ n) ⟨Lf n, trivial⟩ 

def f229 (n : Nat) (a0 : Nq) (a1 : Int) : Option Bool :=
 ob (f184 n a0.1 1 8) fun r_1 =>
 bif (!r_1) then
  some false
 else
  ob (f236 n a0) fun r_2 =>
  bif (!r_2) then
   some false
  else
   ob (f109 n a0) fun r_3 =>
   ob (f237 n (decide (r_3 > 0)) a0.2.1 a1) fun r_4 =>
   bif r_4 then
    ob (f109 n a0) fun r_5 =>
    ob (f237 n (decide (r_5 > 1)) a0.2.2.1 a1) fun r_6 =>
    some r_6
   else
    some false
def Apa (n : Nat) : Ent := ⟨229, [hN, hI], [.bool], fun x => f229 n x.1 x.2⟩
def B4g (α : Type) (n : Nat) : D3 α := { reg := [(1, ⟨0, [], [(2, { ent := some (Mb n) }), (6, { ent := some (Ap6 n) })]⟩), (3, ⟨0, [], [(0, { sh := some (.ref hI) })]⟩), (4, ⟨14, [], [(2, { ent := some (V6 n) }), (6, { ent := some (Acy n) }), (10, { ent := some (V6 n) }), (14, { ent := some (Acy n) })]⟩)], join := [], loop := [] }
theorem Azj (n : Nat) : (Apa n).Sound PP := Ar (fn := Tryz.f229) (D := B4g _ n) ⟨Lf n, Azf n, Xc n, Ahf n, Xc n, Ahf n, trivial⟩ 

def M6 {α : Type} (n : Nat) (s13 : LN) (s14 s15 : Int) (b11 b12 : LI) (f : LN -> Int -> Int -> LI -> LI -> Option α) (k0 : Bool -> Option α) (k1 : LI -> LI -> Option α) : Option α :=
 bif (decide (s15 < s14)) then
  gd (decide (0 <= s15) && decide (s15 < (s13.length : Int))) (
   let x_1 := s13.getD s15.toNat (0, 0, 0, 0)
   ob (f229 n x_1 s15) fun r_2 =>
   bif (!r_2) then
    k0 false
   else
    let J_6 := fun (y_4 : Int) (y_5 : Int) => (
     gd (decide ((b11.length + 1) * 8 <= 140737488355328)) (
      gd (decide ((b12.length + 1) * 8 <= 140737488355328)) (
       f s13 s14 (W (s15 + 1)) (b11 ++ [y_4]) (b12 ++ [y_5]))))
    ob (f109 n x_1) fun r_3 =>
    bif (r_3 == 1) then
     bif (x_1.2.1 != (W (s15 - 1))) then
      k0 false
     else
      gd (decide (0 <= x_1.2.1) && decide (x_1.2.1 < (b11.length : Int))) (
       gd (decide (x_1.2.1.toNat < b11.length)) (
        gd (decide (0 <= x_1.2.1) && decide (x_1.2.1 < (b12.length : Int))) (
         gd (decide (x_1.2.1.toNat < b12.length)) (
          J_6 (b11.getD x_1.2.1.toNat 0) (W ((b12.getD x_1.2.1.toNat 0) + 1))))))
    else
     bif (r_3 == 2) then
      bif (x_1.2.2.1 != (W (s15 - 1))) then
       k0 false
      else
       gd (decide (0 <= x_1.2.2.1) && decide (x_1.2.2.1 < (b11.length : Int))) (
        gd (decide (x_1.2.2.1.toNat < b11.length)) (
         bif (x_1.2.1 != (W ((b11.getD x_1.2.2.1.toNat 0) - 1))) then
          k0 false
         else
          gd (decide (0 <= x_1.2.1) && decide (x_1.2.1 < (b11.length : Int))) (
           gd (decide (x_1.2.1.toNat < b11.length)) (
            gd (decide (0 <= x_1.2.1) && decide (x_1.2.1 < (b12.length : Int))) (
             gd (decide (x_1.2.1.toNat < b12.length)) (
              gd (decide (0 <= x_1.2.2.1) && decide (x_1.2.2.1 < (b12.length : Int))) (
               gd (decide (x_1.2.2.1.toNat < b12.length)) (
                J_6 (b11.getD x_1.2.1.toNat 0) (W ((max (b12.getD x_1.2.1.toNat 0) (b12.getD x_1.2.2.1.toNat 0)) + 1))))))))))
     else
      J_6 s15 1)
 else
  k1 b11 b12
abbrev Qv : Tm := ⟨[(5, .k (.hw 11)), (6, .k (.hw 12)), (13, .d hNs), (14, .d hI), (15, .d hI)], [(11, .arr 3 hI false), (12, .arr 3 hI false)], [82, 86], []⟩
abbrev Apx : Tm := ⟨[(2, .d .nil), (3, .d .nil), (4, .d .bool)], [], [8, 11, 12], []⟩
abbrev Apw : Tm := ⟨[(5, .k (.hw 11)), (6, .k (.hw 12))], [(11, .arr 3 hI false), (12, .arr 3 hI false)], [], []⟩
abbrev A02 : List (Exit × Tm) := [(.ret, Apx), (.exit 0, Apw)]
def A01 {α : Type} (n : Nat) (v : Qv.den) (f : Qv.den -> Option α) (ks : KS α A02) : Option α := M6 n v.1.2.2.1 v.1.2.2.2.1 v.1.2.2.2.2.1 v.2.1 v.2.2.1 (fun s13 s14 s15 b11 b12 => f (((), (), s13, s14, s15, ()), (b11, b12, ()))) (fun w0 => ks.1 (((), (), w0, ()), ())) (fun w0 w1 => ks.2.1 (((), (), ()), (w0, w1, ())))
def Wt {α : Type} (n m : Nat) (s13 : LN) (s14 s15 : Int) (b11 b12 : LI) (k0 : Bool -> Option α) (k1 : LI -> LI -> Option α) : Option α := A5 (A01 n) m (((), (), s13, s14, s15, ()), (b11, b12, ())) (fun w => k0 w.1.2.2.1, fun w => k1 w.2.1 w.2.2.1, ())
theorem A8i {α n m s13 s14 s15 b11 b12 k0 k1} : Wt (α := α) n (m + 1) s13 s14 s15 b11 b12 k0 k1 = M6 n s13 s14 s15 b11 b12 (fun s13 s14 s15 b11 b12 => Wt n m s13 s14 s15 b11 b12 k0 k1) k0 k1 := rfl
abbrev Avx : Tm := ⟨[(5, .k (.hw 11)), (6, .k (.hw 12)), (9, .d hI), (10, .d hI), (13, .d hNs), (14, .d hI), (15, .d hI)], [(11, .arr 3 hI false), (12, .arr 3 hI false)], [8], []⟩
def f212 (n : Nat) (a0 : LN) : Option (LI × LI × Bool) :=
 Wt n n a0 (a0.length : Int) 0 [] []
  (fun z_7 => (
   some ([], [], z_7)))
  (fun z_8 z_9 => (
   some (z_8, z_9, true)))
def Apy (n : Nat) : Ent := ⟨212, [hNs], [hIs, hIs, .bool], fun x => f212 n x⟩
def Adi (α : Type) (n : Nat) : D3 α := { reg := [(1, ⟨0, [], [(0, { sh := some hI }), (1, { sh := some hI })]⟩), (5, ⟨0, [], [(2, { ent := some (Apa n) })]⟩), (8, ⟨0, [], [(1, { ent := some (V6 n) })]⟩), (12, ⟨12, [], []⟩), (14, ⟨14, [], []⟩), (16, ⟨18, [], []⟩), (17, ⟨0, [], [(2, { sh := some hI }), (6, { sh := some hI })]⟩)], join := [(17, Avx)], loop := [(3, ⟨Qv, A02, A5 (A01 n) n⟩)] }
theorem A8h (α : Type) (n : Nat) : Al PP (Ah (Adi α n).reg) := ⟨Azj n, Xc n, trivial⟩
theorem Al2 (α : Type) (n : Nat) : LO.Sound (α := α) PP ⟨91, []⟩ ⟨Qv, A02, A5 (A01 n) n⟩ (.loop ((A1 Tryz.f212).at [1, 1, 0, 1, 0, 0])) := Bf (D := Adi α n) (A8h α n) n
theorem B4v (α : Type) (n : Nat) : D3.OK PP TT ⟨91, []⟩ (Adi α n) (A1 Tryz.f212) :=
 D3.OK.mk3 (A8h α n) (show Aa (A1 Tryz.f212) = [(3, (.loop ((A1 Tryz.f212).at [1, 1, 0, 1, 0, 0])))] by kernel_rfl) ⟨Ab rfl (Al2 α n), trivial⟩
theorem Azu (n : Nat) : (Apy n).Sound PP := fk (fn := Tryz.f212) (B4v _ n) 

def Qu {α : Type} (n : Nat) (s0 : LI) (s3 s4 : Int) (f : LI -> Int -> Int -> Option α) (k0 : Int -> Option α) : Option α :=
 bif (decide (s4 < (s0.length : Int))) then
  gd (decide (0 <= s4) && decide (s4 < (s0.length : Int))) (
   f s0 (max s3 (s0.getD s4.toNat 0)) (W (s4 + 1)))
 else
  k0 s3
abbrev Qt : Tm := ⟨[(0, .d hIs), (3, .d hI), (4, .d hI)], [], [], []⟩
abbrev Apu : Tm := ⟨[(3, .d hI)], [], [], []⟩
abbrev A00 : List (Exit × Tm) := [(.exit 0, Apu)]
def Zz {α : Type} (n : Nat) (v : Qt.den) (f : Qt.den -> Option α) (ks : KS α A00) : Option α := Qu n v.1.1 v.1.2.1 v.1.2.2.1 (fun s0 s3 s4 => f ((s0, s3, s4, ()), ())) (fun w0 => ks.1 ((w0, ()), ()))
def Ws {α : Type} (n m : Nat) (s0 : LI) (s3 s4 : Int) (k0 : Int -> Option α) : Option α := A5 (Zz n) m ((s0, s3, s4, ()), ()) (fun w => k0 w.1.1, ())
theorem A8g {α n m s0 s3 s4 k0} : Ws (α := α) n (m + 1) s0 s3 s4 k0 = Qu n s0 s3 s4 (fun s0 s3 s4 => Ws n m s0 s3 s4 k0) k0 := rfl
def f213 (n : Nat) (a0 : LI) : Option Int :=
 bif (decide ((a0.length : Int) < 1)) then
  none
 else
  gd (decide (0 < (a0.length : Int))) (
   Ws n n a0 (a0.getD 0 0) 1
    (fun z_1 => (
     some z_1)))
def Apv (n : Nat) : Ent := ⟨213, [hIs], [hI], fun x => f213 n x⟩
def Adh (α : Type) (n : Nat) : D3 α := { reg := [], join := [], loop := [(5, ⟨Qt, A00, A5 (Zz n) n⟩)] }
theorem A8f (α : Type) (n : Nat) : Al PP (Ah (Adh α n).reg) := trivial
theorem Al1 (α : Type) (n : Nat) : LO.Sound (α := α) PP ⟨25, []⟩ ⟨Qt, A00, A5 (Zz n) n⟩ (.loop ((A1 Tryz.f213).at [1, 1, 1, 0, 1, 0, 0])) := Bf (D := Adh α n) (A8f α n) n
theorem B4u (α : Type) (n : Nat) : D3.OK PP TT ⟨25, []⟩ (Adh α n) (A1 Tryz.f213) :=
 D3.OK.mk3 (A8f α n) (show Aa (A1 Tryz.f213) = [(5, (.loop ((A1 Tryz.f213).at [1, 1, 1, 0, 1, 0, 0])))] by kernel_rfl) ⟨Ab rfl (Al1 α n), trivial⟩
theorem Azs (n : Nat) : (Apv n).Sound PP := fk (fn := Tryz.f213) (B4u _ n) 

def f168 (n : Nat) (a0 : LN) : Option Bool :=
 ob (f184 n (a0.length : Int) 1 60) fun r_1 =>
 bif (!r_1) then
  some false
 else
  ob (f212 n a0) fun r_2 =>
  bif r_2.2.2 then
   gd (decide (0 <= (W ((a0.length : Int) - 1))) && decide ((W ((a0.length : Int) - 1)) < (r_2.1.length : Int))) (
    bif ((r_2.1.getD ((W ((a0.length : Int) - 1)).toNat) 0) == 0) then
     ob (f213 n r_2.2.1) fun r_3 =>
     some (decide (r_3 <= 12))
    else
     some false)
  else
   some false
def Ark (n : Nat) : Ent := ⟨168, [hE], [.bool], fun x => f168 n x⟩
def B5t (α : Type) (n : Nat) : D3 α := { reg := [(2, ⟨0, [], [(1, { ent := some (Mb n) })]⟩), (4, ⟨0, [], [(2, { ent := some (Apy n) })]⟩), (5, ⟨0, [], [(11, { ent := some (Apv n) })]⟩)], join := [], loop := [] }
theorem B13 (n : Nat) : (Ark n).Sound PP := Ar (fn := Tryz.f168) (D := B5t _ n) ⟨Lf n, Azu n, Azs n, trivial⟩ 

def f114 (n : Nat) (a0 : Bool) (a1 : Int) : Option Int :=
 bif a0 then
  some 0
 else
  some a1
def I2 (n : Nat) : Ent := ⟨114, [.bool, hI], [hI], fun x => f114 n x.1 x.2⟩
def B6r (α : Type) (n : Nat) : D3 α := { reg := [], join := [], loop := [] }
theorem Xb (n : Nat) : (I2 n).Sound PP := Ar (fn := Tryz.f114) (D := B6r _ n) trivial 

def f108 (n : Nat) (a0 : LN) : Option Int :=
 ob (f168 n a0) fun r_1 =>
 ob (f114 n r_1 1) fun r_2 =>
 some r_2
def P6 (n : Nat) : Ent := ⟨108, [hE], [hI], fun x => f108 n x⟩
def B6t (α : Type) (n : Nat) : D3 α := { reg := [(1, ⟨0, [], [(1, { ent := some (Ark n) }), (2, { ent := some (I2 n) })]⟩)], join := [], loop := [] }
theorem B1x (n : Nat) : (P6 n).Sound PP := Ar (fn := Tryz.f108) (D := B6t _ n) ⟨B13 n, Xb n, trivial⟩ 

def f239 (n : Nat) (a0 : Int) : Option Bool :=
 bif (decide (a0 < 0)) then
  some true
 else
  some (decide (a0 >= 10000))
def Ap5 (n : Nat) : Ent := ⟨239, [hI], [.bool], fun x => f239 n x⟩
def B4b (α : Type) (n : Nat) : D3 α := { reg := [], join := [], loop := [] }
theorem Azd (n : Nat) : (Ap5 n).Sound PP := Ar (fn := Tryz.f239) (D := B4b _ n) trivial 

def M0 {α : Type} (n : Nat) (s0 : LI) (s7 s8 : Int) (f : LI -> Int -> Int -> Option α) (k0 : Int -> Option α) (k1 : Unit -> Option α) : Option α :=
 bif (decide (s8 < s7)) then
  gd (decide (0 <= s8) && decide (s8 < (s0.length : Int))) (
   ob (f239 n (s0.getD s8.toNat 0)) fun r_1 =>
   bif r_1 then
    k0 s8
   else
    f s0 s7 (W (s8 + 1)))
 else
  k1 ()
abbrev Hy : Tm := ⟨[(0, .d hIs), (1, .d (.fn 239)), (7, .d hI), (8, .d hI)], [], [], []⟩
abbrev A9s : Tm := ⟨[(4, .d hI)], [], [], []⟩
abbrev A9r : Tm := ⟨[], [], [], []⟩
abbrev Lz : List (Exit × Tm) := [(.ret, A9s), (.exit 0, A9r)]
def Ly {α : Type} (n : Nat) (v : Hy.den) (f : Hy.den -> Option α) (ks : KS α Lz) : Option α := M0 n v.1.1 v.1.2.2.1 v.1.2.2.2.1 (fun s0 s7 s8 => f ((s0, (), s7, s8, ()), ())) (fun w0 => ks.1 ((w0, ()), ())) (fun _ => ks.2.1 ((), ()))
def Gf {α : Type} (n m : Nat) (s0 : LI) (s7 s8 : Int) (k0 : Int -> Option α) (k1 : Unit -> Option α) : Option α := A5 (Ly n) m ((s0, (), s7, s8, ()), ()) (fun w => k0 w.1.1, fun w => k1 (), ())
theorem A9q {α n m s0 s7 s8 k0 k1} : Gf (α := α) n (m + 1) s0 s7 s8 k0 k1 = M0 n s0 s7 s8 (fun s0 s7 s8 => Gf n m s0 s7 s8 k0 k1) k0 k1 := rfl
def Ze (n : Nat) (a0 : LI) (a1 : Unit) : Option Int :=
 Gf n n a0 (a0.length : Int) 0
  (fun z_2 => (
   some z_2))
  (fun (_ : Unit) => (
   some (-1)))
def A39 (n : Nat) : Ent := ⟨240, [hIs, (.fn 239)], [hI], fun x => Ze n x.1 x.2⟩
def Qd (α : Type) (n : Nat) : D3 α := { reg := [(4, ⟨0, [], [(5, { ent := some (Ap5 n) })]⟩)], join := [], loop := [(2, ⟨Hy, Lz, A5 (Ly n) n⟩)] }
theorem T0 (α : Type) (n : Nat) : Al PP (Ah (Qd α n).reg) := ⟨Azd n, trivial⟩
theorem A61 (α : Type) (n : Nat) : LO.Sound (α := α) PP ⟨19, []⟩ ⟨Hy, Lz, A5 (Ly n) n⟩ (.loop ((A1 Tryz.f240).at [1, 0, 1, 0, 0])) := Bf (D := Qd α n) (T0 α n) n
theorem Akk (α : Type) (n : Nat) : D3.OK PP TT ⟨19, []⟩ (Qd α n) (A1 Tryz.f240) :=
 D3.OK.mk3 (T0 α n) (show Aa (A1 Tryz.f240) = [(2, (.loop ((A1 Tryz.f240).at [1, 0, 1, 0, 0])))] by kernel_rfl) ⟨Ab rfl (A61 α n), trivial⟩
theorem Afy (n : Nat) : (A39 n).Sound PP := fk (fn := Tryz.f240) (Akk _ n) 

def M1 (n : Nat) (a0 : LI) (a1 : Unit) : Option Bool :=
 ob (Ze n a0 a1) fun r_1 =>
 some (decide (r_1 >= 0))
def A3a (n : Nat) : Ent := ⟨238, [hIs, (.fn 239)], [.bool], fun x => M1 n x.1 x.2⟩
def Akl (α : Type) (n : Nat) : D3 α := { reg := [(1, ⟨0, [], [(2, { ent := some (A39 n) })]⟩)], join := [], loop := [] }
theorem Afz (n : Nat) : (A3a n).Sound PP := Ar (fn := Tryz.f238) (D := Akl _ n) ⟨Afy n, trivial⟩ 

def f231 (n : Nat) (a0 : LI) : Option Bool :=
 bif (decide ((a0.length : Int) > 40)) then
  some false
 else
  bif (decide ((a0.length : Int) > 0)) then
   gd (decide (0 <= (W ((a0.length : Int) - 1))) && decide ((W ((a0.length : Int) - 1)) < (a0.length : Int))) (
    bif ((a0.getD ((W ((a0.length : Int) - 1)).toNat) 0) == 0) then
     some false
    else
     ob (M1 n a0 ()) fun r_1 =>
     some (!r_1))
  else
   ob (M1 n a0 ()) fun r_2 =>
   some (!r_2)
def Ad1 (n : Nat) : Ent := ⟨231, [hIs], [.bool], fun x => f231 n x⟩
def B4f (α : Type) (n : Nat) : D3 α := { reg := [(4, ⟨0, [], [(1, { ent := some (A3a n) })]⟩)], join := [], loop := [] }
theorem Ahg (n : Nat) : (Ad1 n).Sound PP := Ar (fn := Tryz.f231) (D := B4f _ n) ⟨Afz n, trivial⟩ 

def f195 (n : Nat) (a0 : Rq) : Option Bool :=
 some ((a0.2.1.length : Int) == 0)
def Or (n : Nat) : Ent := ⟨195, [hR], [.bool], fun x => f195 n x⟩
def B56 (α : Type) (n : Nat) : D3 α := { reg := [], join := [], loop := [] }
theorem Oq (n : Nat) : (Or n).Sound PP := Ar (fn := Tryz.f195) (D := B56 _ n) trivial 

def f228 (n : Nat) (a0 : LI) : Option LI :=
 some a0
def Ad2 (n : Nat) : Ent := ⟨228, [hIs], [(.clo 235 (.ref hIs))], fun x => f228 n x⟩
def B4h (α : Type) (n : Nat) : D3 α := { reg := [(1, ⟨0, [], [(0, { sh := some (.ref hIs) })]⟩)], join := [], loop := [] }
theorem Ahi (n : Nat) : (Ad2 n).Sound PP := Ar (fn := Tryz.f228) (D := B4h _ n) trivial 

def A06 {α : Type} (n : Nat) (i : Nat) (z : Int) (s18 : LI) (c3_0 : LI) (c4_0 : Int) (f : LI -> LI -> Int -> Option α) (k0 : Int -> Option α) (k1 : Int -> Option α) : Option α :=
 gd (decide (0 <= (i : Int)) && decide ((i : Int) < (c3_0.length : Int))) (
  bif (z != (c3_0.getD ((i : Int).toNat) 0)) then
   gd (decide (0 <= (i : Int)) && decide ((i : Int) < (c3_0.length : Int))) (
    bif (decide (z < (c3_0.getD ((i : Int).toNat) 0))) then
     k1 (-1)
    else
     k1 1)
  else
   f s18 c3_0 c4_0)
abbrev J0 : Tm := ⟨[(3, .k (.hp 3 0 0)), (4, .k (.hp 4 0 0)), (18, .d (.clo 235 (.ref hIs)))], [(3, .var 29 true false [.d hIs]), (4, .var 3 true false [.d hI])], [], []⟩
abbrev Aq9 : Tm := ⟨[(4, .k (.hp 4 0 0))], [(4, .var 3 true false [.d hI])], [3], []⟩
abbrev Aq8 : Tm := ⟨[(4, .k (.hp 4 0 0))], [(4, .var 3 true false [.d hI])], [3], []⟩
abbrev Qx : List (Exit × Tm) := [(.normal, Aq9), (.ret, Aq8)]
def M7 (v : J0.den) : List Int := (fun s18 c3_0 c4_0 => s18) v.1.2.2.1 v.2.1.1 v.2.2.1.1
def M8 {α : Type} (n : Nat) (i : Nat) (z : Int) (v : J0.den) (f : J0.den -> Option α) (ks : KS α Qx) : Option α := A06 n i z v.1.2.2.1 v.2.1.1 v.2.2.1.1 (fun s18 c3_0 c4_0 => f (((), (), s18, ()), ((c3_0, ()), (c4_0, ()), ()))) (fun w0 => ks.1 (((), ()), ((w0, ()), ()))) (fun w0 => ks.2.1 (((), ()), ((w0, ()), ())))
def Ma {α : Type} (v : J0.den) (ks : KS α Qx) : Option α := (fun s18 c3_0 c4_0 => ks.1 (((), ()), ((c4_0, ()), ()))) v.1.2.2.1 v.2.1.1 v.2.2.1.1
def Ahs {α : Type} (n : Nat) (s18 : LI) (c3_0 : LI) (c4_0 : Int) (k0 : Int -> Option α) (k1 : Int -> Option α) : Option α := Lp M7 (M8 n) Ma (((), (), s18, ()), ((c3_0, ()), (c4_0, ()), ())) (fun w => k0 w.2.1.1, fun w => k1 w.2.1.1, ())
def M9 {α : Type} (n : Nat) (zs : List Int) (i : Nat) (s18 : LI) (c3_0 : LI) (c4_0 : Int) (k0 : Int -> Option α) (k1 : Int -> Option α) : Option α := Lq M7 (M8 n) zs i (((), (), s18, ()), ((c3_0, ()), (c4_0, ()), ())) (fun v => Ma v (fun w => k0 w.2.1.1, fun w => k1 w.2.1.1, ())) (fun w => k0 w.2.1.1, fun w => k1 w.2.1.1, ())
theorem Aq6 {α : Type} (n : Nat) (s18 : LI) (c3_0 : LI) (c4_0 : Int) (k0 : Int -> Option α) (k1 : Int -> Option α) : Ahs (α := α) n s18 c3_0 c4_0 k0 k1 = gd (decide (s18.length <= 4611686018427387904)) (M9 n s18 s18.length s18 c3_0 c4_0 k0 k1) := rfl
theorem Aq7 {α : Type} (n : Nat) (zs : List Int) (s18 : LI) (c3_0 : LI) (c4_0 : Int) (k0 : Int -> Option α) (k1 : Int -> Option α) : M9 (α := α) n zs 0 s18 c3_0 c4_0 k0 k1 = k0 c4_0 := rfl
theorem Aq5 {α : Type} (n : Nat) (zs : List Int) (i : Nat) (s18 : LI) (c3_0 : LI) (c4_0 : Int) (k0 : Int -> Option α) (k1 : Int -> Option α) : M9 (α := α) n zs (i + 1) s18 c3_0 c4_0 k0 k1 = A06 n i (zs.getD i 0) s18 c3_0 c4_0 (fun s18 c3_0 c4_0 => gd (decide (s18 = zs)) (M9 n zs i s18 c3_0 c4_0 k0 k1)) k0 k1 := rfl
def f203 (n : Nat) (a0 a1 : LI) : Option Int :=
 bif ((a0.length : Int) != (a1.length : Int)) then
  bif (decide ((a0.length : Int) < (a1.length : Int))) then
   some (-1)
  else
   some 1
 else
  ob (f228 n a0) fun r_1 =>
  Ahs n r_1 a1 0
   (fun z_2 => (
    some 0))
   (fun z_3 => (
    some z_3))
def Us (n : Nat) : Ent := ⟨203, [hIs, hIs], [hI], fun x => f203 n x.1 x.2⟩
def A3j (α : Type) (n : Nat) : D3 α := { reg := [(5, ⟨0, [], [(1, { ent := some (Ad2 n) })]⟩)], join := [], loop := [(6, ⟨J0, Qx, Lp M7 (M8 n) Ma⟩)] }
theorem Ur (α : Type) (n : Nat) : Al PP (Ah (A3j α n).reg) := ⟨Ahi n, trivial⟩
theorem Al6 (α : Type) (n : Nat) : D3.OK PP TT ⟨33, []⟩ (A3j α n) ((A1 Tryz.f203).at [1, 1, 0, 1, 0, 0]) :=
 D3.OK.mk3 (Ur α n) (show Aa ((A1 Tryz.f203).at [1, 1, 0, 1, 0, 0]) = [] by kernel_rfl) trivial
theorem Al5 (α : Type) (n : Nat) : D3.OK PP TT ⟨33, []⟩ (A3j α n) ((A1 Tryz.f203).at [1, 1, 0, 1, 0, 1]) :=
 D3.OK.mk3 (Ur α n) (show Aa ((A1 Tryz.f203).at [1, 1, 0, 1, 0, 1]) = [] by kernel_rfl) trivial
theorem Al4 (α : Type) (n : Nat) : LO.Sound (α := α) PP ⟨33, []⟩ ⟨J0, Qx, Lp M7 (M8 n) Ma⟩ (.rangeFunc (.tmp 18) #[19, 20] ((A1 Tryz.f203).at [1, 1, 0, 1, 0, 0]) ((A1 Tryz.f203).at [1, 1, 0, 1, 0, 1])) :=
 Aba (O1 _) Lr M7 (M8 n) Ma Aio rfl rfl rfl rfl (Al6 α n) (Al5 α n) (by intro v; rfl) (by intro i z v f ks; kernel_rfl) (by intro v ks; kernel_rfl)
theorem B4z (α : Type) (n : Nat) : D3.OK PP TT ⟨33, []⟩ (A3j α n) (A1 Tryz.f203) :=
 D3.OK.mk3 (Ur α n) (show Aa (A1 Tryz.f203) = [(6, (.rangeFunc (.tmp 18) #[19, 20] ((A1 Tryz.f203).at [1, 1, 0, 1, 0, 0]) ((A1 Tryz.f203).at [1, 1, 0, 1, 0, 1])))] by kernel_rfl) ⟨Ab rfl (Al4 α n), trivial⟩
theorem Wu (n : Nat) : (Us n).Sound PP := fk (fn := Tryz.f203) (B4z _ n) 

def Alz (n : Nat) (a0 : LI) : Option LI :=
 gd ((!a0.isEmpty)) (
  gd (decide ((0 + a0.length) * 8 <= 140737488355328)) (
   some a0))
def B1q (n : Nat) : Ent := ⟨117, [hIs], [hIs], fun x => Alz n x⟩
def B1r (α : Type) (n : Nat) : D3 α := { reg := [(3, ⟨0, [], [(0, { sh := some hI })]⟩)], join := [], loop := [] }
theorem Awa (n : Nat) : (B1q n).Sound PP := Ar (fn := Tryz.f117) (D := B1r _ n) trivial 

set_option maxRecDepth 100000 in
set_option maxHeartbeats 2000000 in
theorem Asy (ad : Option Addr) (cap : Nat) (hc : ad = none -> cap = 0) (w : World) : Calls Tryz.prog 117 #[.slice ad 0 cap] w fun e w' => (∃ a c, e = .returned (.slice a 0 c) /\ (a = none -> c = 0)) /\ w.grownBy w' none := by
 refine (callsIn_wide (n := 3)).1 ?_; refine callsIn_of_wp Tryz.func117 rfl trivial ?_ rfl; simp only [Tryz.ntmps117, List.size_toArray, QU, ZG, Nat.reduceAdd, Nat.reduceSub, Array.replicate_succ, Array.replicate_zero, List.push_toArray, List.append_toArray, KJ, YI]; have hi : ∃ i, Tryz.prog.info? 3 = some i := ⟨_, rfl⟩; obtain ⟨i3, hi3⟩ := hi
 have hap : ∀ (base : Option Addr) (sCap : Nat) (a : Option Addr) (cp : Nat) (w : World), (Builtin.append_ #[29, 29] 29 #[.slice base 0 sCap, .slice a 0 cp]).run Tryz.prog w = .ok (.slice base 0 sCap) w := fun base sCap a cp w =>
  Ms w 29 29 3 i3 Tryz.underlying29 hi3 base 0 sCap (KD _) a cp
 cases ad with
 | none =>
  obtain rfl := hc rfl
  have hb : ∀ w, (binOp BinOp.eql 29 (.slice none 0 0) (.slice none 0 0)).run Tryz.prog w = .ok (.bool true) w := fun w => by kernel_rfl
  gi_wp2
  refine bodyPost_ret (results_tmp rfl _ _ _) rfl ?_; exact ⟨⟨none, 0, rfl, fun _ => rfl⟩, ⟨rfl, rfl, rfl, ZA _, fun _ _ _ => rfl⟩⟩
 | some ad =>
  have hb : ∀ w, (binOp BinOp.eql 29 (.slice (some ad) 0 cap) (.slice none 0 0)).run Tryz.prog w = .ok (.bool false) w := fun w => by kernel_rfl
  gi_wp2
  refine bodyPost_ret (results_tmp rfl _ _ _) rfl ?_; exact ⟨⟨_, 0, rfl, fun _ => rfl⟩, World.grownBy_alloc w _ none⟩
def f117 (n : Nat) (a0 : List Int) : Option (List Int) := bif a0.isEmpty then some [] else Alz n a0
def K1 (n : Nat) : Ent := ⟨117, [hIs], [hIs], fun x => f117 n x⟩
theorem Aed (nt : Nat) : Ie Tryz.prog 117 nt [] [] [.one (.i (.sl 0 false 1 []))] (.v (.one (.i (.sl 0 false 1 [])))) nt [] := by
 refine ⟨⟨Tryz.f117, by kernel_rfl, by kernel_rfl, by kernel_rfl⟩, fun w E vs hin hv => ?_⟩
 obtain ⟨hl, hget⟩ := hv
 match vs, hl with
 | [v], _ =>
  have h1 : Rv w E v (.one (.i (.sl 0 false 1 []))) := hget 0 v _ rfl rfl
  cases h1 with
  | one h1 =>
   cases h1 with
   | i h1 =>
    cases h1 with
    | sl _ _ _ _ _ _ _ hne => exact absurd rfl hne
    | nil _ _ cap a _ hn hc =>
     refine (Asy a cap hc w).mono ?_
     rintro e w' ⟨⟨a', c', rfl, hc'⟩, hg⟩
     exact ⟨_, E, rfl, .v (.one (.i (.nil 0 1 c' a' false (fun e => by cases e) hc'))), ⟨hg.os, hg.tape, hg.output, hg.size, fun b hb _ => hg.block b hb (by simp)⟩,
      ⟨fun b hb => ZR (hin.wf.alt b hb) hg.size, hin.wf.tag, hin.wf.inj, fun b h hb => by cases hin.odom b h hb⟩, fun _ _ => Iff.rfl, ZA _, fun _ _ => rfl, fun t g ht h => absurd (hin.wf.tag t g h).1 (Nat.not_lt.2 ht),
      fun h b hb => (by cases hb), fun h h' b b' g g' z z' hb => (by cases hb), fun h b g z hb => (by cases hb), fun h b hb => (by cases hb), fun g h hg => (by cases hin.odom g h hg)⟩
theorem J2 (n : Nat) : (K1 n).Sound Tryz.prog := by
 intro nt x r h
 cases x with
 | cons z l => exact Awa n nt (z :: l) r h
 | nil =>
  have h : some ([] : List Int) = some r := h; obtain rfl := QA h; exact Aed nt

def Zl {α : Type} (n : Nat) (s0 : LI) (s3 : Int) (f : LI -> Int -> Option α) (k0 : LI -> Int -> Option α) : Option α :=
 bif (decide (s3 > 0)) then
  gd (decide (0 <= (W (s3 - 1))) && decide ((W (s3 - 1)) < (s0.length : Int))) (
   bif ((s0.getD ((W (s3 - 1)).toNat) 0) == 0) then
    f s0 (W (s3 - 1))
   else
    k0 s0 s3)
 else
  k0 s0 s3
abbrev Qn : Tm := ⟨[(0, .d hIs), (3, .d hI)], [], [], []⟩
abbrev Aph : Tm := ⟨[(0, .d hIs), (3, .d hI)], [], [], []⟩
abbrev Zk : List (Exit × Tm) := [(.exit 0, Aph)]
def Zj {α : Type} (n : Nat) (v : Qn.den) (f : Qn.den -> Option α) (ks : KS α Zk) : Option α := Zl n v.1.1 v.1.2.1 (fun s0 s3 => f ((s0, s3, ()), ())) (fun w0 w1 => ks.1 ((w0, w1, ()), ()))
def Wo {α : Type} (n m : Nat) (s0 : LI) (s3 : Int) (k0 : LI -> Int -> Option α) : Option α := A5 (Zj n) m ((s0, s3, ()), ()) (fun w => k0 w.1.1 w.1.2.1, ())
theorem Apg {α n m s0 s3 k0} : Wo (α := α) n (m + 1) s0 s3 k0 = Zl n s0 s3 (fun s0 s3 => Wo n m s0 s3 k0) k0 := rfl
def f225 (n : Nat) (a0 : LI) : Option LI :=
 Wo n n a0 (a0.length : Int)
  (fun z_1 z_2 => (
   gd (decide (0 <= z_2) && decide (z_2 <= (z_1.length : Int))) (
    some ((z_1.drop 0).take (z_2.toNat - 0)))))
def Gh (n : Nat) : Ent := ⟨225, [hIs], [hIs], fun x => f225 n x⟩
def Ada (α : Type) (n : Nat) : D3 α := { reg := [], join := [], loop := [(2, ⟨Qn, Zk, A5 (Zj n) n⟩)] }
theorem A88 (α : Type) (n : Nat) : Al PP (Ah (Ada α n).reg) := trivial
theorem Aku (α : Type) (n : Nat) : LO.Sound (α := α) PP ⟨21, []⟩ ⟨Qn, Zk, A5 (Zj n) n⟩ (.loop ((A1 Tryz.f225).at [1, 1, 0, 0, 0])) := Bf (D := Ada α n) (A88 α n) n
theorem B4k (α : Type) (n : Nat) : D3.OK PP TT ⟨21, []⟩ (Ada α n) (A1 Tryz.f225) :=
 D3.OK.mk3 (A88 α n) (show Aa (A1 Tryz.f225) = [(2, (.loop ((A1 Tryz.f225).at [1, 1, 0, 0, 0])))] by kernel_rfl) ⟨Ab rfl (Aku α n), trivial⟩
theorem Oh (n : Nat) : (Gh n).Sound PP := fk (fn := Tryz.f225) (B4k _ n) 

def A19 {α : Type} (n : Nat) (s0 : Int) (b4 : LI) (f : Int -> LI -> Option α) (k0 : LI -> Option α) : Option α :=
 bif (decide (s0 > 0)) then
  gd (decide ((b4.length + 1) * 8 <= 140737488355328)) (
   f (W (Int.tdiv s0 10000)) (b4 ++ [(Int.tmod s0 10000)]))
 else
  k0 b4
abbrev Re : Tm := ⟨[(0, .d hI), (3, .k (.hw 4))], [(4, .arr 3 hI false)], [12], []⟩
abbrev Are : Tm := ⟨[(3, .k (.hw 4))], [(4, .arr 3 hI false)], [], []⟩
abbrev A18 : List (Exit × Tm) := [(.exit 0, Are)]
def A17 {α : Type} (n : Nat) (v : Re.den) (f : Re.den -> Option α) (ks : KS α A18) : Option α := A19 n v.1.1 v.2.1 (fun s0 b4 => f ((s0, (), ()), (b4, ()))) (fun w0 => ks.1 (((), ()), (w0, ())))
def X2 {α : Type} (n m : Nat) (s0 : Int) (b4 : LI) (k0 : LI -> Option α) : Option α := A5 (A17 n) m ((s0, (), ()), (b4, ())) (fun w => k0 w.2.1, ())
theorem Ard {α n m s0 b4 k0} : X2 (α := α) n (m + 1) s0 b4 k0 = A19 n s0 b4 (fun s0 b4 => X2 n m s0 b4 k0) k0 := rfl
def f179 (n : Nat) (a0 : Int) : Option LI :=
 X2 n n a0 []
  (fun z_1 => (
   some z_1))
def Jz (n : Nat) : Ent := ⟨179, [hI], [hIs], fun x => f179 n x⟩
def Adx (α : Type) (n : Nat) : D3 α := { reg := [(1, ⟨0, [], [(0, { sh := some hI })]⟩), (4, ⟨0, [], [(3, { sh := some hI })]⟩)], join := [], loop := [(2, ⟨Re, A18, A5 (A17 n) n⟩)] }
theorem A8w (α : Type) (n : Nat) : Al PP (Ah (Adx α n).reg) := trivial
theorem Aln (α : Type) (n : Nat) : LO.Sound (α := α) PP ⟨15, []⟩ ⟨Re, A18, A5 (A17 n) n⟩ (.loop ((A1 Tryz.f179).at [1, 1, 0, 0, 0])) := Bf (D := Adx α n) (A8w α n) n
theorem B5k (α : Type) (n : Nat) : D3.OK PP TT ⟨15, []⟩ (Adx α n) (A1 Tryz.f179) :=
 D3.OK.mk3 (A8w α n) (show Aa (A1 Tryz.f179) = [(2, (.loop ((A1 Tryz.f179).at [1, 1, 0, 0, 0])))] by kernel_rfl) ⟨Ab rfl (Aln α n), trivial⟩
theorem A69 (n : Nat) : (Jz n).Sound PP := fk (fn := Tryz.f179) (B5k _ n) 

def I1 (n : Nat) (a0 : LI) : Option LI :=
 gd ((!a0.isEmpty)) (
  gd (decide ((0 + a0.length) * 8 <= 140737488355328)) (
   some a0))
def Cq (n : Nat) : Ent3 := ⟨117, [.im hIs], [[.one (.own 3 hI)]], fun x => I1 n x⟩
def B1s (α : Type) (n : Nat) : D3 α := { reg := [(3, ⟨0, [], [(0, { sh := some hI })]⟩)], join := [], loop := [] }
theorem Ro (n : Nat) : (Cq n).Sound PP := Yx (fn := Tryz.f117) (D := B1s _ n) trivial 

def Ue {α : Type} (n : Nat) (s0o s0l : Nat) (s1 : LI) (s5 s7 s8 s50 s51 : Int) (b1000 : LI) (f : Nat -> Nat -> LI -> Int -> Int -> Int -> Int -> Int -> LI -> Option α) (k0 : Nat -> Nat -> LI -> Int -> Int -> Int -> LI -> Option α) : Option α :=
 bif (decide (s51 < s50)) then
  gd (decide (0 <= s51) && decide (s51 < (s0l : Int))) (
   gd (decide ((s0o + s51.toNat) < b1000.length)) (
    let J_4 := fun (y_1 : Int) => (
     let J_3 := fun (y_2 : Int) => (
      gd (decide (0 <= s51) && decide (s51 < (s0l : Int))) (
       gd (decide ((s0o + s51.toNat) < b1000.length)) (
        f s0o s0l s1 s5 s7 y_2 s50 (W (s51 + 1)) (b1000.set (s0o + s51.toNat) (W (y_1 - (W (y_2 * 10000))))))))
     bif (decide (y_1 < 0)) then
      J_3 (W (Int.tdiv (W ((W (y_1 - 10000)) + 1)) 10000))
     else
      J_3 0)
    bif (decide (s51 < s5)) then
     gd (decide (0 <= s51) && decide (s51 < (s1.length : Int))) (
      J_4 (W ((W ((b1000.getD (s0o + s51.toNat) 0) + s8)) - (W (s7 * (s1.getD s51.toNat 0))))))
    else
     J_4 (W ((b1000.getD (s0o + s51.toNat) 0) + s8))))
 else
  k0 s0o s0l s1 s5 s7 s8 b1000
abbrev N0 : Tm := ⟨[(0, .hs 1000), (1, .d hIs), (5, .d hI), (7, .d hI), (8, .d hI), (50, .d hI), (51, .d hI)], [(1000, .arr 3 hI false)], [], []⟩
abbrev Akn : Tm := ⟨[(0, .hs 1000), (1, .d hIs), (5, .d hI), (7, .d hI), (8, .d hI)], [(1000, .arr 3 hI false)], [], []⟩
abbrev Ud : List (Exit × Tm) := [(.exit 0, Akn)]
def Uc {α : Type} (n : Nat) (v : N0.den) (f : N0.den -> Option α) (ks : KS α Ud) : Option α := Ue n v.1.1.1 v.1.1.2 v.1.2.1 v.1.2.2.1 v.1.2.2.2.1 v.1.2.2.2.2.1 v.1.2.2.2.2.2.1 v.1.2.2.2.2.2.2.1 v.2.1 (fun s0o s0l s1 s5 s7 s8 s50 s51 b1000 => f (((s0o, s0l), s1, s5, s7, s8, s50, s51, ()), (b1000, ()))) (fun w0 w1 w2 w3 w4 w5 w6 => ks.1 (((w0, w1), w2, w3, w4, w5, ()), (w6, ())))
def Fi {α : Type} (n m : Nat) (s0o s0l : Nat) (s1 : LI) (s5 s7 s8 s50 s51 : Int) (b1000 : LI) (k0 : Nat -> Nat -> LI -> Int -> Int -> Int -> LI -> Option α) : Option α := A5 (Uc n) m (((s0o, s0l), s1, s5, s7, s8, s50, s51, ()), (b1000, ())) (fun w => k0 w.1.1.1 w.1.1.2 w.1.2.1 w.1.2.2.1 w.1.2.2.2.1 w.1.2.2.2.2.1 w.2.1, ())
theorem Akm {α n m s0o s0l s1 s5 s7 s8 s50 s51 b1000 k0} : Fi (α := α) n (m + 1) s0o s0l s1 s5 s7 s8 s50 s51 b1000 k0 = Ue n s0o s0l s1 s5 s7 s8 s50 s51 b1000 (fun s0o s0l s1 s5 s7 s8 s50 s51 b1000 => Fi n m s0o s0l s1 s5 s7 s8 s50 s51 b1000 k0) k0 := rfl
def Qg {α : Type} (n : Nat) (s0o s0l : Nat) (s1 : LI) (s5 s7 s8 s11 s90 s91 : Int) (b1000 : LI) (f : Nat -> Nat -> LI -> Int -> Int -> Int -> Int -> Int -> Int -> LI -> Option α) (k0 : Nat -> Nat -> LI -> Int -> Int -> Int -> Int -> LI -> Option α) : Option α :=
 bif (decide (s91 < s90)) then
  gd (decide (0 <= s91) && decide (s91 < (s0l : Int))) (
   gd (decide ((s0o + s91.toNat) < b1000.length)) (
    let J_13 := fun (y_12 : Int) => (
     gd (decide (0 <= s91) && decide (s91 < (s0l : Int))) (
      gd (decide ((s0o + s91.toNat) < b1000.length)) (
       f s0o s0l s1 s5 s7 s8 (W (Int.tdiv y_12 10000)) s90 (W (s91 + 1)) (b1000.set (s0o + s91.toNat) (Int.tmod y_12 10000)))))
    bif (decide (s91 < s5)) then
     gd (decide (0 <= s91) && decide (s91 < (s1.length : Int))) (
      J_13 (W ((W ((b1000.getD (s0o + s91.toNat) 0) + s11)) + (s1.getD s91.toNat 0))))
    else
     J_13 (W ((b1000.getD (s0o + s91.toNat) 0) + s11))))
 else
  k0 s0o s0l s1 s5 s7 s8 s11 b1000
abbrev Kt : Tm := ⟨[(0, .hs 1000), (1, .d hIs), (5, .d hI), (7, .d hI), (8, .d hI), (11, .d hI), (90, .d hI), (91, .d hI)], [(1000, .arr 3 hI false)], [], []⟩
abbrev Ag2 : Tm := ⟨[(0, .hs 1000), (1, .d hIs), (5, .d hI), (7, .d hI), (8, .d hI), (11, .d hI)], [(1000, .arr 3 hI false)], [], []⟩
abbrev Qf : List (Exit × Tm) := [(.exit 4, Ag2)]
def Qe {α : Type} (n : Nat) (v : Kt.den) (f : Kt.den -> Option α) (ks : KS α Qf) : Option α := Qg n v.1.1.1 v.1.1.2 v.1.2.1 v.1.2.2.1 v.1.2.2.2.1 v.1.2.2.2.2.1 v.1.2.2.2.2.2.1 v.1.2.2.2.2.2.2.1 v.1.2.2.2.2.2.2.2.1 v.2.1 (fun s0o s0l s1 s5 s7 s8 s11 s90 s91 b1000 => f (((s0o, s0l), s1, s5, s7, s8, s11, s90, s91, ()), (b1000, ()))) (fun w0 w1 w2 w3 w4 w5 w6 w7 => ks.1 (((w0, w1), w2, w3, w4, w5, w6, ()), (w7, ())))
def He {α : Type} (n m : Nat) (s0o s0l : Nat) (s1 : LI) (s5 s7 s8 s11 s90 s91 : Int) (b1000 : LI) (k0 : Nat -> Nat -> LI -> Int -> Int -> Int -> Int -> LI -> Option α) : Option α := A5 (Qe n) m (((s0o, s0l), s1, s5, s7, s8, s11, s90, s91, ()), (b1000, ())) (fun w => k0 w.1.1.1 w.1.1.2 w.1.2.1 w.1.2.2.1 w.1.2.2.2.1 w.1.2.2.2.2.1 w.1.2.2.2.2.2.1 w.2.1, ())
theorem Ag1 {α n m s0o s0l s1 s5 s7 s8 s11 s90 s91 b1000 k0} : He (α := α) n (m + 1) s0o s0l s1 s5 s7 s8 s11 s90 s91 b1000 k0 = Qg n s0o s0l s1 s5 s7 s8 s11 s90 s91 b1000 (fun s0o s0l s1 s5 s7 s8 s11 s90 s91 b1000 => He n m s0o s0l s1 s5 s7 s8 s11 s90 s91 b1000 k0) k0 := rfl
def Qj {α : Type} (n : Nat) (s0o s0l : Nat) (s1 : LI) (s5 s7 s8 : Int) (b1000 : LI) (f : Nat -> Nat -> LI -> Int -> Int -> Int -> LI -> Option α) (k0 : Int -> LI -> Option α) : Option α :=
 bif (decide (s8 < 0)) then
  He n n s0o s0l s1 s5 (W (s7 - 1)) s8 0 (s0l : Int) 0 b1000
   (fun z_12 z_13 z_14 z_15 z_16 z_17 z_18 z_19 => (
    f z_12 z_13 z_14 z_15 z_16 (W (z_17 + z_18)) z_19))
 else
  k0 s7 b1000
abbrev Ku : Tm := ⟨[(0, .hs 1000), (1, .d hIs), (5, .d hI), (7, .d hI), (8, .d hI)], [(1000, .arr 3 hI false)], [], []⟩
abbrev Ag5 : Tm := ⟨[(7, .d hI)], [(1000, .arr 3 hI false)], [], []⟩
abbrev Qi : List (Exit × Tm) := [(.exit 2, Ag5)]
def Qh {α : Type} (n : Nat) (v : Ku.den) (f : Ku.den -> Option α) (ks : KS α Qi) : Option α := Qj n v.1.1.1 v.1.1.2 v.1.2.1 v.1.2.2.1 v.1.2.2.2.1 v.1.2.2.2.2.1 v.2.1 (fun s0o s0l s1 s5 s7 s8 b1000 => f (((s0o, s0l), s1, s5, s7, s8, ()), (b1000, ()))) (fun w0 w1 => ks.1 ((w0, ()), (w1, ())))
def Hf {α : Type} (n m : Nat) (s0o s0l : Nat) (s1 : LI) (s5 s7 s8 : Int) (b1000 : LI) (k0 : Int -> LI -> Option α) : Option α := A5 (Qh n) m (((s0o, s0l), s1, s5, s7, s8, ()), (b1000, ())) (fun w => k0 w.1.1 w.2.1, ())
theorem Ag3 {α n m s0o s0l s1 s5 s7 s8 b1000 k0} : Hf (α := α) n (m + 1) s0o s0l s1 s5 s7 s8 b1000 k0 = Qj n s0o s0l s1 s5 s7 s8 b1000 (fun s0o s0l s1 s5 s7 s8 b1000 => Hf n m s0o s0l s1 s5 s7 s8 b1000 k0) k0 := rfl
abbrev Ap9 : Tm := ⟨[(0, .hs 1000), (1, .d hIs), (5, .d hI), (7, .d hI), (9, .d hI), (10, .d hI), (50, .d hI), (51, .d hI)], [(1000, .arr 3 hI false)], [], []⟩
abbrev Ap8 : Tm := ⟨[(0, .hs 1000), (1, .d hIs), (5, .d hI), (7, .d hI), (8, .d hI), (9, .d hI), (10, .d hI), (50, .d hI), (51, .d hI)], [(1000, .arr 3 hI false)], [], []⟩
abbrev Ap7 : Tm := ⟨[(0, .hs 1000), (1, .d hIs), (5, .d hI), (7, .d hI), (8, .d hI), (12, .d hI), (13, .d hI), (90, .d hI), (91, .d hI)], [(1000, .arr 3 hI false)], [], []⟩
def Aae (n : Nat) (a0 : LI × Nat × Nat) (a1 : LI) : Option (Int × LI) :=
 gd (decide (0 <= (a1.length : Int)) && decide ((a1.length : Int) < (a0.2.2 : Int))) (
  gd (decide ((a0.2.1 + (a1.length : Int).toNat) < a0.1.length)) (
   gd (decide (0 <= (W ((a1.length : Int) - 1))) && decide ((W ((a1.length : Int) - 1)) < (a0.2.2 : Int))) (
    gd (decide ((a0.2.1 + (W ((a1.length : Int) - 1)).toNat) < a0.1.length)) (
     gd (decide (0 <= (W ((a1.length : Int) - 2))) && decide ((W ((a1.length : Int) - 2)) < (a0.2.2 : Int))) (
      gd (decide ((a0.2.1 + (W ((a1.length : Int) - 2)).toNat) < a0.1.length)) (
       gd (decide (0 <= (W ((a1.length : Int) - 1))) && decide ((W ((a1.length : Int) - 1)) < (a1.length : Int))) (
        gd (decide (0 <= (W ((a1.length : Int) - 2))) && decide ((W ((a1.length : Int) - 2)) < (a1.length : Int))) (
         gd (decide ((W ((W ((a1.getD ((W ((a1.length : Int) - 1)).toNat) 0) * 10000)) + (a1.getD ((W ((a1.length : Int) - 2)).toNat) 0))) ≠ 0)) (
          Fi n n a0.2.1 a0.2.2 a1 (a1.length : Int) (min (W (Int.tdiv (W ((W ((W ((W ((a0.1.getD (a0.2.1 + (a1.length : Int).toNat) 0) * 10000)) + (a0.1.getD (a0.2.1 + (W ((a1.length : Int) - 1)).toNat) 0))) * 10000)) + (a0.1.getD (a0.2.1 + (W ((a1.length : Int) - 2)).toNat) 0))) (W ((W ((a1.getD ((W ((a1.length : Int) - 1)).toNat) 0) * 10000)) + (a1.getD ((W ((a1.length : Int) - 2)).toNat) 0))))) 9999) 0 (a0.2.2 : Int) 0 a0.1
           (fun z_5 z_6 z_7 z_8 z_9 z_10 z_11 => (
            Hf n n z_5 z_6 z_7 z_8 z_9 z_10 z_11
             (fun z_20 z_21 => (
              some (z_20, z_21))))))))))))))
def It (n : Nat) : Ent3 := ⟨234, [.one (.win 3 hI), .im hIs], [[.im hI]], fun x => Aae n x.1 x.2⟩
def Og (α : Type) (n : Nat) : D3 α := { reg := [(2, ⟨17, [], []⟩), (3, ⟨13, [], []⟩)], join := [(11, Ap9), (14, Ap8), (25, Ap7)], loop := [(6, ⟨N0, Ud, A5 (Uc n) n⟩), (20, ⟨Kt, Qf, A5 (Qe n) n⟩), (16, ⟨Ku, Qi, A5 (Qh n) n⟩)] }
theorem Kr (α : Type) (n : Nat) : Al PP (Ah (Og α n).reg) := trivial
theorem Ag0 (α : Type) (n : Nat) : LO.Sound (α := α) PP ⟨121, []⟩ ⟨N0, Ud, A5 (Uc n) n⟩ (.loop ((A1 Tryz.f234).at [1, 1, 1, 1, 1, 0, 1, 0, 0])) := Bf (D := Og α n) (Kr α n) n
theorem Acz (α : Type) (n : Nat) : LO.Sound (α := α) PP ⟨121, []⟩ ⟨Kt, Qf, A5 (Qe n) n⟩ (.loop ((A1 Tryz.f234).at [1, 1, 1, 1, 1, 1, 0, 0, 0, 1, 0, 1, 1, 0, 1, 0, 0])) := Bf (D := Og α n) (Kr α n) n
theorem Ag4 (α : Type) (n : Nat) : D3.OK PP TT ⟨121, []⟩ (Og α n) ((A1 Tryz.f234).at [1, 1, 1, 1, 1, 1, 0, 0, 0]) :=
 D3.OK.mk3 (Kr α n) (show Aa ((A1 Tryz.f234).at [1, 1, 1, 1, 1, 1, 0, 0, 0]) = [(20, (.loop ((A1 Tryz.f234).at [1, 1, 1, 1, 1, 1, 0, 0, 0, 1, 0, 1, 1, 0, 1, 0, 0])))] by kernel_rfl) ⟨Ab rfl (Acz α n), trivial⟩
theorem Ad0 (α : Type) (n : Nat) : LO.Sound (α := α) PP ⟨121, []⟩ ⟨Ku, Qi, A5 (Qh n) n⟩ (.loop ((A1 Tryz.f234).at [1, 1, 1, 1, 1, 1, 0, 0, 0])) := lk (Ag4 α n) n
theorem Azh (α : Type) (n : Nat) : D3.OK PP TT ⟨121, []⟩ (Og α n) (A1 Tryz.f234) :=
 D3.OK.mk3 (Kr α n) (show Aa (A1 Tryz.f234) = [(6, (.loop ((A1 Tryz.f234).at [1, 1, 1, 1, 1, 0, 1, 0, 0]))), (16, (.loop ((A1 Tryz.f234).at [1, 1, 1, 1, 1, 1, 0, 0, 0])))] by kernel_rfl) ⟨Ab rfl (Ag0 α n), Ab rfl (Ad0 α n), trivial⟩
theorem Avs (n : Nat) : (It n).Sound PP := Sx (fn := Tryz.f234) (Azh _ n) 

def Zf {α : Type} (n : Nat) (i : Nat) (z : Int) (s29 : LI) (c3_0 : LI) (c8_0 : Int) (b27 : LI) (f : LI -> LI -> Int -> LI -> Option α) (k0 : Int -> LI -> Option α) : Option α :=
 gd (decide (0 < (c3_0.length : Int))) (
  gd (decide ((c3_0.getD 0 0) ≠ 0)) (
   gd (decide (0 < (c3_0.length : Int))) (
    gd (decide ((c3_0.getD 0 0) ≠ 0)) (
     gd (decide (0 <= (i : Int)) && decide ((i : Int) < (b27.length : Int))) (
      gd (decide ((i : Int).toNat < b27.length)) (
       f s29 c3_0 (Int.tmod (W ((W (c8_0 * 10000)) + z)) (c3_0.getD 0 0)) (b27.set ((i : Int).toNat) (W (Int.tdiv (W ((W (c8_0 * 10000)) + z)) (c3_0.getD 0 0))))))))))
abbrev Iv : Tm := ⟨[(3, .k (.hp 3 0 0)), (7, .k (.hp 7 0 0)), (8, .k (.hp 8 0 0)), (29, .d (.clo 235 (.ref hIs)))], [(3, .var 29 true false [.d hIs]), (7, .var 29 false false [.k (.hw 27)]), (8, .var 3 true false [.d hI]), (27, .arr 3 hI false)], [], []⟩
abbrev Ape : Tm := ⟨[(7, .k (.hp 7 0 0)), (8, .k (.hp 8 0 0))], [(7, .var 29 false false [.k (.hw 27)]), (8, .var 3 true false [.d hI]), (27, .arr 3 hI false)], [3], []⟩
abbrev Qk : List (Exit × Tm) := [(.normal, Ape)]
def M2 (v : Iv.den) : List Int := (fun s29 c3_0 c8_0 b27 => s29) v.1.2.2.2.1 v.2.1.1 v.2.2.2.1.1 v.2.2.2.2.1
def M3 {α : Type} (n : Nat) (i : Nat) (z : Int) (v : Iv.den) (f : Iv.den -> Option α) (ks : KS α Qk) : Option α := Zf n i z v.1.2.2.2.1 v.2.1.1 v.2.2.2.1.1 v.2.2.2.2.1 (fun s29 c3_0 c8_0 b27 => f (((), (), (), s29, ()), ((c3_0, ()), ((), ()), (c8_0, ()), b27, ()))) (fun w0 w1 => ks.1 (((), (), ()), (((), ()), (w0, ()), w1, ())))
def M4 {α : Type} (v : Iv.den) (ks : KS α Qk) : Option α := (fun s29 c3_0 c8_0 b27 => ks.1 (((), (), ()), (((), ()), (c8_0, ()), b27, ()))) v.1.2.2.2.1 v.2.1.1 v.2.2.2.1.1 v.2.2.2.2.1
def Ahj {α : Type} (n : Nat) (s29 : LI) (c3_0 : LI) (c8_0 : Int) (b27 : LI) (k0 : Int -> LI -> Option α) : Option α := Lp M2 (M3 n) M4 (((), (), (), s29, ()), ((c3_0, ()), ((), ()), (c8_0, ()), b27, ())) (fun w => k0 w.2.2.1.1 w.2.2.2.1, ())
def Iu {α : Type} (n : Nat) (zs : List Int) (i : Nat) (s29 : LI) (c3_0 : LI) (c8_0 : Int) (b27 : LI) (k0 : Int -> LI -> Option α) : Option α := Lq M2 (M3 n) zs i (((), (), (), s29, ()), ((c3_0, ()), ((), ()), (c8_0, ()), b27, ())) (fun v => M4 v (fun w => k0 w.2.2.1.1 w.2.2.2.1, ())) (fun w => k0 w.2.2.1.1 w.2.2.2.1, ())
theorem Apc {α : Type} (n : Nat) (s29 : LI) (c3_0 : LI) (c8_0 : Int) (b27 : LI) (k0 : Int -> LI -> Option α) : Ahj (α := α) n s29 c3_0 c8_0 b27 k0 = gd (decide (s29.length <= 4611686018427387904)) (Iu n s29 s29.length s29 c3_0 c8_0 b27 k0) := rfl
theorem Apd {α : Type} (n : Nat) (zs : List Int) (s29 : LI) (c3_0 : LI) (c8_0 : Int) (b27 : LI) (k0 : Int -> LI -> Option α) : Iu (α := α) n zs 0 s29 c3_0 c8_0 b27 k0 = k0 c8_0 b27 := rfl
theorem Apb {α : Type} (n : Nat) (zs : List Int) (i : Nat) (s29 : LI) (c3_0 : LI) (c8_0 : Int) (b27 : LI) (k0 : Int -> LI -> Option α) : Iu (α := α) n zs (i + 1) s29 c3_0 c8_0 b27 k0 = Zf n i (zs.getD i 0) s29 c3_0 c8_0 b27 (fun s29 c3_0 c8_0 b27 => gd (decide (s29 = zs)) (Iu n zs i s29 c3_0 c8_0 b27 k0)) k0 := rfl
def N3 {α : Type} (n : Nat) (s6 s13 : Int) (c3_0 b62 b310 : LI) (f : Int -> Int -> LI -> LI -> LI -> Option α) (k0 : LI -> LI -> Option α) : Option α :=
 bif (decide (s13 >= 0)) then
  gd (decide (0 <= s13) && decide (s13 <= (W ((W (s13 + s6)) + 1))) && decide ((W ((W (s13 + s6)) + 1)) <= (b310.length : Int))) (
   ob (Aae n (b310, s13.toNat, ((W ((W (s13 + s6)) + 1)).toNat - s13.toNat)) c3_0) fun r_9 =>
   gd (Nat.beq r_9.2.length b310.length && true) (
    gd (decide (0 <= s13) && decide (s13 < (b62.length : Int))) (
     gd (decide (s13.toNat < b62.length)) (
      f s6 (W (s13 - 1)) c3_0 (b62.set s13.toNat r_9.1) r_9.2))))
 else
  k0 b62 b310
abbrev N2 : Tm := ⟨[(3, .k (.hp 3 0 0)), (6, .d hI), (11, .k (.hw 310)), (12, .k (.hw 62)), (13, .d hI)], [(3, .var 29 true false [.d hIs]), (62, .arr 3 hI false), (310, .arr 3 hI false)], [55], []⟩
abbrev Aks : Tm := ⟨[(11, .k (.hw 310)), (12, .k (.hw 62))], [(62, .arr 3 hI false), (310, .arr 3 hI false)], [3], []⟩
abbrev Ug : List (Exit × Tm) := [(.exit 2, Aks)]
def Uf {α : Type} (n : Nat) (v : N2.den) (f : N2.den -> Option α) (ks : KS α Ug) : Option α := N3 n v.1.2.1 v.1.2.2.2.2.1 v.2.1.1 v.2.2.1 v.2.2.2.1 (fun s6 s13 c3_0 b62 b310 => f (((), s6, (), (), s13, ()), ((c3_0, ()), b62, b310, ()))) (fun w0 w1 => ks.1 (((), (), ()), (w0, w1, ())))
def Ql {α : Type} (n m : Nat) (s6 s13 : Int) (c3_0 b62 b310 : LI) (k0 : LI -> LI -> Option α) : Option α := A5 (Uf n) m (((), s6, (), (), s13, ()), ((c3_0, ()), b62, b310, ())) (fun w => k0 w.2.1 w.2.2.1, ())
theorem A3b {α n m s6 s13 c3_0 b62 b310 k0} : Ql (α := α) n (m + 1) s6 s13 c3_0 b62 b310 k0 = N3 n s6 s13 c3_0 b62 b310 (fun s6 s13 c3_0 b62 b310 => Ql n m s6 s13 c3_0 b62 b310 k0) k0 := rfl
abbrev Ad6 : Tm := ⟨[(3, .k (.hp 3 0 0)), (7, .k (.hp 7 0 0)), (8, .k (.hp 8 0 0)), (9, .d hI), (10, .d hI), (29, .d (.clo 235 (.ref hIs))), (30, .d hI), (31, .d hI)], [(3, .var 29 true false [.d hIs]), (7, .var 29 false false [.k (.hw 27)]), (8, .var 3 true false [.d hI]), (27, .arr 3 hI false)], [], []⟩
abbrev Ad5 : Tm := ⟨[(7, .k (.hp 7 0 0)), (8, .k (.hp 8 0 0))], [(7, .var 29 false false [.k (.hw 27)]), (8, .var 3 true false [.d hI]), (27, .arr 3 hI false)], [], []⟩
abbrev Ad4 : Tm := ⟨[(0, .d hIs), (3, .k (.hp 3 0 0)), (6, .d hI)], [(3, .var 29 true false [.d hIs])], [], []⟩
abbrev Ad3 : Tm := ⟨[(3, .k (.hp 3 0 0)), (6, .d hI), (11, .k (.hw 310)), (12, .k (.hw 62)), (13, .d hI)], [(3, .var 29 true false [.d hIs]), (62, .arr 3 hI false), (310, .arr 3 hI false)], [], []⟩
def f227 (n : Nat) (a0 a1 : LI) : Option (LI × LI) :=
 ob (f203 n a0 a1) fun r_1 =>
 bif (decide (r_1 < 0)) then
  ob (f117 n a0) fun r_2 =>
  some ([], r_2)
 else
  bif ((a1.length : Int) == 1) then
   gd (decide (0 <= (a0.length : Int)) && decide ((a0.length : Int) <= 4611686018427387904) && decide ((8 : Int) * (a0.length : Int) <= 281474976710656)) (
    ob (f228 n a0) fun r_3 =>
    Ahj n r_3 a1 0 (List.replicate ((a0.length : Int).toNat) 0)
     (fun z_4 z_5 => (
      ob (f225 n z_5) fun r_6 =>
      ob (f179 n z_4) fun r_7 =>
      some (r_6, r_7))))
  else
   ob (I1 n a0) fun r_8 =>
   gd (decide ((r_8.length + 1) * 8 <= 140737488355328)) (
    gd (decide (0 <= (W ((W ((a0.length : Int) - (a1.length : Int))) + 1))) && decide ((W ((W ((a0.length : Int) - (a1.length : Int))) + 1)) <= 4611686018427387904) && decide ((8 : Int) * (W ((W ((a0.length : Int) - (a1.length : Int))) + 1)) <= 281474976710656)) (
     Ql n n (a1.length : Int) (W ((a0.length : Int) - (a1.length : Int))) a1 (List.replicate ((W ((W ((a0.length : Int) - (a1.length : Int))) + 1)).toNat) 0) (r_8 ++ [0])
      (fun z_10 z_11 => (
       ob (f225 n z_10) fun r_12 =>
       ob (f225 n z_11) fun r_13 =>
       some (r_12, r_13)))))
def A3c (n : Nat) : Ent := ⟨227, [hIs, hIs], [hIs, hIs], fun x => f227 n x.1 x.2⟩
def Uh (α : Type) (n : Nat) : D3 α := { reg := [(1, ⟨0, [], [(2, { ent := some (Us n) })]⟩), (2, ⟨0, [], [(0, { sh := some hI }), (2, { ent := some (K1 n) })]⟩), (6, ⟨0, [], [(1, { ent := some (Ad2 n) })]⟩), (11, ⟨0, [], [(1, { ent := some (Gh n), fz := [(49, hIs)] }), (3, { ent := some (Jz n) })]⟩), (12, ⟨0, [], [(1, { entB := some (Cq n), hb := 310 }), (2, { sh := some hI })]⟩), (16, ⟨0, [], [(10, { entB := some (It n), hb := 320 })]⟩), (17, ⟨0, [], [(1, { ent := some (Gh n), fz := [(83, hIs)] }), (3, { ent := some (Gh n), fz := [(85, hIs)] })]⟩)], join := [], loop := [(7, ⟨Iv, Qk, Lp M2 (M3 n) M4⟩), (14, ⟨N2, Ug, A5 (Uf n) n⟩)], any := [(10, Ad6), (11, Ad5), (12, Ad4), (16, Ad3)] }
set_option maxHeartbeats 8000000 in
theorem Avw (n : Nat) : Ax TT ⟨87, []⟩ [] Ad6 (Ad ((A1 Tryz.f227).at [1, 1, 1, 0, 1, 0, 1, 0, 1, 0, 1, 0, 1])) := by
 refine ⟨by kernel_rfl, fun w q hq => ?_⟩
 have e : WT [] (A8 (Ad ((A1 Tryz.f227).at [1, 1, 1, 0, 1, 0, 1, 0, 1, 0, 1, 0, 1])).toList) q = (q = []) := by kernel_rfl
 rw [e] at hq; obtain rfl := hq
 all_goals exact .inr ⟨14, by kernel_rfl, by kernel_rfl, by kernel_rfl⟩
set_option maxHeartbeats 8000000 in
theorem Avv (n : Nat) : Ax TT ⟨87, []⟩ [(1, { ent := some (Gh n), fz := [(49, hIs)] }), (3, { ent := some (Jz n) })] Ad5 (Ad ((A1 Tryz.f227).at [1, 1, 1, 0, 1, 0, 1, 1, 0])) := by
 refine ⟨by kernel_rfl, fun w q hq => ?_⟩
 have e : WT [(1, { ent := some (Gh n), fz := [(49, hIs)] }), (3, { ent := some (Jz n) })] (A8 (Ad ((A1 Tryz.f227).at [1, 1, 1, 0, 1, 0, 1, 1, 0])).toList) q = (∃ (y0 : HL (Gh n).rs) (q0 : List (Nat × RV)), q = (1, .sv (Aq (Gh n).rs y0)) :: q0 /\ ∃ (y1 : HL (Jz n).rs) (q1 : List (Nat × RV)), q0 = (3, .sv (Aq (Jz n).rs y1)) :: q1 /\ q1 = []) := by kernel_rfl
 rw [e] at hq; obtain ⟨y0, q0, rfl, y1, q1, rfl, rfl⟩ := hq
 all_goals exact .inl (Jp.mk (by kernel_rfl))
set_option maxHeartbeats 8000000 in
theorem Avu (n : Nat) : Ax TT ⟨87, []⟩ [(1, { entB := some (Cq n), hb := 310 }), (2, { sh := some hI })] Ad4 (Ad ((A1 Tryz.f227).at [1, 1, 1, 1, 0])) := by
 refine ⟨by kernel_rfl, fun w q hq => ?_⟩
 have e : WT [(1, { entB := some (Cq n), hb := 310 }), (2, { sh := some hI })] (A8 (Ad ((A1 Tryz.f227).at [1, 1, 1, 1, 0])).toList) q = (∃ (y0 : HF (Aj 1000 (Cq n).ts) (Cq n).forms) (q0 : List (Nat × RV)), q = (1, .bx (Cq n) y0) :: q0 /\ q0 = []) := by kernel_rfl
 rw [e] at hq; obtain ⟨y0, q0, rfl, rfl⟩ := hq
 all_goals exact .inl (Jp.mk (by kernel_rfl))
set_option maxHeartbeats 8000000 in
theorem Ad7 (n : Nat) : Ax TT ⟨87, []⟩ [(10, { entB := some (It n), hb := 320 })] Ad3 (Ad ((A1 Tryz.f227).at [1, 1, 1, 1, 1, 0, 1, 0, 0, 1, 0, 0])) := by
 refine ⟨by kernel_rfl, fun w q hq => ?_⟩
 have e : WT [(10, { entB := some (It n), hb := 320 })] (A8 (Ad ((A1 Tryz.f227).at [1, 1, 1, 1, 1, 0, 1, 0, 0, 1, 0, 0])).toList) q = (∃ (y0 : HF (Aj 1000 (It n).ts) (It n).forms) (q0 : List (Nat × RV)), q = (10, .bx (It n) y0) :: q0 /\ q0 = []) := by kernel_rfl
 rw [e] at hq; obtain ⟨y0, q0, rfl, rfl⟩ := hq
 all_goals exact .inr ⟨11, by kernel_rfl, by kernel_rfl, by kernel_rfl⟩
theorem N1 (α : Type) (n : Nat) : Al PP (Ah (Uh α n).reg) := ⟨Wu n, J2 n, Ahi n, Oh n, A69 n, Ro n, Avs n, Oh n, Oh n, trivial⟩
theorem Akq (α : Type) (n : Nat) : D3.OK PP TT ⟨87, []⟩ (Uh α n) ((A1 Tryz.f227).at [1, 1, 1, 0, 1, 0, 1, 0, 1, 0, 0]) :=
 D3.OK.mk3a (N1 α n) (show Aa ((A1 Tryz.f227).at [1, 1, 1, 0, 1, 0, 1, 0, 1, 0, 0]) = [] by kernel_rfl) trivial (show At ((A1 Tryz.f227).at [1, 1, 1, 0, 1, 0, 1, 0, 1, 0, 0]) = [] by kernel_rfl) trivial
theorem Akp (α : Type) (n : Nat) : D3.OK PP TT ⟨87, []⟩ (Uh α n) ((A1 Tryz.f227).at [1, 1, 1, 0, 1, 0, 1, 0, 1, 0, 1]) :=
 D3.OK.mk3a (N1 α n) (show Aa ((A1 Tryz.f227).at [1, 1, 1, 0, 1, 0, 1, 0, 1, 0, 1]) = [] by kernel_rfl) trivial (show At ((A1 Tryz.f227).at [1, 1, 1, 0, 1, 0, 1, 0, 1, 0, 1]) = [(10, Ad ((A1 Tryz.f227).at [1, 1, 1, 0, 1, 0, 1, 0, 1, 0, 1, 0, 1]))] by kernel_rfl) ⟨⟨Avw n, trivial⟩, trivial⟩
theorem Ako (α : Type) (n : Nat) : LO.Sound (α := α) PP ⟨87, []⟩ ⟨Iv, Qk, Lp M2 (M3 n) M4⟩ (.rangeFunc (.tmp 29) #[30, 31] ((A1 Tryz.f227).at [1, 1, 1, 0, 1, 0, 1, 0, 1, 0, 0]) ((A1 Tryz.f227).at [1, 1, 1, 0, 1, 0, 1, 0, 1, 0, 1])) :=
 Aba (O1 _) Lr M2 (M3 n) M4 Aio rfl rfl rfl rfl (Akq α n) (Akp α n) (by intro v; rfl) (by intro i z v f ks; kernel_rfl) (by intro v ks; kernel_rfl)
theorem Akr (α : Type) (n : Nat) : D3.OK PP TT ⟨87, []⟩ (Uh α n) ((A1 Tryz.f227).at [1, 1, 1, 1, 1, 0, 1, 0, 0]) :=
 D3.OK.mk3a (N1 α n) (show Aa ((A1 Tryz.f227).at [1, 1, 1, 1, 1, 0, 1, 0, 0]) = [] by kernel_rfl) trivial (show At ((A1 Tryz.f227).at [1, 1, 1, 1, 1, 0, 1, 0, 0]) = [(16, Ad ((A1 Tryz.f227).at [1, 1, 1, 1, 1, 0, 1, 0, 0, 1, 0, 0]))] by kernel_rfl) ⟨⟨Ad7 n, trivial⟩, trivial⟩
theorem Ag6 (α : Type) (n : Nat) : LO.Sound (α := α) PP ⟨87, []⟩ ⟨N2, Ug, A5 (Uf n) n⟩ (.loop ((A1 Tryz.f227).at [1, 1, 1, 1, 1, 0, 1, 0, 0])) := lk (Akr α n) n
theorem B4i (α : Type) (n : Nat) : D3.OK PP TT ⟨87, []⟩ (Uh α n) (A1 Tryz.f227) :=
 D3.OK.mk3a (N1 α n) (show Aa (A1 Tryz.f227) = [(7, (.rangeFunc (.tmp 29) #[30, 31] ((A1 Tryz.f227).at [1, 1, 1, 0, 1, 0, 1, 0, 1, 0, 0]) ((A1 Tryz.f227).at [1, 1, 1, 0, 1, 0, 1, 0, 1, 0, 1]))), (14, (.loop ((A1 Tryz.f227).at [1, 1, 1, 1, 1, 0, 1, 0, 0])))] by kernel_rfl) ⟨Ab rfl (Ako α n), Ab rfl (Ag6 α n), trivial⟩ (show At (A1 Tryz.f227) = [(11, Ad ((A1 Tryz.f227).at [1, 1, 1, 0, 1, 0, 1, 1, 0])), (12, Ad ((A1 Tryz.f227).at [1, 1, 1, 1, 0])), (16, Ad ((A1 Tryz.f227).at [1, 1, 1, 1, 1, 0, 1, 0, 0, 1, 0, 0]))] by kernel_rfl) ⟨⟨Avv n, trivial⟩, ⟨Avu n, trivial⟩, ⟨Ad7 n, trivial⟩, trivial⟩
theorem A62 (n : Nat) : (A3c n).Sound PP := fk (fn := Tryz.f227) (B4i _ n) 

def Zi {α : Type} (n : Nat) (s0 s1 : LI) (f : LI -> LI -> Option α) (k0 : LI -> Option α) : Option α :=
 bif (decide ((s1.length : Int) > 0)) then
  ob (f227 n s0 s1) fun r_1 =>
  f s1 r_1.2
 else
  k0 s0
abbrev Qm : Tm := ⟨[(0, .d hIs), (1, .d hIs)], [], [], []⟩
abbrev Apf : Tm := ⟨[(0, .d hIs)], [], [], []⟩
abbrev Zh : List (Exit × Tm) := [(.exit 0, Apf)]
def Zg {α : Type} (n : Nat) (v : Qm.den) (f : Qm.den -> Option α) (ks : KS α Zh) : Option α := Zi n v.1.1 v.1.2.1 (fun s0 s1 => f ((s0, s1, ()), ())) (fun w0 => ks.1 ((w0, ()), ()))
def Iw {α : Type} (n m : Nat) (s0 s1 : LI) (k0 : LI -> Option α) : Option α := A5 (Zg n) m ((s0, s1, ()), ()) (fun w => k0 w.1.1, ())
theorem A87 {α n m s0 s1 k0} : Iw (α := α) n (m + 1) s0 s1 k0 = Zi n s0 s1 (fun s0 s1 => Iw n m s0 s1 k0) k0 := rfl
def f226 (n : Nat) (a0 a1 : LI) : Option LI :=
 Iw n n a0 a1
  (fun z_2 => (
   some z_2))
def Ad8 (n : Nat) : Ent := ⟨226, [hIs, hIs], [hIs], fun x => f226 n x.1 x.2⟩
def Ad9 (α : Type) (n : Nat) : D3 α := { reg := [(2, ⟨0, [], [(2, { ent := some (A3c n) })]⟩)], join := [], loop := [(1, ⟨Qm, Zh, A5 (Zg n) n⟩)] }
theorem A86 (α : Type) (n : Nat) : Al PP (Ah (Ad9 α n).reg) := ⟨A62 n, trivial⟩
theorem Akt (α : Type) (n : Nat) : LO.Sound (α := α) PP ⟨19, []⟩ ⟨Qm, Zh, A5 (Zg n) n⟩ (.loop ((A1 Tryz.f226).at [1, 0, 0, 0])) := Bf (D := Ad9 α n) (A86 α n) n
theorem B4j (α : Type) (n : Nat) : D3.OK PP TT ⟨19, []⟩ (Ad9 α n) (A1 Tryz.f226) :=
 D3.OK.mk3 (A86 α n) (show Aa (A1 Tryz.f226) = [(1, (.loop ((A1 Tryz.f226).at [1, 0, 0, 0])))] by kernel_rfl) ⟨Ab rfl (Akt α n), trivial⟩
theorem Ahk (n : Nat) : (Ad8 n).Sound PP := fk (fn := Tryz.f226) (B4j _ n) 

def f180 (n : Nat)  : Option LI :=
 some [1]
def Oy (n : Nat) : Ent := ⟨180, [], [hIs], fun _ => f180 n⟩
def B5j (α : Type) (n : Nat) : D3 α := { reg := [(1, ⟨0, [], [(0, { sh := some hI })]⟩)], join := [], loop := [] }
theorem Ox (n : Nat) : (Oy n).Sound PP := Ar (fn := Tryz.f180) (D := B5j _ n) trivial 

abbrev Azq : Tm := ⟨[(1, .k (.hp 1 0 0))], [(1, .var 31 true false [.d .bool, .d hIs, .d hIs])], [], []⟩
def f215 (n : Nat) (a0 : Rq) : Option Bool :=
 let J_7 := fun (_ : Unit) => (
  ob (f226 n a0.2.1 a0.2.2) fun r_4 =>
  ob (f180 n) fun r_5 =>
  ob (f203 n r_4 r_5) fun r_6 =>
  some (r_6 == 0))
 ob (f231 n a0.2.1) fun r_1 =>
 bif (!r_1) then
  some false
 else
  ob (f231 n a0.2.2) fun r_2 =>
  bif (!r_2) then
   some false
  else
   bif ((a0.2.2.length : Int) == 0) then
    some false
   else
    bif a0.1 then
     ob (f195 n a0) fun r_3 =>
     bif r_3 then
      some false
     else
      J_7 ()
    else
     J_7 ()
def Aps (n : Nat) : Ent := ⟨215, [hR], [.bool], fun x => f215 n x⟩
def B4s (α : Type) (n : Nat) : D3 α := { reg := [(1, ⟨0, [], [(2, { ent := some (Ad1 n) }), (7, { ent := some (Ad1 n) }), (21, { ent := some (Or n) })]⟩), (3, ⟨0, [], [(4, { ent := some (Ad8 n) }), (5, { ent := some (Oy n) }), (6, { ent := some (Us n) })]⟩)], join := [(3, Azq)], loop := [] }
theorem Azo (n : Nat) : (Aps n).Sound PP := Ar (fn := Tryz.f215) (D := B4s _ n) ⟨Ahg n, Ahg n, Oq n, Ahk n, Ox n, Wu n, trivial⟩ 

def f214 (n : Nat) (a0 : Rq) : Option Bool :=
 ob (f215 n a0) fun r_1 =>
 some (!r_1)
def Apt (n : Nat) : Ent := ⟨214, [hR], [.bool], fun x => f214 n x⟩
def B4t (α : Type) (n : Nat) : D3 α := { reg := [(1, ⟨0, [], [(1, { ent := some (Aps n) })]⟩)], join := [], loop := [] }
theorem Azr (n : Nat) : (Apt n).Sound PP := Ar (fn := Tryz.f214) (D := B4t _ n) ⟨Azo n, trivial⟩ 

def Me {α : Type} (n : Nat) (s0 : LR) (s7 s8 : Int) (f : LR -> Int -> Int -> Option α) (k0 : Int -> Option α) (k1 : Unit -> Option α) : Option α :=
 bif (decide (s8 < s7)) then
  gd (decide (0 <= s8) && decide (s8 < (s0.length : Int))) (
   let x_1 := s0.getD s8.toNat (false, [], [])
   ob (f214 n x_1) fun r_2 =>
   bif r_2 then
    k0 s8
   else
    f s0 s7 (W (s8 + 1)))
 else
  k1 ()
abbrev Hz : Tm := ⟨[(0, .d hRs), (1, .d (.fn 214)), (7, .d hI), (8, .d hI)], [], [], []⟩
abbrev A9v : Tm := ⟨[(4, .d hI)], [], [], []⟩
abbrev A9u : Tm := ⟨[], [], [], []⟩
abbrev Md : List (Exit × Tm) := [(.ret, A9v), (.exit 0, A9u)]
def Mc {α : Type} (n : Nat) (v : Hz.den) (f : Hz.den -> Option α) (ks : KS α Md) : Option α := Me n v.1.1 v.1.2.2.1 v.1.2.2.2.1 (fun s0 s7 s8 => f ((s0, (), s7, s8, ()), ())) (fun w0 => ks.1 ((w0, ()), ())) (fun _ => ks.2.1 ((), ()))
def Gl {α : Type} (n m : Nat) (s0 : LR) (s7 s8 : Int) (k0 : Int -> Option α) (k1 : Unit -> Option α) : Option α := A5 (Mc n) m ((s0, (), s7, s8, ()), ()) (fun w => k0 w.1.1, fun w => k1 (), ())
theorem A9t {α n m s0 s7 s8 k0 k1} : Gl (α := α) n (m + 1) s0 s7 s8 k0 k1 = Me n s0 s7 s8 (fun s0 s7 s8 => Gl n m s0 s7 s8 k0 k1) k0 k1 := rfl
def A12 (n : Nat) (a0 : LR) (a1 : Unit) : Option Int :=
 Gl n n a0 (a0.length : Int) 0
  (fun z_3 => (
   some z_3))
  (fun (_ : Unit) => (
   some (-1)))
def A3n (n : Nat) : Ent := ⟨182, [hRs, (.fn 214)], [hI], fun x => A12 n x.1 x.2⟩
def Ra (α : Type) (n : Nat) : D3 α := { reg := [(4, ⟨0, [], [(5, { ent := some (Apt n) })]⟩)], join := [], loop := [(2, ⟨Hz, Md, A5 (Mc n) n⟩)] }
theorem T2 (α : Type) (n : Nat) : Al PP (Ah (Ra α n).reg) := ⟨Azr n, trivial⟩
theorem A67 (α : Type) (n : Nat) : LO.Sound (α := α) PP ⟨19, []⟩ ⟨Hz, Md, A5 (Mc n) n⟩ (.loop ((A1 Tryz.f182).at [1, 0, 1, 0, 0])) := Bf (D := Ra α n) (T2 α n) n
theorem Alk (α : Type) (n : Nat) : D3.OK PP TT ⟨19, []⟩ (Ra α n) (A1 Tryz.f182) :=
 D3.OK.mk3 (T2 α n) (show Aa (A1 Tryz.f182) = [(2, (.loop ((A1 Tryz.f182).at [1, 0, 1, 0, 0])))] by kernel_rfl) ⟨Ab rfl (A67 α n), trivial⟩
theorem Ag8 (n : Nat) : (A3n n).Sound PP := fk (fn := Tryz.f182) (Alk _ n) 

def Rj (n : Nat) (a0 : LR) (a1 : Unit) : Option Bool :=
 ob (A12 n a0 a1) fun r_1 =>
 some (decide (r_1 >= 0))
def A3w (n : Nat) : Ent := ⟨129, [hRs, (.fn 214)], [.bool], fun x => Rj n x.1 x.2⟩
def Alt (α : Type) (n : Nat) : D3 α := { reg := [(1, ⟨0, [], [(2, { ent := some (A3n n) })]⟩)], join := [], loop := [] }
theorem Agb (n : Nat) : (A3w n).Sound PP := Ar (fn := Tryz.f129) (D := Alt _ n) ⟨Ag8 n, trivial⟩ 

def f173 (n : Nat) (a0 : LR) : Option Int :=
 ob (Rj n a0 ()) fun r_1 =>
 ob (f114 n (!r_1) 1) fun r_2 =>
 some r_2
def Arj (n : Nat) : Ent := ⟨173, [hRs], [hI], fun x => f173 n x⟩
def B5q (α : Type) (n : Nat) : D3 α := { reg := [(1, ⟨0, [], [(1, { ent := some (A3w n) }), (3, { ent := some (I2 n) })]⟩)], join := [], loop := [] }
theorem B11 (n : Nat) : (Arj n).Sound PP := Ar (fn := Tryz.f173) (D := B5q _ n) ⟨Agb n, Xb n, trivial⟩ 

def f115 (n : Nat) (a0 : LR) : Option Bool :=
 bif (decide ((a0.length : Int) >= 1)) then
  bif (decide ((a0.length : Int) <= 4)) then
   ob (f173 n a0) fun r_1 =>
   some (r_1 == 0)
  else
   some false
 else
  some false
def P5 (n : Nat) : Ent := ⟨115, [hRs], [.bool], fun x => f115 n x⟩
def B6q (α : Type) (n : Nat) : D3 α := { reg := [(1, ⟨0, [], [(10, { ent := some (Arj n) })]⟩)], join := [], loop := [] }
theorem B1v (n : Nat) : (P5 n).Sound PP := Ar (fn := Tryz.f115) (D := B6q _ n) ⟨B11 n, trivial⟩ 

def A5p {α : Type} (n : Nat) (s5 : LI) (s6 s7 : Int) (f : LI -> Int -> Int -> Option α) (k0 : Int -> Option α) (k1 : Unit -> Option α) : Option α :=
 bif (decide (s7 < s6)) then
  gd (decide (0 <= s7) && decide (s7 < (s5.length : Int))) (
   bif ((s5.getD s7.toNat 0) != 0) then
    k0 (s5.getD s7.toNat 0)
   else
    f s5 s6 (W (s7 + 1)))
 else
  k1 ()
abbrev Wj : Tm := ⟨[(5, .d hIs), (6, .d hI), (7, .d hI)], [], [], []⟩
abbrev Ave : Tm := ⟨[(2, .d hI)], [], [], []⟩
abbrev Avd : Tm := ⟨[], [], [], []⟩
abbrev A5o : List (Exit × Tm) := [(.ret, Ave), (.exit 0, Avd)]
def A5n {α : Type} (n : Nat) (v : Wj.den) (f : Wj.den -> Option α) (ks : KS α A5o) : Option α := A5p n v.1.1 v.1.2.1 v.1.2.2.1 (fun s5 s6 s7 => f ((s5, s6, s7, ()), ())) (fun w0 => ks.1 ((w0, ()), ())) (fun _ => ks.2.1 ((), ()))
def A33 {α : Type} (n m : Nat) (s5 : LI) (s6 s7 : Int) (k0 : Int -> Option α) (k1 : Unit -> Option α) : Option α := A5 (A5n n) m ((s5, s6, s7, ()), ()) (fun w => k0 w.1.1, fun w => k1 (), ())
theorem Avc {α n m s5 s6 s7 k0 k1} : A33 (α := α) n (m + 1) s5 s6 s7 k0 k1 = A5p n s5 s6 s7 (fun s5 s6 s7 => A33 n m s5 s6 s7 k0 k1) k0 k1 := rfl
def f64 (n : Nat) (a0 : LI) : Option Int :=
 A33 n n a0 (a0.length : Int) 0
  (fun z_1 => (
   some z_1))
  (fun (_ : Unit) => (
   some 0))
def Q9 (n : Nat) : Ent := ⟨64, [hIs], [hI], fun x => f64 n x⟩
def Ak8 (α : Type) (n : Nat) : D3 α := { reg := [], join := [], loop := [(2, ⟨Wj, A5o, A5 (A5n n) n⟩)] }
theorem Aci (α : Type) (n : Nat) : Al PP (Ah (Ak8 α n).reg) := trivial
theorem Aop (α : Type) (n : Nat) : LO.Sound (α := α) PP ⟨15, []⟩ ⟨Wj, A5o, A5 (A5n n) n⟩ (.loop ((A1 Tryz.f64).at [1, 0, 1, 0, 0])) := Bf (D := Ak8 α n) (Aci α n) n
theorem B7z (α : Type) (n : Nat) : D3.OK PP TT ⟨15, []⟩ (Ak8 α n) (A1 Tryz.f64) :=
 D3.OK.mk3 (Aci α n) (show Aa (A1 Tryz.f64) = [(2, (.loop ((A1 Tryz.f64).at [1, 0, 1, 0, 0])))] by kernel_rfl) ⟨Ab rfl (Aop α n), trivial⟩
theorem Aoo (n : Nat) : (Q9 n).Sound PP := fk (fn := Tryz.f64) (B7z _ n) 

def A1u {α : Type} (n : Nat) (s3 : Int) (s6 : LN) (s7 s8 : Int) (f : Int -> LN -> Int -> Int -> Option α) (k0 : Int -> Option α) : Option α :=
 bif (decide (s8 < s7)) then
  gd (decide (0 <= s8) && decide (s8 < (s6.length : Int))) (
   let x_1 := s6.getD s8.toNat (0, 0, 0, 0)
   bif (x_1.1 == 2) then
    f (max s3 (W (x_1.2.2.2 + 1))) s6 s7 (W (s8 + 1))
   else
    f s3 s6 s7 (W (s8 + 1)))
 else
  k0 s3
abbrev Rr : Tm := ⟨[(3, .d hI), (6, .d hNs), (7, .d hI), (8, .d hI)], [], [5], []⟩
abbrev Asf : Tm := ⟨[(3, .d hI)], [], [], []⟩
abbrev A1t : List (Exit × Tm) := [(.exit 0, Asf)]
def A1s {α : Type} (n : Nat) (v : Rr.den) (f : Rr.den -> Option α) (ks : KS α A1t) : Option α := A1u n v.1.1 v.1.2.1 v.1.2.2.1 v.1.2.2.2.1 (fun s3 s6 s7 s8 => f ((s3, s6, s7, s8, ()), ())) (fun w0 => ks.1 ((w0, ()), ()))
def Xa {α : Type} (n m : Nat) (s3 : Int) (s6 : LN) (s7 s8 : Int) (k0 : Int -> Option α) : Option α := A5 (A1s n) m ((s3, s6, s7, s8, ()), ()) (fun w => k0 w.1.1, ())
theorem Ase {α n m s3 s6 s7 s8 k0} : Xa (α := α) n (m + 1) s3 s6 s7 s8 k0 = A1u n s3 s6 s7 s8 (fun s3 s6 s7 s8 => Xa n m s3 s6 s7 s8 k0) k0 := rfl
def f116 (n : Nat) (a0 : LN) : Option Int :=
 Xa n n 0 a0 (a0.length : Int) 0
  (fun z_2 => (
   some z_2))
def Asg (n : Nat) : Ent := ⟨116, [hNs], [hI], fun x => f116 n x⟩
def Aee (α : Type) (n : Nat) : D3 α := { reg := [], join := [], loop := [(3, ⟨Rr, A1t, A5 (A1s n) n⟩)] }
theorem A97 (α : Type) (n : Nat) : Al PP (Ah (Aee α n).reg) := trivial
theorem Am0 (α : Type) (n : Nat) : LO.Sound (α := α) PP ⟨22, []⟩ ⟨Rr, A1t, A5 (A1s n) n⟩ (.loop ((A1 Tryz.f116).at [1, 1, 0, 1, 0, 0])) := Bf (D := Aee α n) (A97 α n) n
theorem B6p (α : Type) (n : Nat) : D3.OK PP TT ⟨22, []⟩ (Aee α n) (A1 Tryz.f116) :=
 D3.OK.mk3 (A97 α n) (show Aa (A1 Tryz.f116) = [(3, (.loop ((A1 Tryz.f116).at [1, 1, 0, 1, 0, 0])))] by kernel_rfl) ⟨Ab rfl (Am0 α n), trivial⟩
theorem B1t (n : Nat) : (Asg n).Sound PP := fk (fn := Tryz.f116) (B6p _ n) 

abbrev Aos : Tm := ⟨[(1, .d hRs), (2, .k (.hp 2 0 0))], [(2, .var 25 true false [.d hNs])], [], []⟩
def f59 (n : Nat) (a0 : LN) (a1 : LR) : Option Int :=
 ob (f65 n [a1]) fun r_1 =>
 ob (f108 n a0) fun r_2 =>
 ob (f115 n a1) fun r_3 =>
 ob (f114 n r_3 1) fun r_4 =>
 ob (f64 n [r_1, r_2, r_4]) fun r_5 =>
 bif (r_5 != 0) then
  ob (f114 n true 8) fun r_6 =>
  ob (f64 n [r_5, r_6]) fun r_7 =>
  some r_7
 else
  ob (f116 n a0) fun r_8 =>
  ob (f114 n (decide ((a1.length : Int) >= r_8)) 8) fun r_9 =>
  ob (f64 n [r_5, r_9]) fun r_10 =>
  some r_10
def Akb (n : Nat) : Ent := ⟨59, [hE, hRs], [hI], fun x => f59 n x.1 x.2⟩
def Axl (α : Type) (n : Nat) : D3 α := { reg := [(1, ⟨0, [], [(1, { sh := some hRs }), (2, { ent := some (Wi n) }), (4, { ent := some (P6 n) }), (6, { ent := some (P5 n) }), (7, { ent := some (I2 n) }), (8, { sh := some hI }), (9, { ent := some (Q9 n) })]⟩), (2, ⟨0, [], [(8, { ent := some (Asg n) }), (11, { ent := some (I2 n) }), (12, { sh := some hI }), (13, { ent := some (Q9 n) })]⟩)], join := [], loop := [], any := [(1, Aos)] }
set_option maxHeartbeats 8000000 in
theorem B3u (n : Nat) : Ax TT ⟨30, []⟩ [(1, { sh := some hRs }), (2, { ent := some (Wi n) }), (4, { ent := some (P6 n) }), (6, { ent := some (P5 n) }), (7, { ent := some (I2 n) }), (8, { sh := some hI }), (9, { ent := some (Q9 n) })] Aos (Ad ((A1 Tryz.f59).at [1, 0])) := by
 refine ⟨by kernel_rfl, fun w q hq => ?_⟩
 have e : WT [(1, { sh := some hRs }), (2, { ent := some (Wi n) }), (4, { ent := some (P6 n) }), (6, { ent := some (P5 n) }), (7, { ent := some (I2 n) }), (8, { sh := some hI }), (9, { ent := some (Q9 n) })] (A8 (Ad ((A1 Tryz.f59).at [1, 0])).toList) q = (∃ (y0 : HL (Wi n).rs) (q0 : List (Nat × RV)), q = (2, .sv (Aq (Wi n).rs y0)) :: q0 /\ ∃ (y1 : HL (P6 n).rs) (q1 : List (Nat × RV)), q0 = (4, .sv (Aq (P6 n).rs y1)) :: q1 /\ ∃ (y2 : HL (P5 n).rs) (q2 : List (Nat × RV)), q1 = (6, .sv (Aq (P5 n).rs y2)) :: q2 /\ ∃ (y3 : HL (I2 n).rs) (q3 : List (Nat × RV)), q2 = (7, .sv (Aq (I2 n).rs y3)) :: q3 /\ ∃ (y4 : HL (Q9 n).rs) (q4 : List (Nat × RV)), q3 = (9, .sv (Aq (Q9 n).rs y4)) :: q4 /\ q4 = []) := by kernel_rfl
 rw [e] at hq; obtain ⟨y0, q0, rfl, y1, q1, rfl, y2, q2, rfl, y3, q3, rfl, y4, q4, rfl, rfl⟩ := hq
 all_goals exact .inr ⟨6, by kernel_rfl, by kernel_rfl, by kernel_rfl⟩
theorem Avi (α : Type) (n : Nat) : Al PP (Ah (Axl α n).reg) := ⟨B3o n, B1x n, B1v n, Xb n, Aoo n, B1t n, Xb n, Aoo n, trivial⟩
theorem B86 (α : Type) (n : Nat) : D3.OK PP TT ⟨30, []⟩ (Axl α n) (A1 Tryz.f59) :=
 D3.OK.mk3a (Avi α n) (show Aa (A1 Tryz.f59) = [] by kernel_rfl) trivial (show At (A1 Tryz.f59) = [(1, Ad ((A1 Tryz.f59).at [1, 0]))] by kernel_rfl) ⟨⟨B3u n, trivial⟩, trivial⟩
theorem Aor (n : Nat) : (Akb n).Sound PP := fk (fn := Tryz.f59) (B86 _ n) 

def f126 (n : Nat) (a0 : Int) : Option Rq :=
 bif (decide (a0 < 0)) then
  ob (f179 n (W (0 - a0))) fun r_1 =>
  ob (f180 n) fun r_2 =>
  some (true, r_1, r_2)
 else
  ob (f179 n a0) fun r_3 =>
  ob (f180 n) fun r_4 =>
  some (false, r_3, r_4)
def B8 (n : Nat) : Ent := ⟨126, [hI], [hR], fun x => f126 n x⟩
def B6k (α : Type) (n : Nat) : D3 α := { reg := [(2, ⟨0, [], [(2, { ent := some (Jz n) }), (3, { ent := some (Oy n) })]⟩), (3, ⟨0, [], [(1, { ent := some (Jz n) }), (2, { ent := some (Oy n) })]⟩)], join := [], loop := [] }
theorem Cd (n : Nat) : (B8 n).Sound PP := Ar (fn := Tryz.f126) (D := B6k _ n) ⟨A69 n, Ox n, A69 n, Ox n, trivial⟩ 

def Awb {α : Type} (n : Nat) (s5 s6 : Int) (b4 : LR) (f : Int -> Int -> LR -> Option α) (k0 : LR -> Option α) : Option α :=
 bif (decide (s6 < s5)) then
  ob (f126 n 0) fun r_1 =>
  gd (decide ((b4.length + 1) * 56 <= 140737488355328)) (
   f s5 (W (s6 + 1)) (b4 ++ [r_1]))
 else
  k0 b4
abbrev Rw : Tm := ⟨[(3, .k (.hw 4)), (5, .d hI), (6, .d hI)], [(4, .arr 31 hR false)], [10], []⟩
abbrev Asl : Tm := ⟨[(3, .k (.hw 4))], [(4, .arr 31 hR false)], [], []⟩
abbrev A1z : List (Exit × Tm) := [(.exit 0, Asl)]
def A1y {α : Type} (n : Nat) (v : Rw.den) (f : Rw.den -> Option α) (ks : KS α A1z) : Option α := Awb n v.1.2.1 v.1.2.2.1 v.2.1 (fun s5 s6 b4 => f (((), s5, s6, ()), (b4, ()))) (fun w0 => ks.1 (((), ()), (w0, ())))
def B20 {α : Type} (n m : Nat) (s5 s6 : Int) (b4 : LR) (k0 : LR -> Option α) : Option α := A5 (A1y n) m (((), s5, s6, ()), (b4, ())) (fun w => k0 w.2.1, ())
def f100 (n : Nat) (a0 : Int) : Option LR :=
 B20 n n a0 0 []
  (fun z_2 => (
   some z_2))
def P7 (n : Nat) : Ent := ⟨100, [hI], [hRs], fun x => f100 n x⟩
def Aeg (α : Type) (n : Nat) : D3 α := { reg := [(1, ⟨0, [], [(0, { sh := some hR })]⟩), (4, ⟨0, [], [(1, { ent := some (B8 n) }), (2, { sh := some hR })]⟩)], join := [], loop := [(3, ⟨Rw, A1z, A5 (A1y n) n⟩)] }
theorem A99 (α : Type) (n : Nat) : Al PP (Ah (Aeg α n).reg) := ⟨Cd n, trivial⟩
theorem Am2 (α : Type) (n : Nat) : LO.Sound (α := α) PP ⟨14, []⟩ ⟨Rw, A1z, A5 (A1y n) n⟩ (.loop ((A1 Tryz.f100).at [1, 1, 0, 1, 0, 0])) := Bf (D := Aeg α n) (A99 α n) n
theorem B6v (α : Type) (n : Nat) : D3.OK PP TT ⟨14, []⟩ (Aeg α n) (A1 Tryz.f100) :=
 D3.OK.mk3 (A99 α n) (show Aa (A1 Tryz.f100) = [(3, (.loop ((A1 Tryz.f100).at [1, 1, 0, 1, 0, 0])))] by kernel_rfl) ⟨Ab rfl (Am2 α n), trivial⟩
theorem B1z (n : Nat) : (P7 n).Sound PP := fk (fn := Tryz.f100) (B6v _ n) 

abbrev Ai4 : Tm := ⟨[(2, .k (.hp 2 0 0)), (3, .k (.hp 3 0 0)), (4, .k (.hp 4 0 0))], [(2, .var 84 true false [.d hI, .d .nil]), (3, .var 31 true false [.d .bool, .d hIs, .d hIs]), (4, .var 81 true false [.d .bool, .d .nil, .d .nil, .d .nil, .d .nil, .d .bool, .d .nil, .d .nil])], [], []⟩
def f190 (n : Nat) (a0 : Int × Unit) (a1 : Rq) : Option (Rq × LR × Unit × Rq) :=
 ob (f100 n a0.1) fun r_1 =>
 ob (f126 n 0) fun r_2 =>
 some (a1, r_1, (), r_2)
def Aqw (n : Nat) : Ent := ⟨190, [(.st (.pair hI .nil)), hR], [(.st (.pair hR (.pair hRs (.pair .nil hR))))], fun x => f190 n x.1 x.2⟩
def Aqx (α : Type) (n : Nat) : D3 α := { reg := [(1, ⟨0, [], [(3, { ent := some (P7 n) }), (4, { ent := some (B8 n) })]⟩)], join := [], loop := [], any := [(1, Ai4)] }
set_option maxHeartbeats 8000000 in
theorem B0k (n : Nat) : Ax TT ⟨20, []⟩ [(3, { ent := some (P7 n) }), (4, { ent := some (B8 n) })] Ai4 (Ad ((A1 Tryz.f190).at [1, 0])) := by
 refine ⟨by kernel_rfl, fun w q hq => ?_⟩
 have e : WT [(3, { ent := some (P7 n) }), (4, { ent := some (B8 n) })] (A8 (Ad ((A1 Tryz.f190).at [1, 0])).toList) q = (∃ (y0 : HL (P7 n).rs) (q0 : List (Nat × RV)), q = (3, .sv (Aq (P7 n).rs y0)) :: q0 /\ ∃ (y1 : HL (B8 n).rs) (q1 : List (Nat × RV)), q0 = (4, .sv (Aq (B8 n).rs y1)) :: q1 /\ q1 = []) := by kernel_rfl
 rw [e] at hq; obtain ⟨y0, q0, rfl, y1, q1, rfl, rfl⟩ := hq
 all_goals exact .inr ⟨7, by kernel_rfl, by kernel_rfl, by kernel_rfl⟩
theorem Aqv (α : Type) (n : Nat) : Al PP (Ah (Aqx α n).reg) := ⟨B1z n, Cd n, trivial⟩
theorem B5b (α : Type) (n : Nat) : D3.OK PP TT ⟨20, []⟩ (Aqx α n) (A1 Tryz.f190) :=
 D3.OK.mk3a (Aqv α n) (show Aa (A1 Tryz.f190) = [] by kernel_rfl) trivial (show At (A1 Tryz.f190) = [(1, Ad ((A1 Tryz.f190).at [1, 0]))] by kernel_rfl) ⟨⟨B0k n, trivial⟩, trivial⟩
theorem B0j (n : Nat) : (Aqw n).Sound PP := fk (fn := Tryz.f190) (B5b _ n) 

def Asm {α : Type} (n : Nat) (s5 s6 : Int) (b4 : LR) (f : Int -> Int -> LR -> Option α) (k0 : LR -> Option α) : Option α :=
 bif (decide (s6 < s5)) then
  ob (f126 n 0) fun r_1 =>
  gd (decide ((b4.length + 1) * 56 <= 140737488355328)) (
   f s5 (W (s6 + 1)) (b4 ++ [r_1]))
 else
  k0 b4
abbrev Na : Tm := ⟨[(3, .k (.hw 4)), (5, .d hI), (6, .d hI)], [(4, .arr 31 hR false)], [10], []⟩
abbrev Am3 : Tm := ⟨[(3, .k (.hw 4))], [(4, .arr 31 hR false)], [], []⟩
abbrev V8 : List (Exit × Tm) := [(.exit 0, Am3)]
def V7 {α : Type} (n : Nat) (v : Na.den) (f : Na.den -> Option α) (ks : KS α V8) : Option α := Asm n v.1.2.1 v.1.2.2.1 v.2.1 (fun s5 s6 b4 => f (((), s5, s6, ()), (b4, ()))) (fun w0 => ks.1 (((), ()), (w0, ())))
def Awd {α : Type} (n m : Nat) (s5 s6 : Int) (b4 : LR) (k0 : LR -> Option α) : Option α := A5 (V7 n) m (((), s5, s6, ()), (b4, ())) (fun w => k0 w.2.1, ())
def Am4 (n : Nat) (a0 : Int) : Option LR :=
 Awd n n a0 0 []
  (fun z_2 => (
   some z_2))
def J5 (n : Nat) : Ent3 := ⟨100, [.im hI], [[.one (.own 31 hR)]], fun x => Am4 n x⟩
def A6l (α : Type) (n : Nat) : D3 α := { reg := [(1, ⟨0, [], [(0, { sh := some hR })]⟩), (4, ⟨0, [], [(1, { ent := some (B8 n) }), (2, { sh := some hR })]⟩)], join := [], loop := [(3, ⟨Na, V8, A5 (V7 n) n⟩)] }
theorem A3z (α : Type) (n : Nat) : Al PP (Ah (A6l α n).reg) := ⟨Cd n, trivial⟩
theorem Age (α : Type) (n : Nat) : LO.Sound (α := α) PP ⟨14, []⟩ ⟨Na, V8, A5 (V7 n) n⟩ (.loop ((A1 Tryz.f100).at [1, 1, 0, 1, 0, 0])) := Bf (D := A6l α n) (A3z α n) n
theorem B21 (α : Type) (n : Nat) : D3.OK PP TT ⟨14, []⟩ (A6l α n) (A1 Tryz.f100) :=
 D3.OK.mk3 (A3z α n) (show Aa (A1 Tryz.f100) = [(3, (.loop ((A1 Tryz.f100).at [1, 1, 0, 1, 0, 0])))] by kernel_rfl) ⟨Ab rfl (Age α n), trivial⟩
theorem Awc (n : Nat) : (J5 n).Sound PP := Sx (fn := Tryz.f100) (B21 _ n) 

abbrev Ads : Tm := ⟨[(2, .k (.hp 2 0 0)), (3, .k (.hp 3 0 0)), (4, .k (.hp 4 0 0))], [(2, .var 84 true false [.d hI, .d .nil]), (3, .var 31 true false [.d .bool, .d hIs, .d hIs]), (4, .var 81 true false [.d .bool, .d .nil, .d .nil, .d .nil, .d .nil, .d .bool, .d .nil, .d .nil])], [], []⟩
def Ale (n : Nat) (a0 : Int × Unit) (a1 : Rq) : Option (Bool × LI × LI × LR × Unit × Bool × LI × LI) :=
 ob (Am4 n a0.1) fun r_1 =>
 ob (f126 n 0) fun r_2 =>
 some (a1.1, a1.2.1, a1.2.2, r_1, (), r_2.1, r_2.2.1, r_2.2.2)
def Ai5 (n : Nat) : Ent3 := ⟨190, [.im (.st (.pair hI .nil)), .im hR], [[.mix [.im .bool, .im hIs, .im hIs, .own 31 hR, .im .nil, .im .bool, .im hIs, .im hIs]]], fun x => Ale n x.1 x.2⟩
def Ai6 (α : Type) (n : Nat) : D3 α := { reg := [(1, ⟨0, [], [(3, { entB := some (J5 n), hb := 310 }), (4, { ent := some (B8 n) })]⟩)], join := [], loop := [], any := [(1, Ads)] }
set_option maxHeartbeats 8000000 in
theorem Aw2 (n : Nat) : Ax TT ⟨20, []⟩ [(3, { entB := some (J5 n), hb := 310 }), (4, { ent := some (B8 n) })] Ads (Ad ((A1 Tryz.f190).at [1, 0])) := by
 refine ⟨by kernel_rfl, fun w q hq => ?_⟩
 have e : WT [(3, { entB := some (J5 n), hb := 310 }), (4, { ent := some (B8 n) })] (A8 (Ad ((A1 Tryz.f190).at [1, 0])).toList) q = (∃ (y0 : HF (Aj 1000 (J5 n).ts) (J5 n).forms) (q0 : List (Nat × RV)), q = (3, .bx (J5 n) y0) :: q0 /\ ∃ (y1 : HL (B8 n).rs) (q1 : List (Nat × RV)), q0 = (4, .sv (Aq (B8 n).rs y1)) :: q1 /\ q1 = []) := by kernel_rfl
 rw [e] at hq; obtain ⟨y0, q0, rfl, y1, q1, rfl, rfl⟩ := hq
 all_goals exact .inl (Jp.mk (by kernel_rfl))
theorem Ald (α : Type) (n : Nat) : Al PP (Ah (Ai6 α n).reg) := ⟨Awc n, Cd n, trivial⟩
theorem B0l (α : Type) (n : Nat) : D3.OK PP TT ⟨20, []⟩ (Ai6 α n) (A1 Tryz.f190) :=
 D3.OK.mk3a (Ald α n) (show Aa (A1 Tryz.f190) = [] by kernel_rfl) trivial (show At (A1 Tryz.f190) = [(1, Ad ((A1 Tryz.f190).at [1, 0]))] by kernel_rfl) ⟨⟨Aw2 n, trivial⟩, trivial⟩
theorem Aw1 (n : Nat) : (Ai5 n).Sound PP := Sx (fn := Tryz.f190) (B0l _ n) 

abbrev B0i : Tm := ⟨[(2, .d hI), (3, .k (.hp 3 0 0)), (6, .k (.hp 6 0 0)), (7, .k (.hp 7 0 0))], [(3, .var 84 true false [.d hI, .d .nil]), (6, .var 81 true false [.d .bool, .d .nil, .d .nil, .d .nil, .d .nil, .d .bool, .d .nil, .d .nil]), (7, .var 81 false false [.d .bool, .d hIs, .d hIs, .k (.hw 313), .d .nil, .d .bool, .d hIs, .d hIs]), (313, .arr 31 hR false)], [4], []⟩
def f191 (n : Nat) (a0 : Int × Unit) (a1 : Rq) (a2 : Int) : Option (Rq × LR × Unit × Rq) :=
 ob (Ale n a0 a1) fun r_1 =>
 let J_4 := fun (y_3 : LR) => (
  some ((r_1.1, r_1.2.1, r_1.2.2.1), y_3, (), r_1.2.2.2.2.2))
 bif (decide (a2 < a0.1)) then
  ob (f126 n 1) fun r_2 =>
  gd (decide (0 <= a2) && decide (a2 < (r_1.2.2.2.1.length : Int))) (
   gd (decide (a2.toNat < r_1.2.2.2.1.length)) (
    J_4 (r_1.2.2.2.1.set a2.toNat r_2)))
 else
  J_4 r_1.2.2.2.1
def Aqu (n : Nat) : Ent := ⟨191, [(.st (.pair hI .nil)), hR, hI], [(.st (.pair hR (.pair hRs (.pair .nil hR))))], fun x => f191 n x.1 x.2.1 x.2.2⟩
def B5a (α : Type) (n : Nat) : D3 α := { reg := [(1, ⟨0, [], [(2, { alt := [(Ai5 n)], hb := 310 })]⟩), (3, ⟨4, [], [(3, { ent := some (B8 n) })]⟩)], join := [(4, B0i)], loop := [] }
theorem B0h (n : Nat) : (Aqu n).Sound PP := Ar (fn := Tryz.f191) (D := B5a _ n) ⟨Aw1 n, Cd n, trivial⟩ 

def A0c {α : Type} (n : Nat) (s1 : LI) (s6 s7 s8 s9 : Int) (s16 : LI) (s17 s18 : Int) (b15 : LI) (f : LI -> Int -> Int -> Int -> Int -> LI -> Int -> Int -> LI -> Option α) (k0 : LI -> LI -> Int -> Int -> LI -> Option α) : Option α :=
 let J_3 := fun (_ : Unit) => (
  let J_2 := fun (y_1 : Int) => (
   gd (decide (0 <= (W (s6 + s9))) && decide ((W (s6 + s9)) < (b15.length : Int))) (
    gd (decide ((W (s6 + s9)).toNat < b15.length)) (
     gd (decide (0 <= (W (s6 + s9))) && decide ((W (s6 + s9)) < (b15.length : Int))) (
      gd (decide ((W (s6 + s9)).toNat < b15.length)) (
       f s1 s6 s7 (W (Int.tdiv (W (y_1 + (b15.getD ((W (s6 + s9)).toNat) 0))) 10000)) (W (s9 + 1)) s16 s17 s18 (b15.set ((W (s6 + s9)).toNat) (Int.tmod (W (y_1 + (b15.getD ((W (s6 + s9)).toNat) 0))) 10000)))))))
  bif (decide (s9 < (s1.length : Int))) then
   gd (decide (0 <= s9) && decide (s9 < (s1.length : Int))) (
    J_2 (W (s8 + (W (s7 * (s1.getD s9.toNat 0))))))
  else
   J_2 s8)
 bif (decide (s9 < (s1.length : Int))) then
  J_3 ()
 else
  bif (decide (s8 > 0)) then
   J_3 ()
  else
   k0 s1 s16 s17 s18 b15
abbrev Qz : Tm := ⟨[(1, .d hIs), (5, .k (.hw 15)), (6, .d hI), (7, .d hI), (8, .d hI), (9, .d hI), (16, .d hIs), (17, .d hI), (18, .d hI)], [(15, .arr 3 hI false)], [], []⟩
abbrev Aqe : Tm := ⟨[(1, .d hIs), (5, .k (.hw 15)), (16, .d hIs), (17, .d hI), (18, .d hI)], [(15, .arr 3 hI false)], [], []⟩
abbrev A0b : List (Exit × Tm) := [(.exit 2, Aqe)]
def A0a {α : Type} (n : Nat) (v : Qz.den) (f : Qz.den -> Option α) (ks : KS α A0b) : Option α := A0c n v.1.1 v.1.2.2.1 v.1.2.2.2.1 v.1.2.2.2.2.1 v.1.2.2.2.2.2.1 v.1.2.2.2.2.2.2.1 v.1.2.2.2.2.2.2.2.1 v.1.2.2.2.2.2.2.2.2.1 v.2.1 (fun s1 s6 s7 s8 s9 s16 s17 s18 b15 => f ((s1, (), s6, s7, s8, s9, s16, s17, s18, ()), (b15, ()))) (fun w0 w1 w2 w3 w4 => ks.1 ((w0, (), w1, w2, w3, ()), (w4, ())))
def La {α : Type} (n m : Nat) (s1 : LI) (s6 s7 s8 s9 : Int) (s16 : LI) (s17 s18 : Int) (b15 : LI) (k0 : LI -> LI -> Int -> Int -> LI -> Option α) : Option α := A5 (A0a n) m ((s1, (), s6, s7, s8, s9, s16, s17, s18, ()), (b15, ())) (fun w => k0 w.1.1 w.1.2.2.1 w.1.2.2.2.1 w.1.2.2.2.2.1 w.2.1, ())
theorem Aqd {α n m s1 s6 s7 s8 s9 s16 s17 s18 b15 k0} : La (α := α) n (m + 1) s1 s6 s7 s8 s9 s16 s17 s18 b15 k0 = A0c n s1 s6 s7 s8 s9 s16 s17 s18 b15 (fun s1 s6 s7 s8 s9 s16 s17 s18 b15 => La n m s1 s6 s7 s8 s9 s16 s17 s18 b15 k0) k0 := rfl
def A0f {α : Type} (n : Nat) (s1 s16 : LI) (s17 s18 : Int) (b15 : LI) (f : LI -> LI -> Int -> Int -> LI -> Option α) (k0 : LI -> Option α) : Option α :=
 bif (decide (s18 < s17)) then
  gd (decide (0 <= s18) && decide (s18 < (s16.length : Int))) (
   La n n s1 s18 (s16.getD s18.toNat 0) 0 0 s16 s17 s18 b15
    (fun z_1 z_2 z_3 z_4 z_5 => (
     f z_1 z_2 z_3 (W (z_4 + 1)) z_5)))
 else
  k0 b15
abbrev R0 : Tm := ⟨[(1, .d hIs), (5, .k (.hw 15)), (16, .d hIs), (17, .d hI), (18, .d hI)], [(15, .arr 3 hI false)], [], []⟩
abbrev Aqh : Tm := ⟨[(5, .k (.hw 15))], [(15, .arr 3 hI false)], [], []⟩
abbrev A0e : List (Exit × Tm) := [(.exit 0, Aqh)]
def A0d {α : Type} (n : Nat) (v : R0.den) (f : R0.den -> Option α) (ks : KS α A0e) : Option α := A0f n v.1.1 v.1.2.2.1 v.1.2.2.2.1 v.1.2.2.2.2.1 v.2.1 (fun s1 s16 s17 s18 b15 => f ((s1, (), s16, s17, s18, ()), (b15, ()))) (fun w0 => ks.1 (((), ()), (w0, ())))
def Lb {α : Type} (n m : Nat) (s1 s16 : LI) (s17 s18 : Int) (b15 : LI) (k0 : LI -> Option α) : Option α := A5 (A0d n) m ((s1, (), s16, s17, s18, ()), (b15, ())) (fun w => k0 w.2.1, ())
theorem Aqf {α n m s1 s16 s17 s18 b15 k0} : Lb (α := α) n (m + 1) s1 s16 s17 s18 b15 k0 = A0f n s1 s16 s17 s18 b15 (fun s1 s16 s17 s18 b15 => Lb n m s1 s16 s17 s18 b15 k0) k0 := rfl
abbrev B08 : Tm := ⟨[(1, .d hIs), (5, .k (.hw 15)), (6, .d hI), (7, .d hI), (8, .d hI), (9, .d hI), (16, .d hIs), (17, .d hI), (18, .d hI)], [(15, .arr 3 hI false)], [], []⟩
abbrev Avy : Tm := ⟨[(1, .d hIs), (5, .k (.hw 15)), (6, .d hI), (7, .d hI), (8, .d hI), (9, .d hI), (16, .d hIs), (17, .d hI), (18, .d hI)], [(15, .arr 3 hI false)], [], []⟩
def f200 (n : Nat) (a0 a1 : LI) : Option LI :=
 gd (decide (0 <= (W ((a0.length : Int) + (a1.length : Int)))) && decide ((W ((a0.length : Int) + (a1.length : Int))) <= 4611686018427387904) && decide ((8 : Int) * (W ((a0.length : Int) + (a1.length : Int))) <= 281474976710656)) (
  Lb n n a1 a0 (a0.length : Int) 0 (List.replicate ((W ((a0.length : Int) + (a1.length : Int))).toNat) 0)
   (fun z_6 => (
    ob (f225 n z_6) fun r_7 =>
    some r_7)))
def Gj (n : Nat) : Ent := ⟨200, [hIs, hIs], [hIs], fun x => f200 n x.1 x.2⟩
def A3k (α : Type) (n : Nat) : D3 α := { reg := [(14, ⟨0, [], [(1, { ent := some (Gh n), fz := [(63, hIs)] })]⟩)], join := [(9, B08), (11, Avy)], loop := [(7, ⟨Qz, A0b, A5 (A0a n) n⟩), (3, ⟨R0, A0e, A5 (A0d n) n⟩)] }
theorem Ut (α : Type) (n : Nat) : Al PP (Ah (A3k α n).reg) := ⟨Oh n, trivial⟩
theorem Al8 (α : Type) (n : Nat) : LO.Sound (α := α) PP ⟨65, []⟩ ⟨Qz, A0b, A5 (A0a n) n⟩ (.loop ((A1 Tryz.f200).at [1, 1, 0, 1, 0, 0, 1, 1, 0, 0, 1, 1, 1, 0, 0])) := Bf (D := A3k α n) (Ut α n) n
theorem Aqg (α : Type) (n : Nat) : D3.OK PP TT ⟨65, []⟩ (A3k α n) ((A1 Tryz.f200).at [1, 1, 0, 1, 0, 0]) :=
 D3.OK.mk3 (Ut α n) (show Aa ((A1 Tryz.f200).at [1, 1, 0, 1, 0, 0]) = [(7, (.loop ((A1 Tryz.f200).at [1, 1, 0, 1, 0, 0, 1, 1, 0, 0, 1, 1, 1, 0, 0])))] by kernel_rfl) ⟨Ab rfl (Al8 α n), trivial⟩
theorem Al9 (α : Type) (n : Nat) : LO.Sound (α := α) PP ⟨65, []⟩ ⟨R0, A0e, A5 (A0d n) n⟩ (.loop ((A1 Tryz.f200).at [1, 1, 0, 1, 0, 0])) := lk (Aqg α n) n
theorem B52 (α : Type) (n : Nat) : D3.OK PP TT ⟨65, []⟩ (A3k α n) (A1 Tryz.f200) :=
 D3.OK.mk3 (Ut α n) (show Aa (A1 Tryz.f200) = [(3, (.loop ((A1 Tryz.f200).at [1, 1, 0, 1, 0, 0])))] by kernel_rfl) ⟨Ab rfl (Al9 α n), trivial⟩
theorem G1 (n : Nat) : (Gj n).Sound PP := fk (fn := Tryz.f200) (B52 _ n) 

def A09 {α : Type} (n : Nat) (s0 s1 : LI) (s6 s7 : Int) (b8 : LI) (f : LI -> LI -> Int -> Int -> LI -> Option α) (k0 : LI -> Option α) : Option α :=
 let J_5 := fun (_ : Unit) => (
  let J_4 := fun (y_1 : Int) => (
   let J_3 := fun (y_2 : Int) => (
    gd (decide ((b8.length + 1) * 8 <= 140737488355328)) (
     f s0 s1 (W (Int.tdiv y_2 10000)) (W (s7 + 1)) (b8 ++ [(Int.tmod y_2 10000)])))
   bif (decide (s7 < (s1.length : Int))) then
    gd (decide (0 <= s7) && decide (s7 < (s1.length : Int))) (
     J_3 (W (y_1 + (s1.getD s7.toNat 0))))
   else
    J_3 y_1)
  bif (decide (s7 < (s0.length : Int))) then
   gd (decide (0 <= s7) && decide (s7 < (s0.length : Int))) (
    J_4 (W (s6 + (s0.getD s7.toNat 0))))
  else
   J_4 s6)
 bif (decide (s7 < (max (s0.length : Int) (s1.length : Int)))) then
  J_5 ()
 else
  bif (decide (s6 > 0)) then
   J_5 ()
  else
   k0 b8
abbrev Qy : Tm := ⟨[(0, .d hIs), (1, .d hIs), (5, .k (.hw 8)), (6, .d hI), (7, .d hI)], [(8, .arr 3 hI false)], [45], []⟩
abbrev Aqb : Tm := ⟨[(5, .k (.hw 8))], [(8, .arr 3 hI false)], [], []⟩
abbrev A08 : List (Exit × Tm) := [(.exit 0, Aqb)]
def A07 {α : Type} (n : Nat) (v : Qy.den) (f : Qy.den -> Option α) (ks : KS α A08) : Option α := A09 n v.1.1 v.1.2.1 v.1.2.2.2.1 v.1.2.2.2.2.1 v.2.1 (fun s0 s1 s6 s7 b8 => f ((s0, s1, (), s6, s7, ()), (b8, ()))) (fun w0 => ks.1 (((), ()), (w0, ())))
def L9 {α : Type} (n m : Nat) (s0 s1 : LI) (s6 s7 : Int) (b8 : LI) (k0 : LI -> Option α) : Option α := A5 (A07 n) m ((s0, s1, (), s6, s7, ()), (b8, ())) (fun w => k0 w.2.1, ())
theorem Aqa {α n m s0 s1 s6 s7 b8 k0} : L9 (α := α) n (m + 1) s0 s1 s6 s7 b8 k0 = A09 n s0 s1 s6 s7 b8 (fun s0 s1 s6 s7 b8 => L9 n m s0 s1 s6 s7 b8 k0) k0 := rfl
abbrev B05 : Tm := ⟨[(0, .d hIs), (1, .d hIs), (5, .k (.hw 8)), (6, .d hI), (7, .d hI)], [(8, .arr 3 hI false)], [], []⟩
abbrev B04 : Tm := ⟨[(0, .d hIs), (1, .d hIs), (5, .k (.hw 8)), (6, .d hI), (7, .d hI)], [(8, .arr 3 hI false)], [], []⟩
abbrev B03 : Tm := ⟨[(0, .d hIs), (1, .d hIs), (5, .k (.hw 8)), (6, .d hI), (7, .d hI)], [(8, .arr 3 hI false)], [], []⟩
def f202 (n : Nat) (a0 a1 : LI) : Option LI :=
 L9 n n a0 a1 0 0 []
  (fun z_6 => (
   some z_6))
def Aqc (n : Nat) : Ent := ⟨202, [hIs, hIs], [hIs], fun x => f202 n x.1 x.2⟩
def Adl (α : Type) (n : Nat) : D3 α := { reg := [(1, ⟨0, [], [(0, { sh := some hI })]⟩), (9, ⟨0, [], [(3, { sh := some hI })]⟩)], join := [(5, B05), (7, B04), (9, B03)], loop := [(3, ⟨Qy, A08, A5 (A07 n) n⟩)] }
theorem A8k (α : Type) (n : Nat) : Al PP (Ah (Adl α n).reg) := trivial
theorem Al7 (α : Type) (n : Nat) : LO.Sound (α := α) PP ⟨50, []⟩ ⟨Qy, A08, A5 (A07 n) n⟩ (.loop ((A1 Tryz.f202).at [1, 1, 0, 1, 0, 0])) := Bf (D := Adl α n) (A8k α n) n
theorem B50 (α : Type) (n : Nat) : D3.OK PP TT ⟨50, []⟩ (Adl α n) (A1 Tryz.f202) :=
 D3.OK.mk3 (A8k α n) (show Aa (A1 Tryz.f202) = [(3, (.loop ((A1 Tryz.f202).at [1, 1, 0, 1, 0, 0])))] by kernel_rfl) ⟨Ab rfl (Al7 α n), trivial⟩
theorem B02 (n : Nat) : (Aqc n).Sound PP := fk (fn := Tryz.f202) (B50 _ n) 

abbrev B06 : Tm := ⟨[(0, .d .bool), (1, .d hIs), (2, .d hIs), (6, .k (.hp 6 0 0))], [(6, .var 31 true false [.d .bool, .d .nil, .d .nil])], [], []⟩
def f201 (n : Nat) (a0 : Bool) (a1 a2 : LI) : Option Rq :=
 let J_12 := fun (y_6 : LI) (y_7 : LI) => (
  bif a0 then
   ob (f117 n y_6) fun r_8 =>
   ob (f117 n y_7) fun r_9 =>
   some ((decide ((y_6.length : Int) > 0)), r_8, r_9)
  else
   ob (f117 n y_6) fun r_10 =>
   ob (f117 n y_7) fun r_11 =>
   some (false, r_10, r_11))
 ob (f226 n a1 a2) fun r_1 =>
 ob (f180 n) fun r_2 =>
 ob (f203 n r_1 r_2) fun r_3 =>
 bif (r_3 != 0) then
  ob (f227 n a1 r_1) fun r_4 =>
  ob (f227 n a2 r_1) fun r_5 =>
  J_12 r_4.1 r_5.1
 else
  J_12 a1 a2
def On (n : Nat) : Ent := ⟨201, [.bool, hIs, hIs], [hR], fun x => f201 n x.1 x.2.1 x.2.2⟩
def B51 (α : Type) (n : Nat) : D3 α := { reg := [(1, ⟨0, [], [(2, { ent := some (Ad8 n) })]⟩), (2, ⟨0, [], [(1, { ent := some (Oy n) }), (2, { ent := some (Us n) })]⟩), (3, ⟨0, [], [(2, { ent := some (A3c n) })]⟩), (4, ⟨0, [], [(2, { ent := some (A3c n) })]⟩), (5, ⟨0, [], [(7, { ent := some (K1 n) }), (9, { ent := some (K1 n) })]⟩)], join := [(5, B06)], loop := [] }
theorem Om (n : Nat) : (On n).Sound PP := Ar (fn := Tryz.f201) (D := B51 _ n) ⟨Ahk n, Ox n, Wu n, A62 n, A62 n, J2 n, J2 n, trivial⟩ 

def A05 {α : Type} (n : Nat) (s1 : LI) (s6 s12 s13 : Int) (b310 : LI) (f : LI -> Int -> Int -> Int -> LI -> Option α) (k0 : LI -> Option α) : Option α :=
 bif (decide (s13 < s12)) then
  gd (decide (0 <= s13) && decide (s13 < (b310.length : Int))) (
   gd (decide (s13.toNat < b310.length)) (
    let J_3 := fun (y_2 : Int) => (
     bif (decide (y_2 < 0)) then
      gd (decide (0 <= s13) && decide (s13 < (b310.length : Int))) (
       gd (decide (s13.toNat < b310.length)) (
        f s1 1 s12 (W (s13 + 1)) (b310.set s13.toNat (W (y_2 + 10000)))))
     else
      gd (decide (0 <= s13) && decide (s13 < (b310.length : Int))) (
       gd (decide (s13.toNat < b310.length)) (
        f s1 0 s12 (W (s13 + 1)) (b310.set s13.toNat y_2))))
    bif (decide (s13 < (s1.length : Int))) then
     gd (decide (0 <= s13) && decide (s13 < (s1.length : Int))) (
      J_3 (W ((W ((b310.getD s13.toNat 0) - s6)) - (s1.getD s13.toNat 0))))
    else
     J_3 (W ((b310.getD s13.toNat 0) - s6))))
 else
  k0 b310
abbrev Qw : Tm := ⟨[(1, .d hIs), (5, .k (.hw 310)), (6, .d hI), (12, .d hI), (13, .d hI)], [(310, .arr 3 hI false)], [], []⟩
abbrev Aq4 : Tm := ⟨[(5, .k (.hw 310))], [(310, .arr 3 hI false)], [], []⟩
abbrev A04 : List (Exit × Tm) := [(.exit 0, Aq4)]
def A03 {α : Type} (n : Nat) (v : Qw.den) (f : Qw.den -> Option α) (ks : KS α A04) : Option α := A05 n v.1.1 v.1.2.2.1 v.1.2.2.2.1 v.1.2.2.2.2.1 v.2.1 (fun s1 s6 s12 s13 b310 => f ((s1, (), s6, s12, s13, ()), (b310, ()))) (fun w0 => ks.1 (((), ()), (w0, ())))
def Hg {α : Type} (n m : Nat) (s1 : LI) (s6 s12 s13 : Int) (b310 : LI) (k0 : LI -> Option α) : Option α := A5 (A03 n) m ((s1, (), s6, s12, s13, ()), (b310, ())) (fun w => k0 w.2.1, ())
theorem Aq3 {α n m s1 s6 s12 s13 b310 k0} : Hg (α := α) n (m + 1) s1 s6 s12 s13 b310 k0 = A05 n s1 s6 s12 s13 b310 (fun s1 s6 s12 s13 b310 => Hg n m s1 s6 s12 s13 b310 k0) k0 := rfl
abbrev B00 : Tm := ⟨[(1, .d hIs), (5, .k (.hw 310)), (7, .d hI), (8, .d hI), (12, .d hI), (13, .d hI)], [(310, .arr 3 hI false)], [], []⟩
def f204 (n : Nat) (a0 a1 : LI) : Option LI :=
 ob (I1 n a0) fun r_1 =>
 Hg n n a1 0 (r_1.length : Int) 0 r_1
  (fun z_4 => (
   ob (f225 n z_4) fun r_5 =>
   some r_5))
def Adj (n : Nat) : Ent := ⟨204, [hIs, hIs], [hIs], fun x => f204 n x.1 x.2⟩
def Adk (α : Type) (n : Nat) : D3 α := { reg := [(1, ⟨0, [], [(1, { entB := some (Cq n), hb := 310 })]⟩), (13, ⟨0, [], [(1, { ent := some (Gh n), fz := [(41, hIs)] })]⟩)], join := [(8, B00)], loop := [(3, ⟨Qw, A04, A5 (A03 n) n⟩)] }
theorem A8j (α : Type) (n : Nat) : Al PP (Ah (Adk α n).reg) := ⟨Ro n, Oh n, trivial⟩
theorem Al3 (α : Type) (n : Nat) : LO.Sound (α := α) PP ⟨43, []⟩ ⟨Qw, A04, A5 (A03 n) n⟩ (.loop ((A1 Tryz.f204).at [1, 1, 0, 1, 0, 0])) := Bf (D := Adk α n) (A8j α n) n
theorem B4y (α : Type) (n : Nat) : D3.OK PP TT ⟨43, []⟩ (Adk α n) (A1 Tryz.f204) :=
 D3.OK.mk3 (A8j α n) (show Aa (A1 Tryz.f204) = [(3, (.loop ((A1 Tryz.f204).at [1, 1, 0, 1, 0, 0])))] by kernel_rfl) ⟨Ab rfl (Al3 α n), trivial⟩
theorem Ahr (n : Nat) : (Adj n).Sound PP := fk (fn := Tryz.f204) (B4y _ n) 

def f161 (n : Nat) (a0 a1 : Rq) : Option Rq :=
 ob (f200 n a0.2.1 a1.2.2) fun r_1 =>
 ob (f200 n a1.2.1 a0.2.2) fun r_2 =>
 ob (f200 n a0.2.2 a1.2.2) fun r_3 =>
 bif (a0.1 == a1.1) then
  ob (f202 n r_1 r_2) fun r_4 =>
  ob (f201 n a0.1 r_4 r_3) fun r_5 =>
  some r_5
 else
  ob (f203 n r_1 r_2) fun r_6 =>
  bif (decide (r_6 >= 0)) then
   ob (f204 n r_1 r_2) fun r_7 =>
   ob (f201 n a0.1 r_7 r_3) fun r_8 =>
   some r_8
  else
   ob (f204 n r_2 r_1) fun r_9 =>
   ob (f201 n a1.1 r_9 r_3) fun r_10 =>
   some r_10
def As (n : Nat) : Ent := ⟨161, [hR, hR], [hR], fun x => f161 n x.1 x.2⟩
def B5v (α : Type) (n : Nat) : D3 α := { reg := [(1, ⟨9, [], [(4, { ent := some (Gj n) }), (9, { ent := some (Gj n) })]⟩), (2, ⟨0, [], [(4, { ent := some (Gj n) })]⟩), (4, ⟨6, [], [(4, { ent := some (Aqc n) }), (6, { ent := some (On n) })]⟩), (5, ⟨0, [], [(2, { ent := some (Us n) })]⟩), (6, ⟨6, [], [(4, { ent := some (Adj n) }), (6, { ent := some (On n) })]⟩), (7, ⟨6, [], [(4, { ent := some (Adj n) }), (6, { ent := some (On n) })]⟩)], join := [], loop := [] }
theorem P1 (n : Nat) : (As n).Sound PP := Ar (fn := Tryz.f161) (D := B5v _ n) ⟨G1 n, G1 n, G1 n, B02 n, Om n, Wu n, Ahr n, Om n, Ahr n, Om n, trivial⟩ 

def Aw0 {α : Type} (n : Nat) (s20 : LR) (s21 s22 : Int) (c2_0 : Bool) (c2_1 c2_2 : LI) (c2_3 : LR) (c2_5 : Bool) (c2_6 c2_7 : LI) (c3_0 : Bool) (c3_1 c3_2 : LI) (c3_3 : LR) (c3_5 : Bool) (c3_6 c3_7 : LI) (c4_0 c4_5 c5_0 : Bool) (c5_1 c5_2 : LI) (c5_5 : Bool) (c5_6 c5_7 : LI) (b37 : LR) (f : LR -> Int -> Int -> Bool -> LI -> LI -> LR -> Bool -> LI -> LI -> Bool -> LI -> LI -> LR -> Bool -> LI -> LI -> Bool -> Bool -> Bool -> LI -> LI -> Bool -> LI -> LI -> LR -> Option α) (k0 : Bool -> Bool -> Bool -> LI -> LI -> Bool -> LI -> LI -> LR -> Option α) : Option α :=
 bif (decide (s22 < s21)) then
  gd (decide (0 <= s22) && decide (s22 < (s20.length : Int))) (
   let x_3 := s20.getD s22.toNat (false, [], [])
   gd (decide (0 <= s22) && decide (s22 < (c3_3.length : Int))) (
    let x_4 := c3_3.getD s22.toNat (false, [], [])
    ob (f161 n x_3 x_4) fun r_5 =>
    gd (decide ((b37.length + 1) * 56 <= 140737488355328)) (
     f s20 s21 (W (s22 + 1)) c2_0 c2_1 c2_2 c2_3 c2_5 c2_6 c2_7 c3_0 c3_1 c3_2 c3_3 c3_5 c3_6 c3_7 c4_0 c4_5 c5_0 c5_1 c5_2 c5_5 c5_6 c5_7 (b37 ++ [r_5]))))
 else
  k0 c4_0 c4_5 c5_0 c5_1 c5_2 c5_5 c5_6 c5_7 b37
abbrev R4 : Tm := ⟨[(2, .k (.hp 2 0 0)), (3, .k (.hp 3 0 0)), (4, .k (.hp 4 0 0)), (5, .k (.hp 5 0 0)), (20, .d hRs), (21, .d hI), (22, .d hI)], [(2, .var 81 true false [.d .bool, .d hIs, .d hIs, .d hRs, .d .nil, .d .bool, .d hIs, .d hIs]), (3, .var 81 true false [.d .bool, .d hIs, .d hIs, .d hRs, .d .nil, .d .bool, .d hIs, .d hIs]), (4, .var 81 true false [.d .bool, .d .nil, .d .nil, .d .nil, .d .nil, .d .bool, .d .nil, .d .nil]), (5, .var 81 false false [.d .bool, .d hIs, .d hIs, .k (.hw 37), .d .nil, .d .bool, .d hIs, .d hIs]), (37, .arr 31 hR false)], [7, 36], []⟩
abbrev Aqt : Tm := ⟨[(4, .k (.hp 4 0 0)), (5, .k (.hp 5 0 0))], [(4, .var 81 true false [.d .bool, .d .nil, .d .nil, .d .nil, .d .nil, .d .bool, .d .nil, .d .nil]), (5, .var 81 false false [.d .bool, .d hIs, .d hIs, .k (.hw 37), .d .nil, .d .bool, .d hIs, .d hIs]), (37, .arr 31 hR false)], [2, 3], []⟩
abbrev A0m : List (Exit × Tm) := [(.exit 0, Aqt)]
def A0l {α : Type} (n : Nat) (v : R4.den) (f : R4.den -> Option α) (ks : KS α A0m) : Option α := Aw0 n v.1.2.2.2.2.1 v.1.2.2.2.2.2.1 v.1.2.2.2.2.2.2.1 v.2.1.1 v.2.1.2.1 v.2.1.2.2.1 v.2.1.2.2.2.1 v.2.1.2.2.2.2.2.1 v.2.1.2.2.2.2.2.2.1 v.2.1.2.2.2.2.2.2.2.1 v.2.2.1.1 v.2.2.1.2.1 v.2.2.1.2.2.1 v.2.2.1.2.2.2.1 v.2.2.1.2.2.2.2.2.1 v.2.2.1.2.2.2.2.2.2.1 v.2.2.1.2.2.2.2.2.2.2.1 v.2.2.2.1.1 v.2.2.2.1.2.2.2.2.2.1 v.2.2.2.2.1.1 v.2.2.2.2.1.2.1 v.2.2.2.2.1.2.2.1 v.2.2.2.2.1.2.2.2.2.2.1 v.2.2.2.2.1.2.2.2.2.2.2.1 v.2.2.2.2.1.2.2.2.2.2.2.2.1 v.2.2.2.2.2.1 (fun s20 s21 s22 c2_0 c2_1 c2_2 c2_3 c2_5 c2_6 c2_7 c3_0 c3_1 c3_2 c3_3 c3_5 c3_6 c3_7 c4_0 c4_5 c5_0 c5_1 c5_2 c5_5 c5_6 c5_7 b37 => f (((), (), (), (), s20, s21, s22, ()), ((c2_0, c2_1, c2_2, c2_3, (), c2_5, c2_6, c2_7, ()), (c3_0, c3_1, c3_2, c3_3, (), c3_5, c3_6, c3_7, ()), (c4_0, (), (), (), (), c4_5, (), (), ()), (c5_0, c5_1, c5_2, (), (), c5_5, c5_6, c5_7, ()), b37, ()))) (fun w0 w1 w2 w3 w4 w5 w6 w7 w8 => ks.1 (((), (), ()), ((w0, (), (), (), (), w1, (), (), ()), (w2, w3, w4, (), (), w5, w6, w7, ()), w8, ())))
def B0f {α : Type} (n m : Nat) (s20 : LR) (s21 s22 : Int) (c2_0 : Bool) (c2_1 c2_2 : LI) (c2_3 : LR) (c2_5 : Bool) (c2_6 c2_7 : LI) (c3_0 : Bool) (c3_1 c3_2 : LI) (c3_3 : LR) (c3_5 : Bool) (c3_6 c3_7 : LI) (c4_0 c4_5 c5_0 : Bool) (c5_1 c5_2 : LI) (c5_5 : Bool) (c5_6 c5_7 : LI) (b37 : LR) (k0 : Bool -> Bool -> Bool -> LI -> LI -> Bool -> LI -> LI -> LR -> Option α) : Option α := A5 (A0l n) m (((), (), (), (), s20, s21, s22, ()), ((c2_0, c2_1, c2_2, c2_3, (), c2_5, c2_6, c2_7, ()), (c3_0, c3_1, c3_2, c3_3, (), c3_5, c3_6, c3_7, ()), (c4_0, (), (), (), (), c4_5, (), (), ()), (c5_0, c5_1, c5_2, (), (), c5_5, c5_6, c5_7, ()), b37, ())) (fun w => k0 w.2.1.1 w.2.1.2.2.2.2.2.1 w.2.2.1.1 w.2.2.1.2.1 w.2.2.1.2.2.1 w.2.2.1.2.2.2.2.2.1 w.2.2.1.2.2.2.2.2.2.1 w.2.2.1.2.2.2.2.2.2.2.1 w.2.2.2.1, ())
abbrev Ai2 : Tm := ⟨[(2, .k (.hp 2 0 0)), (3, .k (.hp 3 0 0)), (4, .k (.hp 4 0 0))], [(2, .var 81 true false [.d .bool, .d hIs, .d hIs, .d hRs, .d .nil, .d .bool, .d hIs, .d hIs]), (3, .var 81 true false [.d .bool, .d hIs, .d hIs, .d hRs, .d .nil, .d .bool, .d hIs, .d hIs]), (4, .var 81 true false [.d .bool, .d .nil, .d .nil, .d .nil, .d .nil, .d .bool, .d .nil, .d .nil])], [], []⟩
abbrev Ai1 : Tm := ⟨[(2, .k (.hp 2 0 0)), (3, .k (.hp 3 0 0)), (4, .k (.hp 4 0 0)), (5, .k (.hp 5 0 0)), (6, .d hI), (7, .k (.hp 7 0 0)), (20, .d hRs), (21, .d hI), (22, .d hI)], [(2, .var 81 true false [.d .bool, .d hIs, .d hIs, .d hRs, .d .nil, .d .bool, .d hIs, .d hIs]), (3, .var 81 true false [.d .bool, .d hIs, .d hIs, .d hRs, .d .nil, .d .bool, .d hIs, .d hIs]), (4, .var 81 true false [.d .bool, .d .nil, .d .nil, .d .nil, .d .nil, .d .bool, .d .nil, .d .nil]), (5, .var 81 true false [.d .bool, .d hIs, .d hIs, .d .nil, .d .nil, .d .bool, .d hIs, .d hIs]), (7, .var 31 true false [.d .bool, .d hIs, .d hIs])], [], []⟩
abbrev A8q : Tm := ⟨[(2, .k (.hp 2 0 0)), (3, .k (.hp 3 0 0)), (4, .k (.hp 4 0 0)), (5, .k (.hp 5 0 0)), (6, .d hI), (7, .k (.hp 7 0 0)), (20, .d hRs), (21, .d hI), (22, .d hI)], [(2, .var 81 true false [.d .bool, .d hIs, .d hIs, .d hRs, .d .nil, .d .bool, .d hIs, .d hIs]), (3, .var 81 true false [.d .bool, .d hIs, .d hIs, .d hRs, .d .nil, .d .bool, .d hIs, .d hIs]), (4, .var 81 true false [.d .bool, .d .nil, .d .nil, .d .nil, .d .nil, .d .bool, .d .nil, .d .nil]), (5, .var 81 false false [.d .bool, .d hIs, .d hIs, .k (.hw 37), .d .nil, .d .bool, .d hIs, .d hIs]), (7, .var 31 true false [.d .bool, .d hIs, .d hIs]), (37, .arr 31 hR false)], [], []⟩
def f192 (n : Nat) (a0 a1 : Rq × LR × Unit × Rq) : Option (Rq × LR × Unit × Rq) :=
 ob (f161 n a0.1 a1.1) fun r_1 =>
 ob (f161 n a0.2.2.2 a1.2.2.2) fun r_2 =>
 bif (decide (0 < (a0.2.1.length : Int))) then
  gd (decide (0 < (a0.2.1.length : Int))) (
   let x_6 := a0.2.1.getD 0 (false, [], [])
   gd (decide (0 < (a1.2.1.length : Int))) (
    let x_7 := a1.2.1.getD 0 (false, [], [])
    ob (f161 n x_6 x_7) fun r_8 =>
    B0f n n a0.2.1 (a0.2.1.length : Int) 1 a0.1.1 a0.1.2.1 a0.1.2.2 a0.2.1 a0.2.2.2.1 a0.2.2.2.2.1 a0.2.2.2.2.2 a1.1.1 a1.1.2.1 a1.1.2.2 a1.2.1 a1.2.2.2.1 a1.2.2.2.2.1 a1.2.2.2.2.2 false false r_1.1 r_1.2.1 r_1.2.2 r_2.1 r_2.2.1 r_2.2.2 [r_8]
     (fun z_9 z_10 z_11 z_12 z_13 z_14 z_15 z_16 z_17 => (
      some ((z_11, z_12, z_13), z_17, (), z_14, z_15, z_16)))))
 else
  some (r_1, [], (), r_2)
def Adq (n : Nat) : Ent := ⟨192, [(.st (.pair hR (.pair hRs (.pair .nil hR)))), (.st (.pair hR (.pair hRs (.pair .nil hR))))], [(.st (.pair hR (.pair hRs (.pair .nil hR))))], fun x => f192 n x.1 x.2⟩
def Adr (α : Type) (n : Nat) : D3 α := { reg := [(1, ⟨0, [], [(4, { ent := some (As n) }), (9, { ent := some (As n) })]⟩), (5, ⟨0, [], [(8, { ent := some (As n) }), (9, { sh := some hR }), (10, { sh := some hR })]⟩)], join := [], loop := [(3, ⟨R4, A0m, A5 (A0l n) n⟩)], any := [(1, Ai2), (5, Ai1), (5, A8q)] }
set_option maxHeartbeats 8000000 in
theorem B0g (n : Nat) : Ax TT ⟨60, []⟩ [(4, { ent := some (As n) }), (9, { ent := some (As n) })] Ai2 (Ad ((A1 Tryz.f192).at [1, 0])) := by
 refine ⟨by kernel_rfl, fun w q hq => ?_⟩
 have e : WT [(4, { ent := some (As n) }), (9, { ent := some (As n) })] (A8 (Ad ((A1 Tryz.f192).at [1, 0])).toList) q = (∃ (y0 : HL (As n).rs) (q0 : List (Nat × RV)), q = (4, .sv (Aq (As n).rs y0)) :: q0 /\ ∃ (y1 : HL (As n).rs) (q1 : List (Nat × RV)), q0 = (9, .sv (Aq (As n).rs y1)) :: q1 /\ q1 = []) := by kernel_rfl
 rw [e] at hq; obtain ⟨y0, q0, rfl, y1, q1, rfl, rfl⟩ := hq
 all_goals exact .inr ⟨12, by kernel_rfl, by kernel_rfl, by kernel_rfl⟩
set_option maxHeartbeats 8000000 in
theorem Ai3 (n : Nat) : Ax TT ⟨60, []⟩ [(8, { ent := some (As n) }), (9, { sh := some hR }), (10, { sh := some hR })] Ai1 (Ad ((A1 Tryz.f192).at [1, 1, 0, 1, 0, 0, 1, 1, 0, 0, 1, 0])) := by
 refine ⟨by kernel_rfl, fun w q hq => ?_⟩
 have e : WT [(8, { ent := some (As n) }), (9, { sh := some hR }), (10, { sh := some hR })] (A8 (Ad ((A1 Tryz.f192).at [1, 1, 0, 1, 0, 0, 1, 1, 0, 0, 1, 0])).toList) q = (∃ (y0 : HL (As n).rs) (q0 : List (Nat × RV)), q = (8, .sv (Aq (As n).rs y0)) :: q0 /\ q0 = []) := by kernel_rfl
 rw [e] at hq; obtain ⟨y0, q0, rfl, rfl⟩ := hq
 all_goals exact .inr ⟨10, by kernel_rfl, by kernel_rfl, by kernel_rfl⟩
set_option maxHeartbeats 8000000 in
theorem A8r (n : Nat) : Ax TT ⟨60, []⟩ [(8, { ent := some (As n) }), (9, { sh := some hR }), (10, { sh := some hR })] A8q (Ad ((A1 Tryz.f192).at [1, 1, 0, 1, 0, 0, 1, 1, 0, 0, 1, 0])) := by
 refine ⟨by kernel_rfl, fun w q hq => ?_⟩
 have e : WT [(8, { ent := some (As n) }), (9, { sh := some hR }), (10, { sh := some hR })] (A8 (Ad ((A1 Tryz.f192).at [1, 1, 0, 1, 0, 0, 1, 1, 0, 0, 1, 0])).toList) q = (∃ (y0 : HL (As n).rs) (q0 : List (Nat × RV)), q = (8, .sv (Aq (As n).rs y0)) :: q0 /\ q0 = []) := by kernel_rfl
 rw [e] at hq; obtain ⟨y0, q0, rfl, rfl⟩ := hq
 all_goals exact .inr ⟨10, by kernel_rfl, by kernel_rfl, by kernel_rfl⟩
theorem A8p (α : Type) (n : Nat) : Al PP (Ah (Adr α n).reg) := ⟨P1 n, P1 n, P1 n, trivial⟩
theorem Aqs (α : Type) (n : Nat) : D3.OK PP TT ⟨60, []⟩ (Adr α n) ((A1 Tryz.f192).at [1, 1, 0, 1, 0, 0]) :=
 D3.OK.mk3a (A8p α n) (show Aa ((A1 Tryz.f192).at [1, 1, 0, 1, 0, 0]) = [] by kernel_rfl) trivial (show At ((A1 Tryz.f192).at [1, 1, 0, 1, 0, 0]) = [(5, Ad ((A1 Tryz.f192).at [1, 1, 0, 1, 0, 0, 1, 1, 0, 0, 1, 0])), (7, Ad ((A1 Tryz.f192).at [1, 1, 0, 1, 0, 0, 1, 1, 0, 0, 1, 1, 1, 0]))] by kernel_rfl) ⟨⟨Ai3 n, A8r n, trivial⟩, trivial, trivial⟩
theorem Alc (α : Type) (n : Nat) : LO.Sound (α := α) PP ⟨60, []⟩ ⟨R4, A0m, A5 (A0l n) n⟩ (.loop ((A1 Tryz.f192).at [1, 1, 0, 1, 0, 0])) := lk (Aqs α n) n
theorem B59 (α : Type) (n : Nat) : D3.OK PP TT ⟨60, []⟩ (Adr α n) (A1 Tryz.f192) :=
 D3.OK.mk3a (A8p α n) (show Aa (A1 Tryz.f192) = [(3, (.loop ((A1 Tryz.f192).at [1, 1, 0, 1, 0, 0])))] by kernel_rfl) ⟨Ab rfl (Alc α n), trivial⟩ (show At (A1 Tryz.f192) = [(1, Ad ((A1 Tryz.f192).at [1, 0])), (5, Ad ((A1 Tryz.f192).at [1, 1, 0, 1, 0, 0, 1, 1, 0, 0, 1, 0])), (7, Ad ((A1 Tryz.f192).at [1, 1, 0, 1, 0, 0, 1, 1, 0, 0, 1, 1, 1, 0]))] by kernel_rfl) ⟨⟨B0g n, trivial⟩, ⟨Ai3 n, A8r n, trivial⟩, trivial, trivial⟩
theorem Ai0 (n : Nat) : (Adq n).Sound PP := fk (fn := Tryz.f192) (B59 _ n) 

def f178 (n : Nat) (a0 a1 : Rq) : Option Rq :=
 ob (f200 n a0.2.1 a1.2.1) fun r_1 =>
 ob (f200 n a0.2.2 a1.2.2) fun r_2 =>
 ob (f201 n (!(a0.1 == a1.1)) r_1 r_2) fun r_3 =>
 some r_3
def Ak (n : Nat) : Ent := ⟨178, [hR, hR], [hR], fun x => f178 n x.1 x.2⟩
def B5l (α : Type) (n : Nat) : D3 α := { reg := [(1, ⟨15, [], [(9, { ent := some (Gj n) }), (14, { ent := some (Gj n) }), (15, { ent := some (On n) })]⟩)], join := [], loop := [] }
theorem Cc (n : Nat) : (Ak n).Sound PP := Ar (fn := Tryz.f178) (D := B5l _ n) ⟨G1 n, G1 n, Om n, trivial⟩ 

def f221 (n : Nat) (a0 a1 : Rq) : Option Rq :=
 ob (f178 n a0 a1) fun r_1 =>
 some r_1
def Gi (n : Nat) : Ent := ⟨221, [hR, (.ref hR)], [hR], fun x => f221 n x.1 x.2⟩
def B4n (α : Type) (n : Nat) : D3 α := { reg := [(1, ⟨0, [], [(2, { ent := some (Ak n) })]⟩)], join := [], loop := [] }
theorem Azn (n : Nat) : (Gi n).Sound PP := Ar (fn := Tryz.f221) (D := B4n _ n) ⟨Cc n, trivial⟩ 

def Zn {α : Type} (n : Nat) (s3 : Rq) (s4 : (Bool × LI × LI × LR × Unit × Bool × LI × LI) × Rq) (s18 : LR) (s19 s20 : Int) (c5_0 : Bool) (c5_1 c5_2 : LI) (c5_3 : LR) (c5_5 : Bool) (c5_6 c5_7 : LI) (c10_0 c10_5 c11_0 : Bool) (c11_1 c11_2 : LI) (c11_5 : Bool) (c11_6 c11_7 : LI) (b31 : LR) (f : Rq -> ((Bool × LI × LI × LR × Unit × Bool × LI × LI) × Rq) -> LR -> Int -> Int -> Bool -> LI -> LI -> LR -> Bool -> LI -> LI -> Bool -> Bool -> Bool -> LI -> LI -> Bool -> LI -> LI -> LR -> Option α) (k0 : Bool -> Bool -> Bool -> LI -> LI -> Bool -> LI -> LI -> LR -> Option α) : Option α :=
 bif (decide (s20 < s19)) then
  gd (decide (0 <= s20) && decide (s20 < (s18.length : Int))) (
   let x_1 := s18.getD s20.toNat (false, [], [])
   ob (f221 n x_1 s3) fun r_2 =>
   gd (decide ((b31.length + 1) * 56 <= 140737488355328)) (
    f s3 s4 s18 s19 (W (s20 + 1)) c5_0 c5_1 c5_2 c5_3 c5_5 c5_6 c5_7 c10_0 c10_5 c11_0 c11_1 c11_2 c11_5 c11_6 c11_7 (b31 ++ [r_2])))
 else
  k0 c10_0 c10_5 c11_0 c11_1 c11_2 c11_5 c11_6 c11_7 b31
abbrev Eo : Tm := ⟨[(3, .d (.clo 221 (.ref hR))), (4, .d (.clo 222 (.pair (.ref (.st (.pair .bool (.pair hIs (.pair hIs (.pair hRs (.pair .nil (.pair .bool (.pair hIs hIs))))))))) (.ref hR)))), (5, .k (.hp 5 0 0)), (10, .k (.hp 10 0 0)), (11, .k (.hp 11 0 0)), (18, .d hRs), (19, .d hI), (20, .d hI)], [(5, .var 81 true false [.d .bool, .d hIs, .d hIs, .d hRs, .d .nil, .d .bool, .d hIs, .d hIs]), (10, .var 81 true false [.d .bool, .d .nil, .d .nil, .d .nil, .d .nil, .d .bool, .d .nil, .d .nil]), (11, .var 81 false false [.d .bool, .d hIs, .d hIs, .k (.hw 31), .d .nil, .d .bool, .d hIs, .d hIs]), (31, .arr 31 hR false)], [13, 30], []⟩
abbrev Xs : Tm := ⟨[(10, .k (.hp 10 0 0)), (11, .k (.hp 11 0 0))], [(10, .var 81 true false [.d .bool, .d .nil, .d .nil, .d .nil, .d .nil, .d .bool, .d .nil, .d .nil]), (11, .var 81 false false [.d .bool, .d hIs, .d hIs, .k (.hw 31), .d .nil, .d .bool, .d hIs, .d hIs]), (31, .arr 31 hR false)], [5], []⟩
abbrev H5 : List (Exit × Tm) := [(.exit 0, Xs)]
def H4 {α : Type} (n : Nat) (v : Eo.den) (f : Eo.den -> Option α) (ks : KS α H5) : Option α := Zn n v.1.1 v.1.2.1 v.1.2.2.2.2.2.1 v.1.2.2.2.2.2.2.1 v.1.2.2.2.2.2.2.2.1 v.2.1.1 v.2.1.2.1 v.2.1.2.2.1 v.2.1.2.2.2.1 v.2.1.2.2.2.2.2.1 v.2.1.2.2.2.2.2.2.1 v.2.1.2.2.2.2.2.2.2.1 v.2.2.1.1 v.2.2.1.2.2.2.2.2.1 v.2.2.2.1.1 v.2.2.2.1.2.1 v.2.2.2.1.2.2.1 v.2.2.2.1.2.2.2.2.2.1 v.2.2.2.1.2.2.2.2.2.2.1 v.2.2.2.1.2.2.2.2.2.2.2.1 v.2.2.2.2.1 (fun s3 s4 s18 s19 s20 c5_0 c5_1 c5_2 c5_3 c5_5 c5_6 c5_7 c10_0 c10_5 c11_0 c11_1 c11_2 c11_5 c11_6 c11_7 b31 => f ((s3, s4, (), (), (), s18, s19, s20, ()), ((c5_0, c5_1, c5_2, c5_3, (), c5_5, c5_6, c5_7, ()), (c10_0, (), (), (), (), c10_5, (), (), ()), (c11_0, c11_1, c11_2, (), (), c11_5, c11_6, c11_7, ()), b31, ()))) (fun w0 w1 w2 w3 w4 w5 w6 w7 w8 => ks.1 (((), (), ()), ((w0, (), (), (), (), w1, (), (), ()), (w2, w3, w4, (), (), w5, w6, w7, ()), w8, ())))
def A3g {α : Type} (n m : Nat) (s3 : Rq) (s4 : (Bool × LI × LI × LR × Unit × Bool × LI × LI) × Rq) (s18 : LR) (s19 s20 : Int) (c5_0 : Bool) (c5_1 c5_2 : LI) (c5_3 : LR) (c5_5 : Bool) (c5_6 c5_7 : LI) (c10_0 c10_5 c11_0 : Bool) (c11_1 c11_2 : LI) (c11_5 : Bool) (c11_6 c11_7 : LI) (b31 : LR) (k0 : Bool -> Bool -> Bool -> LI -> LI -> Bool -> LI -> LI -> LR -> Option α) : Option α := A5 (H4 n) m ((s3, s4, (), (), (), s18, s19, s20, ()), ((c5_0, c5_1, c5_2, c5_3, (), c5_5, c5_6, c5_7, ()), (c10_0, (), (), (), (), c10_5, (), (), ()), (c11_0, c11_1, c11_2, (), (), c11_5, c11_6, c11_7, ()), b31, ())) (fun w => k0 w.2.1.1 w.2.1.2.2.2.2.2.1 w.2.2.1.1 w.2.2.1.2.1 w.2.2.1.2.2.1 w.2.2.1.2.2.2.2.2.1 w.2.2.1.2.2.2.2.2.2.1 w.2.2.1.2.2.2.2.2.2.2.1 w.2.2.2.1, ())
abbrev N6 : Tm := ⟨[(3, .d (.clo 221 (.ref hR))), (4, .d (.clo 222 (.pair (.ref (.st (.pair .bool (.pair hIs (.pair hIs (.pair hRs (.pair .nil (.pair .bool (.pair hIs hIs))))))))) (.ref hR)))), (5, .k (.hp 5 0 0)), (10, .k (.hp 10 0 0)), (11, .k (.hp 11 0 0)), (12, .d hI), (13, .k (.hp 13 0 0)), (18, .d hRs), (19, .d hI), (20, .d hI)], [(5, .var 81 true false [.d .bool, .d hIs, .d hIs, .d hRs, .d .nil, .d .bool, .d hIs, .d hIs]), (10, .var 81 true false [.d .bool, .d .nil, .d .nil, .d .nil, .d .nil, .d .bool, .d .nil, .d .nil]), (11, .var 81 true false [.d .bool, .d hIs, .d hIs, .d .nil, .d .nil, .d .bool, .d hIs, .d hIs]), (13, .var 31 true false [.d .bool, .d hIs, .d hIs])], [6, 7], []⟩
abbrev Kh : Tm := ⟨[(3, .d (.clo 221 (.ref hR))), (4, .d (.clo 222 (.pair (.ref (.st (.pair .bool (.pair hIs (.pair hIs (.pair hRs (.pair .nil (.pair .bool (.pair hIs hIs))))))))) (.ref hR)))), (5, .k (.hp 5 0 0)), (10, .k (.hp 10 0 0)), (11, .k (.hp 11 0 0)), (12, .d hI), (13, .k (.hp 13 0 0)), (18, .d hRs), (19, .d hI), (20, .d hI)], [(5, .var 81 true false [.d .bool, .d hIs, .d hIs, .d hRs, .d .nil, .d .bool, .d hIs, .d hIs]), (10, .var 81 true false [.d .bool, .d .nil, .d .nil, .d .nil, .d .nil, .d .bool, .d .nil, .d .nil]), (11, .var 81 false false [.d .bool, .d hIs, .d hIs, .k (.hw 31), .d .nil, .d .bool, .d hIs, .d hIs]), (13, .var 31 true false [.d .bool, .d hIs, .d hIs]), (31, .arr 31 hR false)], [], []⟩
def Ul (n : Nat) (a0 : Rq × LR × Unit × Rq) (a1 a2 a3 : Rq) (a4 : (Bool × LI × LI × LR × Unit × Bool × LI × LI) × Rq) : Option (Rq × LR × Unit × Rq) :=
 bif (decide (0 < (a0.2.1.length : Int))) then
  gd (decide (0 < (a0.2.1.length : Int))) (
   let x_3 := a0.2.1.getD 0 (false, [], [])
   ob (f221 n x_3 a3) fun r_4 =>
   A3g n n a3 a4 a0.2.1 (a0.2.1.length : Int) 1 a0.1.1 a0.1.2.1 a0.1.2.2 a0.2.1 a0.2.2.2.1 a0.2.2.2.2.1 a0.2.2.2.2.2 false false a1.1 a1.2.1 a1.2.2 a2.1 a2.2.1 a2.2.2 [r_4]
    (fun z_5 z_6 z_7 z_8 z_9 z_10 z_11 z_12 z_13 => (
     some ((z_7, z_8, z_9), z_13, (), z_10, z_11, z_12))))
 else
  some (a1, [], (), a2)
def D5 (n : Nat) : Ent := ⟨220, [(.st (.pair hR (.pair hRs (.pair .nil hR)))), hR, hR, (.clo 221 (.ref hR)), (.clo 222 (.pair (.ref (.st (.pair .bool (.pair hIs (.pair hIs (.pair hRs (.pair .nil (.pair .bool (.pair hIs hIs))))))))) (.ref hR)))], [(.st (.pair hR (.pair hRs (.pair .nil hR))))], fun x => Ul n x.1 x.2.1 x.2.2.1 x.2.2.2.1 x.2.2.2.2⟩
def Iy (α : Type) (n : Nat) : D3 α := { reg := [(5, ⟨0, [], [(4, { ent := some (Gi n) }), (5, { sh := some hR }), (6, { sh := some hR })]⟩)], join := [], loop := [(3, ⟨Eo, H5, A5 (H4 n) n⟩)], any := [(5, N6), (5, Kh)] }
set_option maxHeartbeats 8000000 in
theorem N7 (n : Nat) : Ax TT ⟨46, []⟩ [(4, { ent := some (Gi n) }), (5, { sh := some hR }), (6, { sh := some hR })] N6 (Ad ((A1 Tryz.f220).at [1, 1, 0, 1, 0, 0, 1, 1, 0, 0, 1, 0])) := by
 refine ⟨by kernel_rfl, fun w q hq => ?_⟩
 have e : WT [(4, { ent := some (Gi n) }), (5, { sh := some hR }), (6, { sh := some hR })] (A8 (Ad ((A1 Tryz.f220).at [1, 1, 0, 1, 0, 0, 1, 1, 0, 0, 1, 0])).toList) q = (∃ (y0 : HL (Gi n).rs) (q0 : List (Nat × RV)), q = (4, .sv (Aq (Gi n).rs y0)) :: q0 /\ q0 = []) := by kernel_rfl
 rw [e] at hq; obtain ⟨y0, q0, rfl, rfl⟩ := hq
 all_goals exact .inr ⟨6, by kernel_rfl, by kernel_rfl, by kernel_rfl⟩
set_option maxHeartbeats 8000000 in
theorem Ki (n : Nat) : Ax TT ⟨46, []⟩ [(4, { ent := some (Gi n) }), (5, { sh := some hR }), (6, { sh := some hR })] Kh (Ad ((A1 Tryz.f220).at [1, 1, 0, 1, 0, 0, 1, 1, 0, 0, 1, 0])) := by
 refine ⟨by kernel_rfl, fun w q hq => ?_⟩
 have e : WT [(4, { ent := some (Gi n) }), (5, { sh := some hR }), (6, { sh := some hR })] (A8 (Ad ((A1 Tryz.f220).at [1, 1, 0, 1, 0, 0, 1, 1, 0, 0, 1, 0])).toList) q = (∃ (y0 : HL (Gi n).rs) (q0 : List (Nat × RV)), q = (4, .sv (Aq (Gi n).rs y0)) :: q0 /\ q0 = []) := by kernel_rfl
 rw [e] at hq; obtain ⟨y0, q0, rfl, rfl⟩ := hq
 all_goals exact .inr ⟨6, by kernel_rfl, by kernel_rfl, by kernel_rfl⟩
theorem Kg (α : Type) (n : Nat) : Al PP (Ah (Iy α n).reg) := ⟨Azn n, trivial⟩
theorem Xr (α : Type) (n : Nat) : D3.OK PP TT ⟨46, []⟩ (Iy α n) ((A1 Tryz.f220).at [1, 1, 0, 1, 0, 0]) :=
 D3.OK.mk3a (Kg α n) (show Aa ((A1 Tryz.f220).at [1, 1, 0, 1, 0, 0]) = [] by kernel_rfl) trivial (show At ((A1 Tryz.f220).at [1, 1, 0, 1, 0, 0]) = [(5, Ad ((A1 Tryz.f220).at [1, 1, 0, 1, 0, 0, 1, 1, 0, 0, 1, 0])), (7, Ad ((A1 Tryz.f220).at [1, 1, 0, 1, 0, 0, 1, 1, 0, 0, 1, 1, 1, 0]))] by kernel_rfl) ⟨⟨N7 n, Ki n, trivial⟩, trivial, trivial⟩
theorem Uk (α : Type) (n : Nat) : LO.Sound (α := α) PP ⟨46, []⟩ ⟨Eo, H5, A5 (H4 n) n⟩ (.loop ((A1 Tryz.f220).at [1, 1, 0, 1, 0, 0])) := lk (Xr α n) n
theorem A64 (α : Type) (n : Nat) : D3.OK PP TT ⟨46, []⟩ (Iy α n) (A1 Tryz.f220) :=
 D3.OK.mk3a (Kg α n) (show Aa (A1 Tryz.f220) = [(3, (.loop ((A1 Tryz.f220).at [1, 1, 0, 1, 0, 0])))] by kernel_rfl) ⟨Ab rfl (Uk α n), trivial⟩ (show At (A1 Tryz.f220) = [(5, Ad ((A1 Tryz.f220).at [1, 1, 0, 1, 0, 0, 1, 1, 0, 0, 1, 0])), (7, Ad ((A1 Tryz.f220).at [1, 1, 0, 1, 0, 0, 1, 1, 0, 0, 1, 1, 1, 0]))] by kernel_rfl) ⟨⟨N7 n, Ki n, trivial⟩, trivial, trivial⟩
theorem A3f (n : Nat) : (D5 n).Sound PP := fk (fn := Tryz.f220) (A64 _ n) 

end Go.Ev
