/- DERIVED. What the functions compute, and that they do. -/
import Derived.Test.YtcoilfmbghghpaaEe

set_option linter.all false
set_option linter.unusedVariables false
set_option linter.unusedSimpArgs false

namespace Go.Ev
open Go Go.Proofs Go.RowKit Go.Shelf
def f69 (n : Nat) (a0 : LI) (a1 : Int) : Option Int :=
  bif (decide ((W (a1 - (a0.length : Int))) < 0)) then
    some (-1)
  else
    some (W (a1 - (a0.length : Int)))
def f69_E (n : Nat) : Ent := ⟨69, [hIs, hI], [hI], fun x => f69 n x.1 x.2⟩
def f69_D (α : Type) (n : Nat) : D3 α := { reg := [], join := [], loop := [] }
theorem f69_ents (α : Type) (n : Nat) : AllS Try.prog (entsOf (f69_D α n).reg) := trivial
theorem f69_d (α : Type) (n : Nat) : D3.OK Try.prog (tyOf Try.prog) ⟨12, []⟩ (f69_D α n) (bodyOf Try.f69) :=
  D3.OK.mk3 (f69_ents α n) (show loopsOf (bodyOf Try.f69) = [] by kernel_rfl) trivial
theorem f69_ok (n : Nat) : (f69_E n).Sound Try.prog :=
  fn_ok (tyOf_ok _) prog_fol (f69_D _ n) (show Try.prog.funcs[69]? = some Try.f69 by kernel_rfl) (by kernel_rfl) (show Try.f69.body = some (bodyOf Try.f69) by kernel_rfl) rfl rfl (Nat.le_of_ble_eq_true rfl) (f69_d _ n) (by intro x; kernel_rfl) 


def f20 (n : Nat) (a0 : Rq) (a1 : Int) : Option Int :=
  ob (f69 n a0.2.1 a1) fun r_1 =>
  bif (decide (r_1 < 0)) then
    some (-1)
  else
    ob (f69 n a0.2.2 r_1) fun r_2 =>
    bif (decide (r_2 < 0)) then
      some (-1)
    else
      some r_2
def f20_E (n : Nat) : Ent := ⟨20, [hR, hI], [hI], fun x => f20 n x.1 x.2⟩
def f20_D (α : Type) (n : Nat) : D3 α := { reg := [(1, ⟨0, [], [(3, { ent := some (f69_E n) })]⟩), (4, ⟨0, [], [(3, { ent := some (f69_E n) })]⟩)], join := [], loop := [] }
theorem f20_ents (α : Type) (n : Nat) : AllS Try.prog (entsOf (f20_D α n).reg) := ⟨f69_ok n, f69_ok n, trivial⟩
theorem f20_d (α : Type) (n : Nat) : D3.OK Try.prog (tyOf Try.prog) ⟨18, []⟩ (f20_D α n) (bodyOf Try.f20) :=
  D3.OK.mk3 (f20_ents α n) (show loopsOf (bodyOf Try.f20) = [] by kernel_rfl) trivial
theorem f20_ok (n : Nat) : (f20_E n).Sound Try.prog :=
  fn_ok (tyOf_ok _) prog_fol (f20_D _ n) (show Try.prog.funcs[20]? = some Try.f20 by kernel_rfl) (by kernel_rfl) (show Try.f20.body = some (bodyOf Try.f20) by kernel_rfl) rfl rfl (Nat.le_of_ble_eq_true rfl) (f20_d _ n) (by intro x; kernel_rfl) 


def f71_L3B {α : Type} (n : Nat) (s0 : LI) (s4 : Int) (b7 : LI) (f : LI → Int → LI → Option α) (k0 : LI → Option α) : Option α :=
  bif (decide (s4 < (s0.length : Int))) then
    gd (decide (0 ≤ s4) && decide (s4 < (s0.length : Int))) (
      gd (decide (0 ≤ s4) && decide (s4 < (b7.length : Int))) (
        gd (decide (s4.toNat < b7.length)) (
          f s0 (W (s4 + 1)) (b7.set s4.toNat (s0.getD s4.toNat 0)))))
  else
    k0 b7
abbrev f71_L3H : Tm := ⟨[(0, .d hIs), (3, .k (.hw 7)), (4, .d hI)], [(7, .arr 3 hI false)], [], []⟩
abbrev f71_L3X0 : Tm := ⟨[(3, .k (.hw 7))], [(7, .arr 3 hI false)], [], []⟩
abbrev f71_L3O : List (Exit × Tm) := [(.exit 0, f71_L3X0)]
def f71_L3U {α : Type} (n : Nat) (v : f71_L3H.den) (f : f71_L3H.den → Option α) (ks : KS α f71_L3O) : Option α := f71_L3B n v.1.1 v.1.2.2.1 v.2.1 (fun s0 s4 b7 => f ((s0, (), s4, ()), (b7, ()))) (fun w0 => ks.1 (((), ()), (w0, ())))
def f71_L3 {α : Type} (n m : Nat) (s0 : LI) (s4 : Int) (b7 : LI) (k0 : LI → Option α) : Option α := rounds (f71_L3U n) m ((s0, (), s4, ()), (b7, ())) (fun w => k0 w.2.1, ())
theorem f71_L3_0 {α n s0 s4 b7 k0} : f71_L3 (α := α) n 0 s0 s4 b7 k0 = none := rfl
theorem f71_L3_s {α n m s0 s4 b7 k0} : f71_L3 (α := α) n (m + 1) s0 s4 b7 k0 = f71_L3B n s0 s4 b7 (fun s0 s4 b7 => f71_L3 n m s0 s4 b7 k0) k0 := rfl
def f71 (n : Nat) (a0 : LI) : Option LI :=
  gd (decide (0 ≤ (a0.length : Int)) && decide ((a0.length : Int) ≤ 4611686018427387904) && decide ((8 : Int) * (a0.length : Int) ≤ 281474976710656)) (
    f71_L3 n n a0 0 (List.replicate ((a0.length : Int).toNat) 0)
      (fun z_1 => (
        some z_1)))
def f71_E (n : Nat) : Ent := ⟨71, [hIs], [hIs], fun x => f71 n x⟩
def f71_D (α : Type) (n : Nat) : D3 α := { reg := [], join := [], loop := [(3, ⟨f71_L3H, f71_L3O, rounds (f71_L3U n) n⟩)] }
theorem f71_ents (α : Type) (n : Nat) : AllS Try.prog (entsOf (f71_D α n).reg) := trivial
theorem f71_L3_d (α : Type) (n : Nat) : D3.OK Try.prog (tyOf Try.prog) ⟨22, []⟩ (f71_D α n) ((bodyOf Try.f71).at [1, 1, 0, 1, 0, 0]) :=
  D3.OK.mk3 (f71_ents α n) (show loopsOf ((bodyOf Try.f71).at [1, 1, 0, 1, 0, 0]) = [] by kernel_rfl) trivial
theorem f71_L3_ok (α : Type) (n : Nat) : LO.Sound (α := α) Try.prog ⟨22, []⟩ ⟨f71_L3H, f71_L3O, rounds (f71_L3U n) n⟩ (.loop ((bodyOf Try.f71).at [1, 1, 0, 1, 0, 0])) :=
  loop_ok (tyOf_ok _) prog_fol (f71_L3U n) (f71_L3_d α n) (by intro v f ks; kernel_rfl) n
theorem f71_d (α : Type) (n : Nat) : D3.OK Try.prog (tyOf Try.prog) ⟨22, []⟩ (f71_D α n) (bodyOf Try.f71) :=
  D3.OK.mk3 (f71_ents α n) (show loopsOf (bodyOf Try.f71) = [(3, (.loop ((bodyOf Try.f71).at [1, 1, 0, 1, 0, 0])))] by kernel_rfl) ⟨look_sound rfl (f71_L3_ok α n), trivial⟩
theorem f71_ok (n : Nat) : (f71_E n).Sound Try.prog :=
  fn_ok (tyOf_ok _) prog_fol (f71_D _ n) (show Try.prog.funcs[71]? = some Try.f71 by kernel_rfl) (by kernel_rfl) (show Try.f71.body = some (bodyOf Try.f71) by kernel_rfl) rfl rfl (Nat.le_of_ble_eq_true rfl) (f71_d _ n) (by intro x; kernel_rfl) 


def f22 (n : Nat) (a0 : Rq) : Option Rq :=
  ob (f71 n a0.2.1) fun r_1 =>
  ob (f71 n a0.2.2) fun r_2 =>
  some (a0.1, r_1, r_2)
def f22_E (n : Nat) : Ent := ⟨22, [hR], [hR], fun x => f22 n x⟩
def f22_D (α : Type) (n : Nat) : D3 α := { reg := [(3, ⟨0, [], [(2, { ent := some (f71_E n) })]⟩), (4, ⟨0, [], [(2, { ent := some (f71_E n) })]⟩)], join := [], loop := [] }
theorem f22_ents (α : Type) (n : Nat) : AllS Try.prog (entsOf (f22_D α n).reg) := ⟨f71_ok n, f71_ok n, trivial⟩
theorem f22_d (α : Type) (n : Nat) : D3.OK Try.prog (tyOf Try.prog) ⟨16, []⟩ (f22_D α n) (bodyOf Try.f22) :=
  D3.OK.mk3 (f22_ents α n) (show loopsOf (bodyOf Try.f22) = [] by kernel_rfl) trivial
theorem f22_ok (n : Nat) : (f22_E n).Sound Try.prog :=
  fn_ok (tyOf_ok _) prog_fol (f22_D _ n) (show Try.prog.funcs[22]? = some Try.f22 by kernel_rfl) (by kernel_rfl) (show Try.f22.body = some (bodyOf Try.f22) by kernel_rfl) rfl rfl (Nat.le_of_ble_eq_true rfl) (f22_d _ n) (by intro x; kernel_rfl) 


def f65 (n : Nat) (a0 a1 a2 : Int) : Option Bool :=
  bif (decide (a1 ≤ a0)) then
    some (decide (a0 ≤ a2))
  else
    some false
def f65_E (n : Nat) : Ent := ⟨65, [hI, hI, hI], [.bool], fun x => f65 n x.1 x.2.1 x.2.2⟩
def f65_D (α : Type) (n : Nat) : D3 α := { reg := [], join := [], loop := [] }
theorem f65_ents (α : Type) (n : Nat) : AllS Try.prog (entsOf (f65_D α n).reg) := trivial
theorem f65_d (α : Type) (n : Nat) : D3.OK Try.prog (tyOf Try.prog) ⟨15, []⟩ (f65_D α n) (bodyOf Try.f65) :=
  D3.OK.mk3 (f65_ents α n) (show loopsOf (bodyOf Try.f65) = [] by kernel_rfl) trivial
theorem f65_ok (n : Nat) : (f65_E n).Sound Try.prog :=
  fn_ok (tyOf_ok _) prog_fol (f65_D _ n) (show Try.prog.funcs[65]? = some Try.f65 by kernel_rfl) (by kernel_rfl) (show Try.f65.body = some (bodyOf Try.f65) by kernel_rfl) rfl rfl (Nat.le_of_ble_eq_true rfl) (f65_d _ n) (by intro x; kernel_rfl) 


def f126_L4B {α : Type} (n : Nat) (s0 : LI) (s3 : Int) (f : LI → Int → Option α) (k0 : Bool → Option α) (k1 : LI → Option α) : Option α :=
  bif (decide (s3 < (s0.length : Int))) then
    gd (decide (0 ≤ s3) && decide (s3 < (s0.length : Int))) (
      ob (f65 n (s0.getD s3.toNat 0) 0 9999) fun r_1 =>
      bif (!r_1) then
        k0 false
      else
        f s0 (W (s3 + 1)))
  else
    k1 s0
abbrev f126_L4H : Tm := ⟨[(0, .d hIs), (3, .d hI)], [], [], []⟩
abbrev f126_L4X0 : Tm := ⟨[(2, .d .bool)], [], [], []⟩
abbrev f126_L4X1 : Tm := ⟨[(0, .d hIs)], [], [], []⟩
abbrev f126_L4O : List (Exit × Tm) := [(.ret, f126_L4X0), (.exit 0, f126_L4X1)]
def f126_L4U {α : Type} (n : Nat) (v : f126_L4H.den) (f : f126_L4H.den → Option α) (ks : KS α f126_L4O) : Option α := f126_L4B n v.1.1 v.1.2.1 (fun s0 s3 => f ((s0, s3, ()), ())) (fun w0 => ks.1 ((w0, ()), ())) (fun w0 => ks.2.1 ((w0, ()), ()))
def f126_L4 {α : Type} (n m : Nat) (s0 : LI) (s3 : Int) (k0 : Bool → Option α) (k1 : LI → Option α) : Option α := rounds (f126_L4U n) m ((s0, s3, ()), ()) (fun w => k0 w.1.1, fun w => k1 w.1.1, ())
theorem f126_L4_0 {α n s0 s3 k0 k1} : f126_L4 (α := α) n 0 s0 s3 k0 k1 = none := rfl
theorem f126_L4_s {α n m s0 s3 k0 k1} : f126_L4 (α := α) n (m + 1) s0 s3 k0 k1 = f126_L4B n s0 s3 (fun s0 s3 => f126_L4 n m s0 s3 k0 k1) k0 k1 := rfl
def f126 (n : Nat) (a0 : LI) : Option Bool :=
  bif (decide ((a0.length : Int) > 4096)) then
    some false
  else
    f126_L4 n n a0 0
      (fun z_2 => (
        some z_2))
      (fun z_3 => (
        bif (decide ((z_3.length : Int) ≤ 40)) then
          bif ((z_3.length : Int) == 0) then
            some true
          else
            gd (decide (0 ≤ (W ((z_3.length : Int) - 1))) && decide ((W ((z_3.length : Int) - 1)) < (z_3.length : Int))) (
              some (decide ((z_3.getD ((W ((z_3.length : Int) - 1)).toNat) 0) > 0)))
        else
          some false))
def f126_E (n : Nat) : Ent := ⟨126, [hIs], [.bool], fun x => f126 n x⟩
def f126_D (α : Type) (n : Nat) : D3 α := { reg := [(6, ⟨0, [], [(4, { ent := some (f65_E n) })]⟩)], join := [], loop := [(4, ⟨f126_L4H, f126_L4O, rounds (f126_L4U n) n⟩)] }
theorem f126_ents (α : Type) (n : Nat) : AllS Try.prog (entsOf (f126_D α n).reg) := ⟨f65_ok n, trivial⟩
theorem f126_L4_d (α : Type) (n : Nat) : D3.OK Try.prog (tyOf Try.prog) ⟨36, []⟩ (f126_D α n) ((bodyOf Try.f126).at [1, 1, 0, 1, 0, 0]) :=
  D3.OK.mk3 (f126_ents α n) (show loopsOf ((bodyOf Try.f126).at [1, 1, 0, 1, 0, 0]) = [] by kernel_rfl) trivial
theorem f126_L4_ok (α : Type) (n : Nat) : LO.Sound (α := α) Try.prog ⟨36, []⟩ ⟨f126_L4H, f126_L4O, rounds (f126_L4U n) n⟩ (.loop ((bodyOf Try.f126).at [1, 1, 0, 1, 0, 0])) :=
  loop_ok (tyOf_ok _) prog_fol (f126_L4U n) (f126_L4_d α n) (by intro v f ks; kernel_rfl) n
theorem f126_d (α : Type) (n : Nat) : D3.OK Try.prog (tyOf Try.prog) ⟨36, []⟩ (f126_D α n) (bodyOf Try.f126) :=
  D3.OK.mk3 (f126_ents α n) (show loopsOf (bodyOf Try.f126) = [(4, (.loop ((bodyOf Try.f126).at [1, 1, 0, 1, 0, 0])))] by kernel_rfl) ⟨look_sound rfl (f126_L4_ok α n), trivial⟩
theorem f126_ok (n : Nat) : (f126_E n).Sound Try.prog :=
  fn_ok (tyOf_ok _) prog_fol (f126_D _ n) (show Try.prog.funcs[126]? = some Try.f126 by kernel_rfl) (by kernel_rfl) (show Try.f126.body = some (bodyOf Try.f126) by kernel_rfl) rfl rfl (Nat.le_of_ble_eq_true rfl) (f126_d _ n) (by intro x; kernel_rfl) 


def f185_L2B {α : Type} (n : Nat) (s0 : LI) (s3 : Int) (f : LI → Int → Option α) (k0 : LI → Int → Option α) : Option α :=
  bif (decide (s3 > 0)) then
    gd (decide (0 ≤ (W (s3 - 1))) && decide ((W (s3 - 1)) < (s0.length : Int))) (
      bif ((s0.getD ((W (s3 - 1)).toNat) 0) == 0) then
        f s0 (W (s3 - 1))
      else
        k0 s0 s3)
  else
    k0 s0 s3
abbrev f185_L2H : Tm := ⟨[(0, .d hIs), (3, .d hI)], [], [], []⟩
abbrev f185_L2X0 : Tm := ⟨[(0, .d hIs), (3, .d hI)], [], [], []⟩
abbrev f185_L2O : List (Exit × Tm) := [(.exit 0, f185_L2X0)]
def f185_L2U {α : Type} (n : Nat) (v : f185_L2H.den) (f : f185_L2H.den → Option α) (ks : KS α f185_L2O) : Option α := f185_L2B n v.1.1 v.1.2.1 (fun s0 s3 => f ((s0, s3, ()), ())) (fun w0 w1 => ks.1 ((w0, w1, ()), ()))
def f185_L2 {α : Type} (n m : Nat) (s0 : LI) (s3 : Int) (k0 : LI → Int → Option α) : Option α := rounds (f185_L2U n) m ((s0, s3, ()), ()) (fun w => k0 w.1.1 w.1.2.1, ())
theorem f185_L2_0 {α n s0 s3 k0} : f185_L2 (α := α) n 0 s0 s3 k0 = none := rfl
theorem f185_L2_s {α n m s0 s3 k0} : f185_L2 (α := α) n (m + 1) s0 s3 k0 = f185_L2B n s0 s3 (fun s0 s3 => f185_L2 n m s0 s3 k0) k0 := rfl
def f185 (n : Nat) (a0 : LI) : Option LI :=
  f185_L2 n n a0 (a0.length : Int)
    (fun z_1 z_2 => (
      gd (decide (0 ≤ z_2) && decide (z_2 ≤ (z_1.length : Int))) (
        gd (decide ((0 + ((z_1.drop 0).take (z_2.toNat - 0)).length) * 8 ≤ 140737488355328)) (
          some ((z_1.drop 0).take (z_2.toNat - 0))))))
def f185_E (n : Nat) : Ent := ⟨185, [hIs], [hIs], fun x => f185 n x⟩
def f185_D (α : Type) (n : Nat) : D3 α := { reg := [(4, ⟨0, [], [(0, { sh := some hI })]⟩)], join := [], loop := [(2, ⟨f185_L2H, f185_L2O, rounds (f185_L2U n) n⟩)] }
theorem f185_ents (α : Type) (n : Nat) : AllS Try.prog (entsOf (f185_D α n).reg) := trivial
theorem f185_L2_d (α : Type) (n : Nat) : D3.OK Try.prog (tyOf Try.prog) ⟨23, []⟩ (f185_D α n) ((bodyOf Try.f185).at [1, 1, 0, 0, 0]) :=
  D3.OK.mk3 (f185_ents α n) (show loopsOf ((bodyOf Try.f185).at [1, 1, 0, 0, 0]) = [] by kernel_rfl) trivial
theorem f185_L2_ok (α : Type) (n : Nat) : LO.Sound (α := α) Try.prog ⟨23, []⟩ ⟨f185_L2H, f185_L2O, rounds (f185_L2U n) n⟩ (.loop ((bodyOf Try.f185).at [1, 1, 0, 0, 0])) :=
  loop_ok (tyOf_ok _) prog_fol (f185_L2U n) (f185_L2_d α n) (by intro v f ks; kernel_rfl) n
theorem f185_d (α : Type) (n : Nat) : D3.OK Try.prog (tyOf Try.prog) ⟨23, []⟩ (f185_D α n) (bodyOf Try.f185) :=
  D3.OK.mk3 (f185_ents α n) (show loopsOf (bodyOf Try.f185) = [(2, (.loop ((bodyOf Try.f185).at [1, 1, 0, 0, 0])))] by kernel_rfl) ⟨look_sound rfl (f185_L2_ok α n), trivial⟩
theorem f185_ok (n : Nat) : (f185_E n).Sound Try.prog :=
  fn_ok (tyOf_ok _) prog_fol (f185_D _ n) (show Try.prog.funcs[185]? = some Try.f185 by kernel_rfl) (by kernel_rfl) (show Try.f185.body = some (bodyOf Try.f185) by kernel_rfl) rfl rfl (Nat.le_of_ble_eq_true rfl) (f185_d _ n) (by intro x; kernel_rfl) 


def f175 (n : Nat) (a0 : Bool) : Option Int :=
  bif a0 then
    some 1
  else
    some 0
def f175_E (n : Nat) : Ent := ⟨175, [.bool], [hI], fun x => f175 n x⟩
def f175_D (α : Type) (n : Nat) : D3 α := { reg := [], join := [], loop := [] }
theorem f175_ents (α : Type) (n : Nat) : AllS Try.prog (entsOf (f175_D α n).reg) := trivial
theorem f175_d (α : Type) (n : Nat) : D3.OK Try.prog (tyOf Try.prog) ⟨4, []⟩ (f175_D α n) (bodyOf Try.f175) :=
  D3.OK.mk3 (f175_ents α n) (show loopsOf (bodyOf Try.f175) = [] by kernel_rfl) trivial
theorem f175_ok (n : Nat) : (f175_E n).Sound Try.prog :=
  fn_ok (tyOf_ok _) prog_fol (f175_D _ n) (show Try.prog.funcs[175]? = some Try.f175 by kernel_rfl) (by kernel_rfl) (show Try.f175.body = some (bodyOf Try.f175) by kernel_rfl) rfl rfl (Nat.le_of_ble_eq_true rfl) (f175_d _ n) (by intro x; kernel_rfl) 


def f127_L4B {α : Type} (n : Nat) (s0 s1 : LI) (s5 : Int) (f : LI → LI → Int → Option α) (k0 : Int → Option α) (k1 : Unit → Option α) : Option α :=
  bif (decide (s5 ≥ 0)) then
    gd (decide (0 ≤ s5) && decide (s5 < (s0.length : Int))) (
      gd (decide (0 ≤ s5) && decide (s5 < (s1.length : Int))) (
        bif ((s0.getD s5.toNat 0) != (s1.getD s5.toNat 0)) then
          gd (decide (0 ≤ s5) && decide (s5 < (s0.length : Int))) (
            gd (decide (0 ≤ s5) && decide (s5 < (s1.length : Int))) (
              ob (f175 n (decide ((s0.getD s5.toNat 0) > (s1.getD s5.toNat 0)))) fun r_2 =>
              k0 (W ((W (2 * r_2)) - 1))))
        else
          f s0 s1 (W (s5 - 1))))
  else
    k1 ()
abbrev f127_L4H : Tm := ⟨[(0, .d hIs), (1, .d hIs), (5, .d hI)], [], [], []⟩
abbrev f127_L4X0 : Tm := ⟨[(4, .d hI)], [], [], []⟩
abbrev f127_L4X1 : Tm := ⟨[], [], [], []⟩
abbrev f127_L4O : List (Exit × Tm) := [(.ret, f127_L4X0), (.exit 0, f127_L4X1)]
def f127_L4U {α : Type} (n : Nat) (v : f127_L4H.den) (f : f127_L4H.den → Option α) (ks : KS α f127_L4O) : Option α := f127_L4B n v.1.1 v.1.2.1 v.1.2.2.1 (fun s0 s1 s5 => f ((s0, s1, s5, ()), ())) (fun w0 => ks.1 ((w0, ()), ())) (fun _ => ks.2.1 ((), ()))
def f127_L4 {α : Type} (n m : Nat) (s0 s1 : LI) (s5 : Int) (k0 : Int → Option α) (k1 : Unit → Option α) : Option α := rounds (f127_L4U n) m ((s0, s1, s5, ()), ()) (fun w => k0 w.1.1, fun w => k1 (), ())
theorem f127_L4_0 {α n s0 s1 s5 k0 k1} : f127_L4 (α := α) n 0 s0 s1 s5 k0 k1 = none := rfl
theorem f127_L4_s {α n m s0 s1 s5 k0 k1} : f127_L4 (α := α) n (m + 1) s0 s1 s5 k0 k1 = f127_L4B n s0 s1 s5 (fun s0 s1 s5 => f127_L4 n m s0 s1 s5 k0 k1) k0 k1 := rfl
def f127 (n : Nat) (a0 a1 : LI) : Option Int :=
  bif ((a0.length : Int) != (a1.length : Int)) then
    ob (f175 n (decide ((a0.length : Int) > (a1.length : Int)))) fun r_1 =>
    some (W ((W (2 * r_1)) - 1))
  else
    f127_L4 n n a0 a1 (W ((a0.length : Int) - 1))
      (fun z_3 => (
        some z_3))
      (fun (_ : Unit) => (
        some 0))
def f127_E (n : Nat) : Ent := ⟨127, [hIs, hIs], [hI], fun x => f127 n x.1 x.2⟩
def f127_D (α : Type) (n : Nat) : D3 α := { reg := [(2, ⟨0, [], [(5, { ent := some (f175_E n) })]⟩), (6, ⟨8, [], []⟩), (7, ⟨8, [], [(9, { ent := some (f175_E n) })]⟩)], join := [], loop := [(4, ⟨f127_L4H, f127_L4O, rounds (f127_L4U n) n⟩)] }
theorem f127_ents (α : Type) (n : Nat) : AllS Try.prog (entsOf (f127_D α n).reg) := ⟨f175_ok n, f175_ok n, trivial⟩
theorem f127_L4_d (α : Type) (n : Nat) : D3.OK Try.prog (tyOf Try.prog) ⟨47, []⟩ (f127_D α n) ((bodyOf Try.f127).at [1, 1, 0, 1, 0, 0]) :=
  D3.OK.mk3 (f127_ents α n) (show loopsOf ((bodyOf Try.f127).at [1, 1, 0, 1, 0, 0]) = [] by kernel_rfl) trivial
theorem f127_L4_ok (α : Type) (n : Nat) : LO.Sound (α := α) Try.prog ⟨47, []⟩ ⟨f127_L4H, f127_L4O, rounds (f127_L4U n) n⟩ (.loop ((bodyOf Try.f127).at [1, 1, 0, 1, 0, 0])) :=
  loop_ok (tyOf_ok _) prog_fol (f127_L4U n) (f127_L4_d α n) (by intro v f ks; kernel_rfl) n
theorem f127_d (α : Type) (n : Nat) : D3.OK Try.prog (tyOf Try.prog) ⟨47, []⟩ (f127_D α n) (bodyOf Try.f127) :=
  D3.OK.mk3 (f127_ents α n) (show loopsOf (bodyOf Try.f127) = [(4, (.loop ((bodyOf Try.f127).at [1, 1, 0, 1, 0, 0])))] by kernel_rfl) ⟨look_sound rfl (f127_L4_ok α n), trivial⟩
theorem f127_ok (n : Nat) : (f127_E n).Sound Try.prog :=
  fn_ok (tyOf_ok _) prog_fol (f127_D _ n) (show Try.prog.funcs[127]? = some Try.f127 by kernel_rfl) (by kernel_rfl) (show Try.f127.body = some (bodyOf Try.f127) by kernel_rfl) rfl rfl (Nat.le_of_ble_eq_true rfl) (f127_d _ n) (by intro x; kernel_rfl) 


def f190_L2B {α : Type} (n : Nat) (s0 : Int) (b4 : LI) (f : Int → LI → Option α) (k0 : LI → Option α) : Option α :=
  bif (decide (s0 > 0)) then
    gd (decide ((b4.length + 1) * 8 ≤ 140737488355328)) (
      f (W (Int.tdiv s0 10000)) (b4 ++ [(Int.tmod s0 10000)]))
  else
    k0 b4
abbrev f190_L2H : Tm := ⟨[(0, .d hI), (3, .k (.hw 4))], [(4, .arr 3 hI false)], [10], []⟩
abbrev f190_L2X0 : Tm := ⟨[(3, .k (.hw 4))], [(4, .arr 3 hI false)], [], []⟩
abbrev f190_L2O : List (Exit × Tm) := [(.exit 0, f190_L2X0)]
def f190_L2U {α : Type} (n : Nat) (v : f190_L2H.den) (f : f190_L2H.den → Option α) (ks : KS α f190_L2O) : Option α := f190_L2B n v.1.1 v.2.1 (fun s0 b4 => f ((s0, (), ()), (b4, ()))) (fun w0 => ks.1 (((), ()), (w0, ())))
def f190_L2 {α : Type} (n m : Nat) (s0 : Int) (b4 : LI) (k0 : LI → Option α) : Option α := rounds (f190_L2U n) m ((s0, (), ()), (b4, ())) (fun w => k0 w.2.1, ())
theorem f190_L2_0 {α n s0 b4 k0} : f190_L2 (α := α) n 0 s0 b4 k0 = none := rfl
theorem f190_L2_s {α n m s0 b4 k0} : f190_L2 (α := α) n (m + 1) s0 b4 k0 = f190_L2B n s0 b4 (fun s0 b4 => f190_L2 n m s0 b4 k0) k0 := rfl
def f190 (n : Nat) (a0 : Int) : Option LI :=
  f190_L2 n n a0 []
    (fun z_1 => (
      some z_1))
def f190_E (n : Nat) : Ent := ⟨190, [hI], [hIs], fun x => f190 n x⟩
def f190_D (α : Type) (n : Nat) : D3 α := { reg := [(1, ⟨0, [], [(0, { sh := some hI })]⟩), (3, ⟨0, [], [(3, { sh := some hI })]⟩)], join := [], loop := [(2, ⟨f190_L2H, f190_L2O, rounds (f190_L2U n) n⟩)] }
theorem f190_ents (α : Type) (n : Nat) : AllS Try.prog (entsOf (f190_D α n).reg) := trivial
theorem f190_L2_d (α : Type) (n : Nat) : D3.OK Try.prog (tyOf Try.prog) ⟨15, []⟩ (f190_D α n) ((bodyOf Try.f190).at [1, 1, 0, 0, 0]) :=
  D3.OK.mk3 (f190_ents α n) (show loopsOf ((bodyOf Try.f190).at [1, 1, 0, 0, 0]) = [] by kernel_rfl) trivial
theorem f190_L2_ok (α : Type) (n : Nat) : LO.Sound (α := α) Try.prog ⟨15, []⟩ ⟨f190_L2H, f190_L2O, rounds (f190_L2U n) n⟩ (.loop ((bodyOf Try.f190).at [1, 1, 0, 0, 0])) :=
  loop_ok (tyOf_ok _) prog_fol (f190_L2U n) (f190_L2_d α n) (by intro v f ks; kernel_rfl) n
theorem f190_d (α : Type) (n : Nat) : D3.OK Try.prog (tyOf Try.prog) ⟨15, []⟩ (f190_D α n) (bodyOf Try.f190) :=
  D3.OK.mk3 (f190_ents α n) (show loopsOf (bodyOf Try.f190) = [(2, (.loop ((bodyOf Try.f190).at [1, 1, 0, 0, 0])))] by kernel_rfl) ⟨look_sound rfl (f190_L2_ok α n), trivial⟩
theorem f190_ok (n : Nat) : (f190_E n).Sound Try.prog :=
  fn_ok (tyOf_ok _) prog_fol (f190_D _ n) (show Try.prog.funcs[190]? = some Try.f190 by kernel_rfl) (by kernel_rfl) (show Try.f190.body = some (bodyOf Try.f190) by kernel_rfl) rfl rfl (Nat.le_of_ble_eq_true rfl) (f190_d _ n) (by intro x; kernel_rfl) 


def f154_L7B {α : Type} (n : Nat) (s0 s1 : LI) (s6 s7 s8 : Int) (b16 : LI) (f : LI → LI → Int → Int → Int → LI → Option α) (k0 : LI → LI → Int → LI → Option α) : Option α :=
  let J_3 := fun (_ : Unit) => (
    gd (decide (0 ≤ (W (s6 + s8))) && decide ((W (s6 + s8)) < (b16.length : Int))) (
      gd (decide ((W (s6 + s8)).toNat < b16.length)) (
        let J_2 := fun (y_1 : Int) => (
          gd (decide (0 ≤ (W (s6 + s8))) && decide ((W (s6 + s8)) < (b16.length : Int))) (
            gd (decide ((W (s6 + s8)).toNat < b16.length)) (
              f s0 s1 s6 (W (Int.tdiv y_1 10000)) (W (s8 + 1)) (b16.set ((W (s6 + s8)).toNat) (Int.tmod y_1 10000)))))
        bif (decide (s8 < (s1.length : Int))) then
          gd (decide (0 ≤ s6) && decide (s6 < (s0.length : Int))) (
            gd (decide (0 ≤ s8) && decide (s8 < (s1.length : Int))) (
              J_2 (W ((W ((b16.getD ((W (s6 + s8)).toNat) 0) + s7)) + (W ((s0.getD s6.toNat 0) * (s1.getD s8.toNat 0)))))))
        else
          J_2 (W ((b16.getD ((W (s6 + s8)).toNat) 0) + s7)))))
  bif (decide (s8 < (s1.length : Int))) then
    J_3 ()
  else
    bif (decide (s7 > 0)) then
      J_3 ()
    else
      k0 s0 s1 s6 b16
abbrev f154_L7H : Tm := ⟨[(0, .d hIs), (1, .d hIs), (5, .k (.hw 16)), (6, .d hI), (7, .d hI), (8, .d hI)], [(16, .arr 3 hI false)], [], []⟩
abbrev f154_L7X0 : Tm := ⟨[(0, .d hIs), (1, .d hIs), (5, .k (.hw 16)), (6, .d hI)], [(16, .arr 3 hI false)], [], []⟩
abbrev f154_L7O : List (Exit × Tm) := [(.exit 2, f154_L7X0)]
def f154_L7U {α : Type} (n : Nat) (v : f154_L7H.den) (f : f154_L7H.den → Option α) (ks : KS α f154_L7O) : Option α := f154_L7B n v.1.1 v.1.2.1 v.1.2.2.2.1 v.1.2.2.2.2.1 v.1.2.2.2.2.2.1 v.2.1 (fun s0 s1 s6 s7 s8 b16 => f ((s0, s1, (), s6, s7, s8, ()), (b16, ()))) (fun w0 w1 w2 w3 => ks.1 ((w0, w1, (), w2, ()), (w3, ())))
def f154_L7 {α : Type} (n m : Nat) (s0 s1 : LI) (s6 s7 s8 : Int) (b16 : LI) (k0 : LI → LI → Int → LI → Option α) : Option α := rounds (f154_L7U n) m ((s0, s1, (), s6, s7, s8, ()), (b16, ())) (fun w => k0 w.1.1 w.1.2.1 w.1.2.2.2.1 w.2.1, ())
theorem f154_L7_0 {α n s0 s1 s6 s7 s8 b16 k0} : f154_L7 (α := α) n 0 s0 s1 s6 s7 s8 b16 k0 = none := rfl
theorem f154_L7_s {α n m s0 s1 s6 s7 s8 b16 k0} : f154_L7 (α := α) n (m + 1) s0 s1 s6 s7 s8 b16 k0 = f154_L7B n s0 s1 s6 s7 s8 b16 (fun s0 s1 s6 s7 s8 b16 => f154_L7 n m s0 s1 s6 s7 s8 b16 k0) k0 := rfl
def f154_L3B {α : Type} (n : Nat) (s0 s1 : LI) (s6 : Int) (b16 : LI) (f : LI → LI → Int → LI → Option α) (k0 : LI → Option α) : Option α :=
  bif (decide (s6 < (s0.length : Int))) then
    f154_L7 n n s0 s1 s6 0 0 b16
      (fun z_1 z_2 z_3 z_4 => (
        f z_1 z_2 (W (z_3 + 1)) z_4))
  else
    k0 b16
abbrev f154_L3H : Tm := ⟨[(0, .d hIs), (1, .d hIs), (5, .k (.hw 16)), (6, .d hI)], [(16, .arr 3 hI false)], [], []⟩
abbrev f154_L3X0 : Tm := ⟨[(5, .k (.hw 16))], [(16, .arr 3 hI false)], [], []⟩
abbrev f154_L3O : List (Exit × Tm) := [(.exit 0, f154_L3X0)]
def f154_L3U {α : Type} (n : Nat) (v : f154_L3H.den) (f : f154_L3H.den → Option α) (ks : KS α f154_L3O) : Option α := f154_L3B n v.1.1 v.1.2.1 v.1.2.2.2.1 v.2.1 (fun s0 s1 s6 b16 => f ((s0, s1, (), s6, ()), (b16, ()))) (fun w0 => ks.1 (((), ()), (w0, ())))
def f154_L3 {α : Type} (n m : Nat) (s0 s1 : LI) (s6 : Int) (b16 : LI) (k0 : LI → Option α) : Option α := rounds (f154_L3U n) m ((s0, s1, (), s6, ()), (b16, ())) (fun w => k0 w.2.1, ())
theorem f154_L3_0 {α n s0 s1 s6 b16 k0} : f154_L3 (α := α) n 0 s0 s1 s6 b16 k0 = none := rfl
theorem f154_L3_s {α n m s0 s1 s6 b16 k0} : f154_L3 (α := α) n (m + 1) s0 s1 s6 b16 k0 = f154_L3B n s0 s1 s6 b16 (fun s0 s1 s6 b16 => f154_L3 n m s0 s1 s6 b16 k0) k0 := rfl
abbrev f154_J9 : Tm := ⟨[(0, .d hIs), (1, .d hIs), (5, .k (.hw 16)), (6, .d hI), (7, .d hI), (8, .d hI)], [(16, .arr 3 hI false)], [], []⟩
abbrev f154_J12 : Tm := ⟨[(0, .d hIs), (1, .d hIs), (5, .k (.hw 16)), (6, .d hI), (8, .d hI), (9, .d hI)], [(16, .arr 3 hI false)], [], []⟩
def f154 (n : Nat) (a0 a1 : LI) : Option LI :=
  gd (decide (0 ≤ (W ((W ((a0.length : Int) + (a1.length : Int))) + 1))) && decide ((W ((W ((a0.length : Int) + (a1.length : Int))) + 1)) ≤ 4611686018427387904) && decide ((8 : Int) * (W ((W ((a0.length : Int) + (a1.length : Int))) + 1)) ≤ 281474976710656)) (
    f154_L3 n n a0 a1 0 (List.replicate ((W ((W ((a0.length : Int) + (a1.length : Int))) + 1)).toNat) 0)
      (fun z_5 => (
        ob (f185 n z_5) fun r_6 =>
        some r_6)))
def f154_E (n : Nat) : Ent := ⟨154, [hIs, hIs], [hIs], fun x => f154 n x.1 x.2⟩
def f154_D (α : Type) (n : Nat) : D3 α := { reg := [(11, ⟨10, [], []⟩), (14, ⟨0, [], [(1, { ent := some (f185_E n), fz := [(65, hIs)] })]⟩)], join := [(9, f154_J9), (12, f154_J12)], loop := [(7, ⟨f154_L7H, f154_L7O, rounds (f154_L7U n) n⟩), (3, ⟨f154_L3H, f154_L3O, rounds (f154_L3U n) n⟩)] }
theorem f154_ents (α : Type) (n : Nat) : AllS Try.prog (entsOf (f154_D α n).reg) := ⟨f185_ok n, trivial⟩
theorem f154_L7_d (α : Type) (n : Nat) : D3.OK Try.prog (tyOf Try.prog) ⟨67, []⟩ (f154_D α n) ((bodyOf Try.f154).at [1, 1, 0, 1, 0, 0, 1, 0, 0, 1, 1, 0, 0]) :=
  D3.OK.mk3 (f154_ents α n) (show loopsOf ((bodyOf Try.f154).at [1, 1, 0, 1, 0, 0, 1, 0, 0, 1, 1, 0, 0]) = [] by kernel_rfl) trivial
theorem f154_L7_ok (α : Type) (n : Nat) : LO.Sound (α := α) Try.prog ⟨67, []⟩ ⟨f154_L7H, f154_L7O, rounds (f154_L7U n) n⟩ (.loop ((bodyOf Try.f154).at [1, 1, 0, 1, 0, 0, 1, 0, 0, 1, 1, 0, 0])) :=
  loop_ok (tyOf_ok _) prog_fol (f154_L7U n) (f154_L7_d α n) (by intro v f ks; kernel_rfl) n
theorem f154_L3_d (α : Type) (n : Nat) : D3.OK Try.prog (tyOf Try.prog) ⟨67, []⟩ (f154_D α n) ((bodyOf Try.f154).at [1, 1, 0, 1, 0, 0]) :=
  D3.OK.mk3 (f154_ents α n) (show loopsOf ((bodyOf Try.f154).at [1, 1, 0, 1, 0, 0]) = [(7, (.loop ((bodyOf Try.f154).at [1, 1, 0, 1, 0, 0, 1, 0, 0, 1, 1, 0, 0])))] by kernel_rfl) ⟨look_sound rfl (f154_L7_ok α n), trivial⟩
theorem f154_L3_ok (α : Type) (n : Nat) : LO.Sound (α := α) Try.prog ⟨67, []⟩ ⟨f154_L3H, f154_L3O, rounds (f154_L3U n) n⟩ (.loop ((bodyOf Try.f154).at [1, 1, 0, 1, 0, 0])) :=
  loop_ok (tyOf_ok _) prog_fol (f154_L3U n) (f154_L3_d α n) (by intro v f ks; kernel_rfl) n
theorem f154_d (α : Type) (n : Nat) : D3.OK Try.prog (tyOf Try.prog) ⟨67, []⟩ (f154_D α n) (bodyOf Try.f154) :=
  D3.OK.mk3 (f154_ents α n) (show loopsOf (bodyOf Try.f154) = [(3, (.loop ((bodyOf Try.f154).at [1, 1, 0, 1, 0, 0])))] by kernel_rfl) ⟨look_sound rfl (f154_L3_ok α n), trivial⟩
theorem f154_ok (n : Nat) : (f154_E n).Sound Try.prog :=
  fn_ok (tyOf_ok _) prog_fol (f154_D _ n) (show Try.prog.funcs[154]? = some Try.f154 by kernel_rfl) (by kernel_rfl) (show Try.f154.body = some (bodyOf Try.f154) by kernel_rfl) rfl rfl (Nat.le_of_ble_eq_true rfl) (f154_d _ n) (by intro x; kernel_rfl) 


def f189_L4B {α : Type} (n : Nat) (s0 s1 : LI) (s6 s7 : Int) (b9 : LI) (f : LI → LI → Int → Int → LI → Option α) (k0 : LI → Option α) : Option α :=
  bif (decide (s7 < (s0.length : Int))) then
    gd (decide (0 ≤ s7) && decide (s7 < (s0.length : Int))) (
      let J_3 := fun (y_1 : Int) => (
        ob (f175 n (decide (y_1 < 0))) fun r_2 =>
        gd (decide ((b9.length + 1) * 8 ≤ 140737488355328)) (
          f s0 s1 r_2 (W (s7 + 1)) (b9 ++ [(W (y_1 + (W (r_2 * 10000))))])))
      bif (decide (s7 < (s1.length : Int))) then
        gd (decide (0 ≤ s7) && decide (s7 < (s1.length : Int))) (
          J_3 (W ((W ((s0.getD s7.toNat 0) - s6)) - (s1.getD s7.toNat 0))))
      else
        J_3 (W ((s0.getD s7.toNat 0) - s6)))
  else
    k0 b9
abbrev f189_L4H : Tm := ⟨[(0, .d hIs), (1, .d hIs), (5, .k (.hw 9)), (6, .d hI), (7, .d hI)], [(9, .arr 3 hI false)], [40], []⟩
abbrev f189_L4X0 : Tm := ⟨[(5, .k (.hw 9))], [(9, .arr 3 hI false)], [], []⟩
abbrev f189_L4O : List (Exit × Tm) := [(.exit 0, f189_L4X0)]
def f189_L4U {α : Type} (n : Nat) (v : f189_L4H.den) (f : f189_L4H.den → Option α) (ks : KS α f189_L4O) : Option α := f189_L4B n v.1.1 v.1.2.1 v.1.2.2.2.1 v.1.2.2.2.2.1 v.2.1 (fun s0 s1 s6 s7 b9 => f ((s0, s1, (), s6, s7, ()), (b9, ()))) (fun w0 => ks.1 (((), ()), (w0, ())))
def f189_L4 {α : Type} (n m : Nat) (s0 s1 : LI) (s6 s7 : Int) (b9 : LI) (k0 : LI → Option α) : Option α := rounds (f189_L4U n) m ((s0, s1, (), s6, s7, ()), (b9, ())) (fun w => k0 w.2.1, ())
theorem f189_L4_0 {α n s0 s1 s6 s7 b9 k0} : f189_L4 (α := α) n 0 s0 s1 s6 s7 b9 k0 = none := rfl
theorem f189_L4_s {α n m s0 s1 s6 s7 b9 k0} : f189_L4 (α := α) n (m + 1) s0 s1 s6 s7 b9 k0 = f189_L4B n s0 s1 s6 s7 b9 (fun s0 s1 s6 s7 b9 => f189_L4 n m s0 s1 s6 s7 b9 k0) k0 := rfl
abbrev f189_J9 : Tm := ⟨[(0, .d hIs), (1, .d hIs), (5, .k (.hw 9)), (7, .d hI), (8, .d hI)], [(9, .arr 3 hI false)], [], []⟩
def f189 (n : Nat) (a0 a1 : LI) : Option LI :=
  f189_L4 n n a0 a1 0 0 []
    (fun z_4 => (
      ob (f185 n z_4) fun r_5 =>
      some r_5))
def f189_E (n : Nat) : Ent := ⟨189, [hIs, hIs], [hIs], fun x => f189 n x.1 x.2⟩
def f189_D (α : Type) (n : Nat) : D3 α := { reg := [(1, ⟨0, [], [(0, { sh := some hI })]⟩), (9, ⟨0, [], [(2, { ent := some (f175_E n) })]⟩), (10, ⟨0, [], [(5, { sh := some hI })]⟩), (11, ⟨0, [], [(1, { ent := some (f185_E n), fz := [(42, hIs)] })]⟩)], join := [(9, f189_J9)], loop := [(4, ⟨f189_L4H, f189_L4O, rounds (f189_L4U n) n⟩)] }
theorem f189_ents (α : Type) (n : Nat) : AllS Try.prog (entsOf (f189_D α n).reg) := ⟨f175_ok n, f185_ok n, trivial⟩
theorem f189_L4_d (α : Type) (n : Nat) : D3.OK Try.prog (tyOf Try.prog) ⟨44, []⟩ (f189_D α n) ((bodyOf Try.f189).at [1, 1, 1, 0, 1, 0, 0]) :=
  D3.OK.mk3 (f189_ents α n) (show loopsOf ((bodyOf Try.f189).at [1, 1, 1, 0, 1, 0, 0]) = [] by kernel_rfl) trivial
theorem f189_L4_ok (α : Type) (n : Nat) : LO.Sound (α := α) Try.prog ⟨44, []⟩ ⟨f189_L4H, f189_L4O, rounds (f189_L4U n) n⟩ (.loop ((bodyOf Try.f189).at [1, 1, 1, 0, 1, 0, 0])) :=
  loop_ok (tyOf_ok _) prog_fol (f189_L4U n) (f189_L4_d α n) (by intro v f ks; kernel_rfl) n
theorem f189_d (α : Type) (n : Nat) : D3.OK Try.prog (tyOf Try.prog) ⟨44, []⟩ (f189_D α n) (bodyOf Try.f189) :=
  D3.OK.mk3 (f189_ents α n) (show loopsOf (bodyOf Try.f189) = [(4, (.loop ((bodyOf Try.f189).at [1, 1, 1, 0, 1, 0, 0])))] by kernel_rfl) ⟨look_sound rfl (f189_L4_ok α n), trivial⟩
theorem f189_ok (n : Nat) : (f189_E n).Sound Try.prog :=
  fn_ok (tyOf_ok _) prog_fol (f189_D _ n) (show Try.prog.funcs[189]? = some Try.f189 by kernel_rfl) (by kernel_rfl) (show Try.f189.body = some (bodyOf Try.f189) by kernel_rfl) rfl rfl (Nat.le_of_ble_eq_true rfl) (f189_d _ n) (by intro x; kernel_rfl) 


def f176_L10B {α : Type} (n : Nat) (s0 s1 s7 : LI) (s8 s9 s10 : Int) (b14 : LI) (f : LI → LI → LI → Int → Int → Int → LI → Option α) (k0 : LI → LI → LI → Int → Int → LI → Option α) : Option α :=
  bif (decide ((W (s10 - s9)) > 1)) then
    ob (f190 n (W (Int.tdiv (W (s9 + s10)) 2))) fun r_3 =>
    ob (f154 n s1 r_3) fun r_4 =>
    ob (f127 n r_4 s7) fun r_5 =>
    bif (decide (r_5 ≤ 0)) then
      f s0 s1 s7 s8 (W (Int.tdiv (W (s9 + s10)) 2)) s10 b14
    else
      f s0 s1 s7 s8 s9 (W (Int.tdiv (W (s9 + s10)) 2)) b14
  else
    k0 s0 s1 s7 s8 s9 b14
abbrev f176_L10H : Tm := ⟨[(0, .d hIs), (1, .d hIs), (6, .k (.hw 14)), (7, .d hIs), (8, .d hI), (9, .d hI), (10, .d hI)], [(14, .arr 3 hI false)], [15, 27], []⟩
abbrev f176_L10X0 : Tm := ⟨[(0, .d hIs), (1, .d hIs), (6, .k (.hw 14)), (7, .d hIs), (8, .d hI), (9, .d hI)], [(14, .arr 3 hI false)], [], []⟩
abbrev f176_L10O : List (Exit × Tm) := [(.exit 2, f176_L10X0)]
def f176_L10U {α : Type} (n : Nat) (v : f176_L10H.den) (f : f176_L10H.den → Option α) (ks : KS α f176_L10O) : Option α := f176_L10B n v.1.1 v.1.2.1 v.1.2.2.2.1 v.1.2.2.2.2.1 v.1.2.2.2.2.2.1 v.1.2.2.2.2.2.2.1 v.2.1 (fun s0 s1 s7 s8 s9 s10 b14 => f ((s0, s1, (), s7, s8, s9, s10, ()), (b14, ()))) (fun w0 w1 w2 w3 w4 w5 => ks.1 ((w0, w1, (), w2, w3, w4, ()), (w5, ())))
def f176_L10 {α : Type} (n m : Nat) (s0 s1 s7 : LI) (s8 s9 s10 : Int) (b14 : LI) (k0 : LI → LI → LI → Int → Int → LI → Option α) : Option α := rounds (f176_L10U n) m ((s0, s1, (), s7, s8, s9, s10, ()), (b14, ())) (fun w => k0 w.1.1 w.1.2.1 w.1.2.2.2.1 w.1.2.2.2.2.1 w.1.2.2.2.2.2.1 w.2.1, ())
theorem f176_L10_0 {α n s0 s1 s7 s8 s9 s10 b14 k0} : f176_L10 (α := α) n 0 s0 s1 s7 s8 s9 s10 b14 k0 = none := rfl
theorem f176_L10_s {α n m s0 s1 s7 s8 s9 s10 b14 k0} : f176_L10 (α := α) n (m + 1) s0 s1 s7 s8 s9 s10 b14 k0 = f176_L10B n s0 s1 s7 s8 s9 s10 b14 (fun s0 s1 s7 s8 s9 s10 b14 => f176_L10 n m s0 s1 s7 s8 s9 s10 b14 k0) k0 := rfl
def f176_L4B {α : Type} (n : Nat) (s0 s1 s7 : LI) (s8 : Int) (b14 : LI) (f : LI → LI → LI → Int → LI → Option α) (k0 : LI → LI → Option α) : Option α :=
  bif (decide (s8 ≥ 0)) then
    gd (decide (0 ≤ s8) && decide (s8 < (s0.length : Int))) (
      gd (decide ((1 + s7.length) * 8 ≤ 140737488355328)) (
        ob (f185 n ([(s0.getD s8.toNat 0)] ++ s7)) fun r_1 =>
        ob (f127 n r_1 s1) fun r_2 =>
        bif (decide (r_2 < 0)) then
          f s0 s1 r_1 (W (s8 - 1)) b14
        else
          f176_L10 n n s0 s1 r_1 s8 0 10000 b14
            (fun z_3 z_4 z_5 z_6 z_7 z_8 => (
              gd (decide (0 ≤ z_6) && decide (z_6 < (z_8.length : Int))) (
                gd (decide (z_6.toNat < z_8.length)) (
                  ob (f190 n z_7) fun r_9 =>
                  ob (f154 n z_4 r_9) fun r_10 =>
                  ob (f189 n z_5 r_10) fun r_11 =>
                  f z_3 z_4 r_11 (W (z_6 - 1)) (z_8.set z_6.toNat z_7)))))))
  else
    k0 s7 b14
abbrev f176_L4H : Tm := ⟨[(0, .d hIs), (1, .d hIs), (6, .k (.hw 14)), (7, .d hIs), (8, .d hI)], [(14, .arr 3 hI false)], [15, 27], [(7, hIs)]⟩
abbrev f176_L4X0 : Tm := ⟨[(6, .k (.hw 14)), (7, .d hIs)], [(14, .arr 3 hI false)], [], []⟩
abbrev f176_L4O : List (Exit × Tm) := [(.exit 0, f176_L4X0)]
def f176_L4U {α : Type} (n : Nat) (v : f176_L4H.den) (f : f176_L4H.den → Option α) (ks : KS α f176_L4O) : Option α := f176_L4B n v.1.1 v.1.2.1 v.1.2.2.2.1 v.1.2.2.2.2.1 v.2.1 (fun s0 s1 s7 s8 b14 => f ((s0, s1, (), s7, s8, ()), (b14, ()))) (fun w0 w1 => ks.1 (((), w0, ()), (w1, ())))
def f176_L4 {α : Type} (n m : Nat) (s0 s1 s7 : LI) (s8 : Int) (b14 : LI) (k0 : LI → LI → Option α) : Option α := rounds (f176_L4U n) m ((s0, s1, (), s7, s8, ()), (b14, ())) (fun w => k0 w.1.2.1 w.2.1, ())
theorem f176_L4_0 {α n s0 s1 s7 s8 b14 k0} : f176_L4 (α := α) n 0 s0 s1 s7 s8 b14 k0 = none := rfl
theorem f176_L4_s {α n m s0 s1 s7 s8 b14 k0} : f176_L4 (α := α) n (m + 1) s0 s1 s7 s8 b14 k0 = f176_L4B n s0 s1 s7 s8 b14 (fun s0 s1 s7 s8 b14 => f176_L4 n m s0 s1 s7 s8 b14 k0) k0 := rfl
def f176 (n : Nat) (a0 a1 : LI) : Option (LI × LI) :=
  gd (decide (0 ≤ (a0.length : Int)) && decide ((a0.length : Int) ≤ 4611686018427387904) && decide ((8 : Int) * (a0.length : Int) ≤ 281474976710656)) (
    f176_L4 n n a0 a1 [] (W ((a0.length : Int) - 1)) (List.replicate ((a0.length : Int).toNat) 0)
      (fun z_12 z_13 => (
        ob (f185 n z_13) fun r_14 =>
        some (r_14, z_12))))
def f176_E (n : Nat) : Ent := ⟨176, [hIs, hIs], [hIs, hIs], fun x => f176 n x.1 x.2⟩
def f176_D (α : Type) (n : Nat) : D3 α := { reg := [(2, ⟨0, [], [(0, { sh := some hI })]⟩), (6, ⟨0, [], [(4, { sh := some hI }), (7, { ent := some (f185_E n), fz := [(29, hIs)] })]⟩), (7, ⟨0, [], [(2, { ent := some (f127_E n) })]⟩), (12, ⟨0, [], [(2, { ent := some (f190_E n) }), (3, { ent := some (f154_E n) }), (5, { ent := some (f127_E n) })]⟩), (16, ⟨0, [], [(3, { ent := some (f190_E n) }), (4, { ent := some (f154_E n) }), (5, { ent := some (f189_E n) })]⟩), (17, ⟨0, [], [(1, { ent := some (f185_E n), fz := [(62, hIs)] })]⟩)], join := [], loop := [(10, ⟨f176_L10H, f176_L10O, rounds (f176_L10U n) n⟩), (4, ⟨f176_L4H, f176_L4O, rounds (f176_L4U n) n⟩)] }
theorem f176_ents (α : Type) (n : Nat) : AllS Try.prog (entsOf (f176_D α n).reg) := ⟨f185_ok n, f127_ok n, f190_ok n, f154_ok n, f127_ok n, f190_ok n, f154_ok n, f189_ok n, f185_ok n, trivial⟩
theorem f176_L10_d (α : Type) (n : Nat) : D3.OK Try.prog (tyOf Try.prog) ⟨65, []⟩ (f176_D α n) ((bodyOf Try.f176).at [1, 1, 1, 0, 1, 0, 0, 1, 0, 0, 1, 1, 1, 1, 0, 0, 0]) :=
  D3.OK.mk3 (f176_ents α n) (show loopsOf ((bodyOf Try.f176).at [1, 1, 1, 0, 1, 0, 0, 1, 0, 0, 1, 1, 1, 1, 0, 0, 0]) = [] by kernel_rfl) trivial
theorem f176_L10_ok (α : Type) (n : Nat) : LO.Sound (α := α) Try.prog ⟨65, []⟩ ⟨f176_L10H, f176_L10O, rounds (f176_L10U n) n⟩ (.loop ((bodyOf Try.f176).at [1, 1, 1, 0, 1, 0, 0, 1, 0, 0, 1, 1, 1, 1, 0, 0, 0])) :=
  loop_ok (tyOf_ok _) prog_fol (f176_L10U n) (f176_L10_d α n) (by intro v f ks; kernel_rfl) n
theorem f176_L4_d (α : Type) (n : Nat) : D3.OK Try.prog (tyOf Try.prog) ⟨65, []⟩ (f176_D α n) ((bodyOf Try.f176).at [1, 1, 1, 0, 1, 0, 0]) :=
  D3.OK.mk3 (f176_ents α n) (show loopsOf ((bodyOf Try.f176).at [1, 1, 1, 0, 1, 0, 0]) = [(10, (.loop ((bodyOf Try.f176).at [1, 1, 1, 0, 1, 0, 0, 1, 0, 0, 1, 1, 1, 1, 0, 0, 0])))] by kernel_rfl) ⟨look_sound rfl (f176_L10_ok α n), trivial⟩
theorem f176_L4_ok (α : Type) (n : Nat) : LO.Sound (α := α) Try.prog ⟨65, []⟩ ⟨f176_L4H, f176_L4O, rounds (f176_L4U n) n⟩ (.loop ((bodyOf Try.f176).at [1, 1, 1, 0, 1, 0, 0])) :=
  loop_ok (tyOf_ok _) prog_fol (f176_L4U n) (f176_L4_d α n) (by intro v f ks; kernel_rfl) n
theorem f176_d (α : Type) (n : Nat) : D3.OK Try.prog (tyOf Try.prog) ⟨65, []⟩ (f176_D α n) (bodyOf Try.f176) :=
  D3.OK.mk3 (f176_ents α n) (show loopsOf (bodyOf Try.f176) = [(4, (.loop ((bodyOf Try.f176).at [1, 1, 1, 0, 1, 0, 0])))] by kernel_rfl) ⟨look_sound rfl (f176_L4_ok α n), trivial⟩
theorem f176_ok (n : Nat) : (f176_E n).Sound Try.prog :=
  fn_ok (tyOf_ok _) prog_fol (f176_D _ n) (show Try.prog.funcs[176]? = some Try.f176 by kernel_rfl) (by kernel_rfl) (show Try.f176.body = some (bodyOf Try.f176) by kernel_rfl) rfl rfl (Nat.le_of_ble_eq_true rfl) (f176_d _ n) (by intro x; kernel_rfl) 


def f128_L1B {α : Type} (n : Nat) (s0 s1 : LI) (f : LI → LI → Option α) (k0 : LI → Option α) : Option α :=
  bif (decide ((s1.length : Int) > 0)) then
    ob (f176 n s0 s1) fun r_1 =>
    f s1 r_1.2
  else
    k0 s0
abbrev f128_L1H : Tm := ⟨[(0, .d hIs), (1, .d hIs)], [], [], []⟩
abbrev f128_L1X0 : Tm := ⟨[(0, .d hIs)], [], [], []⟩
abbrev f128_L1O : List (Exit × Tm) := [(.exit 0, f128_L1X0)]
def f128_L1U {α : Type} (n : Nat) (v : f128_L1H.den) (f : f128_L1H.den → Option α) (ks : KS α f128_L1O) : Option α := f128_L1B n v.1.1 v.1.2.1 (fun s0 s1 => f ((s0, s1, ()), ())) (fun w0 => ks.1 ((w0, ()), ()))
def f128_L1 {α : Type} (n m : Nat) (s0 s1 : LI) (k0 : LI → Option α) : Option α := rounds (f128_L1U n) m ((s0, s1, ()), ()) (fun w => k0 w.1.1, ())
theorem f128_L1_0 {α n s0 s1 k0} : f128_L1 (α := α) n 0 s0 s1 k0 = none := rfl
theorem f128_L1_s {α n m s0 s1 k0} : f128_L1 (α := α) n (m + 1) s0 s1 k0 = f128_L1B n s0 s1 (fun s0 s1 => f128_L1 n m s0 s1 k0) k0 := rfl
def f128 (n : Nat) (a0 a1 : LI) : Option LI :=
  f128_L1 n n a0 a1
    (fun z_2 => (
      gd (decide ((0 + z_2.length) * 8 ≤ 140737488355328)) (
        some z_2)))
def f128_E (n : Nat) : Ent := ⟨128, [hIs, hIs], [hIs], fun x => f128 n x.1 x.2⟩
def f128_D (α : Type) (n : Nat) : D3 α := { reg := [(2, ⟨0, [], [(2, { ent := some (f176_E n) })]⟩), (5, ⟨0, [], [(0, { sh := some hI })]⟩)], join := [], loop := [(1, ⟨f128_L1H, f128_L1O, rounds (f128_L1U n) n⟩)] }
theorem f128_ents (α : Type) (n : Nat) : AllS Try.prog (entsOf (f128_D α n).reg) := ⟨f176_ok n, trivial⟩
theorem f128_L1_d (α : Type) (n : Nat) : D3.OK Try.prog (tyOf Try.prog) ⟨21, []⟩ (f128_D α n) ((bodyOf Try.f128).at [1, 0, 0, 0]) :=
  D3.OK.mk3 (f128_ents α n) (show loopsOf ((bodyOf Try.f128).at [1, 0, 0, 0]) = [] by kernel_rfl) trivial
theorem f128_L1_ok (α : Type) (n : Nat) : LO.Sound (α := α) Try.prog ⟨21, []⟩ ⟨f128_L1H, f128_L1O, rounds (f128_L1U n) n⟩ (.loop ((bodyOf Try.f128).at [1, 0, 0, 0])) :=
  loop_ok (tyOf_ok _) prog_fol (f128_L1U n) (f128_L1_d α n) (by intro v f ks; kernel_rfl) n
theorem f128_d (α : Type) (n : Nat) : D3.OK Try.prog (tyOf Try.prog) ⟨21, []⟩ (f128_D α n) (bodyOf Try.f128) :=
  D3.OK.mk3 (f128_ents α n) (show loopsOf (bodyOf Try.f128) = [(1, (.loop ((bodyOf Try.f128).at [1, 0, 0, 0])))] by kernel_rfl) ⟨look_sound rfl (f128_L1_ok α n), trivial⟩
theorem f128_ok (n : Nat) : (f128_E n).Sound Try.prog :=
  fn_ok (tyOf_ok _) prog_fol (f128_D _ n) (show Try.prog.funcs[128]? = some Try.f128 by kernel_rfl) (by kernel_rfl) (show Try.f128.body = some (bodyOf Try.f128) by kernel_rfl) rfl rfl (Nat.le_of_ble_eq_true rfl) (f128_d _ n) (by intro x; kernel_rfl) 


abbrev f66_J3 : Tm := ⟨[(1, .k (.hp 1 0 0))], [(1, .var 33 true false [.d .bool, .d hIs, .d hIs])], [], []⟩
def f66 (n : Nat) (a0 : Rq) : Option Bool :=
  let J_5 := fun (_ : Unit) => (
    ob (f128 n a0.2.1 a0.2.2) fun r_3 =>
    ob (f127 n r_3 [1]) fun r_4 =>
    some (r_4 == 0))
  ob (f126 n a0.2.1) fun r_1 =>
  bif (!r_1) then
    some false
  else
    ob (f126 n a0.2.2) fun r_2 =>
    bif (!r_2) then
      some false
    else
      bif ((a0.2.2.length : Int) == 0) then
        some false
      else
        bif ((a0.2.1.length : Int) == 0) then
          bif a0.1 then
            some false
          else
            J_5 ()
        else
          J_5 ()
def f66_E (n : Nat) : Ent := ⟨66, [hR], [.bool], fun x => f66 n x⟩
def f66_D (α : Type) (n : Nat) : D3 α := { reg := [(1, ⟨0, [], [(2, { ent := some (f126_E n) }), (7, { ent := some (f126_E n) })]⟩), (3, ⟨0, [], [(4, { ent := some (f128_E n) }), (5, { sh := some hI }), (6, { ent := some (f127_E n) })]⟩)], join := [(3, f66_J3)], loop := [] }
theorem f66_ents (α : Type) (n : Nat) : AllS Try.prog (entsOf (f66_D α n).reg) := ⟨f126_ok n, f126_ok n, f128_ok n, f127_ok n, trivial⟩
theorem f66_d (α : Type) (n : Nat) : D3.OK Try.prog (tyOf Try.prog) ⟨37, []⟩ (f66_D α n) (bodyOf Try.f66) :=
  D3.OK.mk3 (f66_ents α n) (show loopsOf (bodyOf Try.f66) = [] by kernel_rfl) trivial
theorem f66_ok (n : Nat) : (f66_E n).Sound Try.prog :=
  fn_ok (tyOf_ok _) prog_fol (f66_D _ n) (show Try.prog.funcs[66]? = some Try.f66 by kernel_rfl) (by kernel_rfl) (show Try.f66.body = some (bodyOf Try.f66) by kernel_rfl) rfl rfl (Nat.le_of_ble_eq_true rfl) (f66_d _ n) (by intro x; kernel_rfl) 


abbrev f70_G1 : Tm := ⟨[(1, .k (.hp 1 0 0)), (2, .k (.hp 2 0 0))], [(1, .var 33 true false [.d .bool, .d hIs, .d hIs]), (2, .var 33 true false [.d .bool, .d .nil, .d .nil])], [], []⟩
def f70 (n : Nat) (a0 : Rq) : Option Rq :=
  gd (decide ((0 + a0.2.1.length) * 8 ≤ 140737488355328)) (
    gd (decide ((0 + a0.2.2.length) * 8 ≤ 140737488355328)) (
      some a0))
def f70_E (n : Nat) : Ent := ⟨70, [hR], [hR], fun x => f70 n x⟩
def f70_D (α : Type) (n : Nat) : D3 α := { reg := [(1, ⟨0, [], [(2, { sh := some hI }), (6, { sh := some hI })]⟩)], join := [], loop := [], any := [(1, f70_G1)] }
set_option maxHeartbeats 8000000 in
theorem f70_A1 (n : Nat) : FamAll (tyOf Try.prog) ⟨14, []⟩ [(2, { sh := some hI }), (6, { sh := some hI })] f70_G1 (regOps ((bodyOf Try.f70).at [1, 0])) := by
  refine ⟨by kernel_rfl, fun w q hq => ?_⟩
  have e : WT [(2, { sh := some hI }), (6, { sh := some hI })] (swapIdx (regOps ((bodyOf Try.f70).at [1, 0])).toList) q = (q = []) := by kernel_rfl
  rw [e] at hq
  obtain rfl := hq
  all_goals exact .inl (FamEq.mk (by kernel_rfl))
theorem f70_ents (α : Type) (n : Nat) : AllS Try.prog (entsOf (f70_D α n).reg) := trivial
theorem f70_d (α : Type) (n : Nat) : D3.OK Try.prog (tyOf Try.prog) ⟨14, []⟩ (f70_D α n) (bodyOf Try.f70) :=
  D3.OK.mk3a (f70_ents α n) (show loopsOf (bodyOf Try.f70) = [] by kernel_rfl) trivial (show anysOf (bodyOf Try.f70) = [(1, regOps ((bodyOf Try.f70).at [1, 0]))] by kernel_rfl) ⟨fun X h => (by cases h; exact f70_A1 n), trivial⟩
theorem f70_ok (n : Nat) : (f70_E n).Sound Try.prog :=
  fn_ok (tyOf_ok _) prog_fol (f70_D _ n) (show Try.prog.funcs[70]? = some Try.f70 by kernel_rfl) (by kernel_rfl) (show Try.f70.body = some (bodyOf Try.f70) by kernel_rfl) rfl rfl (Nat.le_of_ble_eq_true rfl) (f70_d _ n) (by intro x; kernel_rfl) 


def f21 (n : Nat) (a0 : Rq) : Option (Rq × Int) :=
  ob (f66 n a0) fun r_1 =>
  bif (!r_1) then
    some ((false, [], []), 1)
  else
    ob (f70 n (false, a0.2)) fun r_2 =>
    some (r_2, 0)
def f21_E (n : Nat) : Ent := ⟨21, [hR], [hR, hI], fun x => f21 n x⟩
def f21_D (α : Type) (n : Nat) : D3 α := { reg := [(1, ⟨0, [], [(1, { ent := some (f66_E n) })]⟩), (4, ⟨0, [], [(1, { ent := some (f70_E n) })]⟩)], join := [], loop := [] }
theorem f21_ents (α : Type) (n : Nat) : AllS Try.prog (entsOf (f21_D α n).reg) := ⟨f66_ok n, f70_ok n, trivial⟩
theorem f21_d (α : Type) (n : Nat) : D3.OK Try.prog (tyOf Try.prog) ⟨11, []⟩ (f21_D α n) (bodyOf Try.f21) :=
  D3.OK.mk3 (f21_ents α n) (show loopsOf (bodyOf Try.f21) = [] by kernel_rfl) trivial
theorem f21_ok (n : Nat) : (f21_E n).Sound Try.prog :=
  fn_ok (tyOf_ok _) prog_fol (f21_D _ n) (show Try.prog.funcs[21]? = some Try.f21 by kernel_rfl) (by kernel_rfl) (show Try.f21.body = some (bodyOf Try.f21) by kernel_rfl) rfl rfl (Nat.le_of_ble_eq_true rfl) (f21_d _ n) (by intro x; kernel_rfl) 


def f71B_L3B {α : Type} (n : Nat) (s0 : LI) (s4 : Int) (b7 : LI) (f : LI → Int → LI → Option α) (k0 : LI → Option α) : Option α :=
  bif (decide (s4 < (s0.length : Int))) then
    gd (decide (0 ≤ s4) && decide (s4 < (s0.length : Int))) (
      gd (decide (0 ≤ s4) && decide (s4 < (b7.length : Int))) (
        gd (decide (s4.toNat < b7.length)) (
          f s0 (W (s4 + 1)) (b7.set s4.toNat (s0.getD s4.toNat 0)))))
  else
    k0 b7
abbrev f71B_L3H : Tm := ⟨[(0, .d hIs), (3, .k (.hw 7)), (4, .d hI)], [(7, .arr 3 hI false)], [], []⟩
abbrev f71B_L3X0 : Tm := ⟨[(3, .k (.hw 7))], [(7, .arr 3 hI false)], [], []⟩
abbrev f71B_L3O : List (Exit × Tm) := [(.exit 0, f71B_L3X0)]
def f71B_L3U {α : Type} (n : Nat) (v : f71B_L3H.den) (f : f71B_L3H.den → Option α) (ks : KS α f71B_L3O) : Option α := f71B_L3B n v.1.1 v.1.2.2.1 v.2.1 (fun s0 s4 b7 => f ((s0, (), s4, ()), (b7, ()))) (fun w0 => ks.1 (((), ()), (w0, ())))
def f71B_L3 {α : Type} (n m : Nat) (s0 : LI) (s4 : Int) (b7 : LI) (k0 : LI → Option α) : Option α := rounds (f71B_L3U n) m ((s0, (), s4, ()), (b7, ())) (fun w => k0 w.2.1, ())
theorem f71B_L3_0 {α n s0 s4 b7 k0} : f71B_L3 (α := α) n 0 s0 s4 b7 k0 = none := rfl
theorem f71B_L3_s {α n m s0 s4 b7 k0} : f71B_L3 (α := α) n (m + 1) s0 s4 b7 k0 = f71B_L3B n s0 s4 b7 (fun s0 s4 b7 => f71B_L3 n m s0 s4 b7 k0) k0 := rfl
def f71B (n : Nat) (a0 : LI) : Option LI :=
  gd (decide (0 ≤ (a0.length : Int)) && decide ((a0.length : Int) ≤ 4611686018427387904) && decide ((8 : Int) * (a0.length : Int) ≤ 281474976710656)) (
    f71B_L3 n n a0 0 (List.replicate ((a0.length : Int).toNat) 0)
      (fun z_1 => (
        some z_1)))
def f71B_E (n : Nat) : Ent3 := ⟨71, [.im hIs], [[.one (.own 3 hI)]], fun x => f71B n x⟩
def f71B_D (α : Type) (n : Nat) : D3 α := { reg := [], join := [], loop := [(3, ⟨f71B_L3H, f71B_L3O, rounds (f71B_L3U n) n⟩)] }
theorem f71B_ents (α : Type) (n : Nat) : AllS Try.prog (entsOf (f71B_D α n).reg) := trivial
theorem f71B_L3_d (α : Type) (n : Nat) : D3.OK Try.prog (tyOf Try.prog) ⟨22, []⟩ (f71B_D α n) ((bodyOf Try.f71).at [1, 1, 0, 1, 0, 0]) :=
  D3.OK.mk3 (f71B_ents α n) (show loopsOf ((bodyOf Try.f71).at [1, 1, 0, 1, 0, 0]) = [] by kernel_rfl) trivial
theorem f71B_L3_ok (α : Type) (n : Nat) : LO.Sound (α := α) Try.prog ⟨22, []⟩ ⟨f71B_L3H, f71B_L3O, rounds (f71B_L3U n) n⟩ (.loop ((bodyOf Try.f71).at [1, 1, 0, 1, 0, 0])) :=
  loop_ok (tyOf_ok _) prog_fol (f71B_L3U n) (f71B_L3_d α n) (by intro v f ks; kernel_rfl) n
theorem f71B_d (α : Type) (n : Nat) : D3.OK Try.prog (tyOf Try.prog) ⟨22, []⟩ (f71B_D α n) (bodyOf Try.f71) :=
  D3.OK.mk3 (f71B_ents α n) (show loopsOf (bodyOf Try.f71) = [(3, (.loop ((bodyOf Try.f71).at [1, 1, 0, 1, 0, 0])))] by kernel_rfl) ⟨look_sound rfl (f71B_L3_ok α n), trivial⟩
theorem f71B_ok (n : Nat) : (f71B_E n).Sound Try.prog :=
  fn_okB (tyOf_ok _) prog_fol (f71B_D _ n) (show Try.prog.funcs[71]? = some Try.f71 by kernel_rfl) (by kernel_rfl) (show Try.f71.body = some (bodyOf Try.f71) by kernel_rfl) rfl rfl (Nat.le_of_ble_eq_true rfl) (f71B_d _ n) (by intro x; kernel_rfl) 


def f22B (n : Nat) (a0 : Rq) : Option (Bool × LI × LI) :=
  ob (f71B n a0.2.1) fun r_1 =>
  ob (f71B n a0.2.2) fun r_2 =>
  some (a0.1, r_1, r_2)
def f22B_E (n : Nat) : Ent3 := ⟨22, [.im hR], [[.mix [.im .bool, .own 3 hI, .own 3 hI]]], fun x => f22B n x⟩
def f22B_D (α : Type) (n : Nat) : D3 α := { reg := [(3, ⟨0, [], [(2, { entB := some (f71B_E n), hb := 310 })]⟩), (4, ⟨0, [], [(2, { entB := some (f71B_E n), hb := 320 })]⟩)], join := [], loop := [] }
theorem f22B_ents (α : Type) (n : Nat) : AllS Try.prog (entsOf (f22B_D α n).reg) := ⟨f71B_ok n, f71B_ok n, trivial⟩
theorem f22B_d (α : Type) (n : Nat) : D3.OK Try.prog (tyOf Try.prog) ⟨16, []⟩ (f22B_D α n) (bodyOf Try.f22) :=
  D3.OK.mk3 (f22B_ents α n) (show loopsOf (bodyOf Try.f22) = [] by kernel_rfl) trivial
theorem f22B_ok (n : Nat) : (f22B_E n).Sound Try.prog :=
  fn_okB (tyOf_ok _) prog_fol (f22B_D _ n) (show Try.prog.funcs[22]? = some Try.f22 by kernel_rfl) (by kernel_rfl) (show Try.f22.body = some (bodyOf Try.f22) by kernel_rfl) rfl rfl (Nat.le_of_ble_eq_true rfl) (f22B_d _ n) (by intro x; kernel_rfl) 


def f180 (n : Nat) (a0 : Int) : Option Bool :=
  bif (decide (a0 < 0)) then
    some true
  else
    some (decide (a0 ≥ 10000))
def f180_E (n : Nat) : Ent := ⟨180, [hI], [.bool], fun x => f180 n x⟩
def f180_D (α : Type) (n : Nat) : D3 α := { reg := [], join := [], loop := [] }
theorem f180_ents (α : Type) (n : Nat) : AllS Try.prog (entsOf (f180_D α n).reg) := trivial
theorem f180_d (α : Type) (n : Nat) : D3.OK Try.prog (tyOf Try.prog) ⟨9, []⟩ (f180_D α n) (bodyOf Try.f180) :=
  D3.OK.mk3 (f180_ents α n) (show loopsOf (bodyOf Try.f180) = [] by kernel_rfl) trivial
theorem f180_ok (n : Nat) : (f180_E n).Sound Try.prog :=
  fn_ok (tyOf_ok _) prog_fol (f180_D _ n) (show Try.prog.funcs[180]? = some Try.f180 by kernel_rfl) (by kernel_rfl) (show Try.f180.body = some (bodyOf Try.f180) by kernel_rfl) rfl rfl (Nat.le_of_ble_eq_true rfl) (f180_d _ n) (by intro x; kernel_rfl) 


def f195c180_L2B {α : Type} (n : Nat) (s0 : LI) (s7 s8 : Int) (f : LI → Int → Int → Option α) (k0 : Int → Option α) (k1 : Unit → Option α) : Option α :=
  bif (decide (s8 < s7)) then
    gd (decide (0 ≤ s8) && decide (s8 < (s0.length : Int))) (
      ob (f180 n (s0.getD s8.toNat 0)) fun r_1 =>
      bif r_1 then
        k0 s8
      else
        f s0 s7 (W (s8 + 1)))
  else
    k1 ()
abbrev f195c180_L2H : Tm := ⟨[(0, .d hIs), (1, .d (.fn 180)), (7, .d hI), (8, .d hI)], [], [], []⟩
abbrev f195c180_L2X0 : Tm := ⟨[(4, .d hI)], [], [], []⟩
abbrev f195c180_L2X1 : Tm := ⟨[], [], [], []⟩
abbrev f195c180_L2O : List (Exit × Tm) := [(.ret, f195c180_L2X0), (.exit 0, f195c180_L2X1)]
def f195c180_L2U {α : Type} (n : Nat) (v : f195c180_L2H.den) (f : f195c180_L2H.den → Option α) (ks : KS α f195c180_L2O) : Option α := f195c180_L2B n v.1.1 v.1.2.2.1 v.1.2.2.2.1 (fun s0 s7 s8 => f ((s0, (), s7, s8, ()), ())) (fun w0 => ks.1 ((w0, ()), ())) (fun _ => ks.2.1 ((), ()))
def f195c180_L2 {α : Type} (n m : Nat) (s0 : LI) (s7 s8 : Int) (k0 : Int → Option α) (k1 : Unit → Option α) : Option α := rounds (f195c180_L2U n) m ((s0, (), s7, s8, ()), ()) (fun w => k0 w.1.1, fun w => k1 (), ())
theorem f195c180_L2_0 {α n s0 s7 s8 k0 k1} : f195c180_L2 (α := α) n 0 s0 s7 s8 k0 k1 = none := rfl
theorem f195c180_L2_s {α n m s0 s7 s8 k0 k1} : f195c180_L2 (α := α) n (m + 1) s0 s7 s8 k0 k1 = f195c180_L2B n s0 s7 s8 (fun s0 s7 s8 => f195c180_L2 n m s0 s7 s8 k0 k1) k0 k1 := rfl
def f195c180 (n : Nat) (a0 : LI) (a1 : Unit) : Option Int :=
  f195c180_L2 n n a0 (a0.length : Int) 0
    (fun z_2 => (
      some z_2))
    (fun (_ : Unit) => (
      some (-1)))
def f195c180_E (n : Nat) : Ent := ⟨195, [hIs, (.fn 180)], [hI], fun x => f195c180 n x.1 x.2⟩
def f195c180_D (α : Type) (n : Nat) : D3 α := { reg := [(4, ⟨0, [], [(5, { ent := some (f180_E n) })]⟩)], join := [], loop := [(2, ⟨f195c180_L2H, f195c180_L2O, rounds (f195c180_L2U n) n⟩)] }
theorem f195c180_ents (α : Type) (n : Nat) : AllS Try.prog (entsOf (f195c180_D α n).reg) := ⟨f180_ok n, trivial⟩
theorem f195c180_L2_d (α : Type) (n : Nat) : D3.OK Try.prog (tyOf Try.prog) ⟨19, []⟩ (f195c180_D α n) ((bodyOf Try.f195).at [1, 0, 1, 0, 0]) :=
  D3.OK.mk3 (f195c180_ents α n) (show loopsOf ((bodyOf Try.f195).at [1, 0, 1, 0, 0]) = [] by kernel_rfl) trivial
theorem f195c180_L2_ok (α : Type) (n : Nat) : LO.Sound (α := α) Try.prog ⟨19, []⟩ ⟨f195c180_L2H, f195c180_L2O, rounds (f195c180_L2U n) n⟩ (.loop ((bodyOf Try.f195).at [1, 0, 1, 0, 0])) :=
  loop_ok (tyOf_ok _) prog_fol (f195c180_L2U n) (f195c180_L2_d α n) (by intro v f ks; kernel_rfl) n
theorem f195c180_d (α : Type) (n : Nat) : D3.OK Try.prog (tyOf Try.prog) ⟨19, []⟩ (f195c180_D α n) (bodyOf Try.f195) :=
  D3.OK.mk3 (f195c180_ents α n) (show loopsOf (bodyOf Try.f195) = [(2, (.loop ((bodyOf Try.f195).at [1, 0, 1, 0, 0])))] by kernel_rfl) ⟨look_sound rfl (f195c180_L2_ok α n), trivial⟩
theorem f195c180_ok (n : Nat) : (f195c180_E n).Sound Try.prog :=
  fn_ok (tyOf_ok _) prog_fol (f195c180_D _ n) (show Try.prog.funcs[195]? = some Try.f195 by kernel_rfl) (by kernel_rfl) (show Try.f195.body = some (bodyOf Try.f195) by kernel_rfl) rfl rfl (Nat.le_of_ble_eq_true rfl) (f195c180_d _ n) (by intro x; kernel_rfl) 


def f179c180 (n : Nat) (a0 : LI) (a1 : Unit) : Option Bool :=
  ob (f195c180 n a0 a1) fun r_1 =>
  some (decide (r_1 ≥ 0))
def f179c180_E (n : Nat) : Ent := ⟨179, [hIs, (.fn 180)], [.bool], fun x => f179c180 n x.1 x.2⟩
def f179c180_D (α : Type) (n : Nat) : D3 α := { reg := [(1, ⟨0, [], [(2, { ent := some (f195c180_E n) })]⟩)], join := [], loop := [] }
theorem f179c180_ents (α : Type) (n : Nat) : AllS Try.prog (entsOf (f179c180_D α n).reg) := ⟨f195c180_ok n, trivial⟩
theorem f179c180_d (α : Type) (n : Nat) : D3.OK Try.prog (tyOf Try.prog) ⟨9, []⟩ (f179c180_D α n) (bodyOf Try.f179) :=
  D3.OK.mk3 (f179c180_ents α n) (show loopsOf (bodyOf Try.f179) = [] by kernel_rfl) trivial
theorem f179c180_ok (n : Nat) : (f179c180_E n).Sound Try.prog :=
  fn_ok (tyOf_ok _) prog_fol (f179c180_D _ n) (show Try.prog.funcs[179]? = some Try.f179 by kernel_rfl) (by kernel_rfl) (show Try.f179.body = some (bodyOf Try.f179) by kernel_rfl) rfl rfl (Nat.le_of_ble_eq_true rfl) (f179c180_d _ n) (by intro x; kernel_rfl) 


def f134 (n : Nat) (a0 : LI) : Option Bool :=
  bif (decide ((a0.length : Int) > 40)) then
    some false
  else
    bif (decide ((a0.length : Int) > 0)) then
      gd (decide (0 ≤ (W ((a0.length : Int) - 1))) && decide ((W ((a0.length : Int) - 1)) < (a0.length : Int))) (
        bif ((a0.getD ((W ((a0.length : Int) - 1)).toNat) 0) == 0) then
          some false
        else
          ob (f179c180 n a0 ()) fun r_1 =>
          some (!r_1))
    else
      ob (f179c180 n a0 ()) fun r_2 =>
      some (!r_2)
def f134_E (n : Nat) : Ent := ⟨134, [hIs], [.bool], fun x => f134 n x⟩
def f134_D (α : Type) (n : Nat) : D3 α := { reg := [(4, ⟨0, [], [(1, { ent := some (f179c180_E n) })]⟩)], join := [], loop := [] }
theorem f134_ents (α : Type) (n : Nat) : AllS Try.prog (entsOf (f134_D α n).reg) := ⟨f179c180_ok n, trivial⟩
theorem f134_d (α : Type) (n : Nat) : D3.OK Try.prog (tyOf Try.prog) ⟨23, []⟩ (f134_D α n) (bodyOf Try.f134) :=
  D3.OK.mk3 (f134_ents α n) (show loopsOf (bodyOf Try.f134) = [] by kernel_rfl) trivial
theorem f134_ok (n : Nat) : (f134_E n).Sound Try.prog :=
  fn_ok (tyOf_ok _) prog_fol (f134_D _ n) (show Try.prog.funcs[134]? = some Try.f134 by kernel_rfl) (by kernel_rfl) (show Try.f134.body = some (bodyOf Try.f134) by kernel_rfl) rfl rfl (Nat.le_of_ble_eq_true rfl) (f134_d _ n) (by intro x; kernel_rfl) 


def f135 (n : Nat) (a0 : Rq) : Option Bool :=
  some ((a0.2.1.length : Int) == 0)
def f135_E (n : Nat) : Ent := ⟨135, [hR], [.bool], fun x => f135 n x⟩
def f135_D (α : Type) (n : Nat) : D3 α := { reg := [], join := [], loop := [] }
theorem f135_ents (α : Type) (n : Nat) : AllS Try.prog (entsOf (f135_D α n).reg) := trivial
theorem f135_d (α : Type) (n : Nat) : D3.OK Try.prog (tyOf Try.prog) ⟨7, []⟩ (f135_D α n) (bodyOf Try.f135) :=
  D3.OK.mk3 (f135_ents α n) (show loopsOf (bodyOf Try.f135) = [] by kernel_rfl) trivial
theorem f135_ok (n : Nat) : (f135_E n).Sound Try.prog :=
  fn_ok (tyOf_ok _) prog_fol (f135_D _ n) (show Try.prog.funcs[135]? = some Try.f135 by kernel_rfl) (by kernel_rfl) (show Try.f135.body = some (bodyOf Try.f135) by kernel_rfl) rfl rfl (Nat.le_of_ble_eq_true rfl) (f135_d _ n) (by intro x; kernel_rfl) 


def f181 (n : Nat) (a0 : LI) : Option LI :=
  some a0
def f181_E (n : Nat) : Ent := ⟨181, [hIs], [(.clo 196 (.ref hIs))], fun x => f181 n x⟩
def f181_D (α : Type) (n : Nat) : D3 α := { reg := [(1, ⟨0, [], [(0, { sh := some (.ref hIs) })]⟩)], join := [], loop := [] }
theorem f181_ents (α : Type) (n : Nat) : AllS Try.prog (entsOf (f181_D α n).reg) := trivial
theorem f181_d (α : Type) (n : Nat) : D3.OK Try.prog (tyOf Try.prog) ⟨4, []⟩ (f181_D α n) (bodyOf Try.f181) :=
  D3.OK.mk3 (f181_ents α n) (show loopsOf (bodyOf Try.f181) = [] by kernel_rfl) trivial
theorem f181_ok (n : Nat) : (f181_E n).Sound Try.prog :=
  fn_ok (tyOf_ok _) prog_fol (f181_D _ n) (show Try.prog.funcs[181]? = some Try.f181 by kernel_rfl) (by kernel_rfl) (show Try.f181.body = some (bodyOf Try.f181) by kernel_rfl) rfl rfl (Nat.le_of_ble_eq_true rfl) (f181_d _ n) (by intro x; kernel_rfl) 


def f136_L6B {α : Type} (n : Nat) (i : Nat) (z : Int) (s18 : LI) (c3_0 : LI) (c4_0 : Int) (f : LI → LI → Int → Option α) (k0 : Int → Option α) (k1 : Int → Option α) : Option α :=
  gd (decide (0 ≤ (i : Int)) && decide ((i : Int) < (c3_0.length : Int))) (
    bif (z != (c3_0.getD ((i : Int).toNat) 0)) then
      gd (decide (0 ≤ (i : Int)) && decide ((i : Int) < (c3_0.length : Int))) (
        bif (decide (z < (c3_0.getD ((i : Int).toNat) 0))) then
          k1 (-1)
        else
          k1 1)
    else
      f s18 c3_0 c4_0)
abbrev f136_L6H : Tm := ⟨[(3, .k (.hp 3 0 0)), (4, .k (.hp 4 0 0)), (18, .d (.clo 196 (.ref hIs)))], [(3, .var 29 true false [.d hIs]), (4, .var 3 true false [.d hI])], [], []⟩
abbrev f136_L6X0 : Tm := ⟨[(4, .k (.hp 4 0 0))], [(4, .var 3 true false [.d hI])], [3], []⟩
abbrev f136_L6X1 : Tm := ⟨[(4, .k (.hp 4 0 0))], [(4, .var 3 true false [.d hI])], [3], []⟩
abbrev f136_L6O : List (Exit × Tm) := [(.normal, f136_L6X0), (.ret, f136_L6X1)]
def f136_L6Z (v : f136_L6H.den) : List Int := (fun s18 c3_0 c4_0 => s18) v.1.2.2.1 v.2.1.1 v.2.2.1.1
def f136_L6U {α : Type} (n : Nat) (i : Nat) (z : Int) (v : f136_L6H.den) (f : f136_L6H.den → Option α) (ks : KS α f136_L6O) : Option α := f136_L6B n i z v.1.2.2.1 v.2.1.1 v.2.2.1.1 (fun s18 c3_0 c4_0 => f (((), (), s18, ()), ((c3_0, ()), (c4_0, ()), ()))) (fun w0 => ks.1 (((), ()), ((w0, ()), ()))) (fun w0 => ks.2.1 (((), ()), ((w0, ()), ())))
def f136_L6N {α : Type} (v : f136_L6H.den) (ks : KS α f136_L6O) : Option α := (fun s18 c3_0 c4_0 => ks.1 (((), ()), ((c4_0, ()), ()))) v.1.2.2.1 v.2.1.1 v.2.2.1.1
def f136_L6 {α : Type} (n : Nat) (s18 : LI) (c3_0 : LI) (c4_0 : Int) (k0 : Int → Option α) (k1 : Int → Option α) : Option α := rangeR f136_L6Z (f136_L6U n) f136_L6N (((), (), s18, ()), ((c3_0, ()), (c4_0, ()), ())) (fun w => k0 w.2.1.1, fun w => k1 w.2.1.1, ())
def f136_L6R {α : Type} (n : Nat) (zs : List Int) (i : Nat) (s18 : LI) (c3_0 : LI) (c4_0 : Int) (k0 : Int → Option α) (k1 : Int → Option α) : Option α := rangeB f136_L6Z (f136_L6U n) zs i (((), (), s18, ()), ((c3_0, ()), (c4_0, ()), ())) (fun v => f136_L6N v (fun w => k0 w.2.1.1, fun w => k1 w.2.1.1, ())) (fun w => k0 w.2.1.1, fun w => k1 w.2.1.1, ())
theorem f136_L6_e {α : Type} (n : Nat) (s18 : LI) (c3_0 : LI) (c4_0 : Int) (k0 : Int → Option α) (k1 : Int → Option α) : f136_L6 (α := α) n s18 c3_0 c4_0 k0 k1 = gd (decide (s18.length ≤ 4611686018427387904)) (f136_L6R n s18 s18.length s18 c3_0 c4_0 k0 k1) := rfl
theorem f136_L6_0 {α : Type} (n : Nat) (zs : List Int) (s18 : LI) (c3_0 : LI) (c4_0 : Int) (k0 : Int → Option α) (k1 : Int → Option α) : f136_L6R (α := α) n zs 0 s18 c3_0 c4_0 k0 k1 = k0 c4_0 := rfl
theorem f136_L6_s {α : Type} (n : Nat) (zs : List Int) (i : Nat) (s18 : LI) (c3_0 : LI) (c4_0 : Int) (k0 : Int → Option α) (k1 : Int → Option α) : f136_L6R (α := α) n zs (i + 1) s18 c3_0 c4_0 k0 k1 = f136_L6B n i (zs.getD i 0) s18 c3_0 c4_0 (fun s18 c3_0 c4_0 => gd (decide (s18 = zs)) (f136_L6R n zs i s18 c3_0 c4_0 k0 k1)) k0 k1 := rfl
def f136 (n : Nat) (a0 a1 : LI) : Option Int :=
  bif ((a0.length : Int) != (a1.length : Int)) then
    bif (decide ((a0.length : Int) < (a1.length : Int))) then
      some (-1)
    else
      some 1
  else
    ob (f181 n a0) fun r_1 =>
    f136_L6 n r_1 a1 0
      (fun z_2 => (
        some 0))
      (fun z_3 => (
        some z_3))
def f136_E (n : Nat) : Ent := ⟨136, [hIs, hIs], [hI], fun x => f136 n x.1 x.2⟩
def f136_D (α : Type) (n : Nat) : D3 α := { reg := [(5, ⟨0, [], [(1, { ent := some (f181_E n) })]⟩)], join := [], loop := [(6, ⟨f136_L6H, f136_L6O, rangeR f136_L6Z (f136_L6U n) f136_L6N⟩)] }
theorem f136_ents (α : Type) (n : Nat) : AllS Try.prog (entsOf (f136_D α n).reg) := ⟨f181_ok n, trivial⟩
theorem f136_L6A_d (α : Type) (n : Nat) : D3.OK Try.prog (tyOf Try.prog) ⟨33, []⟩ (f136_D α n) ((bodyOf Try.f136).at [1, 1, 0, 1, 0, 0]) :=
  D3.OK.mk3 (f136_ents α n) (show loopsOf ((bodyOf Try.f136).at [1, 1, 0, 1, 0, 0]) = [] by kernel_rfl) trivial
theorem f136_L6B_d (α : Type) (n : Nat) : D3.OK Try.prog (tyOf Try.prog) ⟨33, []⟩ (f136_D α n) ((bodyOf Try.f136).at [1, 1, 0, 1, 0, 1]) :=
  D3.OK.mk3 (f136_ents α n) (show loopsOf ((bodyOf Try.f136).at [1, 1, 0, 1, 0, 1]) = [] by kernel_rfl) trivial
theorem f136_L6_ok (α : Type) (n : Nat) : LO.Sound (α := α) Try.prog ⟨33, []⟩ ⟨f136_L6H, f136_L6O, rangeR f136_L6Z (f136_L6U n) f136_L6N⟩ (.rangeFunc (.tmp 18) #[19, 20] ((bodyOf Try.f136).at [1, 1, 0, 1, 0, 0]) ((bodyOf Try.f136).at [1, 1, 0, 1, 0, 1])) :=
  range_ok (tyOf_ok _) prog_fol f136_L6Z (f136_L6U n) f136_L6N back_ok rfl rfl rfl rfl (f136_L6A_d α n) (f136_L6B_d α n) (by intro v; rfl) (by intro i z v f ks; kernel_rfl) (by intro v ks; kernel_rfl)
theorem f136_d (α : Type) (n : Nat) : D3.OK Try.prog (tyOf Try.prog) ⟨33, []⟩ (f136_D α n) (bodyOf Try.f136) :=
  D3.OK.mk3 (f136_ents α n) (show loopsOf (bodyOf Try.f136) = [(6, (.rangeFunc (.tmp 18) #[19, 20] ((bodyOf Try.f136).at [1, 1, 0, 1, 0, 0]) ((bodyOf Try.f136).at [1, 1, 0, 1, 0, 1])))] by kernel_rfl) ⟨look_sound rfl (f136_L6_ok α n), trivial⟩
theorem f136_ok (n : Nat) : (f136_E n).Sound Try.prog :=
  fn_ok (tyOf_ok _) prog_fol (f136_D _ n) (show Try.prog.funcs[136]? = some Try.f136 by kernel_rfl) (by kernel_rfl) (show Try.f136.body = some (bodyOf Try.f136) by kernel_rfl) rfl rfl (Nat.le_of_ble_eq_true rfl) (f136_d _ n) (by intro x; kernel_rfl) 


def f132G (n : Nat) (a0 : LI) : Option LI :=
  gd ((!a0.isEmpty)) (
    gd (decide ((0 + a0.length) * 8 ≤ 140737488355328)) (
      some a0))
def f132G_E (n : Nat) : Ent := ⟨132, [hIs], [hIs], fun x => f132G n x⟩
def f132G_D (α : Type) (n : Nat) : D3 α := { reg := [(3, ⟨0, [], [(0, { sh := some hI })]⟩)], join := [], loop := [] }
theorem f132G_ents (α : Type) (n : Nat) : AllS Try.prog (entsOf (f132G_D α n).reg) := trivial
theorem f132G_d (α : Type) (n : Nat) : D3.OK Try.prog (tyOf Try.prog) ⟨8, []⟩ (f132G_D α n) (bodyOf Try.f132) :=
  D3.OK.mk3 (f132G_ents α n) (show loopsOf (bodyOf Try.f132) = [] by kernel_rfl) trivial
theorem f132G_ok (n : Nat) : (f132G_E n).Sound Try.prog :=
  fn_ok (tyOf_ok _) prog_fol (f132G_D _ n) (show Try.prog.funcs[132]? = some Try.f132 by kernel_rfl) (by kernel_rfl) (show Try.f132.body = some (bodyOf Try.f132) by kernel_rfl) rfl rfl (Nat.le_of_ble_eq_true rfl) (f132G_d _ n) (by intro x; kernel_rfl) 


set_option maxRecDepth 100000 in
set_option maxHeartbeats 2000000 in
theorem clone_nil (ad : Option Addr) (cap : Nat) (hc : ad = none → cap = 0) (w : World) : Calls Try.prog 132 #[.slice ad 0 cap] w fun e w' => (∃ a c, e = .returned (.slice a 0 c) ∧ (a = none → c = 0)) ∧ w.grownBy w' none := by
  refine (callsIn_wide (n := 3)).1 ?_
  refine callsIn_of_wp Try.func132 rfl trivial ?_ rfl
  simp only [Try.ntmps132, List.size_toArray, List.length_cons, List.length_nil, Nat.reduceAdd, Nat.reduceSub, Array.replicate_succ, Array.replicate_zero, List.push_toArray, List.append_toArray, List.nil_append, List.cons_append]
  have hi : ∃ i, Try.prog.info? 3 = some i := ⟨_, rfl⟩
  obtain ⟨i3, hi3⟩ := hi
  have hap : ∀ (base : Option Addr) (sCap : Nat) (a : Option Addr) (cp : Nat) (w : World), (Builtin.append_ #[29, 29] 29 #[.slice base 0 sCap, .slice a 0 cp]).run Try.prog w = .ok (.slice base 0 sCap) w := fun base sCap a cp w =>
    run_append_none w 29 29 3 i3 Try.underlying29 hi3 base 0 sCap (Nat.zero_le _) a cp
  cases ad with
  | none =>
    obtain rfl := hc rfl
    have hb : ∀ w, (binOp BinOp.eql 29 (.slice none 0 0) (.slice none 0 0)).run Try.prog w = .ok (.bool true) w := fun w => by kernel_rfl
    gi_wp2
    refine bodyPost_ret (results_tmp rfl _ _ _) rfl ?_
    exact ⟨⟨none, 0, rfl, fun _ => rfl⟩, ⟨rfl, rfl, rfl, Nat.le_refl _, fun _ _ _ => rfl⟩⟩
  | some ad =>
    have hb : ∀ w, (binOp BinOp.eql 29 (.slice (some ad) 0 cap) (.slice none 0 0)).run Try.prog w = .ok (.bool false) w := fun w => by kernel_rfl
    gi_wp2
    refine bodyPost_ret (results_tmp rfl _ _ _) rfl ?_
    exact ⟨⟨_, 0, rfl, fun _ => rfl⟩, World.grownBy_alloc w _ none⟩
def f132 (n : Nat) (a0 : List Int) : Option (List Int) := bif a0.isEmpty then some [] else f132G n a0
def f132_E (n : Nat) : Ent := ⟨132, [hIs], [hIs], fun x => f132 n x⟩
theorem f132_nil (nt : Nat) : FDen Try.prog 132 nt [] [] [.one (.i (.sl 0 false 1 []))] (.v (.one (.i (.sl 0 false 1 [])))) nt [] := by
  refine ⟨⟨Try.f132, by kernel_rfl, by kernel_rfl, by kernel_rfl⟩, fun w E vs hin hv => ?_⟩
  obtain ⟨hl, hget⟩ := hv
  match vs, hl with
  | [v], _ =>
    have h1 : Rv w E v (.one (.i (.sl 0 false 1 []))) := hget 0 v _ rfl rfl
    cases h1 with
    | one h1 =>
      cases h1 with
      | i h1 =>
        cases h1 with
        | sl _ _ _ _ _ _ _ hne => exact absurd rfl hne
        | nil _ _ cap a _ hn hc =>
          refine (clone_nil a cap hc w).mono ?_
          rintro e w' ⟨⟨a', c', rfl, hc'⟩, hg⟩
          exact ⟨_, E, rfl, .v (.one (.i (.nil 0 1 c' a' false (fun e => by cases e) hc'))), ⟨hg.os, hg.tape, hg.output, hg.size, fun b hb _ => hg.block b hb (by simp)⟩,
            ⟨fun b hb => Nat.lt_of_lt_of_le (hin.wf.alt b hb) hg.size, hin.wf.tag, hin.wf.inj, fun b h hb => by cases hin.odom b h hb⟩, fun _ _ => Iff.rfl, Nat.le_refl _, fun _ _ => rfl, fun t g ht h => absurd (hin.wf.tag t g h).1 (Nat.not_lt.2 ht),
            fun h b hb => (by cases hb), fun h h' b b' g g' z z' hb => (by cases hb), fun h b g z hb => (by cases hb), fun h b hb => (by cases hb), fun g h hg => (by cases hin.odom g h hg)⟩
theorem f132_ok (n : Nat) : (f132_E n).Sound Try.prog := by
  intro nt x r h
  cases x with
  | cons z l => exact f132G_ok n nt (z :: l) r h
  | nil =>
    have h : some ([] : List Int) = some r := h
    obtain rfl := Option.some.inj h
    exact f132_nil nt




def f186_L2B {α : Type} (n : Nat) (s0 : LI) (s3 : Int) (f : LI → Int → Option α) (k0 : LI → Int → Option α) : Option α :=
  bif (decide (s3 > 0)) then
    gd (decide (0 ≤ (W (s3 - 1))) && decide ((W (s3 - 1)) < (s0.length : Int))) (
      bif ((s0.getD ((W (s3 - 1)).toNat) 0) == 0) then
        f s0 (W (s3 - 1))
      else
        k0 s0 s3)
  else
    k0 s0 s3
abbrev f186_L2H : Tm := ⟨[(0, .d hIs), (3, .d hI)], [], [], []⟩
abbrev f186_L2X0 : Tm := ⟨[(0, .d hIs), (3, .d hI)], [], [], []⟩
abbrev f186_L2O : List (Exit × Tm) := [(.exit 0, f186_L2X0)]
def f186_L2U {α : Type} (n : Nat) (v : f186_L2H.den) (f : f186_L2H.den → Option α) (ks : KS α f186_L2O) : Option α := f186_L2B n v.1.1 v.1.2.1 (fun s0 s3 => f ((s0, s3, ()), ())) (fun w0 w1 => ks.1 ((w0, w1, ()), ()))
def f186_L2 {α : Type} (n m : Nat) (s0 : LI) (s3 : Int) (k0 : LI → Int → Option α) : Option α := rounds (f186_L2U n) m ((s0, s3, ()), ()) (fun w => k0 w.1.1 w.1.2.1, ())
theorem f186_L2_0 {α n s0 s3 k0} : f186_L2 (α := α) n 0 s0 s3 k0 = none := rfl
theorem f186_L2_s {α n m s0 s3 k0} : f186_L2 (α := α) n (m + 1) s0 s3 k0 = f186_L2B n s0 s3 (fun s0 s3 => f186_L2 n m s0 s3 k0) k0 := rfl
def f186 (n : Nat) (a0 : LI) : Option LI :=
  f186_L2 n n a0 (a0.length : Int)
    (fun z_1 z_2 => (
      gd (decide (0 ≤ z_2) && decide (z_2 ≤ (z_1.length : Int))) (
        some ((z_1.drop 0).take (z_2.toNat - 0)))))
def f186_E (n : Nat) : Ent := ⟨186, [hIs], [hIs], fun x => f186 n x⟩
def f186_D (α : Type) (n : Nat) : D3 α := { reg := [], join := [], loop := [(2, ⟨f186_L2H, f186_L2O, rounds (f186_L2U n) n⟩)] }
theorem f186_ents (α : Type) (n : Nat) : AllS Try.prog (entsOf (f186_D α n).reg) := trivial
theorem f186_L2_d (α : Type) (n : Nat) : D3.OK Try.prog (tyOf Try.prog) ⟨21, []⟩ (f186_D α n) ((bodyOf Try.f186).at [1, 1, 0, 0, 0]) :=
  D3.OK.mk3 (f186_ents α n) (show loopsOf ((bodyOf Try.f186).at [1, 1, 0, 0, 0]) = [] by kernel_rfl) trivial
theorem f186_L2_ok (α : Type) (n : Nat) : LO.Sound (α := α) Try.prog ⟨21, []⟩ ⟨f186_L2H, f186_L2O, rounds (f186_L2U n) n⟩ (.loop ((bodyOf Try.f186).at [1, 1, 0, 0, 0])) :=
  loop_ok (tyOf_ok _) prog_fol (f186_L2U n) (f186_L2_d α n) (by intro v f ks; kernel_rfl) n
theorem f186_d (α : Type) (n : Nat) : D3.OK Try.prog (tyOf Try.prog) ⟨21, []⟩ (f186_D α n) (bodyOf Try.f186) :=
  D3.OK.mk3 (f186_ents α n) (show loopsOf (bodyOf Try.f186) = [(2, (.loop ((bodyOf Try.f186).at [1, 1, 0, 0, 0])))] by kernel_rfl) ⟨look_sound rfl (f186_L2_ok α n), trivial⟩
theorem f186_ok (n : Nat) : (f186_E n).Sound Try.prog :=
  fn_ok (tyOf_ok _) prog_fol (f186_D _ n) (show Try.prog.funcs[186]? = some Try.f186 by kernel_rfl) (by kernel_rfl) (show Try.f186.body = some (bodyOf Try.f186) by kernel_rfl) rfl rfl (Nat.le_of_ble_eq_true rfl) (f186_d _ n) (by intro x; kernel_rfl) 


def f163_L2B {α : Type} (n : Nat) (s0 : Int) (b4 : LI) (f : Int → LI → Option α) (k0 : LI → Option α) : Option α :=
  bif (decide (s0 > 0)) then
    gd (decide ((b4.length + 1) * 8 ≤ 140737488355328)) (
      f (W (Int.tdiv s0 10000)) (b4 ++ [(Int.tmod s0 10000)]))
  else
    k0 b4
abbrev f163_L2H : Tm := ⟨[(0, .d hI), (3, .k (.hw 4))], [(4, .arr 3 hI false)], [12], []⟩
abbrev f163_L2X0 : Tm := ⟨[(3, .k (.hw 4))], [(4, .arr 3 hI false)], [], []⟩
abbrev f163_L2O : List (Exit × Tm) := [(.exit 0, f163_L2X0)]
def f163_L2U {α : Type} (n : Nat) (v : f163_L2H.den) (f : f163_L2H.den → Option α) (ks : KS α f163_L2O) : Option α := f163_L2B n v.1.1 v.2.1 (fun s0 b4 => f ((s0, (), ()), (b4, ()))) (fun w0 => ks.1 (((), ()), (w0, ())))
def f163_L2 {α : Type} (n m : Nat) (s0 : Int) (b4 : LI) (k0 : LI → Option α) : Option α := rounds (f163_L2U n) m ((s0, (), ()), (b4, ())) (fun w => k0 w.2.1, ())
theorem f163_L2_0 {α n s0 b4 k0} : f163_L2 (α := α) n 0 s0 b4 k0 = none := rfl
theorem f163_L2_s {α n m s0 b4 k0} : f163_L2 (α := α) n (m + 1) s0 b4 k0 = f163_L2B n s0 b4 (fun s0 b4 => f163_L2 n m s0 b4 k0) k0 := rfl
def f163 (n : Nat) (a0 : Int) : Option LI :=
  f163_L2 n n a0 []
    (fun z_1 => (
      some z_1))
def f163_E (n : Nat) : Ent := ⟨163, [hI], [hIs], fun x => f163 n x⟩
def f163_D (α : Type) (n : Nat) : D3 α := { reg := [(1, ⟨0, [], [(0, { sh := some hI })]⟩), (4, ⟨0, [], [(3, { sh := some hI })]⟩)], join := [], loop := [(2, ⟨f163_L2H, f163_L2O, rounds (f163_L2U n) n⟩)] }
theorem f163_ents (α : Type) (n : Nat) : AllS Try.prog (entsOf (f163_D α n).reg) := trivial
theorem f163_L2_d (α : Type) (n : Nat) : D3.OK Try.prog (tyOf Try.prog) ⟨15, []⟩ (f163_D α n) ((bodyOf Try.f163).at [1, 1, 0, 0, 0]) :=
  D3.OK.mk3 (f163_ents α n) (show loopsOf ((bodyOf Try.f163).at [1, 1, 0, 0, 0]) = [] by kernel_rfl) trivial
theorem f163_L2_ok (α : Type) (n : Nat) : LO.Sound (α := α) Try.prog ⟨15, []⟩ ⟨f163_L2H, f163_L2O, rounds (f163_L2U n) n⟩ (.loop ((bodyOf Try.f163).at [1, 1, 0, 0, 0])) :=
  loop_ok (tyOf_ok _) prog_fol (f163_L2U n) (f163_L2_d α n) (by intro v f ks; kernel_rfl) n
theorem f163_d (α : Type) (n : Nat) : D3.OK Try.prog (tyOf Try.prog) ⟨15, []⟩ (f163_D α n) (bodyOf Try.f163) :=
  D3.OK.mk3 (f163_ents α n) (show loopsOf (bodyOf Try.f163) = [(2, (.loop ((bodyOf Try.f163).at [1, 1, 0, 0, 0])))] by kernel_rfl) ⟨look_sound rfl (f163_L2_ok α n), trivial⟩
theorem f163_ok (n : Nat) : (f163_E n).Sound Try.prog :=
  fn_ok (tyOf_ok _) prog_fol (f163_D _ n) (show Try.prog.funcs[163]? = some Try.f163 by kernel_rfl) (by kernel_rfl) (show Try.f163.body = some (bodyOf Try.f163) by kernel_rfl) rfl rfl (Nat.le_of_ble_eq_true rfl) (f163_d _ n) (by intro x; kernel_rfl) 


def f132B (n : Nat) (a0 : LI) : Option LI :=
  gd ((!a0.isEmpty)) (
    gd (decide ((0 + a0.length) * 8 ≤ 140737488355328)) (
      some a0))
def f132B_E (n : Nat) : Ent3 := ⟨132, [.im hIs], [[.one (.own 3 hI)]], fun x => f132B n x⟩
def f132B_D (α : Type) (n : Nat) : D3 α := { reg := [(3, ⟨0, [], [(0, { sh := some hI })]⟩)], join := [], loop := [] }
theorem f132B_ents (α : Type) (n : Nat) : AllS Try.prog (entsOf (f132B_D α n).reg) := trivial
theorem f132B_d (α : Type) (n : Nat) : D3.OK Try.prog (tyOf Try.prog) ⟨8, []⟩ (f132B_D α n) (bodyOf Try.f132) :=
  D3.OK.mk3 (f132B_ents α n) (show loopsOf (bodyOf Try.f132) = [] by kernel_rfl) trivial
theorem f132B_ok (n : Nat) : (f132B_E n).Sound Try.prog :=
  fn_okB (tyOf_ok _) prog_fol (f132B_D _ n) (show Try.prog.funcs[132]? = some Try.f132 by kernel_rfl) (by kernel_rfl) (show Try.f132.body = some (bodyOf Try.f132) by kernel_rfl) rfl rfl (Nat.le_of_ble_eq_true rfl) (f132B_d _ n) (by intro x; kernel_rfl) 


def f197B_L6B {α : Type} (n : Nat) (s0o s0l : Nat) (s1 : LI) (s5 s7 s8 s50 s51 : Int) (b1000 : LI) (f : Nat → Nat → LI → Int → Int → Int → Int → Int → LI → Option α) (k0 : Nat → Nat → LI → Int → Int → Int → LI → Option α) : Option α :=
  bif (decide (s51 < s50)) then
    gd (decide (0 ≤ s51) && decide (s51 < (s0l : Int))) (
      gd (decide ((s0o + s51.toNat) < b1000.length)) (
        let J_4 := fun (y_1 : Int) => (
          let J_3 := fun (y_2 : Int) => (
            gd (decide (0 ≤ s51) && decide (s51 < (s0l : Int))) (
              gd (decide ((s0o + s51.toNat) < b1000.length)) (
                f s0o s0l s1 s5 s7 y_2 s50 (W (s51 + 1)) (b1000.set (s0o + s51.toNat) (W (y_1 - (W (y_2 * 10000))))))))
          bif (decide (y_1 < 0)) then
            J_3 (W (Int.tdiv (W ((W (y_1 - 10000)) + 1)) 10000))
          else
            J_3 0)
        bif (decide (s51 < s5)) then
          gd (decide (0 ≤ s51) && decide (s51 < (s1.length : Int))) (
            J_4 (W ((W ((b1000.getD (s0o + s51.toNat) 0) + s8)) - (W (s7 * (s1.getD s51.toNat 0))))))
        else
          J_4 (W ((b1000.getD (s0o + s51.toNat) 0) + s8))))
  else
    k0 s0o s0l s1 s5 s7 s8 b1000
abbrev f197B_L6H : Tm := ⟨[(0, .hs 1000), (1, .d hIs), (5, .d hI), (7, .d hI), (8, .d hI), (50, .d hI), (51, .d hI)], [(1000, .arr 3 hI false)], [], []⟩
abbrev f197B_L6X0 : Tm := ⟨[(0, .hs 1000), (1, .d hIs), (5, .d hI), (7, .d hI), (8, .d hI)], [(1000, .arr 3 hI false)], [], []⟩
abbrev f197B_L6O : List (Exit × Tm) := [(.exit 0, f197B_L6X0)]
def f197B_L6U {α : Type} (n : Nat) (v : f197B_L6H.den) (f : f197B_L6H.den → Option α) (ks : KS α f197B_L6O) : Option α := f197B_L6B n v.1.1.1 v.1.1.2 v.1.2.1 v.1.2.2.1 v.1.2.2.2.1 v.1.2.2.2.2.1 v.1.2.2.2.2.2.1 v.1.2.2.2.2.2.2.1 v.2.1 (fun s0o s0l s1 s5 s7 s8 s50 s51 b1000 => f (((s0o, s0l), s1, s5, s7, s8, s50, s51, ()), (b1000, ()))) (fun w0 w1 w2 w3 w4 w5 w6 => ks.1 (((w0, w1), w2, w3, w4, w5, ()), (w6, ())))
def f197B_L6 {α : Type} (n m : Nat) (s0o s0l : Nat) (s1 : LI) (s5 s7 s8 s50 s51 : Int) (b1000 : LI) (k0 : Nat → Nat → LI → Int → Int → Int → LI → Option α) : Option α := rounds (f197B_L6U n) m (((s0o, s0l), s1, s5, s7, s8, s50, s51, ()), (b1000, ())) (fun w => k0 w.1.1.1 w.1.1.2 w.1.2.1 w.1.2.2.1 w.1.2.2.2.1 w.1.2.2.2.2.1 w.2.1, ())
theorem f197B_L6_0 {α n s0o s0l s1 s5 s7 s8 s50 s51 b1000 k0} : f197B_L6 (α := α) n 0 s0o s0l s1 s5 s7 s8 s50 s51 b1000 k0 = none := rfl
theorem f197B_L6_s {α n m s0o s0l s1 s5 s7 s8 s50 s51 b1000 k0} : f197B_L6 (α := α) n (m + 1) s0o s0l s1 s5 s7 s8 s50 s51 b1000 k0 = f197B_L6B n s0o s0l s1 s5 s7 s8 s50 s51 b1000 (fun s0o s0l s1 s5 s7 s8 s50 s51 b1000 => f197B_L6 n m s0o s0l s1 s5 s7 s8 s50 s51 b1000 k0) k0 := rfl
def f197B_L20B {α : Type} (n : Nat) (s0o s0l : Nat) (s1 : LI) (s5 s7 s8 s11 s90 s91 : Int) (b1000 : LI) (f : Nat → Nat → LI → Int → Int → Int → Int → Int → Int → LI → Option α) (k0 : Nat → Nat → LI → Int → Int → Int → Int → LI → Option α) : Option α :=
  bif (decide (s91 < s90)) then
    gd (decide (0 ≤ s91) && decide (s91 < (s0l : Int))) (
      gd (decide ((s0o + s91.toNat) < b1000.length)) (
        let J_13 := fun (y_12 : Int) => (
          gd (decide (0 ≤ s91) && decide (s91 < (s0l : Int))) (
            gd (decide ((s0o + s91.toNat) < b1000.length)) (
              f s0o s0l s1 s5 s7 s8 (W (Int.tdiv y_12 10000)) s90 (W (s91 + 1)) (b1000.set (s0o + s91.toNat) (Int.tmod y_12 10000)))))
        bif (decide (s91 < s5)) then
          gd (decide (0 ≤ s91) && decide (s91 < (s1.length : Int))) (
            J_13 (W ((W ((b1000.getD (s0o + s91.toNat) 0) + s11)) + (s1.getD s91.toNat 0))))
        else
          J_13 (W ((b1000.getD (s0o + s91.toNat) 0) + s11))))
  else
    k0 s0o s0l s1 s5 s7 s8 s11 b1000
abbrev f197B_L20H : Tm := ⟨[(0, .hs 1000), (1, .d hIs), (5, .d hI), (7, .d hI), (8, .d hI), (11, .d hI), (90, .d hI), (91, .d hI)], [(1000, .arr 3 hI false)], [], []⟩
abbrev f197B_L20X0 : Tm := ⟨[(0, .hs 1000), (1, .d hIs), (5, .d hI), (7, .d hI), (8, .d hI), (11, .d hI)], [(1000, .arr 3 hI false)], [], []⟩
abbrev f197B_L20O : List (Exit × Tm) := [(.exit 4, f197B_L20X0)]
def f197B_L20U {α : Type} (n : Nat) (v : f197B_L20H.den) (f : f197B_L20H.den → Option α) (ks : KS α f197B_L20O) : Option α := f197B_L20B n v.1.1.1 v.1.1.2 v.1.2.1 v.1.2.2.1 v.1.2.2.2.1 v.1.2.2.2.2.1 v.1.2.2.2.2.2.1 v.1.2.2.2.2.2.2.1 v.1.2.2.2.2.2.2.2.1 v.2.1 (fun s0o s0l s1 s5 s7 s8 s11 s90 s91 b1000 => f (((s0o, s0l), s1, s5, s7, s8, s11, s90, s91, ()), (b1000, ()))) (fun w0 w1 w2 w3 w4 w5 w6 w7 => ks.1 (((w0, w1), w2, w3, w4, w5, w6, ()), (w7, ())))
def f197B_L20 {α : Type} (n m : Nat) (s0o s0l : Nat) (s1 : LI) (s5 s7 s8 s11 s90 s91 : Int) (b1000 : LI) (k0 : Nat → Nat → LI → Int → Int → Int → Int → LI → Option α) : Option α := rounds (f197B_L20U n) m (((s0o, s0l), s1, s5, s7, s8, s11, s90, s91, ()), (b1000, ())) (fun w => k0 w.1.1.1 w.1.1.2 w.1.2.1 w.1.2.2.1 w.1.2.2.2.1 w.1.2.2.2.2.1 w.1.2.2.2.2.2.1 w.2.1, ())
theorem f197B_L20_0 {α n s0o s0l s1 s5 s7 s8 s11 s90 s91 b1000 k0} : f197B_L20 (α := α) n 0 s0o s0l s1 s5 s7 s8 s11 s90 s91 b1000 k0 = none := rfl
theorem f197B_L20_s {α n m s0o s0l s1 s5 s7 s8 s11 s90 s91 b1000 k0} : f197B_L20 (α := α) n (m + 1) s0o s0l s1 s5 s7 s8 s11 s90 s91 b1000 k0 = f197B_L20B n s0o s0l s1 s5 s7 s8 s11 s90 s91 b1000 (fun s0o s0l s1 s5 s7 s8 s11 s90 s91 b1000 => f197B_L20 n m s0o s0l s1 s5 s7 s8 s11 s90 s91 b1000 k0) k0 := rfl
def f197B_L16B {α : Type} (n : Nat) (s0o s0l : Nat) (s1 : LI) (s5 s7 s8 : Int) (b1000 : LI) (f : Nat → Nat → LI → Int → Int → Int → LI → Option α) (k0 : Int → LI → Option α) : Option α :=
  bif (decide (s8 < 0)) then
    f197B_L20 n n s0o s0l s1 s5 (W (s7 - 1)) s8 0 (s0l : Int) 0 b1000
      (fun z_12 z_13 z_14 z_15 z_16 z_17 z_18 z_19 => (
        f z_12 z_13 z_14 z_15 z_16 (W (z_17 + z_18)) z_19))
  else
    k0 s7 b1000
abbrev f197B_L16H : Tm := ⟨[(0, .hs 1000), (1, .d hIs), (5, .d hI), (7, .d hI), (8, .d hI)], [(1000, .arr 3 hI false)], [], []⟩
abbrev f197B_L16X0 : Tm := ⟨[(7, .d hI)], [(1000, .arr 3 hI false)], [], []⟩
abbrev f197B_L16O : List (Exit × Tm) := [(.exit 2, f197B_L16X0)]
def f197B_L16U {α : Type} (n : Nat) (v : f197B_L16H.den) (f : f197B_L16H.den → Option α) (ks : KS α f197B_L16O) : Option α := f197B_L16B n v.1.1.1 v.1.1.2 v.1.2.1 v.1.2.2.1 v.1.2.2.2.1 v.1.2.2.2.2.1 v.2.1 (fun s0o s0l s1 s5 s7 s8 b1000 => f (((s0o, s0l), s1, s5, s7, s8, ()), (b1000, ()))) (fun w0 w1 => ks.1 ((w0, ()), (w1, ())))
def f197B_L16 {α : Type} (n m : Nat) (s0o s0l : Nat) (s1 : LI) (s5 s7 s8 : Int) (b1000 : LI) (k0 : Int → LI → Option α) : Option α := rounds (f197B_L16U n) m (((s0o, s0l), s1, s5, s7, s8, ()), (b1000, ())) (fun w => k0 w.1.1 w.2.1, ())
theorem f197B_L16_0 {α n s0o s0l s1 s5 s7 s8 b1000 k0} : f197B_L16 (α := α) n 0 s0o s0l s1 s5 s7 s8 b1000 k0 = none := rfl
theorem f197B_L16_s {α n m s0o s0l s1 s5 s7 s8 b1000 k0} : f197B_L16 (α := α) n (m + 1) s0o s0l s1 s5 s7 s8 b1000 k0 = f197B_L16B n s0o s0l s1 s5 s7 s8 b1000 (fun s0o s0l s1 s5 s7 s8 b1000 => f197B_L16 n m s0o s0l s1 s5 s7 s8 b1000 k0) k0 := rfl
abbrev f197B_J11 : Tm := ⟨[(0, .hs 1000), (1, .d hIs), (5, .d hI), (7, .d hI), (9, .d hI), (10, .d hI), (50, .d hI), (51, .d hI)], [(1000, .arr 3 hI false)], [], []⟩
abbrev f197B_J14 : Tm := ⟨[(0, .hs 1000), (1, .d hIs), (5, .d hI), (7, .d hI), (8, .d hI), (9, .d hI), (10, .d hI), (50, .d hI), (51, .d hI)], [(1000, .arr 3 hI false)], [], []⟩
abbrev f197B_J25 : Tm := ⟨[(0, .hs 1000), (1, .d hIs), (5, .d hI), (7, .d hI), (8, .d hI), (12, .d hI), (13, .d hI), (90, .d hI), (91, .d hI)], [(1000, .arr 3 hI false)], [], []⟩
def f197B (n : Nat) (a0 : LI × Nat × Nat) (a1 : LI) : Option (Int × LI) :=
  gd (decide (0 ≤ (a1.length : Int)) && decide ((a1.length : Int) < (a0.2.2 : Int))) (
    gd (decide ((a0.2.1 + (a1.length : Int).toNat) < a0.1.length)) (
      gd (decide (0 ≤ (W ((a1.length : Int) - 1))) && decide ((W ((a1.length : Int) - 1)) < (a0.2.2 : Int))) (
        gd (decide ((a0.2.1 + (W ((a1.length : Int) - 1)).toNat) < a0.1.length)) (
          gd (decide (0 ≤ (W ((a1.length : Int) - 2))) && decide ((W ((a1.length : Int) - 2)) < (a0.2.2 : Int))) (
            gd (decide ((a0.2.1 + (W ((a1.length : Int) - 2)).toNat) < a0.1.length)) (
              gd (decide (0 ≤ (W ((a1.length : Int) - 1))) && decide ((W ((a1.length : Int) - 1)) < (a1.length : Int))) (
                gd (decide (0 ≤ (W ((a1.length : Int) - 2))) && decide ((W ((a1.length : Int) - 2)) < (a1.length : Int))) (
                  gd (decide ((W ((W ((a1.getD ((W ((a1.length : Int) - 1)).toNat) 0) * 10000)) + (a1.getD ((W ((a1.length : Int) - 2)).toNat) 0))) ≠ 0)) (
                    f197B_L6 n n a0.2.1 a0.2.2 a1 (a1.length : Int) (min (W (Int.tdiv (W ((W ((W ((W ((a0.1.getD (a0.2.1 + (a1.length : Int).toNat) 0) * 10000)) + (a0.1.getD (a0.2.1 + (W ((a1.length : Int) - 1)).toNat) 0))) * 10000)) + (a0.1.getD (a0.2.1 + (W ((a1.length : Int) - 2)).toNat) 0))) (W ((W ((a1.getD ((W ((a1.length : Int) - 1)).toNat) 0) * 10000)) + (a1.getD ((W ((a1.length : Int) - 2)).toNat) 0))))) 9999) 0 (a0.2.2 : Int) 0 a0.1
                      (fun z_5 z_6 z_7 z_8 z_9 z_10 z_11 => (
                        f197B_L16 n n z_5 z_6 z_7 z_8 z_9 z_10 z_11
                          (fun z_20 z_21 => (
                            some (z_20, z_21))))))))))))))
def f197B_E (n : Nat) : Ent3 := ⟨197, [.one (.win 3 hI), .im hIs], [[.im hI]], fun x => f197B n x.1 x.2⟩
def f197B_D (α : Type) (n : Nat) : D3 α := { reg := [(2, ⟨17, [], []⟩), (3, ⟨13, [], []⟩)], join := [(11, f197B_J11), (14, f197B_J14), (25, f197B_J25)], loop := [(6, ⟨f197B_L6H, f197B_L6O, rounds (f197B_L6U n) n⟩), (20, ⟨f197B_L20H, f197B_L20O, rounds (f197B_L20U n) n⟩), (16, ⟨f197B_L16H, f197B_L16O, rounds (f197B_L16U n) n⟩)] }
theorem f197B_ents (α : Type) (n : Nat) : AllS Try.prog (entsOf (f197B_D α n).reg) := trivial
theorem f197B_L6_d (α : Type) (n : Nat) : D3.OK Try.prog (tyOf Try.prog) ⟨121, []⟩ (f197B_D α n) ((bodyOf Try.f197).at [1, 1, 1, 1, 1, 0, 1, 0, 0]) :=
  D3.OK.mk3 (f197B_ents α n) (show loopsOf ((bodyOf Try.f197).at [1, 1, 1, 1, 1, 0, 1, 0, 0]) = [] by kernel_rfl) trivial
theorem f197B_L6_ok (α : Type) (n : Nat) : LO.Sound (α := α) Try.prog ⟨121, []⟩ ⟨f197B_L6H, f197B_L6O, rounds (f197B_L6U n) n⟩ (.loop ((bodyOf Try.f197).at [1, 1, 1, 1, 1, 0, 1, 0, 0])) :=
  loop_ok (tyOf_ok _) prog_fol (f197B_L6U n) (f197B_L6_d α n) (by intro v f ks; kernel_rfl) n
theorem f197B_L20_d (α : Type) (n : Nat) : D3.OK Try.prog (tyOf Try.prog) ⟨121, []⟩ (f197B_D α n) ((bodyOf Try.f197).at [1, 1, 1, 1, 1, 1, 0, 0, 0, 1, 0, 1, 1, 0, 1, 0, 0]) :=
  D3.OK.mk3 (f197B_ents α n) (show loopsOf ((bodyOf Try.f197).at [1, 1, 1, 1, 1, 1, 0, 0, 0, 1, 0, 1, 1, 0, 1, 0, 0]) = [] by kernel_rfl) trivial
theorem f197B_L20_ok (α : Type) (n : Nat) : LO.Sound (α := α) Try.prog ⟨121, []⟩ ⟨f197B_L20H, f197B_L20O, rounds (f197B_L20U n) n⟩ (.loop ((bodyOf Try.f197).at [1, 1, 1, 1, 1, 1, 0, 0, 0, 1, 0, 1, 1, 0, 1, 0, 0])) :=
  loop_ok (tyOf_ok _) prog_fol (f197B_L20U n) (f197B_L20_d α n) (by intro v f ks; kernel_rfl) n
theorem f197B_L16_d (α : Type) (n : Nat) : D3.OK Try.prog (tyOf Try.prog) ⟨121, []⟩ (f197B_D α n) ((bodyOf Try.f197).at [1, 1, 1, 1, 1, 1, 0, 0, 0]) :=
  D3.OK.mk3 (f197B_ents α n) (show loopsOf ((bodyOf Try.f197).at [1, 1, 1, 1, 1, 1, 0, 0, 0]) = [(20, (.loop ((bodyOf Try.f197).at [1, 1, 1, 1, 1, 1, 0, 0, 0, 1, 0, 1, 1, 0, 1, 0, 0])))] by kernel_rfl) ⟨look_sound rfl (f197B_L20_ok α n), trivial⟩
theorem f197B_L16_ok (α : Type) (n : Nat) : LO.Sound (α := α) Try.prog ⟨121, []⟩ ⟨f197B_L16H, f197B_L16O, rounds (f197B_L16U n) n⟩ (.loop ((bodyOf Try.f197).at [1, 1, 1, 1, 1, 1, 0, 0, 0])) :=
  loop_ok (tyOf_ok _) prog_fol (f197B_L16U n) (f197B_L16_d α n) (by intro v f ks; kernel_rfl) n
theorem f197B_d (α : Type) (n : Nat) : D3.OK Try.prog (tyOf Try.prog) ⟨121, []⟩ (f197B_D α n) (bodyOf Try.f197) :=
  D3.OK.mk3 (f197B_ents α n) (show loopsOf (bodyOf Try.f197) = [(6, (.loop ((bodyOf Try.f197).at [1, 1, 1, 1, 1, 0, 1, 0, 0]))), (16, (.loop ((bodyOf Try.f197).at [1, 1, 1, 1, 1, 1, 0, 0, 0])))] by kernel_rfl) ⟨look_sound rfl (f197B_L6_ok α n), look_sound rfl (f197B_L16_ok α n), trivial⟩
theorem f197B_ok (n : Nat) : (f197B_E n).Sound Try.prog :=
  fn_okB (tyOf_ok _) prog_fol (f197B_D _ n) (show Try.prog.funcs[197]? = some Try.f197 by kernel_rfl) (by kernel_rfl) (show Try.f197.body = some (bodyOf Try.f197) by kernel_rfl) rfl rfl (Nat.le_of_ble_eq_true rfl) (f197B_d _ n) (by intro x; kernel_rfl) 


def f182_L7B {α : Type} (n : Nat) (i : Nat) (z : Int) (s29 : LI) (c3_0 : LI) (c8_0 : Int) (b27 : LI) (f : LI → LI → Int → LI → Option α) (k0 : Int → LI → Option α) : Option α :=
  gd (decide (0 < (c3_0.length : Int))) (
    gd (decide ((c3_0.getD 0 0) ≠ 0)) (
      gd (decide (0 < (c3_0.length : Int))) (
        gd (decide ((c3_0.getD 0 0) ≠ 0)) (
          gd (decide (0 ≤ (i : Int)) && decide ((i : Int) < (b27.length : Int))) (
            gd (decide ((i : Int).toNat < b27.length)) (
              f s29 c3_0 (Int.tmod (W ((W (c8_0 * 10000)) + z)) (c3_0.getD 0 0)) (b27.set ((i : Int).toNat) (W (Int.tdiv (W ((W (c8_0 * 10000)) + z)) (c3_0.getD 0 0))))))))))
abbrev f182_L7H : Tm := ⟨[(3, .k (.hp 3 0 0)), (7, .k (.hp 7 0 0)), (8, .k (.hp 8 0 0)), (29, .d (.clo 196 (.ref hIs)))], [(3, .var 29 true false [.d hIs]), (7, .var 29 false false [.k (.hw 27)]), (8, .var 3 true false [.d hI]), (27, .arr 3 hI false)], [], []⟩
abbrev f182_L7X0 : Tm := ⟨[(7, .k (.hp 7 0 0)), (8, .k (.hp 8 0 0))], [(7, .var 29 false false [.k (.hw 27)]), (8, .var 3 true false [.d hI]), (27, .arr 3 hI false)], [3], []⟩
abbrev f182_L7O : List (Exit × Tm) := [(.normal, f182_L7X0)]
def f182_L7Z (v : f182_L7H.den) : List Int := (fun s29 c3_0 c8_0 b27 => s29) v.1.2.2.2.1 v.2.1.1 v.2.2.2.1.1 v.2.2.2.2.1
def f182_L7U {α : Type} (n : Nat) (i : Nat) (z : Int) (v : f182_L7H.den) (f : f182_L7H.den → Option α) (ks : KS α f182_L7O) : Option α := f182_L7B n i z v.1.2.2.2.1 v.2.1.1 v.2.2.2.1.1 v.2.2.2.2.1 (fun s29 c3_0 c8_0 b27 => f (((), (), (), s29, ()), ((c3_0, ()), ((), ()), (c8_0, ()), b27, ()))) (fun w0 w1 => ks.1 (((), (), ()), (((), ()), (w0, ()), w1, ())))
def f182_L7N {α : Type} (v : f182_L7H.den) (ks : KS α f182_L7O) : Option α := (fun s29 c3_0 c8_0 b27 => ks.1 (((), (), ()), (((), ()), (c8_0, ()), b27, ()))) v.1.2.2.2.1 v.2.1.1 v.2.2.2.1.1 v.2.2.2.2.1
def f182_L7 {α : Type} (n : Nat) (s29 : LI) (c3_0 : LI) (c8_0 : Int) (b27 : LI) (k0 : Int → LI → Option α) : Option α := rangeR f182_L7Z (f182_L7U n) f182_L7N (((), (), (), s29, ()), ((c3_0, ()), ((), ()), (c8_0, ()), b27, ())) (fun w => k0 w.2.2.1.1 w.2.2.2.1, ())
def f182_L7R {α : Type} (n : Nat) (zs : List Int) (i : Nat) (s29 : LI) (c3_0 : LI) (c8_0 : Int) (b27 : LI) (k0 : Int → LI → Option α) : Option α := rangeB f182_L7Z (f182_L7U n) zs i (((), (), (), s29, ()), ((c3_0, ()), ((), ()), (c8_0, ()), b27, ())) (fun v => f182_L7N v (fun w => k0 w.2.2.1.1 w.2.2.2.1, ())) (fun w => k0 w.2.2.1.1 w.2.2.2.1, ())
theorem f182_L7_e {α : Type} (n : Nat) (s29 : LI) (c3_0 : LI) (c8_0 : Int) (b27 : LI) (k0 : Int → LI → Option α) : f182_L7 (α := α) n s29 c3_0 c8_0 b27 k0 = gd (decide (s29.length ≤ 4611686018427387904)) (f182_L7R n s29 s29.length s29 c3_0 c8_0 b27 k0) := rfl
theorem f182_L7_0 {α : Type} (n : Nat) (zs : List Int) (s29 : LI) (c3_0 : LI) (c8_0 : Int) (b27 : LI) (k0 : Int → LI → Option α) : f182_L7R (α := α) n zs 0 s29 c3_0 c8_0 b27 k0 = k0 c8_0 b27 := rfl
theorem f182_L7_s {α : Type} (n : Nat) (zs : List Int) (i : Nat) (s29 : LI) (c3_0 : LI) (c8_0 : Int) (b27 : LI) (k0 : Int → LI → Option α) : f182_L7R (α := α) n zs (i + 1) s29 c3_0 c8_0 b27 k0 = f182_L7B n i (zs.getD i 0) s29 c3_0 c8_0 b27 (fun s29 c3_0 c8_0 b27 => gd (decide (s29 = zs)) (f182_L7R n zs i s29 c3_0 c8_0 b27 k0)) k0 := rfl
def f182_L14B {α : Type} (n : Nat) (s6 s13 : Int) (c3_0 b62 b310 : LI) (f : Int → Int → LI → LI → LI → Option α) (k0 : LI → LI → Option α) : Option α :=
  bif (decide (s13 ≥ 0)) then
    gd (decide (0 ≤ s13) && decide (s13 ≤ (W ((W (s13 + s6)) + 1))) && decide ((W ((W (s13 + s6)) + 1)) ≤ (b310.length : Int))) (
      ob (f197B n (b310, s13.toNat, ((W ((W (s13 + s6)) + 1)).toNat - s13.toNat)) c3_0) fun r_9 =>
      gd (Nat.beq r_9.2.length b310.length && true) (
        gd (decide (0 ≤ s13) && decide (s13 < (b62.length : Int))) (
          gd (decide (s13.toNat < b62.length)) (
            f s6 (W (s13 - 1)) c3_0 (b62.set s13.toNat r_9.1) r_9.2))))
  else
    k0 b62 b310
abbrev f182_L14H : Tm := ⟨[(3, .k (.hp 3 0 0)), (6, .d hI), (11, .k (.hw 310)), (12, .k (.hw 62)), (13, .d hI)], [(3, .var 29 true false [.d hIs]), (62, .arr 3 hI false), (310, .arr 3 hI false)], [55], []⟩
abbrev f182_L14X0 : Tm := ⟨[(11, .k (.hw 310)), (12, .k (.hw 62))], [(62, .arr 3 hI false), (310, .arr 3 hI false)], [3], []⟩
abbrev f182_L14O : List (Exit × Tm) := [(.exit 2, f182_L14X0)]
def f182_L14U {α : Type} (n : Nat) (v : f182_L14H.den) (f : f182_L14H.den → Option α) (ks : KS α f182_L14O) : Option α := f182_L14B n v.1.2.1 v.1.2.2.2.2.1 v.2.1.1 v.2.2.1 v.2.2.2.1 (fun s6 s13 c3_0 b62 b310 => f (((), s6, (), (), s13, ()), ((c3_0, ()), b62, b310, ()))) (fun w0 w1 => ks.1 (((), (), ()), (w0, w1, ())))
def f182_L14 {α : Type} (n m : Nat) (s6 s13 : Int) (c3_0 b62 b310 : LI) (k0 : LI → LI → Option α) : Option α := rounds (f182_L14U n) m (((), s6, (), (), s13, ()), ((c3_0, ()), b62, b310, ())) (fun w => k0 w.2.1 w.2.2.1, ())
theorem f182_L14_0 {α n s6 s13 c3_0 b62 b310 k0} : f182_L14 (α := α) n 0 s6 s13 c3_0 b62 b310 k0 = none := rfl
theorem f182_L14_s {α n m s6 s13 c3_0 b62 b310 k0} : f182_L14 (α := α) n (m + 1) s6 s13 c3_0 b62 b310 k0 = f182_L14B n s6 s13 c3_0 b62 b310 (fun s6 s13 c3_0 b62 b310 => f182_L14 n m s6 s13 c3_0 b62 b310 k0) k0 := rfl
abbrev f182_G10 : Tm := ⟨[(3, .k (.hp 3 0 0)), (7, .k (.hp 7 0 0)), (8, .k (.hp 8 0 0)), (9, .d hI), (10, .d hI), (29, .d (.clo 196 (.ref hIs))), (30, .d hI), (31, .d hI)], [(3, .var 29 true false [.d hIs]), (7, .var 29 false false [.k (.hw 27)]), (8, .var 3 true false [.d hI]), (27, .arr 3 hI false)], [], []⟩
abbrev f182_G11 : Tm := ⟨[(7, .k (.hp 7 0 0)), (8, .k (.hp 8 0 0))], [(7, .var 29 false false [.k (.hw 27)]), (8, .var 3 true false [.d hI]), (27, .arr 3 hI false)], [], []⟩
abbrev f182_G12 : Tm := ⟨[(0, .d hIs), (3, .k (.hp 3 0 0)), (6, .d hI)], [(3, .var 29 true false [.d hIs])], [], []⟩
abbrev f182_G16 : Tm := ⟨[(3, .k (.hp 3 0 0)), (6, .d hI), (11, .k (.hw 310)), (12, .k (.hw 62)), (13, .d hI)], [(3, .var 29 true false [.d hIs]), (62, .arr 3 hI false), (310, .arr 3 hI false)], [], []⟩
def f182 (n : Nat) (a0 a1 : LI) : Option (LI × LI) :=
  ob (f136 n a0 a1) fun r_1 =>
  bif (decide (r_1 < 0)) then
    ob (f132 n a0) fun r_2 =>
    some ([], r_2)
  else
    bif ((a1.length : Int) == 1) then
      gd (decide (0 ≤ (a0.length : Int)) && decide ((a0.length : Int) ≤ 4611686018427387904) && decide ((8 : Int) * (a0.length : Int) ≤ 281474976710656)) (
        ob (f181 n a0) fun r_3 =>
        f182_L7 n r_3 a1 0 (List.replicate ((a0.length : Int).toNat) 0)
          (fun z_4 z_5 => (
            ob (f186 n z_5) fun r_6 =>
            ob (f163 n z_4) fun r_7 =>
            some (r_6, r_7))))
    else
      ob (f132B n a0) fun r_8 =>
      gd (decide ((r_8.length + 1) * 8 ≤ 140737488355328)) (
        gd (decide (0 ≤ (W ((W ((a0.length : Int) - (a1.length : Int))) + 1))) && decide ((W ((W ((a0.length : Int) - (a1.length : Int))) + 1)) ≤ 4611686018427387904) && decide ((8 : Int) * (W ((W ((a0.length : Int) - (a1.length : Int))) + 1)) ≤ 281474976710656)) (
          f182_L14 n n (a1.length : Int) (W ((a0.length : Int) - (a1.length : Int))) a1 (List.replicate ((W ((W ((a0.length : Int) - (a1.length : Int))) + 1)).toNat) 0) (r_8 ++ [0])
            (fun z_10 z_11 => (
              ob (f186 n z_10) fun r_12 =>
              ob (f186 n z_11) fun r_13 =>
              some (r_12, r_13)))))
def f182_E (n : Nat) : Ent := ⟨182, [hIs, hIs], [hIs, hIs], fun x => f182 n x.1 x.2⟩
def f182_D (α : Type) (n : Nat) : D3 α := { reg := [(1, ⟨0, [], [(2, { ent := some (f136_E n) })]⟩), (2, ⟨0, [], [(0, { sh := some hI }), (2, { ent := some (f132_E n) })]⟩), (6, ⟨0, [], [(1, { ent := some (f181_E n) })]⟩), (11, ⟨0, [], [(1, { ent := some (f186_E n), fz := [(49, hIs)] }), (3, { ent := some (f163_E n) })]⟩), (12, ⟨0, [], [(1, { entB := some (f132B_E n), hb := 310 }), (2, { sh := some hI })]⟩), (16, ⟨0, [], [(10, { entB := some (f197B_E n), hb := 320 })]⟩), (17, ⟨0, [], [(1, { ent := some (f186_E n), fz := [(83, hIs)] }), (3, { ent := some (f186_E n), fz := [(85, hIs)] })]⟩)], join := [], loop := [(7, ⟨f182_L7H, f182_L7O, rangeR f182_L7Z (f182_L7U n) f182_L7N⟩), (14, ⟨f182_L14H, f182_L14O, rounds (f182_L14U n) n⟩)], any := [(10, f182_G10), (11, f182_G11), (12, f182_G12), (16, f182_G16)] }
set_option maxHeartbeats 8000000 in
theorem f182_A10 (n : Nat) : FamAll (tyOf Try.prog) ⟨87, []⟩ [] f182_G10 (regOps ((bodyOf Try.f182).at [1, 1, 1, 0, 1, 0, 1, 0, 1, 0, 1, 0, 1])) := by
  refine ⟨by kernel_rfl, fun w q hq => ?_⟩
  have e : WT [] (swapIdx (regOps ((bodyOf Try.f182).at [1, 1, 1, 0, 1, 0, 1, 0, 1, 0, 1, 0, 1])).toList) q = (q = []) := by kernel_rfl
  rw [e] at hq
  obtain rfl := hq
  all_goals exact .inr ⟨14, by kernel_rfl, by kernel_rfl, by kernel_rfl⟩
set_option maxHeartbeats 8000000 in
theorem f182_A11 (n : Nat) : FamAll (tyOf Try.prog) ⟨87, []⟩ [(1, { ent := some (f186_E n), fz := [(49, hIs)] }), (3, { ent := some (f163_E n) })] f182_G11 (regOps ((bodyOf Try.f182).at [1, 1, 1, 0, 1, 0, 1, 1, 0])) := by
  refine ⟨by kernel_rfl, fun w q hq => ?_⟩
  have e : WT [(1, { ent := some (f186_E n), fz := [(49, hIs)] }), (3, { ent := some (f163_E n) })] (swapIdx (regOps ((bodyOf Try.f182).at [1, 1, 1, 0, 1, 0, 1, 1, 0])).toList) q = (∃ (y0 : HL (f186_E n).rs) (q0 : List (Nat × RV)), q = (1, .sv (resSV (f186_E n).rs y0)) :: q0 ∧ ∃ (y1 : HL (f163_E n).rs) (q1 : List (Nat × RV)), q0 = (3, .sv (resSV (f163_E n).rs y1)) :: q1 ∧ q1 = []) := by kernel_rfl
  rw [e] at hq
  obtain ⟨y0, q0, rfl, y1, q1, rfl, rfl⟩ := hq
  all_goals exact .inl (FamEq.mk (by kernel_rfl))
set_option maxHeartbeats 8000000 in
theorem f182_A12 (n : Nat) : FamAll (tyOf Try.prog) ⟨87, []⟩ [(1, { entB := some (f132B_E n), hb := 310 }), (2, { sh := some hI })] f182_G12 (regOps ((bodyOf Try.f182).at [1, 1, 1, 1, 0])) := by
  refine ⟨by kernel_rfl, fun w q hq => ?_⟩
  have e : WT [(1, { entB := some (f132B_E n), hb := 310 }), (2, { sh := some hI })] (swapIdx (regOps ((bodyOf Try.f182).at [1, 1, 1, 1, 0])).toList) q = (∃ (y0 : HF (ownsP 1000 (f132B_E n).ts) (f132B_E n).forms) (q0 : List (Nat × RV)), q = (1, .bx (f132B_E n) y0) :: q0 ∧ q0 = []) := by kernel_rfl
  rw [e] at hq
  obtain ⟨y0, q0, rfl, rfl⟩ := hq
  all_goals exact .inl (FamEq.mk (by kernel_rfl))
set_option maxHeartbeats 8000000 in
theorem f182_A16 (n : Nat) : FamAll (tyOf Try.prog) ⟨87, []⟩ [(10, { entB := some (f197B_E n), hb := 320 })] f182_G16 (regOps ((bodyOf Try.f182).at [1, 1, 1, 1, 1, 0, 1, 0, 0, 1, 0, 0])) := by
  refine ⟨by kernel_rfl, fun w q hq => ?_⟩
  have e : WT [(10, { entB := some (f197B_E n), hb := 320 })] (swapIdx (regOps ((bodyOf Try.f182).at [1, 1, 1, 1, 1, 0, 1, 0, 0, 1, 0, 0])).toList) q = (∃ (y0 : HF (ownsP 1000 (f197B_E n).ts) (f197B_E n).forms) (q0 : List (Nat × RV)), q = (10, .bx (f197B_E n) y0) :: q0 ∧ q0 = []) := by kernel_rfl
  rw [e] at hq
  obtain ⟨y0, q0, rfl, rfl⟩ := hq
  all_goals exact .inl (FamEq.mk (by kernel_rfl))
theorem f182_ents (α : Type) (n : Nat) : AllS Try.prog (entsOf (f182_D α n).reg) := ⟨f136_ok n, f132_ok n, f181_ok n, f186_ok n, f163_ok n, f132B_ok n, f197B_ok n, f186_ok n, f186_ok n, trivial⟩
theorem f182_L7A_d (α : Type) (n : Nat) : D3.OK Try.prog (tyOf Try.prog) ⟨87, []⟩ (f182_D α n) ((bodyOf Try.f182).at [1, 1, 1, 0, 1, 0, 1, 0, 1, 0, 0]) :=
  D3.OK.mk3a (f182_ents α n) (show loopsOf ((bodyOf Try.f182).at [1, 1, 1, 0, 1, 0, 1, 0, 1, 0, 0]) = [] by kernel_rfl) trivial (show anysOf ((bodyOf Try.f182).at [1, 1, 1, 0, 1, 0, 1, 0, 1, 0, 0]) = [] by kernel_rfl) trivial
theorem f182_L7B_d (α : Type) (n : Nat) : D3.OK Try.prog (tyOf Try.prog) ⟨87, []⟩ (f182_D α n) ((bodyOf Try.f182).at [1, 1, 1, 0, 1, 0, 1, 0, 1, 0, 1]) :=
  D3.OK.mk3a (f182_ents α n) (show loopsOf ((bodyOf Try.f182).at [1, 1, 1, 0, 1, 0, 1, 0, 1, 0, 1]) = [] by kernel_rfl) trivial (show anysOf ((bodyOf Try.f182).at [1, 1, 1, 0, 1, 0, 1, 0, 1, 0, 1]) = [(10, regOps ((bodyOf Try.f182).at [1, 1, 1, 0, 1, 0, 1, 0, 1, 0, 1, 0, 1]))] by kernel_rfl) ⟨fun X h => (by cases h; exact f182_A10 n), trivial⟩
theorem f182_L7_ok (α : Type) (n : Nat) : LO.Sound (α := α) Try.prog ⟨87, []⟩ ⟨f182_L7H, f182_L7O, rangeR f182_L7Z (f182_L7U n) f182_L7N⟩ (.rangeFunc (.tmp 29) #[30, 31] ((bodyOf Try.f182).at [1, 1, 1, 0, 1, 0, 1, 0, 1, 0, 0]) ((bodyOf Try.f182).at [1, 1, 1, 0, 1, 0, 1, 0, 1, 0, 1])) :=
  range_ok (tyOf_ok _) prog_fol f182_L7Z (f182_L7U n) f182_L7N back_ok rfl rfl rfl rfl (f182_L7A_d α n) (f182_L7B_d α n) (by intro v; rfl) (by intro i z v f ks; kernel_rfl) (by intro v ks; kernel_rfl)
theorem f182_L14_d (α : Type) (n : Nat) : D3.OK Try.prog (tyOf Try.prog) ⟨87, []⟩ (f182_D α n) ((bodyOf Try.f182).at [1, 1, 1, 1, 1, 0, 1, 0, 0]) :=
  D3.OK.mk3a (f182_ents α n) (show loopsOf ((bodyOf Try.f182).at [1, 1, 1, 1, 1, 0, 1, 0, 0]) = [] by kernel_rfl) trivial (show anysOf ((bodyOf Try.f182).at [1, 1, 1, 1, 1, 0, 1, 0, 0]) = [(16, regOps ((bodyOf Try.f182).at [1, 1, 1, 1, 1, 0, 1, 0, 0, 1, 0, 0]))] by kernel_rfl) ⟨fun X h => (by cases h; exact f182_A16 n), trivial⟩
theorem f182_L14_ok (α : Type) (n : Nat) : LO.Sound (α := α) Try.prog ⟨87, []⟩ ⟨f182_L14H, f182_L14O, rounds (f182_L14U n) n⟩ (.loop ((bodyOf Try.f182).at [1, 1, 1, 1, 1, 0, 1, 0, 0])) :=
  loop_ok (tyOf_ok _) prog_fol (f182_L14U n) (f182_L14_d α n) (by intro v f ks; kernel_rfl) n
theorem f182_d (α : Type) (n : Nat) : D3.OK Try.prog (tyOf Try.prog) ⟨87, []⟩ (f182_D α n) (bodyOf Try.f182) :=
  D3.OK.mk3a (f182_ents α n) (show loopsOf (bodyOf Try.f182) = [(7, (.rangeFunc (.tmp 29) #[30, 31] ((bodyOf Try.f182).at [1, 1, 1, 0, 1, 0, 1, 0, 1, 0, 0]) ((bodyOf Try.f182).at [1, 1, 1, 0, 1, 0, 1, 0, 1, 0, 1]))), (14, (.loop ((bodyOf Try.f182).at [1, 1, 1, 1, 1, 0, 1, 0, 0])))] by kernel_rfl) ⟨look_sound rfl (f182_L7_ok α n), look_sound rfl (f182_L14_ok α n), trivial⟩ (show anysOf (bodyOf Try.f182) = [(11, regOps ((bodyOf Try.f182).at [1, 1, 1, 0, 1, 0, 1, 1, 0])), (12, regOps ((bodyOf Try.f182).at [1, 1, 1, 1, 0]))] by kernel_rfl) ⟨fun X h => (by cases h; exact f182_A11 n), fun X h => (by cases h; exact f182_A12 n), trivial⟩
theorem f182_ok (n : Nat) : (f182_E n).Sound Try.prog :=
  fn_ok (tyOf_ok _) prog_fol (f182_D _ n) (show Try.prog.funcs[182]? = some Try.f182 by kernel_rfl) (by kernel_rfl) (show Try.f182.body = some (bodyOf Try.f182) by kernel_rfl) rfl rfl (Nat.le_of_ble_eq_true rfl) (f182_d _ n) (by intro x; kernel_rfl) 


def f137_L1B {α : Type} (n : Nat) (s0 s1 : LI) (f : LI → LI → Option α) (k0 : LI → Option α) : Option α :=
  bif (decide ((s1.length : Int) > 0)) then
    ob (f182 n s0 s1) fun r_1 =>
    f s1 r_1.2
  else
    k0 s0
abbrev f137_L1H : Tm := ⟨[(0, .d hIs), (1, .d hIs)], [], [], []⟩
abbrev f137_L1X0 : Tm := ⟨[(0, .d hIs)], [], [], []⟩
abbrev f137_L1O : List (Exit × Tm) := [(.exit 0, f137_L1X0)]
def f137_L1U {α : Type} (n : Nat) (v : f137_L1H.den) (f : f137_L1H.den → Option α) (ks : KS α f137_L1O) : Option α := f137_L1B n v.1.1 v.1.2.1 (fun s0 s1 => f ((s0, s1, ()), ())) (fun w0 => ks.1 ((w0, ()), ()))
def f137_L1 {α : Type} (n m : Nat) (s0 s1 : LI) (k0 : LI → Option α) : Option α := rounds (f137_L1U n) m ((s0, s1, ()), ()) (fun w => k0 w.1.1, ())
theorem f137_L1_0 {α n s0 s1 k0} : f137_L1 (α := α) n 0 s0 s1 k0 = none := rfl
theorem f137_L1_s {α n m s0 s1 k0} : f137_L1 (α := α) n (m + 1) s0 s1 k0 = f137_L1B n s0 s1 (fun s0 s1 => f137_L1 n m s0 s1 k0) k0 := rfl
def f137 (n : Nat) (a0 a1 : LI) : Option LI :=
  f137_L1 n n a0 a1
    (fun z_2 => (
      some z_2))
def f137_E (n : Nat) : Ent := ⟨137, [hIs, hIs], [hIs], fun x => f137 n x.1 x.2⟩
def f137_D (α : Type) (n : Nat) : D3 α := { reg := [(2, ⟨0, [], [(2, { ent := some (f182_E n) })]⟩)], join := [], loop := [(1, ⟨f137_L1H, f137_L1O, rounds (f137_L1U n) n⟩)] }
theorem f137_ents (α : Type) (n : Nat) : AllS Try.prog (entsOf (f137_D α n).reg) := ⟨f182_ok n, trivial⟩
theorem f137_L1_d (α : Type) (n : Nat) : D3.OK Try.prog (tyOf Try.prog) ⟨19, []⟩ (f137_D α n) ((bodyOf Try.f137).at [1, 0, 0, 0]) :=
  D3.OK.mk3 (f137_ents α n) (show loopsOf ((bodyOf Try.f137).at [1, 0, 0, 0]) = [] by kernel_rfl) trivial
theorem f137_L1_ok (α : Type) (n : Nat) : LO.Sound (α := α) Try.prog ⟨19, []⟩ ⟨f137_L1H, f137_L1O, rounds (f137_L1U n) n⟩ (.loop ((bodyOf Try.f137).at [1, 0, 0, 0])) :=
  loop_ok (tyOf_ok _) prog_fol (f137_L1U n) (f137_L1_d α n) (by intro v f ks; kernel_rfl) n
theorem f137_d (α : Type) (n : Nat) : D3.OK Try.prog (tyOf Try.prog) ⟨19, []⟩ (f137_D α n) (bodyOf Try.f137) :=
  D3.OK.mk3 (f137_ents α n) (show loopsOf (bodyOf Try.f137) = [(1, (.loop ((bodyOf Try.f137).at [1, 0, 0, 0])))] by kernel_rfl) ⟨look_sound rfl (f137_L1_ok α n), trivial⟩
theorem f137_ok (n : Nat) : (f137_E n).Sound Try.prog :=
  fn_ok (tyOf_ok _) prog_fol (f137_D _ n) (show Try.prog.funcs[137]? = some Try.f137 by kernel_rfl) (by kernel_rfl) (show Try.f137.body = some (bodyOf Try.f137) by kernel_rfl) rfl rfl (Nat.le_of_ble_eq_true rfl) (f137_d _ n) (by intro x; kernel_rfl) 


def f138 (n : Nat)  : Option LI :=
  some [1]
def f138_E (n : Nat) : Ent := ⟨138, [], [hIs], fun _ => f138 n⟩
def f138_D (α : Type) (n : Nat) : D3 α := { reg := [(1, ⟨0, [], [(0, { sh := some hI })]⟩)], join := [], loop := [] }
theorem f138_ents (α : Type) (n : Nat) : AllS Try.prog (entsOf (f138_D α n).reg) := trivial
theorem f138_d (α : Type) (n : Nat) : D3.OK Try.prog (tyOf Try.prog) ⟨2, []⟩ (f138_D α n) (bodyOf Try.f138) :=
  D3.OK.mk3 (f138_ents α n) (show loopsOf (bodyOf Try.f138) = [] by kernel_rfl) trivial
theorem f138_ok (n : Nat) : (f138_E n).Sound Try.prog :=
  fn_ok (tyOf_ok _) prog_fol (f138_D _ n) (show Try.prog.funcs[138]? = some Try.f138 by kernel_rfl) (by kernel_rfl) (show Try.f138.body = some (bodyOf Try.f138) by kernel_rfl) rfl rfl (Nat.le_of_ble_eq_true rfl) (f138_d _ n) (by intro x; kernel_rfl) 


abbrev f78_J3 : Tm := ⟨[(1, .k (.hp 1 0 0))], [(1, .var 33 true false [.d .bool, .d hIs, .d hIs])], [], []⟩
def f78 (n : Nat) (a0 : Rq) : Option Bool :=
  let J_7 := fun (_ : Unit) => (
    ob (f137 n a0.2.1 a0.2.2) fun r_4 =>
    ob (f138 n) fun r_5 =>
    ob (f136 n r_4 r_5) fun r_6 =>
    some (r_6 == 0))
  ob (f134 n a0.2.1) fun r_1 =>
  bif (!r_1) then
    some false
  else
    ob (f134 n a0.2.2) fun r_2 =>
    bif (!r_2) then
      some false
    else
      bif ((a0.2.2.length : Int) == 0) then
        some false
      else
        bif a0.1 then
          ob (f135 n a0) fun r_3 =>
          bif r_3 then
            some false
          else
            J_7 ()
        else
          J_7 ()
def f78_E (n : Nat) : Ent := ⟨78, [hR], [.bool], fun x => f78 n x⟩
def f78_D (α : Type) (n : Nat) : D3 α := { reg := [(1, ⟨0, [], [(2, { ent := some (f134_E n) }), (7, { ent := some (f134_E n) }), (21, { ent := some (f135_E n) })]⟩), (3, ⟨0, [], [(4, { ent := some (f137_E n) }), (5, { ent := some (f138_E n) }), (6, { ent := some (f136_E n) })]⟩)], join := [(3, f78_J3)], loop := [] }
theorem f78_ents (α : Type) (n : Nat) : AllS Try.prog (entsOf (f78_D α n).reg) := ⟨f134_ok n, f134_ok n, f135_ok n, f137_ok n, f138_ok n, f136_ok n, trivial⟩
theorem f78_d (α : Type) (n : Nat) : D3.OK Try.prog (tyOf Try.prog) ⟨35, []⟩ (f78_D α n) (bodyOf Try.f78) :=
  D3.OK.mk3 (f78_ents α n) (show loopsOf (bodyOf Try.f78) = [] by kernel_rfl) trivial
theorem f78_ok (n : Nat) : (f78_E n).Sound Try.prog :=
  fn_ok (tyOf_ok _) prog_fol (f78_D _ n) (show Try.prog.funcs[78]? = some Try.f78 by kernel_rfl) (by kernel_rfl) (show Try.f78.body = some (bodyOf Try.f78) by kernel_rfl) rfl rfl (Nat.le_of_ble_eq_true rfl) (f78_d _ n) (by intro x; kernel_rfl) 


def f131 (n : Nat) (a0 : Rq) : Option Bool :=
  ob (f78 n a0) fun r_1 =>
  some (!r_1)
def f131_E (n : Nat) : Ent := ⟨131, [hR], [.bool], fun x => f131 n x⟩
def f131_D (α : Type) (n : Nat) : D3 α := { reg := [(1, ⟨0, [], [(1, { ent := some (f78_E n) })]⟩)], join := [], loop := [] }
theorem f131_ents (α : Type) (n : Nat) : AllS Try.prog (entsOf (f131_D α n).reg) := ⟨f78_ok n, trivial⟩
theorem f131_d (α : Type) (n : Nat) : D3.OK Try.prog (tyOf Try.prog) ⟨6, []⟩ (f131_D α n) (bodyOf Try.f131) :=
  D3.OK.mk3 (f131_ents α n) (show loopsOf (bodyOf Try.f131) = [] by kernel_rfl) trivial
theorem f131_ok (n : Nat) : (f131_E n).Sound Try.prog :=
  fn_ok (tyOf_ok _) prog_fol (f131_D _ n) (show Try.prog.funcs[131]? = some Try.f131 by kernel_rfl) (by kernel_rfl) (show Try.f131.body = some (bodyOf Try.f131) by kernel_rfl) rfl rfl (Nat.le_of_ble_eq_true rfl) (f131_d _ n) (by intro x; kernel_rfl) 


def f177c131_L2B {α : Type} (n : Nat) (s0 : LR) (s7 s8 : Int) (f : LR → Int → Int → Option α) (k0 : Int → Option α) (k1 : Unit → Option α) : Option α :=
  bif (decide (s8 < s7)) then
    gd (decide (0 ≤ s8) && decide (s8 < (s0.length : Int))) (
      let x_1 := s0.getD s8.toNat (false, [], [])
      ob (f131 n x_1) fun r_2 =>
      bif r_2 then
        k0 s8
      else
        f s0 s7 (W (s8 + 1)))
  else
    k1 ()
abbrev f177c131_L2H : Tm := ⟨[(0, .d hRs), (1, .d (.fn 131)), (7, .d hI), (8, .d hI)], [], [], []⟩
abbrev f177c131_L2X0 : Tm := ⟨[(4, .d hI)], [], [], []⟩
abbrev f177c131_L2X1 : Tm := ⟨[], [], [], []⟩
abbrev f177c131_L2O : List (Exit × Tm) := [(.ret, f177c131_L2X0), (.exit 0, f177c131_L2X1)]
def f177c131_L2U {α : Type} (n : Nat) (v : f177c131_L2H.den) (f : f177c131_L2H.den → Option α) (ks : KS α f177c131_L2O) : Option α := f177c131_L2B n v.1.1 v.1.2.2.1 v.1.2.2.2.1 (fun s0 s7 s8 => f ((s0, (), s7, s8, ()), ())) (fun w0 => ks.1 ((w0, ()), ())) (fun _ => ks.2.1 ((), ()))
def f177c131_L2 {α : Type} (n m : Nat) (s0 : LR) (s7 s8 : Int) (k0 : Int → Option α) (k1 : Unit → Option α) : Option α := rounds (f177c131_L2U n) m ((s0, (), s7, s8, ()), ()) (fun w => k0 w.1.1, fun w => k1 (), ())
theorem f177c131_L2_0 {α n s0 s7 s8 k0 k1} : f177c131_L2 (α := α) n 0 s0 s7 s8 k0 k1 = none := rfl
theorem f177c131_L2_s {α n m s0 s7 s8 k0 k1} : f177c131_L2 (α := α) n (m + 1) s0 s7 s8 k0 k1 = f177c131_L2B n s0 s7 s8 (fun s0 s7 s8 => f177c131_L2 n m s0 s7 s8 k0 k1) k0 k1 := rfl
def f177c131 (n : Nat) (a0 : LR) (a1 : Unit) : Option Int :=
  f177c131_L2 n n a0 (a0.length : Int) 0
    (fun z_3 => (
      some z_3))
    (fun (_ : Unit) => (
      some (-1)))
def f177c131_E (n : Nat) : Ent := ⟨177, [hRs, (.fn 131)], [hI], fun x => f177c131 n x.1 x.2⟩
def f177c131_D (α : Type) (n : Nat) : D3 α := { reg := [(4, ⟨0, [], [(5, { ent := some (f131_E n) })]⟩)], join := [], loop := [(2, ⟨f177c131_L2H, f177c131_L2O, rounds (f177c131_L2U n) n⟩)] }
theorem f177c131_ents (α : Type) (n : Nat) : AllS Try.prog (entsOf (f177c131_D α n).reg) := ⟨f131_ok n, trivial⟩
theorem f177c131_L2_d (α : Type) (n : Nat) : D3.OK Try.prog (tyOf Try.prog) ⟨19, []⟩ (f177c131_D α n) ((bodyOf Try.f177).at [1, 0, 1, 0, 0]) :=
  D3.OK.mk3 (f177c131_ents α n) (show loopsOf ((bodyOf Try.f177).at [1, 0, 1, 0, 0]) = [] by kernel_rfl) trivial
theorem f177c131_L2_ok (α : Type) (n : Nat) : LO.Sound (α := α) Try.prog ⟨19, []⟩ ⟨f177c131_L2H, f177c131_L2O, rounds (f177c131_L2U n) n⟩ (.loop ((bodyOf Try.f177).at [1, 0, 1, 0, 0])) :=
  loop_ok (tyOf_ok _) prog_fol (f177c131_L2U n) (f177c131_L2_d α n) (by intro v f ks; kernel_rfl) n
theorem f177c131_d (α : Type) (n : Nat) : D3.OK Try.prog (tyOf Try.prog) ⟨19, []⟩ (f177c131_D α n) (bodyOf Try.f177) :=
  D3.OK.mk3 (f177c131_ents α n) (show loopsOf (bodyOf Try.f177) = [(2, (.loop ((bodyOf Try.f177).at [1, 0, 1, 0, 0])))] by kernel_rfl) ⟨look_sound rfl (f177c131_L2_ok α n), trivial⟩
theorem f177c131_ok (n : Nat) : (f177c131_E n).Sound Try.prog :=
  fn_ok (tyOf_ok _) prog_fol (f177c131_D _ n) (show Try.prog.funcs[177]? = some Try.f177 by kernel_rfl) (by kernel_rfl) (show Try.f177.body = some (bodyOf Try.f177) by kernel_rfl) rfl rfl (Nat.le_of_ble_eq_true rfl) (f177c131_d _ n) (by intro x; kernel_rfl) 


def f130c131 (n : Nat) (a0 : LR) (a1 : Unit) : Option Bool :=
  ob (f177c131 n a0 a1) fun r_1 =>
  some (decide (r_1 ≥ 0))
def f130c131_E (n : Nat) : Ent := ⟨130, [hRs, (.fn 131)], [.bool], fun x => f130c131 n x.1 x.2⟩
def f130c131_D (α : Type) (n : Nat) : D3 α := { reg := [(1, ⟨0, [], [(2, { ent := some (f177c131_E n) })]⟩)], join := [], loop := [] }
theorem f130c131_ents (α : Type) (n : Nat) : AllS Try.prog (entsOf (f130c131_D α n).reg) := ⟨f177c131_ok n, trivial⟩
theorem f130c131_d (α : Type) (n : Nat) : D3.OK Try.prog (tyOf Try.prog) ⟨9, []⟩ (f130c131_D α n) (bodyOf Try.f130) :=
  D3.OK.mk3 (f130c131_ents α n) (show loopsOf (bodyOf Try.f130) = [] by kernel_rfl) trivial
theorem f130c131_ok (n : Nat) : (f130c131_E n).Sound Try.prog :=
  fn_ok (tyOf_ok _) prog_fol (f130c131_D _ n) (show Try.prog.funcs[130]? = some Try.f130 by kernel_rfl) (by kernel_rfl) (show Try.f130.body = some (bodyOf Try.f130) by kernel_rfl) rfl rfl (Nat.le_of_ble_eq_true rfl) (f130c131_d _ n) (by intro x; kernel_rfl) 


def f129 (n : Nat) (a0 : Bool) (a1 : Int) : Option Int :=
  bif a0 then
    some 0
  else
    some a1
def f129_E (n : Nat) : Ent := ⟨129, [.bool, hI], [hI], fun x => f129 n x.1 x.2⟩
def f129_D (α : Type) (n : Nat) : D3 α := { reg := [], join := [], loop := [] }
theorem f129_ents (α : Type) (n : Nat) : AllS Try.prog (entsOf (f129_D α n).reg) := trivial
theorem f129_d (α : Type) (n : Nat) : D3.OK Try.prog (tyOf Try.prog) ⟨7, []⟩ (f129_D α n) (bodyOf Try.f129) :=
  D3.OK.mk3 (f129_ents α n) (show loopsOf (bodyOf Try.f129) = [] by kernel_rfl) trivial
theorem f129_ok (n : Nat) : (f129_E n).Sound Try.prog :=
  fn_ok (tyOf_ok _) prog_fol (f129_D _ n) (show Try.prog.funcs[129]? = some Try.f129 by kernel_rfl) (by kernel_rfl) (show Try.f129.body = some (bodyOf Try.f129) by kernel_rfl) rfl rfl (Nat.le_of_ble_eq_true rfl) (f129_d _ n) (by intro x; kernel_rfl) 


def f68 (n : Nat) (a0 : LR) : Option Int :=
  ob (f130c131 n a0 ()) fun r_1 =>
  ob (f129 n (!r_1) 1) fun r_2 =>
  some r_2
def f68_E (n : Nat) : Ent := ⟨68, [hRs], [hI], fun x => f68 n x⟩
def f68_D (α : Type) (n : Nat) : D3 α := { reg := [(1, ⟨0, [], [(1, { ent := some (f130c131_E n) }), (3, { ent := some (f129_E n) })]⟩)], join := [], loop := [] }
theorem f68_ents (α : Type) (n : Nat) : AllS Try.prog (entsOf (f68_D α n).reg) := ⟨f130c131_ok n, f129_ok n, trivial⟩
theorem f68_d (α : Type) (n : Nat) : D3.OK Try.prog (tyOf Try.prog) ⟨7, []⟩ (f68_D α n) (bodyOf Try.f68) :=
  D3.OK.mk3 (f68_ents α n) (show loopsOf (bodyOf Try.f68) = [] by kernel_rfl) trivial
theorem f68_ok (n : Nat) : (f68_E n).Sound Try.prog :=
  fn_ok (tyOf_ok _) prog_fol (f68_D _ n) (show Try.prog.funcs[68]? = some Try.f68 by kernel_rfl) (by kernel_rfl) (show Try.f68.body = some (bodyOf Try.f68) by kernel_rfl) rfl rfl (Nat.le_of_ble_eq_true rfl) (f68_d _ n) (by intro x; kernel_rfl) 


def f132B1 (n : Nat) (a0 : List Int) : Option (List Int ⊕ Unit) := bif a0.isEmpty then some (.inr ()) else (f132B n a0).map .inl
def f132B1_E (n : Nat) : Ent3 := ⟨132, [.im hIs], [[.one (.own 3 hI)], [.one (.emp hI)]], fun x => f132B1 n x⟩
theorem f132B1_ok (n : Nat) : (f132B1_E n).Sound Try.prog := by
  intro nt x z h
  cases x with
  | cons y l =>
    have h : (f132B n (y :: l)).map Sum.inl = some z := h
    cases e : f132B n (y :: l) with
    | none => rw [e] at h; cases h
    | some r =>
      rw [e] at h
      obtain rfl := Option.some.inj h
      exact f132B_ok n nt (y :: l) r e
  | nil =>
    have h : some (Sum.inr ()) = some z := h
    obtain rfl := Option.some.inj h
    exact f132_nil nt




abbrev f72B_G1 : Tm := ⟨[(1, .k (.hp 1 0 0)), (2, .k (.hp 2 0 0))], [(1, .var 33 true false [.d .bool, .d hIs, .d hIs]), (2, .var 33 true false [.d .bool, .d .nil, .d .nil])], [], []⟩
def f72B (n : Nat) (a0 : Rq) : Option ((Bool × LI × LI) ⊕ ((Bool × Unit × LI) ⊕ ((Bool × LI × Unit) ⊕ (Bool × Unit × Unit)))) :=
  ob (f132B1 n a0.2.1) fun r_1 =>
  caseS r_1 (fun r_2 =>
    ob (f132B1 n a0.2.2) fun r_4 =>
    caseS r_4 (fun r_5 =>
      some (.inl (a0.1, r_2, r_5))) (fun r_6 =>
      some (.inr (.inr (.inl (a0.1, r_2, ())))))) (fun r_3 =>
    ob (f132B1 n a0.2.2) fun r_7 =>
    caseS r_7 (fun r_8 =>
      some (.inr (.inl (a0.1, (), r_8)))) (fun r_9 =>
      some (.inr (.inr (.inr (a0.1, (), ()))))))
def f72B_E (n : Nat) : Ent3 := ⟨72, [.im hR], [[.mix [.im .bool, .own 3 hI, .own 3 hI]], [.mix [.im .bool, .emp hI, .own 3 hI]], [.mix [.im .bool, .own 3 hI, .emp hI]], [.mix [.im .bool, .emp hI, .emp hI]]], fun x => f72B n x⟩
def f72B_D (α : Type) (n : Nat) : D3 α := { reg := [(1, ⟨0, [], [(4, { entB := some (f132B1_E n), hb := 310 }), (7, { entB := some (f132B1_E n), hb := 320 })]⟩)], join := [], loop := [], any := [(1, f72B_G1)] }
set_option maxHeartbeats 8000000 in
theorem f72B_A1 (n : Nat) : FamAll (tyOf Try.prog) ⟨12, []⟩ [(4, { entB := some (f132B1_E n), hb := 310 }), (7, { entB := some (f132B1_E n), hb := 320 })] f72B_G1 (regOps ((bodyOf Try.f72).at [1, 0])) := by
  refine ⟨by kernel_rfl, fun w q hq => ?_⟩
  have e : WT [(4, { entB := some (f132B1_E n), hb := 310 }), (7, { entB := some (f132B1_E n), hb := 320 })] (swapIdx (regOps ((bodyOf Try.f72).at [1, 0])).toList) q = (∃ (y0 : HF (ownsP 1000 (f132B1_E n).ts) (f132B1_E n).forms) (q0 : List (Nat × RV)), q = (4, .bx (f132B1_E n) y0) :: q0 ∧ ∃ (y1 : HF (ownsP 1000 (f132B1_E n).ts) (f132B1_E n).forms) (q1 : List (Nat × RV)), q0 = (7, .bx (f132B1_E n) y1) :: q1 ∧ q1 = []) := by kernel_rfl
  rw [e] at hq
  obtain ⟨y0, q0, rfl, y1, q1, rfl, rfl⟩ := hq
  all_goals rcases y0 with y0 | y0
  all_goals rcases y1 with y1 | y1
  all_goals exact .inl (FamEq.mk (by kernel_rfl))
theorem f72B_ents (α : Type) (n : Nat) : AllS Try.prog (entsOf (f72B_D α n).reg) := ⟨f132B1_ok n, f132B1_ok n, trivial⟩
theorem f72B_d (α : Type) (n : Nat) : D3.OK Try.prog (tyOf Try.prog) ⟨12, []⟩ (f72B_D α n) (bodyOf Try.f72) :=
  D3.OK.mk3a (f72B_ents α n) (show loopsOf (bodyOf Try.f72) = [] by kernel_rfl) trivial (show anysOf (bodyOf Try.f72) = [(1, regOps ((bodyOf Try.f72).at [1, 0]))] by kernel_rfl) ⟨fun X h => (by cases h; exact f72B_A1 n), trivial⟩
theorem f72B_ok (n : Nat) : (f72B_E n).Sound Try.prog :=
  fn_okB (tyOf_ok _) prog_fol (f72B_D _ n) (show Try.prog.funcs[72]? = some Try.f72 by kernel_rfl) (by kernel_rfl) (show Try.f72.body = some (bodyOf Try.f72) by kernel_rfl) rfl rfl (Nat.le_of_ble_eq_true rfl) (f72B_d _ n) (by intro x; kernel_rfl) 


def f23B (n : Nat) (a0 : Rq) : Option (((Bool × LI × LI) × Int) ⊕ (((Bool × Unit × LI) × Int) ⊕ (((Bool × LI × Unit) × Int) ⊕ (((Bool × Unit × Unit) × Int) ⊕ ((Bool × Unit × Unit) × Int))))) :=
  ob (f68 n [a0]) fun r_1 =>
  bif (r_1 != 0) then
    some (.inr (.inr (.inr (.inr ((false, (), ()), r_1)))))
  else
    ob (f72B n a0) fun r_2 =>
    caseS r_2 (fun r_3 =>
      some (.inl ((false, r_3.2.1, r_3.2.2), 0))) (fun r_4 =>
      caseS r_4 (fun r_5 =>
        some (.inr (.inl ((false, (), r_5.2.2), 0)))) (fun r_6 =>
        caseS r_6 (fun r_7 =>
          some (.inr (.inr (.inl ((false, r_7.2.1, ()), 0))))) (fun r_8 =>
          some (.inr (.inr (.inr (.inl ((false, (), ()), 0))))))))
def f23B_E (n : Nat) : Ent3 := ⟨23, [.im hR], [[.mix [.im .bool, .own 3 hI, .own 3 hI], .im hI], [.mix [.im .bool, .emp hI, .own 3 hI], .im hI], [.mix [.im .bool, .own 3 hI, .emp hI], .im hI], [.mix [.im .bool, .emp hI, .emp hI], .im hI], [.mix [.im .bool, .im .nil, .im .nil], .im hI]], fun x => f23B n x⟩
def f23B_D (α : Type) (n : Nat) : D3 α := { reg := [(1, ⟨0, [], [(1, { sh := some hR }), (2, { ent := some (f68_E n) })]⟩), (4, ⟨0, [], [(1, { entB := some (f72B_E n), hb := 310 })]⟩)], join := [], loop := [] }
theorem f23B_ents (α : Type) (n : Nat) : AllS Try.prog (entsOf (f23B_D α n).reg) := ⟨f68_ok n, f72B_ok n, trivial⟩
theorem f23B_d (α : Type) (n : Nat) : D3.OK Try.prog (tyOf Try.prog) ⟨17, []⟩ (f23B_D α n) (bodyOf Try.f23) :=
  D3.OK.mk3 (f23B_ents α n) (show loopsOf (bodyOf Try.f23) = [] by kernel_rfl) trivial
theorem f23B_ok (n : Nat) : (f23B_E n).Sound Try.prog :=
  fn_okB (tyOf_ok _) prog_fol (f23B_D _ n) (show Try.prog.funcs[23]? = some Try.f23 by kernel_rfl) (by kernel_rfl) (show Try.f23.body = some (bodyOf Try.f23) by kernel_rfl) rfl rfl (Nat.le_of_ble_eq_true rfl) (f23B_d _ n) (by intro x; kernel_rfl) 


def f73_L4B {α : Type} (n : Nat) (s0 s1 : LI) (s5 : Int) (f : LI → LI → Int → Option α) (k0 : Bool → Option α) (k1 : Unit → Option α) : Option α :=
  bif (decide (s5 < (s0.length : Int))) then
    gd (decide (0 ≤ s5) && decide (s5 < (s0.length : Int))) (
      gd (decide (0 ≤ s5) && decide (s5 < (s1.length : Int))) (
        bif ((s0.getD s5.toNat 0) != (s1.getD s5.toNat 0)) then
          k0 false
        else
          f s0 s1 (W (s5 + 1))))
  else
    k1 ()
abbrev f73_L4H : Tm := ⟨[(0, .d hIs), (1, .d hIs), (5, .d hI)], [], [], []⟩
abbrev f73_L4X0 : Tm := ⟨[(4, .d .bool)], [], [], []⟩
abbrev f73_L4X1 : Tm := ⟨[], [], [], []⟩
abbrev f73_L4O : List (Exit × Tm) := [(.ret, f73_L4X0), (.exit 0, f73_L4X1)]
def f73_L4U {α : Type} (n : Nat) (v : f73_L4H.den) (f : f73_L4H.den → Option α) (ks : KS α f73_L4O) : Option α := f73_L4B n v.1.1 v.1.2.1 v.1.2.2.1 (fun s0 s1 s5 => f ((s0, s1, s5, ()), ())) (fun w0 => ks.1 ((w0, ()), ())) (fun _ => ks.2.1 ((), ()))
def f73_L4 {α : Type} (n m : Nat) (s0 s1 : LI) (s5 : Int) (k0 : Bool → Option α) (k1 : Unit → Option α) : Option α := rounds (f73_L4U n) m ((s0, s1, s5, ()), ()) (fun w => k0 w.1.1, fun w => k1 (), ())
theorem f73_L4_0 {α n s0 s1 s5 k0 k1} : f73_L4 (α := α) n 0 s0 s1 s5 k0 k1 = none := rfl
theorem f73_L4_s {α n m s0 s1 s5 k0 k1} : f73_L4 (α := α) n (m + 1) s0 s1 s5 k0 k1 = f73_L4B n s0 s1 s5 (fun s0 s1 s5 => f73_L4 n m s0 s1 s5 k0 k1) k0 k1 := rfl
def f73 (n : Nat) (a0 a1 : LI) : Option Bool :=
  bif ((a0.length : Int) != (a1.length : Int)) then
    some false
  else
    f73_L4 n n a0 a1 0
      (fun z_1 => (
        some z_1))
      (fun (_ : Unit) => (
        some true))
def f73_E (n : Nat) : Ent := ⟨73, [hIs, hIs], [.bool], fun x => f73 n x.1 x.2⟩
def f73_D (α : Type) (n : Nat) : D3 α := { reg := [(6, ⟨8, [], []⟩)], join := [], loop := [(4, ⟨f73_L4H, f73_L4O, rounds (f73_L4U n) n⟩)] }
theorem f73_ents (α : Type) (n : Nat) : AllS Try.prog (entsOf (f73_D α n).reg) := trivial
theorem f73_L4_d (α : Type) (n : Nat) : D3.OK Try.prog (tyOf Try.prog) ⟨26, []⟩ (f73_D α n) ((bodyOf Try.f73).at [1, 1, 0, 1, 0, 0]) :=
  D3.OK.mk3 (f73_ents α n) (show loopsOf ((bodyOf Try.f73).at [1, 1, 0, 1, 0, 0]) = [] by kernel_rfl) trivial
theorem f73_L4_ok (α : Type) (n : Nat) : LO.Sound (α := α) Try.prog ⟨26, []⟩ ⟨f73_L4H, f73_L4O, rounds (f73_L4U n) n⟩ (.loop ((bodyOf Try.f73).at [1, 1, 0, 1, 0, 0])) :=
  loop_ok (tyOf_ok _) prog_fol (f73_L4U n) (f73_L4_d α n) (by intro v f ks; kernel_rfl) n
theorem f73_d (α : Type) (n : Nat) : D3.OK Try.prog (tyOf Try.prog) ⟨26, []⟩ (f73_D α n) (bodyOf Try.f73) :=
  D3.OK.mk3 (f73_ents α n) (show loopsOf (bodyOf Try.f73) = [(4, (.loop ((bodyOf Try.f73).at [1, 1, 0, 1, 0, 0])))] by kernel_rfl) ⟨look_sound rfl (f73_L4_ok α n), trivial⟩
theorem f73_ok (n : Nat) : (f73_E n).Sound Try.prog :=
  fn_ok (tyOf_ok _) prog_fol (f73_D _ n) (show Try.prog.funcs[73]? = some Try.f73 by kernel_rfl) (by kernel_rfl) (show Try.f73.body = some (bodyOf Try.f73) by kernel_rfl) rfl rfl (Nat.le_of_ble_eq_true rfl) (f73_d _ n) (by intro x; kernel_rfl) 


def f24 (n : Nat) (a0 a1 : Rq) : Option Bool :=
  bif (!(a0.1 == a1.1)) then
    some false
  else
    ob (f73 n a0.2.1 a1.2.1) fun r_1 =>
    bif (!r_1) then
      some false
    else
      ob (f73 n a0.2.2 a1.2.2) fun r_2 =>
      bif (!r_2) then
        some false
      else
        some true
def f24_E (n : Nat) : Ent := ⟨24, [hR, hR], [.bool], fun x => f24 n x.1 x.2⟩
def f24_D (α : Type) (n : Nat) : D3 α := { reg := [(3, ⟨0, [], [(4, { ent := some (f73_E n) })]⟩), (5, ⟨0, [], [(4, { ent := some (f73_E n) })]⟩)], join := [], loop := [] }
theorem f24_ents (α : Type) (n : Nat) : AllS Try.prog (entsOf (f24_D α n).reg) := ⟨f73_ok n, f73_ok n, trivial⟩
theorem f24_d (α : Type) (n : Nat) : D3.OK Try.prog (tyOf Try.prog) ⟨22, []⟩ (f24_D α n) (bodyOf Try.f24) :=
  D3.OK.mk3 (f24_ents α n) (show loopsOf (bodyOf Try.f24) = [] by kernel_rfl) trivial
theorem f24_ok (n : Nat) : (f24_E n).Sound Try.prog :=
  fn_ok (tyOf_ok _) prog_fol (f24_D _ n) (show Try.prog.funcs[24]? = some Try.f24 by kernel_rfl) (by kernel_rfl) (show Try.f24.body = some (bodyOf Try.f24) by kernel_rfl) rfl rfl (Nat.le_of_ble_eq_true rfl) (f24_d _ n) (by intro x; kernel_rfl) 


def f74B_L2B {α : Type} (n : Nat) (s1 s5 : Int) (b1000 : LI) (f : Int → Int → LI → Option α) (k0 : Int → LI → Option α) : Option α :=
  bif (decide (s5 < (b1000.length : Int))) then
    gd (decide (0 ≤ s5) && decide (s5 < (b1000.length : Int))) (
      gd (decide (s5.toNat < b1000.length)) (
        f (W (s1 + 1)) (W (s5 + 1)) (b1000.set s5.toNat s1)))
  else
    k0 s1 b1000
abbrev f74B_L2H : Tm := ⟨[(0, .k (.hw 1000)), (1, .d hI), (5, .d hI)], [(1000, .arr 3 hI false)], [], []⟩
abbrev f74B_L2X0 : Tm := ⟨[(1, .d hI)], [(1000, .arr 3 hI false)], [], []⟩
abbrev f74B_L2O : List (Exit × Tm) := [(.exit 0, f74B_L2X0)]
def f74B_L2U {α : Type} (n : Nat) (v : f74B_L2H.den) (f : f74B_L2H.den → Option α) (ks : KS α f74B_L2O) : Option α := f74B_L2B n v.1.2.1 v.1.2.2.1 v.2.1 (fun s1 s5 b1000 => f (((), s1, s5, ()), (b1000, ()))) (fun w0 w1 => ks.1 ((w0, ()), (w1, ())))
def f74B_L2 {α : Type} (n m : Nat) (s1 s5 : Int) (b1000 : LI) (k0 : Int → LI → Option α) : Option α := rounds (f74B_L2U n) m (((), s1, s5, ()), (b1000, ())) (fun w => k0 w.1.1 w.2.1, ())
theorem f74B_L2_0 {α n s1 s5 b1000 k0} : f74B_L2 (α := α) n 0 s1 s5 b1000 k0 = none := rfl
theorem f74B_L2_s {α n m s1 s5 b1000 k0} : f74B_L2 (α := α) n (m + 1) s1 s5 b1000 k0 = f74B_L2B n s1 s5 b1000 (fun s1 s5 b1000 => f74B_L2 n m s1 s5 b1000 k0) k0 := rfl
def f74B (n : Nat) (a0 : LI) (a1 : Int) : Option (Int × LI) :=
  f74B_L2 n n a1 0 a0
    (fun z_1 z_2 => (
      some (z_1, z_2)))
def f74B_E (n : Nat) : Ent3 := ⟨74, [.one (.own 3 hI), .im hI], [[.im hI]], fun x => f74B n x.1 x.2⟩
def f74B_D (α : Type) (n : Nat) : D3 α := { reg := [], join := [], loop := [(2, ⟨f74B_L2H, f74B_L2O, rounds (f74B_L2U n) n⟩)] }
theorem f74B_ents (α : Type) (n : Nat) : AllS Try.prog (entsOf (f74B_D α n).reg) := trivial
theorem f74B_L2_d (α : Type) (n : Nat) : D3.OK Try.prog (tyOf Try.prog) ⟨19, []⟩ (f74B_D α n) ((bodyOf Try.f74).at [1, 0, 1, 0, 0]) :=
  D3.OK.mk3 (f74B_ents α n) (show loopsOf ((bodyOf Try.f74).at [1, 0, 1, 0, 0]) = [] by kernel_rfl) trivial
theorem f74B_L2_ok (α : Type) (n : Nat) : LO.Sound (α := α) Try.prog ⟨19, []⟩ ⟨f74B_L2H, f74B_L2O, rounds (f74B_L2U n) n⟩ (.loop ((bodyOf Try.f74).at [1, 0, 1, 0, 0])) :=
  loop_ok (tyOf_ok _) prog_fol (f74B_L2U n) (f74B_L2_d α n) (by intro v f ks; kernel_rfl) n
theorem f74B_d (α : Type) (n : Nat) : D3.OK Try.prog (tyOf Try.prog) ⟨19, []⟩ (f74B_D α n) (bodyOf Try.f74) :=
  D3.OK.mk3 (f74B_ents α n) (show loopsOf (bodyOf Try.f74) = [(2, (.loop ((bodyOf Try.f74).at [1, 0, 1, 0, 0])))] by kernel_rfl) ⟨look_sound rfl (f74B_L2_ok α n), trivial⟩
theorem f74B_ok (n : Nat) : (f74B_E n).Sound Try.prog :=
  fn_okB (tyOf_ok _) prog_fol (f74B_D _ n) (show Try.prog.funcs[74]? = some Try.f74 by kernel_rfl) (by kernel_rfl) (show Try.f74.body = some (bodyOf Try.f74) by kernel_rfl) rfl rfl (Nat.le_of_ble_eq_true rfl) (f74B_d _ n) (by intro x; kernel_rfl) 


def f25B (n : Nat) (a0 : Bool × LI × LI) (a1 : Int) : Option (Int × LI × LI) :=
  ob (f74B n a0.2.1 a1) fun r_1 =>
  gd (Nat.beq r_1.2.length a0.2.1.length && true) (
    ob (f74B n a0.2.2 r_1.1) fun r_2 =>
    gd (Nat.beq r_2.2.length a0.2.2.length && true) (
      some (r_2.1, r_1.2, r_2.2)))
def f25B_E (n : Nat) : Ent3 := ⟨25, [.mix [.im .bool, .own 3 hI, .own 3 hI], .im hI], [[.im hI]], fun x => f25B n x.1 x.2⟩
def f25B_D (α : Type) (n : Nat) : D3 α := { reg := [(1, ⟨0, [], [(3, { alt := [(f74B_E n)], hb := 310 })]⟩), (2, ⟨0, [], [(3, { alt := [(f74B_E n)], hb := 320 })]⟩)], join := [], loop := [] }
theorem f25B_ents (α : Type) (n : Nat) : AllS Try.prog (entsOf (f25B_D α n).reg) := ⟨f74B_ok n, f74B_ok n, trivial⟩
theorem f25B_d (α : Type) (n : Nat) : D3.OK Try.prog (tyOf Try.prog) ⟨14, []⟩ (f25B_D α n) (bodyOf Try.f25) :=
  D3.OK.mk3 (f25B_ents α n) (show loopsOf (bodyOf Try.f25) = [] by kernel_rfl) trivial
theorem f25B_ok (n : Nat) : (f25B_E n).Sound Try.prog :=
  fn_okB (tyOf_ok _) prog_fol (f25B_D _ n) (show Try.prog.funcs[25]? = some Try.f25 by kernel_rfl) (by kernel_rfl) (show Try.f25.body = some (bodyOf Try.f25) by kernel_rfl) rfl rfl (Nat.le_of_ble_eq_true rfl) (f25B_d _ n) (by intro x; kernel_rfl) 


def f75_L2B {α : Type} (n : Nat) (s0 : LI) (s1 s5 : Int) (f : LI → Int → Int → Option α) (k0 k1 : Int → Option α) : Option α :=
  bif (decide (s5 < (s0.length : Int))) then
    gd (decide (0 ≤ s5) && decide (s5 < (s0.length : Int))) (
      bif ((s0.getD s5.toNat 0) != s1) then
        k0 (-1)
      else
        f s0 (W (s1 + 1)) (W (s5 + 1)))
  else
    k1 s1
abbrev f75_L2H : Tm := ⟨[(0, .d hIs), (1, .d hI), (5, .d hI)], [], [], []⟩
abbrev f75_L2X0 : Tm := ⟨[(4, .d hI)], [], [], []⟩
abbrev f75_L2X1 : Tm := ⟨[(1, .d hI)], [], [], []⟩
abbrev f75_L2O : List (Exit × Tm) := [(.ret, f75_L2X0), (.exit 0, f75_L2X1)]
def f75_L2U {α : Type} (n : Nat) (v : f75_L2H.den) (f : f75_L2H.den → Option α) (ks : KS α f75_L2O) : Option α := f75_L2B n v.1.1 v.1.2.1 v.1.2.2.1 (fun s0 s1 s5 => f ((s0, s1, s5, ()), ())) (fun w0 => ks.1 ((w0, ()), ())) (fun w0 => ks.2.1 ((w0, ()), ()))
def f75_L2 {α : Type} (n m : Nat) (s0 : LI) (s1 s5 : Int) (k0 k1 : Int → Option α) : Option α := rounds (f75_L2U n) m ((s0, s1, s5, ()), ()) (fun w => k0 w.1.1, fun w => k1 w.1.1, ())
theorem f75_L2_0 {α n s0 s1 s5 k0 k1} : f75_L2 (α := α) n 0 s0 s1 s5 k0 k1 = none := rfl
theorem f75_L2_s {α n m s0 s1 s5 k0 k1} : f75_L2 (α := α) n (m + 1) s0 s1 s5 k0 k1 = f75_L2B n s0 s1 s5 (fun s0 s1 s5 => f75_L2 n m s0 s1 s5 k0 k1) k0 k1 := rfl
def f75 (n : Nat) (a0 : LI) (a1 : Int) : Option Int :=
  f75_L2 n n a0 a1 0
    (fun z_1 => (
      some z_1))
    (fun z_2 => (
      some z_2))
def f75_E (n : Nat) : Ent := ⟨75, [hIs, hI], [hI], fun x => f75 n x.1 x.2⟩
def f75_D (α : Type) (n : Nat) : D3 α := { reg := [], join := [], loop := [(2, ⟨f75_L2H, f75_L2O, rounds (f75_L2U n) n⟩)] }
theorem f75_ents (α : Type) (n : Nat) : AllS Try.prog (entsOf (f75_D α n).reg) := trivial
theorem f75_L2_d (α : Type) (n : Nat) : D3.OK Try.prog (tyOf Try.prog) ⟨21, []⟩ (f75_D α n) ((bodyOf Try.f75).at [1, 0, 1, 0, 0]) :=
  D3.OK.mk3 (f75_ents α n) (show loopsOf ((bodyOf Try.f75).at [1, 0, 1, 0, 0]) = [] by kernel_rfl) trivial
theorem f75_L2_ok (α : Type) (n : Nat) : LO.Sound (α := α) Try.prog ⟨21, []⟩ ⟨f75_L2H, f75_L2O, rounds (f75_L2U n) n⟩ (.loop ((bodyOf Try.f75).at [1, 0, 1, 0, 0])) :=
  loop_ok (tyOf_ok _) prog_fol (f75_L2U n) (f75_L2_d α n) (by intro v f ks; kernel_rfl) n
theorem f75_d (α : Type) (n : Nat) : D3.OK Try.prog (tyOf Try.prog) ⟨21, []⟩ (f75_D α n) (bodyOf Try.f75) :=
  D3.OK.mk3 (f75_ents α n) (show loopsOf (bodyOf Try.f75) = [(2, (.loop ((bodyOf Try.f75).at [1, 0, 1, 0, 0])))] by kernel_rfl) ⟨look_sound rfl (f75_L2_ok α n), trivial⟩
theorem f75_ok (n : Nat) : (f75_E n).Sound Try.prog :=
  fn_ok (tyOf_ok _) prog_fol (f75_D _ n) (show Try.prog.funcs[75]? = some Try.f75 by kernel_rfl) (by kernel_rfl) (show Try.f75.body = some (bodyOf Try.f75) by kernel_rfl) rfl rfl (Nat.le_of_ble_eq_true rfl) (f75_d _ n) (by intro x; kernel_rfl) 


def f26 (n : Nat) (a0 : Rq) (a1 : Int) : Option Int :=
  ob (f75 n a0.2.1 a1) fun r_1 =>
  bif (decide (r_1 < 0)) then
    some (-1)
  else
    ob (f75 n a0.2.2 r_1) fun r_2 =>
    bif (decide (r_2 < 0)) then
      some (-1)
    else
      some r_2
def f26_E (n : Nat) : Ent := ⟨26, [hR, hI], [hI], fun x => f26 n x.1 x.2⟩
def f26_D (α : Type) (n : Nat) : D3 α := { reg := [(1, ⟨0, [], [(3, { ent := some (f75_E n) })]⟩), (4, ⟨0, [], [(3, { ent := some (f75_E n) })]⟩)], join := [], loop := [] }
theorem f26_ents (α : Type) (n : Nat) : AllS Try.prog (entsOf (f26_D α n).reg) := ⟨f75_ok n, f75_ok n, trivial⟩
theorem f26_d (α : Type) (n : Nat) : D3.OK Try.prog (tyOf Try.prog) ⟨18, []⟩ (f26_D α n) (bodyOf Try.f26) :=
  D3.OK.mk3 (f26_ents α n) (show loopsOf (bodyOf Try.f26) = [] by kernel_rfl) trivial
theorem f26_ok (n : Nat) : (f26_E n).Sound Try.prog :=
  fn_ok (tyOf_ok _) prog_fol (f26_D _ n) (show Try.prog.funcs[26]? = some Try.f26 by kernel_rfl) (by kernel_rfl) (show Try.f26.body = some (bodyOf Try.f26) by kernel_rfl) rfl rfl (Nat.le_of_ble_eq_true rfl) (f26_d _ n) (by intro x; kernel_rfl) 


def f72 (n : Nat) (a0 : Rq) : Option Rq :=
  ob (f132 n a0.2.1) fun r_1 =>
  ob (f132 n a0.2.2) fun r_2 =>
  some (a0.1, r_1, r_2)
def f72_E (n : Nat) : Ent := ⟨72, [hR], [hR], fun x => f72 n x⟩
def f72_D (α : Type) (n : Nat) : D3 α := { reg := [(1, ⟨8, [], [(4, { ent := some (f132_E n) }), (7, { ent := some (f132_E n) })]⟩)], join := [], loop := [] }
theorem f72_ents (α : Type) (n : Nat) : AllS Try.prog (entsOf (f72_D α n).reg) := ⟨f132_ok n, f132_ok n, trivial⟩
theorem f72_d (α : Type) (n : Nat) : D3.OK Try.prog (tyOf Try.prog) ⟨12, []⟩ (f72_D α n) (bodyOf Try.f72) :=
  D3.OK.mk3 (f72_ents α n) (show loopsOf (bodyOf Try.f72) = [] by kernel_rfl) trivial
theorem f72_ok (n : Nat) : (f72_E n).Sound Try.prog :=
  fn_ok (tyOf_ok _) prog_fol (f72_D _ n) (show Try.prog.funcs[72]? = some Try.f72 by kernel_rfl) (by kernel_rfl) (show Try.f72.body = some (bodyOf Try.f72) by kernel_rfl) rfl rfl (Nat.le_of_ble_eq_true rfl) (f72_d _ n) (by intro x; kernel_rfl) 


def f23 (n : Nat) (a0 : Rq) : Option (Rq × Int) :=
  ob (f68 n [a0]) fun r_1 =>
  bif (r_1 != 0) then
    some ((false, [], []), r_1)
  else
    ob (f72 n a0) fun r_2 =>
    some ((false, r_2.2), 0)
def f23_E (n : Nat) : Ent := ⟨23, [hR], [hR, hI], fun x => f23 n x⟩
def f23_D (α : Type) (n : Nat) : D3 α := { reg := [(1, ⟨0, [], [(1, { sh := some hR }), (2, { ent := some (f68_E n) })]⟩), (4, ⟨0, [], [(1, { ent := some (f72_E n) })]⟩)], join := [], loop := [] }
theorem f23_ents (α : Type) (n : Nat) : AllS Try.prog (entsOf (f23_D α n).reg) := ⟨f68_ok n, f72_ok n, trivial⟩
theorem f23_d (α : Type) (n : Nat) : D3.OK Try.prog (tyOf Try.prog) ⟨17, []⟩ (f23_D α n) (bodyOf Try.f23) :=
  D3.OK.mk3 (f23_ents α n) (show loopsOf (bodyOf Try.f23) = [] by kernel_rfl) trivial
theorem f23_ok (n : Nat) : (f23_E n).Sound Try.prog :=
  fn_ok (tyOf_ok _) prog_fol (f23_D _ n) (show Try.prog.funcs[23]? = some Try.f23 by kernel_rfl) (by kernel_rfl) (show Try.f23.body = some (bodyOf Try.f23) by kernel_rfl) rfl rfl (Nat.le_of_ble_eq_true rfl) (f23_d _ n) (by intro x; kernel_rfl) 


def f74_L2B {α : Type} (n : Nat) (s0 : LI) (s1 s5 : Int) (f : LI → Int → Int → Option α) (k0 : Int → Option α) : Option α :=
  bif (decide (s5 < (s0.length : Int))) then
    gd (decide (0 ≤ s5) && decide (s5 < (s0.length : Int))) (
      none)
  else
    k0 s1
abbrev f74_L2H : Tm := ⟨[(0, .d hIs), (1, .d hI), (5, .d hI)], [], [], []⟩
abbrev f74_L2X0 : Tm := ⟨[(1, .d hI)], [], [], []⟩
abbrev f74_L2O : List (Exit × Tm) := [(.exit 0, f74_L2X0)]
def f74_L2U {α : Type} (n : Nat) (v : f74_L2H.den) (f : f74_L2H.den → Option α) (ks : KS α f74_L2O) : Option α := f74_L2B n v.1.1 v.1.2.1 v.1.2.2.1 (fun s0 s1 s5 => f ((s0, s1, s5, ()), ())) (fun w0 => ks.1 ((w0, ()), ()))
def f74_L2 {α : Type} (n m : Nat) (s0 : LI) (s1 s5 : Int) (k0 : Int → Option α) : Option α := rounds (f74_L2U n) m ((s0, s1, s5, ()), ()) (fun w => k0 w.1.1, ())
theorem f74_L2_0 {α n s0 s1 s5 k0} : f74_L2 (α := α) n 0 s0 s1 s5 k0 = none := rfl
theorem f74_L2_s {α n m s0 s1 s5 k0} : f74_L2 (α := α) n (m + 1) s0 s1 s5 k0 = f74_L2B n s0 s1 s5 (fun s0 s1 s5 => f74_L2 n m s0 s1 s5 k0) k0 := rfl
def f74 (n : Nat) (a0 : LI) (a1 : Int) : Option Int :=
  f74_L2 n n a0 a1 0
    (fun z_1 => (
      some z_1))
def f74_E (n : Nat) : Ent := ⟨74, [hIs, hI], [hI], fun x => f74 n x.1 x.2⟩
def f74_D (α : Type) (n : Nat) : D3 α := { reg := [], join := [], loop := [(2, ⟨f74_L2H, f74_L2O, rounds (f74_L2U n) n⟩)] }
theorem f74_ents (α : Type) (n : Nat) : AllS Try.prog (entsOf (f74_D α n).reg) := trivial
theorem f74_L2_d (α : Type) (n : Nat) : D3.OK Try.prog (tyOf Try.prog) ⟨19, []⟩ (f74_D α n) ((bodyOf Try.f74).at [1, 0, 1, 0, 0]) :=
  D3.OK.mk3 (f74_ents α n) (show loopsOf ((bodyOf Try.f74).at [1, 0, 1, 0, 0]) = [] by kernel_rfl) trivial
theorem f74_L2_ok (α : Type) (n : Nat) : LO.Sound (α := α) Try.prog ⟨19, []⟩ ⟨f74_L2H, f74_L2O, rounds (f74_L2U n) n⟩ (.loop ((bodyOf Try.f74).at [1, 0, 1, 0, 0])) :=
  loop_ok (tyOf_ok _) prog_fol (f74_L2U n) (f74_L2_d α n) (by intro v f ks; kernel_rfl) n
theorem f74_d (α : Type) (n : Nat) : D3.OK Try.prog (tyOf Try.prog) ⟨19, []⟩ (f74_D α n) (bodyOf Try.f74) :=
  D3.OK.mk3 (f74_ents α n) (show loopsOf (bodyOf Try.f74) = [(2, (.loop ((bodyOf Try.f74).at [1, 0, 1, 0, 0])))] by kernel_rfl) ⟨look_sound rfl (f74_L2_ok α n), trivial⟩
theorem f74_ok (n : Nat) : (f74_E n).Sound Try.prog :=
  fn_ok (tyOf_ok _) prog_fol (f74_D _ n) (show Try.prog.funcs[74]? = some Try.f74 by kernel_rfl) (by kernel_rfl) (show Try.f74.body = some (bodyOf Try.f74) by kernel_rfl) rfl rfl (Nat.le_of_ble_eq_true rfl) (f74_d _ n) (by intro x; kernel_rfl) 


def f25B1 (n : Nat) (a0 : Bool × LI × LI) (a1 : Int) : Option (Int × LI) :=
  ob (f74 n a0.2.1 a1) fun r_1 =>
  ob (f74B n a0.2.2 r_1) fun r_2 =>
  gd (Nat.beq r_2.2.length a0.2.2.length && true) (
    some (r_2.1, r_2.2))
def f25B1_E (n : Nat) : Ent3 := ⟨25, [.mix [.im .bool, .im hIs, .own 3 hI], .im hI], [[.im hI]], fun x => f25B1 n x.1 x.2⟩
def f25B1_D (α : Type) (n : Nat) : D3 α := { reg := [(1, ⟨0, [], [(3, { ent := some (f74_E n) })]⟩), (2, ⟨0, [], [(3, { alt := [(f74B_E n)], hb := 310 })]⟩)], join := [], loop := [] }
theorem f25B1_ents (α : Type) (n : Nat) : AllS Try.prog (entsOf (f25B1_D α n).reg) := ⟨f74_ok n, f74B_ok n, trivial⟩
theorem f25B1_d (α : Type) (n : Nat) : D3.OK Try.prog (tyOf Try.prog) ⟨14, []⟩ (f25B1_D α n) (bodyOf Try.f25) :=
  D3.OK.mk3 (f25B1_ents α n) (show loopsOf (bodyOf Try.f25) = [] by kernel_rfl) trivial
theorem f25B1_ok (n : Nat) : (f25B1_E n).Sound Try.prog :=
  fn_okB (tyOf_ok _) prog_fol (f25B1_D _ n) (show Try.prog.funcs[25]? = some Try.f25 by kernel_rfl) (by kernel_rfl) (show Try.f25.body = some (bodyOf Try.f25) by kernel_rfl) rfl rfl (Nat.le_of_ble_eq_true rfl) (f25B1_d _ n) (by intro x; kernel_rfl) 


def f25B2 (n : Nat) (a0 : Bool × LI × LI) (a1 : Int) : Option (Int × LI) :=
  ob (f74B n a0.2.1 a1) fun r_1 =>
  gd (Nat.beq r_1.2.length a0.2.1.length && true) (
    ob (f74 n a0.2.2 r_1.1) fun r_2 =>
    some (r_2, r_1.2))
def f25B2_E (n : Nat) : Ent3 := ⟨25, [.mix [.im .bool, .own 3 hI, .im hIs], .im hI], [[.im hI]], fun x => f25B2 n x.1 x.2⟩
def f25B2_D (α : Type) (n : Nat) : D3 α := { reg := [(1, ⟨0, [], [(3, { alt := [(f74B_E n)], hb := 310 })]⟩), (2, ⟨0, [], [(3, { ent := some (f74_E n) })]⟩)], join := [], loop := [] }
theorem f25B2_ents (α : Type) (n : Nat) : AllS Try.prog (entsOf (f25B2_D α n).reg) := ⟨f74B_ok n, f74_ok n, trivial⟩
theorem f25B2_d (α : Type) (n : Nat) : D3.OK Try.prog (tyOf Try.prog) ⟨14, []⟩ (f25B2_D α n) (bodyOf Try.f25) :=
  D3.OK.mk3 (f25B2_ents α n) (show loopsOf (bodyOf Try.f25) = [] by kernel_rfl) trivial
theorem f25B2_ok (n : Nat) : (f25B2_E n).Sound Try.prog :=
  fn_okB (tyOf_ok _) prog_fol (f25B2_D _ n) (show Try.prog.funcs[25]? = some Try.f25 by kernel_rfl) (by kernel_rfl) (show Try.f25.body = some (bodyOf Try.f25) by kernel_rfl) rfl rfl (Nat.le_of_ble_eq_true rfl) (f25B2_d _ n) (by intro x; kernel_rfl) 


def f25 (n : Nat) (a0 : Rq) (a1 : Int) : Option Int :=
  ob (f74 n a0.2.1 a1) fun r_1 =>
  ob (f74 n a0.2.2 r_1) fun r_2 =>
  some r_2
def f25_E (n : Nat) : Ent := ⟨25, [hR, hI], [hI], fun x => f25 n x.1 x.2⟩
def f25_D (α : Type) (n : Nat) : D3 α := { reg := [(1, ⟨0, [], [(3, { ent := some (f74_E n) })]⟩), (2, ⟨0, [], [(3, { ent := some (f74_E n) })]⟩)], join := [], loop := [] }
theorem f25_ents (α : Type) (n : Nat) : AllS Try.prog (entsOf (f25_D α n).reg) := ⟨f74_ok n, f74_ok n, trivial⟩
theorem f25_d (α : Type) (n : Nat) : D3.OK Try.prog (tyOf Try.prog) ⟨14, []⟩ (f25_D α n) (bodyOf Try.f25) :=
  D3.OK.mk3 (f25_ents α n) (show loopsOf (bodyOf Try.f25) = [] by kernel_rfl) trivial
theorem f25_ok (n : Nat) : (f25_E n).Sound Try.prog :=
  fn_ok (tyOf_ok _) prog_fol (f25_D _ n) (show Try.prog.funcs[25]? = some Try.f25 by kernel_rfl) (by kernel_rfl) (show Try.f25.body = some (bodyOf Try.f25) by kernel_rfl) rfl rfl (Nat.le_of_ble_eq_true rfl) (f25_d _ n) (by intro x; kernel_rfl) 


def f4 (n : Nat) (a0 : Rq) : Option Bool :=
  ob (f20 n a0 1048576) fun r_1 =>
  bif (decide (r_1 < 0)) then
    some true
  else
    ob (f22 n a0) fun r_2 =>
    ob (f21 n r_2) fun r_3 =>
    ob (f22B n a0) fun r_4 =>
    ob (f23B n r_4) fun r_5 =>
    caseS r_5 (fun r_6 =>
      ob (f24 n r_6.1 r_3.1) fun r_8 =>
      bif (!r_8) then
        some false
      else
        bif (r_6.2 != r_3.2) then
          some false
        else
          ob (f22 n a0) fun r_9 =>
          ob (f24 n r_4 r_9) fun r_10 =>
          bif (!r_10) then
            some false
          else
            ob (f25B n (r_4.1, r_4.2.1, r_4.2.2) 1) fun r_11 =>
            gd (Nat.beq r_11.2.1.length r_4.2.1.length && (Nat.beq r_11.2.2.length r_4.2.2.length && true)) (
              bif (decide (r_11.1 < 0)) then
                some false
              else
                ob (f24 n r_6.1 r_3.1) fun r_12 =>
                bif (!r_12) then
                  some false
                else
                  bif (r_6.2 != r_3.2) then
                    some false
                  else
                    ob (f25B n (r_6.1.1, r_6.1.2.1, r_6.1.2.2) 1) fun r_13 =>
                    gd (Nat.beq r_13.2.1.length r_6.1.2.1.length && (Nat.beq r_13.2.2.length r_6.1.2.2.length && true)) (
                      ob (f26 n (r_6.1.1, r_13.2) 1) fun r_14 =>
                      bif (decide (r_14 < 0)) then
                        some false
                      else
                        bif (r_14 != r_13.1) then
                          some false
                        else
                          ob (f22 n a0) fun r_15 =>
                          ob (f23 n r_15) fun r_16 =>
                          ob (f24 n r_16.1 r_3.1) fun r_17 =>
                          bif (!r_17) then
                            some false
                          else
                            bif (r_16.2 != r_3.2) then
                              some false
                            else
                              ob (f26 n (r_6.1.1, r_13.2) 1) fun r_18 =>
                              bif (decide (r_18 < 0)) then
                                some false
                              else
                                bif (r_18 != r_13.1) then
                                  some false
                                else
                                  some true))) (fun r_7 =>
      caseS r_7 (fun r_19 =>
        ob (f24 n (r_19.1.1, [], r_19.1.2.2) r_3.1) fun r_21 =>
        bif (!r_21) then
          some false
        else
          bif (r_19.2 != r_3.2) then
            some false
          else
            ob (f22 n a0) fun r_22 =>
            ob (f24 n r_4 r_22) fun r_23 =>
            bif (!r_23) then
              some false
            else
              ob (f25B n (r_4.1, r_4.2.1, r_4.2.2) 1) fun r_24 =>
              gd (Nat.beq r_24.2.1.length r_4.2.1.length && (Nat.beq r_24.2.2.length r_4.2.2.length && true)) (
                bif (decide (r_24.1 < 0)) then
                  some false
                else
                  ob (f24 n (r_19.1.1, [], r_19.1.2.2) r_3.1) fun r_25 =>
                  bif (!r_25) then
                    some false
                  else
                    bif (r_19.2 != r_3.2) then
                      some false
                    else
                      ob (f25B1 n (r_19.1.1, [], r_19.1.2.2) 1) fun r_26 =>
                      gd (Nat.beq r_26.2.length r_19.1.2.2.length && true) (
                        ob (f26 n (r_19.1.1, [], r_26.2) 1) fun r_27 =>
                        bif (decide (r_27 < 0)) then
                          some false
                        else
                          bif (r_27 != r_26.1) then
                            some false
                          else
                            ob (f22 n a0) fun r_28 =>
                            ob (f23 n r_28) fun r_29 =>
                            ob (f24 n r_29.1 r_3.1) fun r_30 =>
                            bif (!r_30) then
                              some false
                            else
                              bif (r_29.2 != r_3.2) then
                                some false
                              else
                                ob (f26 n (r_19.1.1, [], r_26.2) 1) fun r_31 =>
                                bif (decide (r_31 < 0)) then
                                  some false
                                else
                                  bif (r_31 != r_26.1) then
                                    some false
                                  else
                                    some true))) (fun r_20 =>
        caseS r_20 (fun r_32 =>
          ob (f24 n (r_32.1.1, r_32.1.2.1, []) r_3.1) fun r_34 =>
          bif (!r_34) then
            some false
          else
            bif (r_32.2 != r_3.2) then
              some false
            else
              ob (f22 n a0) fun r_35 =>
              ob (f24 n r_4 r_35) fun r_36 =>
              bif (!r_36) then
                some false
              else
                ob (f25B n (r_4.1, r_4.2.1, r_4.2.2) 1) fun r_37 =>
                gd (Nat.beq r_37.2.1.length r_4.2.1.length && (Nat.beq r_37.2.2.length r_4.2.2.length && true)) (
                  bif (decide (r_37.1 < 0)) then
                    some false
                  else
                    ob (f24 n (r_32.1.1, r_32.1.2.1, []) r_3.1) fun r_38 =>
                    bif (!r_38) then
                      some false
                    else
                      bif (r_32.2 != r_3.2) then
                        some false
                      else
                        ob (f25B2 n (r_32.1.1, r_32.1.2.1, []) 1) fun r_39 =>
                        gd (Nat.beq r_39.2.length r_32.1.2.1.length && true) (
                          ob (f26 n (r_32.1.1, r_39.2, []) 1) fun r_40 =>
                          bif (decide (r_40 < 0)) then
                            some false
                          else
                            bif (r_40 != r_39.1) then
                              some false
                            else
                              ob (f22 n a0) fun r_41 =>
                              ob (f23 n r_41) fun r_42 =>
                              ob (f24 n r_42.1 r_3.1) fun r_43 =>
                              bif (!r_43) then
                                some false
                              else
                                bif (r_42.2 != r_3.2) then
                                  some false
                                else
                                  ob (f26 n (r_32.1.1, r_39.2, []) 1) fun r_44 =>
                                  bif (decide (r_44 < 0)) then
                                    some false
                                  else
                                    bif (r_44 != r_39.1) then
                                      some false
                                    else
                                      some true))) (fun r_33 =>
          caseS r_33 (fun r_45 =>
            ob (f24 n (r_45.1.1, [], []) r_3.1) fun r_47 =>
            bif (!r_47) then
              some false
            else
              bif (r_45.2 != r_3.2) then
                some false
              else
                ob (f22 n a0) fun r_48 =>
                ob (f24 n r_4 r_48) fun r_49 =>
                bif (!r_49) then
                  some false
                else
                  ob (f25B n (r_4.1, r_4.2.1, r_4.2.2) 1) fun r_50 =>
                  gd (Nat.beq r_50.2.1.length r_4.2.1.length && (Nat.beq r_50.2.2.length r_4.2.2.length && true)) (
                    bif (decide (r_50.1 < 0)) then
                      some false
                    else
                      ob (f24 n (r_45.1.1, [], []) r_3.1) fun r_51 =>
                      bif (!r_51) then
                        some false
                      else
                        bif (r_45.2 != r_3.2) then
                          some false
                        else
                          ob (f25 n (r_45.1.1, [], []) 1) fun r_52 =>
                          ob (f26 n (r_45.1.1, [], []) 1) fun r_53 =>
                          bif (decide (r_53 < 0)) then
                            some false
                          else
                            bif (r_53 != r_52) then
                              some false
                            else
                              ob (f22 n a0) fun r_54 =>
                              ob (f23 n r_54) fun r_55 =>
                              ob (f24 n r_55.1 r_3.1) fun r_56 =>
                              bif (!r_56) then
                                some false
                              else
                                bif (r_55.2 != r_3.2) then
                                  some false
                                else
                                  ob (f26 n (r_45.1.1, [], []) 1) fun r_57 =>
                                  bif (decide (r_57 < 0)) then
                                    some false
                                  else
                                    bif (r_57 != r_52) then
                                      some false
                                    else
                                      some true)) (fun r_46 =>
            ob (f24 n (r_46.1.1, [], []) r_3.1) fun r_58 =>
            bif (!r_58) then
              some false
            else
              bif (r_46.2 != r_3.2) then
                some false
              else
                ob (f22 n a0) fun r_59 =>
                ob (f24 n r_4 r_59) fun r_60 =>
                bif (!r_60) then
                  some false
                else
                  ob (f25B n (r_4.1, r_4.2.1, r_4.2.2) 1) fun r_61 =>
                  gd (Nat.beq r_61.2.1.length r_4.2.1.length && (Nat.beq r_61.2.2.length r_4.2.2.length && true)) (
                    bif (decide (r_61.1 < 0)) then
                      some false
                    else
                      ob (f24 n (r_46.1.1, [], []) r_3.1) fun r_62 =>
                      bif (!r_62) then
                        some false
                      else
                        bif (r_46.2 != r_3.2) then
                          some false
                        else
                          ob (f25 n (r_46.1.1, [], []) 1) fun r_63 =>
                          ob (f26 n (r_46.1.1, [], []) 1) fun r_64 =>
                          bif (decide (r_64 < 0)) then
                            some false
                          else
                            bif (r_64 != r_63) then
                              some false
                            else
                              ob (f22 n a0) fun r_65 =>
                              ob (f23 n r_65) fun r_66 =>
                              ob (f24 n r_66.1 r_3.1) fun r_67 =>
                              bif (!r_67) then
                                some false
                              else
                                bif (r_66.2 != r_3.2) then
                                  some false
                                else
                                  ob (f26 n (r_46.1.1, [], []) 1) fun r_68 =>
                                  bif (decide (r_68 < 0)) then
                                    some false
                                  else
                                    bif (r_68 != r_63) then
                                      some false
                                    else
                                      some true)))))
def f4_E (n : Nat) : Ent := ⟨4, [hR], [.bool], fun x => f4 n x⟩
def f4_D (α : Type) (n : Nat) : D3 α := { reg := [(2, ⟨0, [], [(2, { ent := some (f20_E n) })]⟩), (5, ⟨0, [], [(1, { ent := some (f22_E n) }), (2, { ent := some (f21_E n) })]⟩), (6, ⟨0, [], [(1, { entB := some (f22B_E n), hb := 310 })]⟩), (7, ⟨0, [], [(1, { entB := some (f23B_E n), hb := 320 })]⟩), (8, ⟨0, [], [(2, { ent := some (f24_E n) })]⟩), (10, ⟨3, [], [(2, { ent := some (f22_E n) }), (3, { ent := some (f24_E n) })]⟩), (13, ⟨0, [], [(2, { alt := [(f25B_E n)], hb := 330 })]⟩), (14, ⟨0, [], [(5, { ent := some (f24_E n) })]⟩), (17, ⟨0, [], [(2, { ent := some (f25_E n), alt := [(f25B_E n), (f25B1_E n), (f25B2_E n)], hb := 340 })]⟩), (19, ⟨0, [], [(2, { ent := some (f26_E n) })]⟩), (24, ⟨0, [], [(1, { ent := some (f22_E n) }), (2, { ent := some (f23_E n) })]⟩), (25, ⟨0, [], [(2, { ent := some (f24_E n) })]⟩), (28, ⟨0, [], [(2, { ent := some (f26_E n) })]⟩)], join := [], loop := [] }
theorem f4_ents (α : Type) (n : Nat) : AllS Try.prog (entsOf (f4_D α n).reg) := ⟨f20_ok n, f22_ok n, f21_ok n, f22B_ok n, f23B_ok n, f24_ok n, f22_ok n, f24_ok n, f25B_ok n, f24_ok n, f25B_ok n, f25B1_ok n, f25B2_ok n, f25_ok n, f26_ok n, f22_ok n, f23_ok n, f24_ok n, f26_ok n, trivial⟩
theorem f4_d (α : Type) (n : Nat) : D3.OK Try.prog (tyOf Try.prog) ⟨96, []⟩ (f4_D α n) (bodyOf Try.f4) :=
  D3.OK.mk3 (f4_ents α n) (show loopsOf (bodyOf Try.f4) = [] by kernel_rfl) trivial
theorem f4_ok (n : Nat) : (f4_E n).Sound Try.prog :=
  fn_ok (tyOf_ok _) prog_fol (f4_D _ n) (show Try.prog.funcs[4]? = some Try.f4 by kernel_rfl) (by kernel_rfl) (show Try.f4.body = some (bodyOf Try.f4) by kernel_rfl) rfl rfl (Nat.le_of_ble_eq_true rfl) (f4_d _ n) (by intro x; kernel_rfl) 




end Go.Ev
