/- DERIVED. What the functions compute, and that they do. -/
import Derived.Test.YtckjalpomcaamaaEe

namespace Go.Ev
open Go Go.Proofs
def f29 (n : Nat) (a0 : List (Int × Int × Int × Int)) (a1 : Int) : Option Int :=
  bif (decide ((W (a1 - (a0.length : Int))) < 0)) then
    some (-1)
  else
    some (W (a1 - (a0.length : Int)))
def f29_E (n : Nat) : Ent := ⟨29, [hNs, hI], [hI], fun x => f29 n x.1 x.2⟩
def f29_D (α : Type) (n : Nat) : D3 α := { reg := [], join := [], loop := [] }
theorem f29_ents (α : Type) (n : Nat) : AllS Try.prog (entsOf (f29_D α n).reg) := trivial
theorem f29_d (α : Type) (n : Nat) : D3.OK Try.prog ⟨12, []⟩ (f29_D α n) (bodyOf Try.f29) :=
  D3.OK.mk3 (f29_ents α n) (show loopsOf (bodyOf Try.f29) = [] by kernel_rfl) trivial
theorem f29_ok (n : Nat) : (f29_E n).Sound Try.prog :=
  fn_ok (tyOf_ok _) prog_fol (f29_D _ n) (show Try.prog.funcs[29]? = some Try.f29 by kernel_rfl) (by kernel_rfl) (show Try.f29.body = some (bodyOf Try.f29) by kernel_rfl) rfl rfl (Nat.le_of_ble_eq_true rfl) (f29_d _ n) (by intro x; kernel_rfl) 

def f11 (n : Nat) (a0 : List (Int × Int × Int × Int)) (a1 : Int) : Option Int :=
  ob (f29 n a0 a1) fun r_1 =>
  bif (decide (r_1 < 0)) then
    some (-1)
  else
    some r_1
def f11_E (n : Nat) : Ent := ⟨11, [hE, hI], [hI], fun x => f11 n x.1 x.2⟩
def f11_D (α : Type) (n : Nat) : D3 α := { reg := [(1, { ops := [(3, { ent := some (f29_E n) })] })], join := [], loop := [] }
theorem f11_ents (α : Type) (n : Nat) : AllS Try.prog (entsOf (f11_D α n).reg) := ⟨f29_ok n, trivial⟩
theorem f11_d (α : Type) (n : Nat) : D3.OK Try.prog ⟨12, []⟩ (f11_D α n) (bodyOf Try.f11) :=
  D3.OK.mk3 (f11_ents α n) (show loopsOf (bodyOf Try.f11) = [] by kernel_rfl) trivial
theorem f11_ok (n : Nat) : (f11_E n).Sound Try.prog :=
  fn_ok (tyOf_ok _) prog_fol (f11_D _ n) (show Try.prog.funcs[11]? = some Try.f11 by kernel_rfl) (by kernel_rfl) (show Try.f11.body = some (bodyOf Try.f11) by kernel_rfl) rfl rfl (Nat.le_of_ble_eq_true rfl) (f11_d _ n) (by intro x; kernel_rfl) 

def f48 (n : Nat) (a0 : Int × Int × Int × Int) : Option (Int × Int × Int × Int) :=
  some a0
def f48_E (n : Nat) : Ent := ⟨48, [hN], [hN], fun x => f48 n x⟩
def f48_D (α : Type) (n : Nat) : D3 α := { reg := [], join := [], loop := [] }
theorem f48_ents (α : Type) (n : Nat) : AllS Try.prog (entsOf (f48_D α n).reg) := trivial
theorem f48_d (α : Type) (n : Nat) : D3.OK Try.prog ⟨17, []⟩ (f48_D α n) (bodyOf Try.f48) :=
  D3.OK.mk3 (f48_ents α n) (show loopsOf (bodyOf Try.f48) = [] by kernel_rfl) trivial
theorem f48_ok (n : Nat) : (f48_E n).Sound Try.prog :=
  fn_ok (tyOf_ok _) prog_fol (f48_D _ n) (show Try.prog.funcs[48]? = some Try.f48 by kernel_rfl) (by kernel_rfl) (show Try.f48.body = some (bodyOf Try.f48) by kernel_rfl) rfl rfl (Nat.le_of_ble_eq_true rfl) (f48_d _ n) (by intro x; kernel_rfl) 

def f31_L3B {α : Type} (n : Nat) (s0 : List (Int × Int × Int × Int)) (s4 : Int) (b7 : List (Int × Int × Int × Int)) (f : (List (Int × Int × Int × Int)) → Int → (List (Int × Int × Int × Int)) → Option α) (k0 : (List (Int × Int × Int × Int)) → Option α) : Option α :=
  bif (decide (s4 < (s0.length : Int))) then
    gd (decide (0 ≤ s4) && decide (s4 < (s0.length : Int))) (
      let x_1 := s0.getD s4.toNat (0, 0, 0, 0)
      ob (f48 n x_1) fun r_2 =>
      gd (decide (0 ≤ s4) && decide (s4 < (b7.length : Int))) (
        gd (decide (s4.toNat < b7.length)) (
          f s0 (W (s4 + 1)) (b7.set s4.toNat r_2))))
  else
    k0 b7
abbrev f31_L3H : Tm := ⟨[(0, .d hNs), (3, .k (.hw 7)), (4, .d hI)], [(7, .arr 30 hN false)], []⟩
abbrev f31_L3X0 : Tm := ⟨[(3, .k (.hw 7))], [(7, .arr 30 hN false)], []⟩
abbrev f31_L3O : List (Exit × Tm) := [(.exit 0, f31_L3X0)]
def f31_L3U {α : Type} (n : Nat) (v : f31_L3H.den) (f : f31_L3H.den → Option α) (ks : KS α f31_L3O) : Option α := f31_L3B n v.1.1 v.1.2.2.1 v.2.1 (fun s0 s4 b7 => f ((s0, (), s4, ()), (b7, ()))) (fun w0 => ks.1 (((), ()), (w0, ())))
def f31_L3 {α : Type} (n m : Nat) (s0 : List (Int × Int × Int × Int)) (s4 : Int) (b7 : List (Int × Int × Int × Int)) (k0 : (List (Int × Int × Int × Int)) → Option α) : Option α := rounds (f31_L3U n) m ((s0, (), s4, ()), (b7, ())) (fun w => k0 w.2.1, ())
theorem f31_L3_0 {α : Type} (n : Nat) (s0 : List (Int × Int × Int × Int)) (s4 : Int) (b7 : List (Int × Int × Int × Int)) (k0 : (List (Int × Int × Int × Int)) → Option α) : f31_L3 (α := α) n 0 s0 s4 b7 k0 = none := rfl
theorem f31_L3_s {α : Type} (n m : Nat) (s0 : List (Int × Int × Int × Int)) (s4 : Int) (b7 : List (Int × Int × Int × Int)) (k0 : (List (Int × Int × Int × Int)) → Option α) : f31_L3 (α := α) n (m + 1) s0 s4 b7 k0 = f31_L3B n s0 s4 b7 (fun s0 s4 b7 => f31_L3 n m s0 s4 b7 k0) k0 := rfl
def f31 (n : Nat) (a0 : List (Int × Int × Int × Int)) : Option (List (Int × Int × Int × Int)) :=
  gd (decide (0 ≤ (a0.length : Int)) && decide ((a0.length : Int) ≤ 4611686018427387904) && decide ((32 : Int) * (a0.length : Int) ≤ 281474976710656)) (
    f31_L3 n n a0 0 (List.replicate ((a0.length : Int).toNat) (0, 0, 0, 0))
      (fun z_3 => (
        some z_3)))
def f31_E (n : Nat) : Ent := ⟨31, [hNs], [hNs], fun x => f31 n x⟩
def f31_D (α : Type) (n : Nat) : D3 α := { reg := [(5, { ops := [(6, { ent := some (f48_E n) })] })], join := [], loop := [(3, ⟨f31_L3H, f31_L3O, rounds (f31_L3U n) n⟩)] }
theorem f31_ents (α : Type) (n : Nat) : AllS Try.prog (entsOf (f31_D α n).reg) := ⟨f48_ok n, trivial⟩
theorem f31_L3_d (α : Type) (n : Nat) : D3.OK Try.prog ⟨23, []⟩ (f31_D α n) ((bodyOf Try.f31).at [1, 1, 0, 1, 0, 0]) :=
  D3.OK.mk3 (f31_ents α n) (show loopsOf ((bodyOf Try.f31).at [1, 1, 0, 1, 0, 0]) = [] by kernel_rfl) trivial
theorem f31_L3_ok (α : Type) (n : Nat) : LO.Sound (α := α) Try.prog ⟨23, []⟩ ⟨f31_L3H, f31_L3O, rounds (f31_L3U n) n⟩ (.loop ((bodyOf Try.f31).at [1, 1, 0, 1, 0, 0])) :=
  loop_ok (tyOf_ok _) prog_fol (f31_L3U n) (f31_L3_d α n) (by intro v f ks; kernel_rfl) n
theorem f31_d (α : Type) (n : Nat) : D3.OK Try.prog ⟨23, []⟩ (f31_D α n) (bodyOf Try.f31) :=
  D3.OK.mk3 (f31_ents α n) (show loopsOf (bodyOf Try.f31) = [(3, .loop ((bodyOf Try.f31).at [1, 1, 0, 1, 0, 0]))] by kernel_rfl) ⟨look_sound rfl (f31_L3_ok α n), trivial⟩
theorem f31_ok (n : Nat) : (f31_E n).Sound Try.prog :=
  fn_ok (tyOf_ok _) prog_fol (f31_D _ n) (show Try.prog.funcs[31]? = some Try.f31 by kernel_rfl) (by kernel_rfl) (show Try.f31.body = some (bodyOf Try.f31) by kernel_rfl) rfl rfl (Nat.le_of_ble_eq_true rfl) (f31_d _ n) (by intro x; kernel_rfl) 

def f13 (n : Nat) (a0 : List (Int × Int × Int × Int)) : Option (List (Int × Int × Int × Int)) :=
  ob (f31 n a0) fun r_1 =>
  some r_1
def f13_E (n : Nat) : Ent := ⟨13, [hE], [hE], fun x => f13 n x⟩
def f13_D (α : Type) (n : Nat) : D3 α := { reg := [(2, { ops := [(2, { ent := some (f31_E n) })] })], join := [], loop := [] }
theorem f13_ents (α : Type) (n : Nat) : AllS Try.prog (entsOf (f13_D α n).reg) := ⟨f31_ok n, trivial⟩
theorem f13_d (α : Type) (n : Nat) : D3.OK Try.prog ⟨9, []⟩ (f13_D α n) (bodyOf Try.f13) :=
  D3.OK.mk3 (f13_ents α n) (show loopsOf (bodyOf Try.f13) = [] by kernel_rfl) trivial
theorem f13_ok (n : Nat) : (f13_E n).Sound Try.prog :=
  fn_ok (tyOf_ok _) prog_fol (f13_D _ n) (show Try.prog.funcs[13]? = some Try.f13 by kernel_rfl) (by kernel_rfl) (show Try.f13.body = some (bodyOf Try.f13) by kernel_rfl) rfl rfl (Nat.le_of_ble_eq_true rfl) (f13_d _ n) (by intro x; kernel_rfl) 

def f42 (n : Nat) (a0 : Int) (a1 : Int) (a2 : Int) : Option Bool :=
  bif (decide (a1 ≤ a0)) then
    some (decide (a0 ≤ a2))
  else
    some false
def f42_E (n : Nat) : Ent := ⟨42, [hI, hI, hI], [.bool], fun x => f42 n x.1 x.2.1 x.2.2⟩
def f42_D (α : Type) (n : Nat) : D3 α := { reg := [], join := [], loop := [] }
theorem f42_ents (α : Type) (n : Nat) : AllS Try.prog (entsOf (f42_D α n).reg) := trivial
theorem f42_d (α : Type) (n : Nat) : D3.OK Try.prog ⟨15, []⟩ (f42_D α n) (bodyOf Try.f42) :=
  D3.OK.mk3 (f42_ents α n) (show loopsOf (bodyOf Try.f42) = [] by kernel_rfl) trivial
theorem f42_ok (n : Nat) : (f42_E n).Sound Try.prog :=
  fn_ok (tyOf_ok _) prog_fol (f42_D _ n) (show Try.prog.funcs[42]? = some Try.f42 by kernel_rfl) (by kernel_rfl) (show Try.f42.body = some (bodyOf Try.f42) by kernel_rfl) rfl rfl (Nat.le_of_ble_eq_true rfl) (f42_d _ n) (by intro x; kernel_rfl) 

def f44 (n : Nat) (a0 : Int) : Option Bool :=
  ob (f42 n a0 3 6) fun r_1 =>
  some r_1
def f44_E (n : Nat) : Ent := ⟨44, [hI], [.bool], fun x => f44 n x⟩
def f44_D (α : Type) (n : Nat) : D3 α := { reg := [(1, { ops := [(1, { ent := some (f42_E n) })] })], join := [], loop := [] }
theorem f44_ents (α : Type) (n : Nat) : AllS Try.prog (entsOf (f44_D α n).reg) := ⟨f42_ok n, trivial⟩
theorem f44_d (α : Type) (n : Nat) : D3.OK Try.prog ⟨5, []⟩ (f44_D α n) (bodyOf Try.f44) :=
  D3.OK.mk3 (f44_ents α n) (show loopsOf (bodyOf Try.f44) = [] by kernel_rfl) trivial
theorem f44_ok (n : Nat) : (f44_E n).Sound Try.prog :=
  fn_ok (tyOf_ok _) prog_fol (f44_D _ n) (show Try.prog.funcs[44]? = some Try.f44 by kernel_rfl) (by kernel_rfl) (show Try.f44.body = some (bodyOf Try.f44) by kernel_rfl) rfl rfl (Nat.le_of_ble_eq_true rfl) (f44_d _ n) (by intro x; kernel_rfl) 

def f46 (n : Nat) (a0 : Int) : Option Bool :=
  bif (a0 == 7) then
    some true
  else
    some (a0 == 8)
def f46_E (n : Nat) : Ent := ⟨46, [hI], [.bool], fun x => f46 n x⟩
def f46_D (α : Type) (n : Nat) : D3 α := { reg := [], join := [], loop := [] }
theorem f46_ents (α : Type) (n : Nat) : AllS Try.prog (entsOf (f46_D α n).reg) := trivial
theorem f46_d (α : Type) (n : Nat) : D3.OK Try.prog ⟨9, []⟩ (f46_D α n) (bodyOf Try.f46) :=
  D3.OK.mk3 (f46_ents α n) (show loopsOf (bodyOf Try.f46) = [] by kernel_rfl) trivial
theorem f46_ok (n : Nat) : (f46_E n).Sound Try.prog :=
  fn_ok (tyOf_ok _) prog_fol (f46_D _ n) (show Try.prog.funcs[46]? = some Try.f46 by kernel_rfl) (by kernel_rfl) (show Try.f46.body = some (bodyOf Try.f46) by kernel_rfl) rfl rfl (Nat.le_of_ble_eq_true rfl) (f46_d _ n) (by intro x; kernel_rfl) 

def f52 (n : Nat) (a0 : Bool) : Option Int :=
  bif a0 then
    some 1
  else
    some 0
def f52_E (n : Nat) : Ent := ⟨52, [.bool], [hI], fun x => f52 n x⟩
def f52_D (α : Type) (n : Nat) : D3 α := { reg := [], join := [], loop := [] }
theorem f52_ents (α : Type) (n : Nat) : AllS Try.prog (entsOf (f52_D α n).reg) := trivial
theorem f52_d (α : Type) (n : Nat) : D3.OK Try.prog ⟨4, []⟩ (f52_D α n) (bodyOf Try.f52) :=
  D3.OK.mk3 (f52_ents α n) (show loopsOf (bodyOf Try.f52) = [] by kernel_rfl) trivial
theorem f52_ok (n : Nat) : (f52_E n).Sound Try.prog :=
  fn_ok (tyOf_ok _) prog_fol (f52_D _ n) (show Try.prog.funcs[52]? = some Try.f52 by kernel_rfl) (by kernel_rfl) (show Try.f52.body = some (bodyOf Try.f52) by kernel_rfl) rfl rfl (Nat.le_of_ble_eq_true rfl) (f52_d _ n) (by intro x; kernel_rfl) 

def f43 (n : Nat) (a0 : Int × Int × Int × Int) (a1 : Int) : Option Bool :=
  ob (f42 n a0.1 1 8) fun r_1 =>
  bif (!r_1) then
    some false
  else
    ob (f44 n a0.1) fun r_2 =>
    bif r_2 then
      ob (f42 n a0.2.1 0 (W (a1 - 1))) fun r_3 =>
      bif r_3 then
        ob (f42 n a0.2.2.1 (W (a0.2.1 + 1)) (W (a1 - 1))) fun r_4 =>
        bif r_4 then
          some (a0.2.2.2 == 0)
        else
          some false
      else
        some false
    else
      ob (f46 n a0.1) fun r_5 =>
      bif r_5 then
        bif (a0.2.1 == (W (a1 - 1))) then
          bif (decide (a1 > 0)) then
            bif (a0.2.2.1 == 0) then
              ob (f52 n (a0.1 == 8)) fun r_6 =>
              ob (f42 n a0.2.2.2 0 (W (8 * r_6))) fun r_7 =>
              some r_7
            else
              some false
          else
            some false
        else
          some false
      else
        bif (a0.1 == 2) then
          bif (a0.2.1 == 0) then
            bif (a0.2.2.1 == 0) then
              ob (f42 n a0.2.2.2 0 3) fun r_8 =>
              some r_8
            else
              some false
          else
            some false
        else
          bif (a0.2.1 == 0) then
            bif (a0.2.2.1 == 0) then
              ob (f42 n a0.2.2.2 0 999999999) fun r_9 =>
              some r_9
            else
              some false
          else
            some false
def f43_E (n : Nat) : Ent := ⟨43, [hN, hI], [.bool], fun x => f43 n x.1 x.2⟩
def f43_D (α : Type) (n : Nat) : D3 α := { reg := [(1, { ops := [(2, { ent := some (f42_E n) })] }),
    (3, { ops := [(2, { ent := some (f44_E n) })] }),
    (4, { ops := [(4, { ent := some (f42_E n) }), (13, { ent := some (f42_E n) })] }),
    (5, { ops := [(2, { ent := some (f46_E n) })] }),
    (6, { m := 22, ops := [(20, { ent := some (f52_E n) }), (22, { ent := some (f42_E n) })] }),
    (8, { ops := [(11, { ent := some (f42_E n) })] }),
    (9, { ops := [(11, { ent := some (f42_E n) })] })], join := [], loop := [] }
theorem f43_ents (α : Type) (n : Nat) : AllS Try.prog (entsOf (f43_D α n).reg) := ⟨f42_ok n, f44_ok n, f42_ok n, f42_ok n, f46_ok n, f52_ok n, f42_ok n, f42_ok n, f42_ok n, trivial⟩
theorem f43_d (α : Type) (n : Nat) : D3.OK Try.prog ⟨92, []⟩ (f43_D α n) (bodyOf Try.f43) :=
  D3.OK.mk3 (f43_ents α n) (show loopsOf (bodyOf Try.f43) = [] by kernel_rfl) trivial
theorem f43_ok (n : Nat) : (f43_E n).Sound Try.prog :=
  fn_ok (tyOf_ok _) prog_fol (f43_D _ n) (show Try.prog.funcs[43]? = some Try.f43 by kernel_rfl) (by kernel_rfl) (show Try.f43.body = some (bodyOf Try.f43) by kernel_rfl) rfl rfl (Nat.le_of_ble_eq_true rfl) (f43_d _ n) (by intro x; kernel_rfl) 

def f45_L2B {α : Type} (n : Nat) (s1 : Int) (c2_0 : List (Int × Int × Int × Int)) (c5_0 : Int) (c5_1 : Int) (c5_2 : Int) (c5_3 : Int) (f : Int → (List (Int × Int × Int × Int)) → Int → Int → Int → Int → Option α) (k0 : Int → Option α) : Option α :=
  let J_5 := fun (_ : Unit) => (
    gd (decide (0 ≤ c5_1) && decide (c5_1 < (c2_0.length : Int))) (
      let x_4 := c2_0.getD c5_1.toNat (0, 0, 0, 0)
      f c5_1 c2_0 x_4.1 x_4.2.1 x_4.2.2.1 x_4.2.2.2))
  ob (f44 n c5_0) fun r_2 =>
  bif r_2 then
    J_5 ()
  else
    ob (f46 n c5_0) fun r_3 =>
    bif r_3 then
      J_5 ()
    else
      k0 s1
abbrev f45_L2H : Tm := ⟨[(1, .d hI), (2, .k (.hp 2 0 0)), (5, .k (.hp 5 0 0))], [(2, .var 25 true false [.d hNs]), (5, .var 30 true false [.d hI, .d hI, .d hI, .d hI])], []⟩
abbrev f45_L2X0 : Tm := ⟨[(1, .d hI)], [], [2, 5]⟩
abbrev f45_L2O : List (Exit × Tm) := [(.exit 0, f45_L2X0)]
def f45_L2U {α : Type} (n : Nat) (v : f45_L2H.den) (f : f45_L2H.den → Option α) (ks : KS α f45_L2O) : Option α := f45_L2B n v.1.1 v.2.1.1 v.2.2.1.1 v.2.2.1.2.1 v.2.2.1.2.2.1 v.2.2.1.2.2.2.1 (fun s1 c2_0 c5_0 c5_1 c5_2 c5_3 => f ((s1, (), (), ()), ((c2_0, ()), (c5_0, c5_1, c5_2, c5_3, ()), ()))) (fun w0 => ks.1 ((w0, ()), ()))
def f45_L2 {α : Type} (n m : Nat) (s1 : Int) (c2_0 : List (Int × Int × Int × Int)) (c5_0 : Int) (c5_1 : Int) (c5_2 : Int) (c5_3 : Int) (k0 : Int → Option α) : Option α := rounds (f45_L2U n) m ((s1, (), (), ()), ((c2_0, ()), (c5_0, c5_1, c5_2, c5_3, ()), ())) (fun w => k0 w.1.1, ())
theorem f45_L2_0 {α : Type} (n : Nat) (s1 : Int) (c2_0 : List (Int × Int × Int × Int)) (c5_0 : Int) (c5_1 : Int) (c5_2 : Int) (c5_3 : Int) (k0 : Int → Option α) : f45_L2 (α := α) n 0 s1 c2_0 c5_0 c5_1 c5_2 c5_3 k0 = none := rfl
theorem f45_L2_s {α : Type} (n m : Nat) (s1 : Int) (c2_0 : List (Int × Int × Int × Int)) (c5_0 : Int) (c5_1 : Int) (c5_2 : Int) (c5_3 : Int) (k0 : Int → Option α) : f45_L2 (α := α) n (m + 1) s1 c2_0 c5_0 c5_1 c5_2 c5_3 k0 = f45_L2B n s1 c2_0 c5_0 c5_1 c5_2 c5_3 (fun s1 c2_0 c5_0 c5_1 c5_2 c5_3 => f45_L2 n m s1 c2_0 c5_0 c5_1 c5_2 c5_3 k0) k0 := rfl
abbrev f45_J3 : Tm := ⟨[(2, .k (.hp 2 0 0)), (5, .k (.hp 5 0 0))], [(2, .var 25 true false [.d hNs]), (5, .var 30 true false [.d hI, .d hI, .d hI, .d hI])], []⟩
def f45 (n : Nat) (a0 : List (Int × Int × Int × Int)) (a1 : Int) : Option Int :=
  gd (decide (0 ≤ a1) && decide (a1 < (a0.length : Int))) (
    let x_1 := a0.getD a1.toNat (0, 0, 0, 0)
    f45_L2 n n a1 a0 x_1.1 x_1.2.1 x_1.2.2.1 x_1.2.2.2
      (fun z_6 => (
        some z_6)))
def f45_E (n : Nat) : Ent := ⟨45, [hE, hI], [hI], fun x => f45 n x.1 x.2⟩
def f45_D (α : Type) (n : Nat) : D3 α := { reg := [(2, { ops := [(2, { ent := some (f44_E n) }), (6, { ent := some (f46_E n) })] })], join := [(3, f45_J3)], loop := [(2, ⟨f45_L2H, f45_L2O, rounds (f45_L2U n) n⟩)] }
theorem f45_ents (α : Type) (n : Nat) : AllS Try.prog (entsOf (f45_D α n).reg) := ⟨f44_ok n, f46_ok n, trivial⟩
theorem f45_L2_d (α : Type) (n : Nat) : D3.OK Try.prog ⟨27, []⟩ (f45_D α n) ((bodyOf Try.f45).at [1, 1, 0, 0, 0]) :=
  D3.OK.mk3 (f45_ents α n) (show loopsOf ((bodyOf Try.f45).at [1, 1, 0, 0, 0]) = [] by kernel_rfl) trivial
theorem f45_L2_ok (α : Type) (n : Nat) : LO.Sound (α := α) Try.prog ⟨27, []⟩ ⟨f45_L2H, f45_L2O, rounds (f45_L2U n) n⟩ (.loop ((bodyOf Try.f45).at [1, 1, 0, 0, 0])) :=
  loop_ok (tyOf_ok _) prog_fol (f45_L2U n) (f45_L2_d α n) (by intro v f ks; kernel_rfl) n
theorem f45_d (α : Type) (n : Nat) : D3.OK Try.prog ⟨27, []⟩ (f45_D α n) (bodyOf Try.f45) :=
  D3.OK.mk3 (f45_ents α n) (show loopsOf (bodyOf Try.f45) = [(2, .loop ((bodyOf Try.f45).at [1, 1, 0, 0, 0]))] by kernel_rfl) ⟨look_sound rfl (f45_L2_ok α n), trivial⟩
theorem f45_ok (n : Nat) : (f45_E n).Sound Try.prog :=
  fn_ok (tyOf_ok _) prog_fol (f45_D _ n) (show Try.prog.funcs[45]? = some Try.f45 by kernel_rfl) (by kernel_rfl) (show Try.f45.body = some (bodyOf Try.f45) by kernel_rfl) rfl rfl (Nat.le_of_ble_eq_true rfl) (f45_d _ n) (by intro x; kernel_rfl) 

def f26_L5B {α : Type} (n : Nat) (s4 : Int) (c1_0 : List (Int × Int × Int × Int)) (b12 : List Int) (f : Int → (List (Int × Int × Int × Int)) → (List Int) → Option α) (k0 : Bool → Option α) (k1 : (List (Int × Int × Int × Int)) → Option α) : Option α :=
  bif (decide (s4 < (c1_0.length : Int))) then
    gd (decide (0 ≤ s4) && decide (s4 < (c1_0.length : Int))) (
      let x_2 := c1_0.getD s4.toNat (0, 0, 0, 0)
      ob (f43 n x_2 s4) fun r_3 =>
      bif (!r_3) then
        k0 false
      else
        let J_10 := fun (y_6 : Int) => (
          let J_9 := fun (y_8 : Int) => (
            bif (decide (y_8 > 12)) then
              k0 false
            else
              gd (decide ((b12.length + 1) * 8 ≤ 140737488355328)) (
                f (W (s4 + 1)) c1_0 (b12 ++ [y_8])))
          ob (f46 n x_2.1) fun r_7 =>
          bif r_7 then
            gd (decide (0 ≤ x_2.2.1) && decide (x_2.2.1 < (b12.length : Int))) (
              gd (decide (x_2.2.1.toNat < b12.length)) (
                J_9 (W (1 + (b12.getD x_2.2.1.toNat 0)))))
          else
            J_9 y_6)
        ob (f44 n x_2.1) fun r_4 =>
        bif r_4 then
          bif (x_2.2.2.1 != (W (s4 - 1))) then
            k0 false
          else
            ob (f45 n c1_0 x_2.2.2.1) fun r_5 =>
            bif (r_5 != (W (x_2.2.1 + 1))) then
              k0 false
            else
              gd (decide (0 ≤ x_2.2.1) && decide (x_2.2.1 < (b12.length : Int))) (
                gd (decide (x_2.2.1.toNat < b12.length)) (
                  gd (decide (0 ≤ x_2.2.2.1) && decide (x_2.2.2.1 < (b12.length : Int))) (
                    gd (decide (x_2.2.2.1.toNat < b12.length)) (
                      J_10 (W (1 + (max (b12.getD x_2.2.1.toNat 0) (b12.getD x_2.2.2.1.toNat 0))))))))
        else
          J_10 1)
  else
    k1 c1_0
abbrev f26_L5H : Tm := ⟨[(1, .k (.hp 1 0 0)), (3, .k (.hw 12)), (4, .d hI)], [(1, .var 25 true false [.d hNs]), (12, .arr 3 hI false)], [72]⟩
abbrev f26_L5X0 : Tm := ⟨[(2, .d .bool)], [], [1, 5, 12]⟩
abbrev f26_L5X1 : Tm := ⟨[(1, .k (.hp 1 0 0))], [(1, .var 25 true false [.d hNs])], [12]⟩
abbrev f26_L5O : List (Exit × Tm) := [(.ret, f26_L5X0), (.exit 0, f26_L5X1)]
def f26_L5U {α : Type} (n : Nat) (v : f26_L5H.den) (f : f26_L5H.den → Option α) (ks : KS α f26_L5O) : Option α := f26_L5B n v.1.2.2.1 v.2.1.1 v.2.2.1 (fun s4 c1_0 b12 => f (((), (), s4, ()), ((c1_0, ()), b12, ()))) (fun w0 => ks.1 ((w0, ()), ())) (fun w0 => ks.2.1 (((), ()), ((w0, ()), ())))
def f26_L5 {α : Type} (n m : Nat) (s4 : Int) (c1_0 : List (Int × Int × Int × Int)) (b12 : List Int) (k0 : Bool → Option α) (k1 : (List (Int × Int × Int × Int)) → Option α) : Option α := rounds (f26_L5U n) m (((), (), s4, ()), ((c1_0, ()), b12, ())) (fun w => k0 w.1.1, fun w => k1 w.2.1.1, ())
theorem f26_L5_0 {α : Type} (n : Nat) (s4 : Int) (c1_0 : List (Int × Int × Int × Int)) (b12 : List Int) (k0 : Bool → Option α) (k1 : (List (Int × Int × Int × Int)) → Option α) : f26_L5 (α := α) n 0 s4 c1_0 b12 k0 k1 = none := rfl
theorem f26_L5_s {α : Type} (n m : Nat) (s4 : Int) (c1_0 : List (Int × Int × Int × Int)) (b12 : List Int) (k0 : Bool → Option α) (k1 : (List (Int × Int × Int × Int)) → Option α) : f26_L5 (α := α) n (m + 1) s4 c1_0 b12 k0 k1 = f26_L5B n s4 c1_0 b12 (fun s4 c1_0 b12 => f26_L5 n m s4 c1_0 b12 k0 k1) k0 k1 := rfl
abbrev f26_J15 : Tm := ⟨[(1, .k (.hp 1 0 0)), (3, .k (.hw 12)), (4, .d hI), (5, .k (.hp 5 0 0)), (6, .d hI)], [(1, .var 25 true false [.d hNs]), (5, .var 30 true false [.d hI, .d hI, .d hI, .d hI]), (12, .arr 3 hI false)], []⟩
abbrev f26_J17 : Tm := ⟨[(1, .k (.hp 1 0 0)), (3, .k (.hw 12)), (4, .d hI), (6, .d hI)], [(1, .var 25 true false [.d hNs]), (12, .arr 3 hI false)], [5]⟩
def f26 (n : Nat) (a0 : List (Int × Int × Int × Int)) : Option Bool :=
  ob (f42 n (a0.length : Int) 1 60) fun r_1 =>
  bif (!r_1) then
    some false
  else
    f26_L5 n n 0 a0 []
      (fun z_11 => (
        some z_11))
      (fun z_12 => (
        ob (f45 n z_12 (W ((z_12.length : Int) - 1))) fun r_13 =>
        some (r_13 == 0)))
def f26_E (n : Nat) : Ent := ⟨26, [hE], [.bool], fun x => f26 n x⟩
def f26_D (α : Type) (n : Nat) : D3 α := { reg := [(1, { ops := [(3, { ent := some (f42_E n) })] }),
    (3, { ops := [(0, { sh := some hI })] }),
    (8, { ops := [(2, { ent := some (f43_E n) })] }),
    (11, { ops := [(2, { ent := some (f44_E n) })] }),
    (12, { m := 13, ops := [(9, { ent := some (f45_E n) })] }),
    (14, { m := 10 }),
    (15, { ops := [(2, { ent := some (f46_E n) })] }),
    (19, { ops := [(2, { sh := some hI })] }),
    (20, { ops := [(5, { ent := some (f45_E n) })] })], join := [(15, f26_J15), (17, f26_J17)], loop := [(5, ⟨f26_L5H, f26_L5O, rounds (f26_L5U n) n⟩)] }
theorem f26_ents (α : Type) (n : Nat) : AllS Try.prog (entsOf (f26_D α n).reg) := ⟨f42_ok n, f43_ok n, f44_ok n, f45_ok n, f46_ok n, f45_ok n, trivial⟩
theorem f26_L5_d (α : Type) (n : Nat) : D3.OK Try.prog ⟨81, []⟩ (f26_D α n) ((bodyOf Try.f26).at [1, 1, 1, 0, 1, 0, 0]) :=
  D3.OK.mk3 (f26_ents α n) (show loopsOf ((bodyOf Try.f26).at [1, 1, 1, 0, 1, 0, 0]) = [] by kernel_rfl) trivial
theorem f26_L5_ok (α : Type) (n : Nat) : LO.Sound (α := α) Try.prog ⟨81, []⟩ ⟨f26_L5H, f26_L5O, rounds (f26_L5U n) n⟩ (.loop ((bodyOf Try.f26).at [1, 1, 1, 0, 1, 0, 0])) :=
  loop_ok (tyOf_ok _) prog_fol (f26_L5U n) (f26_L5_d α n) (by intro v f ks; kernel_rfl) n
theorem f26_d (α : Type) (n : Nat) : D3.OK Try.prog ⟨81, []⟩ (f26_D α n) (bodyOf Try.f26) :=
  D3.OK.mk3 (f26_ents α n) (show loopsOf (bodyOf Try.f26) = [(5, .loop ((bodyOf Try.f26).at [1, 1, 1, 0, 1, 0, 0]))] by kernel_rfl) ⟨look_sound rfl (f26_L5_ok α n), trivial⟩
theorem f26_ok (n : Nat) : (f26_E n).Sound Try.prog :=
  fn_ok (tyOf_ok _) prog_fol (f26_D _ n) (show Try.prog.funcs[26]? = some Try.f26 by kernel_rfl) (by kernel_rfl) (show Try.f26.body = some (bodyOf Try.f26) by kernel_rfl) rfl rfl (Nat.le_of_ble_eq_true rfl) (f26_d _ n) (by intro x; kernel_rfl) 

abbrev f27_J10 : Tm := ⟨[(5, .k (.hp 5 0 0)), (6, .d hI), (7, .d hI)], [(5, .var 30 true false [.d hI, .d hI, .d hI, .d hI])], [2]⟩
abbrev f27_J15 : Tm := ⟨[(5, .k (.hp 5 0 0)), (6, .d hI), (7, .d hI), (39, .d hI), (40, .d .bool)], [(5, .var 30 true false [.d hI, .d hI, .d hI, .d hI])], []⟩
def f27 (n : Nat) : Nat → (List (Int × Int × Int × Int)) → Int → Option Int
  | 0, _, _ => none
  | d + 1, a0, a1 =>
    gd (decide (0 ≤ a1) && decide (a1 < (a0.length : Int))) (
      let x_1 := a0.getD a1.toNat (0, 0, 0, 0)
      bif (x_1.1 == 2) then
        some 1
      else
        bif (x_1.1 == 1) then
          some 0
        else
          ob (f27 n d a0 x_1.2.1) fun r_2 =>
          let J_8 := fun (y_5 : Int) => (
            bif (decide (r_2 < 0)) then
              some (-1)
            else
              bif (decide (y_5 < 0)) then
                some (-1)
              else
                let J_7 := fun (y_6 : Bool) => (
                  bif y_6 then
                    some (max r_2 y_5)
                  else
                    bif (x_1.1 == 5) then
                      some (W (r_2 + y_5))
                    else
                      bif (x_1.1 == 6) then
                        bif (decide (y_5 > 0)) then
                          some (-1)
                        else
                          some r_2
                      else
                        bif (x_1.1 == 8) then
                          some (W (r_2 * x_1.2.2.2))
                        else
                          some r_2)
                bif (x_1.1 == 3) then
                  J_7 true
                else
                  J_7 (x_1.1 == 4))
          ob (f44 n x_1.1) fun r_3 =>
          bif r_3 then
            ob (f27 n d a0 x_1.2.2.1) fun r_4 =>
            J_8 r_4
          else
            J_8 0)
def f27_E (n d : Nat) : Ent := ⟨27, [hE, hI], [hI], fun x => f27 n d x.1 x.2⟩
def f27_D (α : Type) (n d : Nat) : D3 α := { reg := [(6, { ops := [(3, { ent := some (f27_E n d) })] }),
    (8, { ops := [(2, { ent := some (f44_E n) })] }),
    (9, { ops := [(3, { ent := some (f27_E n d) })] })], join := [(10, f27_J10), (15, f27_J15)], loop := [] }
theorem f27_ents (α : Type) (n d : Nat) (hd : (f27_E n d).Sound Try.prog) : AllS Try.prog (entsOf (f27_D α n d).reg) := ⟨hd, f44_ok n, hd, trivial⟩
theorem f27_d (α : Type) (n d : Nat) (hd : (f27_E n d).Sound Try.prog) : D3.OK Try.prog ⟨62, []⟩ (f27_D α n d) (bodyOf Try.f27) :=
  D3.OK.mk3 (f27_ents α n d hd) (show loopsOf (bodyOf Try.f27) = [] by kernel_rfl) trivial
theorem f27_ok (n : Nat) : ∀ d, (f27_E n d).Sound Try.prog
  | 0 => fun _ _ _ h => by cases h
  | d + 1 => fn_ok (tyOf_ok _) prog_fol (f27_D _ n d) (show Try.prog.funcs[27]? = some Try.f27 by kernel_rfl) (by kernel_rfl) (show Try.f27.body = some (bodyOf Try.f27) by kernel_rfl) rfl rfl (Nat.le_of_ble_eq_true rfl) (f27_d _ n d (f27_ok n d)) (by intro x; kernel_rfl) 

def f9 (n : Nat) (a0 : List (Int × Int × Int × Int)) : Option (Int × Int) :=
  ob (f26 n a0) fun r_1 =>
  bif (!r_1) then
    some (0, 1)
  else
    ob (f27 n n a0 (W ((a0.length : Int) - 1))) fun r_2 =>
    bif (decide (r_2 < 0)) then
      some (0, 10)
    else
      some (r_2, 0)
def f9_E (n : Nat) : Ent := ⟨9, [hE], [hI, hI], fun x => f9 n x⟩
def f9_D (α : Type) (n : Nat) : D3 α := { reg := [(1, { ops := [(1, { ent := some (f26_E n) })] }),
    (3, { ops := [(5, { ent := some (f27_E n n) })] })], join := [], loop := [] }
theorem f9_ents (α : Type) (n : Nat) : AllS Try.prog (entsOf (f9_D α n).reg) := ⟨f26_ok n, f27_ok n n, trivial⟩
theorem f9_d (α : Type) (n : Nat) : D3.OK Try.prog ⟨17, []⟩ (f9_D α n) (bodyOf Try.f9) :=
  D3.OK.mk3 (f9_ents α n) (show loopsOf (bodyOf Try.f9) = [] by kernel_rfl) trivial
theorem f9_ok (n : Nat) : (f9_E n).Sound Try.prog :=
  fn_ok (tyOf_ok _) prog_fol (f9_D _ n) (show Try.prog.funcs[9]? = some Try.f9 by kernel_rfl) (by kernel_rfl) (show Try.f9.body = some (bodyOf Try.f9) by kernel_rfl) rfl rfl (Nat.le_of_ble_eq_true rfl) (f9_d _ n) (by intro x; kernel_rfl) 

def f47 (n : Nat) (a0 : Int) (a1 : Int) (a2 : Int) : Option Bool :=
  bif (decide (a1 ≤ a0)) then
    some (decide (a0 ≤ a2))
  else
    some false
def f47_E (n : Nat) : Ent := ⟨47, [hI, hI, hI], [.bool], fun x => f47 n x.1 x.2.1 x.2.2⟩
def f47_D (α : Type) (n : Nat) : D3 α := { reg := [], join := [], loop := [] }
theorem f47_ents (α : Type) (n : Nat) : AllS Try.prog (entsOf (f47_D α n).reg) := trivial
theorem f47_d (α : Type) (n : Nat) : D3.OK Try.prog ⟨15, []⟩ (f47_D α n) (bodyOf Try.f47) :=
  D3.OK.mk3 (f47_ents α n) (show loopsOf (bodyOf Try.f47) = [] by kernel_rfl) trivial
theorem f47_ok (n : Nat) : (f47_E n).Sound Try.prog :=
  fn_ok (tyOf_ok _) prog_fol (f47_D _ n) (show Try.prog.funcs[47]? = some Try.f47 by kernel_rfl) (by kernel_rfl) (show Try.f47.body = some (bodyOf Try.f47) by kernel_rfl) rfl rfl (Nat.le_of_ble_eq_true rfl) (f47_d _ n) (by intro x; kernel_rfl) 

def f57 (n : Nat) (a0 : Int × Int × Int × Int) : Option Bool :=
  bif (a0.1 == 1) then
    ob (f47 n a0.2.2.2 0 999999999) fun r_1 =>
    some r_1
  else
    bif (a0.1 == 2) then
      ob (f47 n a0.2.2.2 0 3) fun r_2 =>
      some r_2
    else
      bif (a0.1 == 8) then
        ob (f47 n a0.2.2.2 0 8) fun r_3 =>
        some r_3
      else
        some (a0.2.2.2 == 0)
def f57_E (n : Nat) : Ent := ⟨57, [hN], [.bool], fun x => f57 n x⟩
def f57_D (α : Type) (n : Nat) : D3 α := { reg := [(3, { ops := [(2, { ent := some (f47_E n) })] }),
    (5, { ops := [(2, { ent := some (f47_E n) })] }),
    (7, { ops := [(2, { ent := some (f47_E n) })] })], join := [], loop := [] }
theorem f57_ents (α : Type) (n : Nat) : AllS Try.prog (entsOf (f57_D α n).reg) := ⟨f47_ok n, f47_ok n, f47_ok n, trivial⟩
theorem f57_d (α : Type) (n : Nat) : D3.OK Try.prog ⟨23, []⟩ (f57_D α n) (bodyOf Try.f57) :=
  D3.OK.mk3 (f57_ents α n) (show loopsOf (bodyOf Try.f57) = [] by kernel_rfl) trivial
theorem f57_ok (n : Nat) : (f57_E n).Sound Try.prog :=
  fn_ok (tyOf_ok _) prog_fol (f57_D _ n) (show Try.prog.funcs[57]? = some Try.f57 by kernel_rfl) (by kernel_rfl) (show Try.f57.body = some (bodyOf Try.f57) by kernel_rfl) rfl rfl (Nat.le_of_ble_eq_true rfl) (f57_d _ n) (by intro x; kernel_rfl) 

def f34 (n : Nat) (a0 : Int × Int × Int × Int) : Option Int :=
  bif (a0.1 == 3) then
    some 2
  else
    bif (a0.1 == 4) then
      some 2
    else
      bif (a0.1 == 5) then
        some 2
      else
        bif (a0.1 == 6) then
          some 2
        else
          bif (a0.1 == 7) then
            some 1
          else
            bif (a0.1 == 8) then
              some 1
            else
              some 0
def f34_E (n : Nat) : Ent := ⟨34, [hN], [hI], fun x => f34 n x⟩
def f34_D (α : Type) (n : Nat) : D3 α := { reg := [], join := [], loop := [] }
theorem f34_ents (α : Type) (n : Nat) : AllS Try.prog (entsOf (f34_D α n).reg) := trivial
theorem f34_d (α : Type) (n : Nat) : D3.OK Try.prog ⟨13, []⟩ (f34_D α n) (bodyOf Try.f34) :=
  D3.OK.mk3 (f34_ents α n) (show loopsOf (bodyOf Try.f34) = [] by kernel_rfl) trivial
theorem f34_ok (n : Nat) : (f34_E n).Sound Try.prog :=
  fn_ok (tyOf_ok _) prog_fol (f34_D _ n) (show Try.prog.funcs[34]? = some Try.f34 by kernel_rfl) (by kernel_rfl) (show Try.f34.body = some (bodyOf Try.f34) by kernel_rfl) rfl rfl (Nat.le_of_ble_eq_true rfl) (f34_d _ n) (by intro x; kernel_rfl) 

def f58 (n : Nat) (a0 : Bool) (a1 : Int) (a2 : Int) : Option Bool :=
  bif a0 then
    ob (f47 n a1 0 (W (a2 - 1))) fun r_1 =>
    bif r_1 then
      some true
    else
      bif (!a0) then
        some (a1 == 0)
      else
        some false
  else
    bif (!a0) then
      some (a1 == 0)
    else
      some false
def f58_E (n : Nat) : Ent := ⟨58, [.bool, hI, (.ref hI)], [.bool], fun x => f58 n x.1 x.2.1 x.2.2⟩
def f58_D (α : Type) (n : Nat) : D3 α := { reg := [(1, { ops := [(5, { ent := some (f47_E n) })] })], join := [], loop := [] }
theorem f58_ents (α : Type) (n : Nat) : AllS Try.prog (entsOf (f58_D α n).reg) := ⟨f47_ok n, trivial⟩
theorem f58_d (α : Type) (n : Nat) : D3.OK Try.prog ⟨21, []⟩ (f58_D α n) (bodyOf Try.f58) :=
  D3.OK.mk3 (f58_ents α n) (show loopsOf (bodyOf Try.f58) = [] by kernel_rfl) trivial
theorem f58_ok (n : Nat) : (f58_E n).Sound Try.prog :=
  fn_ok (tyOf_ok _) prog_fol (f58_D _ n) (show Try.prog.funcs[58]? = some Try.f58 by kernel_rfl) (by kernel_rfl) (show Try.f58.body = some (bodyOf Try.f58) by kernel_rfl) rfl rfl (Nat.le_of_ble_eq_true rfl) (f58_d _ n) (by intro x; kernel_rfl) 

def f56 (n : Nat) (a0 : Int × Int × Int × Int) (a1 : Int) : Option Bool :=
  ob (f47 n a0.1 1 8) fun r_1 =>
  bif (!r_1) then
    some false
  else
    ob (f57 n a0) fun r_2 =>
    bif (!r_2) then
      some false
    else
      ob (f34 n a0) fun r_3 =>
      ob (f58 n (decide (r_3 > 0)) a0.2.1 a1) fun r_4 =>
      bif r_4 then
        ob (f34 n a0) fun r_5 =>
        ob (f58 n (decide (r_5 > 1)) a0.2.2.1 a1) fun r_6 =>
        some r_6
      else
        some false
def f56_E (n : Nat) : Ent := ⟨56, [hN, hI], [.bool], fun x => f56 n x.1 x.2⟩
def f56_D (α : Type) (n : Nat) : D3 α := { reg := [(1, { ops := [(2, { ent := some (f47_E n) }), (6, { ent := some (f57_E n) })] }),
    (3, { ops := [(0, { sh := some (.ref hI) })] }),
    (4, { m := 14, ops := [(2, { ent := some (f34_E n) }), (6, { ent := some (f58_E n) }), (10, { ent := some (f34_E n) }), (14, { ent := some (f58_E n) })] })], join := [], loop := [] }
theorem f56_ents (α : Type) (n : Nat) : AllS Try.prog (entsOf (f56_D α n).reg) := ⟨f47_ok n, f57_ok n, f34_ok n, f58_ok n, f34_ok n, f58_ok n, trivial⟩
theorem f56_d (α : Type) (n : Nat) : D3.OK Try.prog ⟨32, []⟩ (f56_D α n) (bodyOf Try.f56) :=
  D3.OK.mk3 (f56_ents α n) (show loopsOf (bodyOf Try.f56) = [] by kernel_rfl) trivial
theorem f56_ok (n : Nat) : (f56_E n).Sound Try.prog :=
  fn_ok (tyOf_ok _) prog_fol (f56_D _ n) (show Try.prog.funcs[56]? = some Try.f56 by kernel_rfl) (by kernel_rfl) (show Try.f56.body = some (bodyOf Try.f56) by kernel_rfl) rfl rfl (Nat.le_of_ble_eq_true rfl) (f56_d _ n) (by intro x; kernel_rfl) 

def f54_L3B {α : Type} (n : Nat) (s13 : List (Int × Int × Int × Int)) (s14 : Int) (s15 : Int) (b11 : List Int) (b12 : List Int) (f : (List (Int × Int × Int × Int)) → Int → Int → (List Int) → (List Int) → Option α) (k0 : Bool → Option α) (k1 : (List Int) → (List Int) → Option α) : Option α :=
  bif (decide (s15 < s14)) then
    gd (decide (0 ≤ s15) && decide (s15 < (s13.length : Int))) (
      let x_1 := s13.getD s15.toNat (0, 0, 0, 0)
      ob (f56 n x_1 s15) fun r_2 =>
      bif (!r_2) then
        k0 false
      else
        let J_6 := fun (y_4 : Int) (y_5 : Int) => (
          gd (decide ((b11.length + 1) * 8 ≤ 140737488355328)) (
            gd (decide ((b12.length + 1) * 8 ≤ 140737488355328)) (
              f s13 s14 (W (s15 + 1)) (b11 ++ [y_4]) (b12 ++ [y_5]))))
        ob (f34 n x_1) fun r_3 =>
        bif (r_3 == 1) then
          bif (x_1.2.1 != (W (s15 - 1))) then
            k0 false
          else
            gd (decide (0 ≤ x_1.2.1) && decide (x_1.2.1 < (b11.length : Int))) (
              gd (decide (x_1.2.1.toNat < b11.length)) (
                gd (decide (0 ≤ x_1.2.1) && decide (x_1.2.1 < (b12.length : Int))) (
                  gd (decide (x_1.2.1.toNat < b12.length)) (
                    J_6 (b11.getD x_1.2.1.toNat 0) (W ((b12.getD x_1.2.1.toNat 0) + 1))))))
        else
          bif (r_3 == 2) then
            bif (x_1.2.2.1 != (W (s15 - 1))) then
              k0 false
            else
              gd (decide (0 ≤ x_1.2.2.1) && decide (x_1.2.2.1 < (b11.length : Int))) (
                gd (decide (x_1.2.2.1.toNat < b11.length)) (
                  bif (x_1.2.1 != (W ((b11.getD x_1.2.2.1.toNat 0) - 1))) then
                    k0 false
                  else
                    gd (decide (0 ≤ x_1.2.1) && decide (x_1.2.1 < (b11.length : Int))) (
                      gd (decide (x_1.2.1.toNat < b11.length)) (
                        gd (decide (0 ≤ x_1.2.1) && decide (x_1.2.1 < (b12.length : Int))) (
                          gd (decide (x_1.2.1.toNat < b12.length)) (
                            gd (decide (0 ≤ x_1.2.2.1) && decide (x_1.2.2.1 < (b12.length : Int))) (
                              gd (decide (x_1.2.2.1.toNat < b12.length)) (
                                J_6 (b11.getD x_1.2.1.toNat 0) (W ((max (b12.getD x_1.2.1.toNat 0) (b12.getD x_1.2.2.1.toNat 0)) + 1))))))))))
          else
            J_6 s15 1)
  else
    k1 b11 b12
abbrev f54_L3H : Tm := ⟨[(5, .k (.hw 11)), (6, .k (.hw 12)), (13, .d hNs), (14, .d hI), (15, .d hI)], [(11, .arr 3 hI false), (12, .arr 3 hI false)], [82, 86]⟩
abbrev f54_L3X0 : Tm := ⟨[(2, .d .nil), (3, .d .nil), (4, .d .bool)], [], [8, 11, 12]⟩
abbrev f54_L3X1 : Tm := ⟨[(5, .k (.hw 11)), (6, .k (.hw 12))], [(11, .arr 3 hI false), (12, .arr 3 hI false)], []⟩
abbrev f54_L3O : List (Exit × Tm) := [(.ret, f54_L3X0), (.exit 0, f54_L3X1)]
def f54_L3U {α : Type} (n : Nat) (v : f54_L3H.den) (f : f54_L3H.den → Option α) (ks : KS α f54_L3O) : Option α := f54_L3B n v.1.2.2.1 v.1.2.2.2.1 v.1.2.2.2.2.1 v.2.1 v.2.2.1 (fun s13 s14 s15 b11 b12 => f (((), (), s13, s14, s15, ()), (b11, b12, ()))) (fun w0 => ks.1 (((), (), w0, ()), ())) (fun w0 w1 => ks.2.1 (((), (), ()), (w0, w1, ())))
def f54_L3 {α : Type} (n m : Nat) (s13 : List (Int × Int × Int × Int)) (s14 : Int) (s15 : Int) (b11 : List Int) (b12 : List Int) (k0 : Bool → Option α) (k1 : (List Int) → (List Int) → Option α) : Option α := rounds (f54_L3U n) m (((), (), s13, s14, s15, ()), (b11, b12, ())) (fun w => k0 w.1.2.2.1, fun w => k1 w.2.1 w.2.2.1, ())
theorem f54_L3_0 {α : Type} (n : Nat) (s13 : List (Int × Int × Int × Int)) (s14 : Int) (s15 : Int) (b11 : List Int) (b12 : List Int) (k0 : Bool → Option α) (k1 : (List Int) → (List Int) → Option α) : f54_L3 (α := α) n 0 s13 s14 s15 b11 b12 k0 k1 = none := rfl
theorem f54_L3_s {α : Type} (n m : Nat) (s13 : List (Int × Int × Int × Int)) (s14 : Int) (s15 : Int) (b11 : List Int) (b12 : List Int) (k0 : Bool → Option α) (k1 : (List Int) → (List Int) → Option α) : f54_L3 (α := α) n (m + 1) s13 s14 s15 b11 b12 k0 k1 = f54_L3B n s13 s14 s15 b11 b12 (fun s13 s14 s15 b11 b12 => f54_L3 n m s13 s14 s15 b11 b12 k0 k1) k0 k1 := rfl
abbrev f54_J17 : Tm := ⟨[(5, .k (.hw 11)), (6, .k (.hw 12)), (9, .d hI), (10, .d hI), (13, .d hNs), (14, .d hI), (15, .d hI)], [(11, .arr 3 hI false), (12, .arr 3 hI false)], [8]⟩
def f54 (n : Nat) (a0 : List (Int × Int × Int × Int)) : Option ((List Int) × (List Int) × Bool) :=
  f54_L3 n n a0 (a0.length : Int) 0 [] []
    (fun z_7 => (
      some ([], [], z_7)))
    (fun z_8 z_9 => (
      some (z_8, z_9, true)))
def f54_E (n : Nat) : Ent := ⟨54, [hNs], [hIs, hIs, .bool], fun x => f54 n x⟩
def f54_D (α : Type) (n : Nat) : D3 α := { reg := [(1, { ops := [(0, { sh := some hI }), (1, { sh := some hI })] }),
    (5, { ops := [(2, { ent := some (f56_E n) })] }),
    (8, { ops := [(1, { ent := some (f34_E n) })] }),
    (12, { m := 12 }),
    (14, { m := 14 }),
    (16, { m := 18 }),
    (17, { ops := [(2, { sh := some hI }), (6, { sh := some hI })] })], join := [(17, f54_J17)], loop := [(3, ⟨f54_L3H, f54_L3O, rounds (f54_L3U n) n⟩)] }
theorem f54_ents (α : Type) (n : Nat) : AllS Try.prog (entsOf (f54_D α n).reg) := ⟨f56_ok n, f34_ok n, trivial⟩
theorem f54_L3_d (α : Type) (n : Nat) : D3.OK Try.prog ⟨91, []⟩ (f54_D α n) ((bodyOf Try.f54).at [1, 1, 0, 1, 0, 0]) :=
  D3.OK.mk3 (f54_ents α n) (show loopsOf ((bodyOf Try.f54).at [1, 1, 0, 1, 0, 0]) = [] by kernel_rfl) trivial
theorem f54_L3_ok (α : Type) (n : Nat) : LO.Sound (α := α) Try.prog ⟨91, []⟩ ⟨f54_L3H, f54_L3O, rounds (f54_L3U n) n⟩ (.loop ((bodyOf Try.f54).at [1, 1, 0, 1, 0, 0])) :=
  loop_ok (tyOf_ok _) prog_fol (f54_L3U n) (f54_L3_d α n) (by intro v f ks; kernel_rfl) n
theorem f54_d (α : Type) (n : Nat) : D3.OK Try.prog ⟨91, []⟩ (f54_D α n) (bodyOf Try.f54) :=
  D3.OK.mk3 (f54_ents α n) (show loopsOf (bodyOf Try.f54) = [(3, .loop ((bodyOf Try.f54).at [1, 1, 0, 1, 0, 0]))] by kernel_rfl) ⟨look_sound rfl (f54_L3_ok α n), trivial⟩
theorem f54_ok (n : Nat) : (f54_E n).Sound Try.prog :=
  fn_ok (tyOf_ok _) prog_fol (f54_D _ n) (show Try.prog.funcs[54]? = some Try.f54 by kernel_rfl) (by kernel_rfl) (show Try.f54.body = some (bodyOf Try.f54) by kernel_rfl) rfl rfl (Nat.le_of_ble_eq_true rfl) (f54_d _ n) (by intro x; kernel_rfl) 

def f55_L5B {α : Type} (n : Nat) (s0 : List Int) (s3 : Int) (s4 : Int) (f : (List Int) → Int → Int → Option α) (k0 : Int → Option α) : Option α :=
  bif (decide (s4 < (s0.length : Int))) then
    gd (decide (0 ≤ s4) && decide (s4 < (s0.length : Int))) (
      f s0 (max s3 (s0.getD s4.toNat 0)) (W (s4 + 1)))
  else
    k0 s3
abbrev f55_L5H : Tm := ⟨[(0, .d hIs), (3, .d hI), (4, .d hI)], [], []⟩
abbrev f55_L5X0 : Tm := ⟨[(3, .d hI)], [], []⟩
abbrev f55_L5O : List (Exit × Tm) := [(.exit 0, f55_L5X0)]
def f55_L5U {α : Type} (n : Nat) (v : f55_L5H.den) (f : f55_L5H.den → Option α) (ks : KS α f55_L5O) : Option α := f55_L5B n v.1.1 v.1.2.1 v.1.2.2.1 (fun s0 s3 s4 => f ((s0, s3, s4, ()), ())) (fun w0 => ks.1 ((w0, ()), ()))
def f55_L5 {α : Type} (n m : Nat) (s0 : List Int) (s3 : Int) (s4 : Int) (k0 : Int → Option α) : Option α := rounds (f55_L5U n) m ((s0, s3, s4, ()), ()) (fun w => k0 w.1.1, ())
theorem f55_L5_0 {α : Type} (n : Nat) (s0 : List Int) (s3 : Int) (s4 : Int) (k0 : Int → Option α) : f55_L5 (α := α) n 0 s0 s3 s4 k0 = none := rfl
theorem f55_L5_s {α : Type} (n m : Nat) (s0 : List Int) (s3 : Int) (s4 : Int) (k0 : Int → Option α) : f55_L5 (α := α) n (m + 1) s0 s3 s4 k0 = f55_L5B n s0 s3 s4 (fun s0 s3 s4 => f55_L5 n m s0 s3 s4 k0) k0 := rfl
def f55 (n : Nat) (a0 : List Int) : Option Int :=
  bif (decide ((a0.length : Int) < 1)) then
    none
  else
    gd (decide (0 < (a0.length : Int))) (
      f55_L5 n n a0 (a0.getD 0 0) 1
        (fun z_1 => (
          some z_1)))
def f55_E (n : Nat) : Ent := ⟨55, [hIs], [hI], fun x => f55 n x⟩
def f55_D (α : Type) (n : Nat) : D3 α := { reg := [], join := [], loop := [(5, ⟨f55_L5H, f55_L5O, rounds (f55_L5U n) n⟩)] }
theorem f55_ents (α : Type) (n : Nat) : AllS Try.prog (entsOf (f55_D α n).reg) := trivial
theorem f55_L5_d (α : Type) (n : Nat) : D3.OK Try.prog ⟨25, []⟩ (f55_D α n) ((bodyOf Try.f55).at [1, 1, 1, 0, 1, 0, 0]) :=
  D3.OK.mk3 (f55_ents α n) (show loopsOf ((bodyOf Try.f55).at [1, 1, 1, 0, 1, 0, 0]) = [] by kernel_rfl) trivial
theorem f55_L5_ok (α : Type) (n : Nat) : LO.Sound (α := α) Try.prog ⟨25, []⟩ ⟨f55_L5H, f55_L5O, rounds (f55_L5U n) n⟩ (.loop ((bodyOf Try.f55).at [1, 1, 1, 0, 1, 0, 0])) :=
  loop_ok (tyOf_ok _) prog_fol (f55_L5U n) (f55_L5_d α n) (by intro v f ks; kernel_rfl) n
theorem f55_d (α : Type) (n : Nat) : D3.OK Try.prog ⟨25, []⟩ (f55_D α n) (bodyOf Try.f55) :=
  D3.OK.mk3 (f55_ents α n) (show loopsOf (bodyOf Try.f55) = [(5, .loop ((bodyOf Try.f55).at [1, 1, 1, 0, 1, 0, 0]))] by kernel_rfl) ⟨look_sound rfl (f55_L5_ok α n), trivial⟩
theorem f55_ok (n : Nat) : (f55_E n).Sound Try.prog :=
  fn_ok (tyOf_ok _) prog_fol (f55_D _ n) (show Try.prog.funcs[55]? = some Try.f55 by kernel_rfl) (by kernel_rfl) (show Try.f55.body = some (bodyOf Try.f55) by kernel_rfl) rfl rfl (Nat.le_of_ble_eq_true rfl) (f55_d _ n) (by intro x; kernel_rfl) 

def f40 (n : Nat) (a0 : List (Int × Int × Int × Int)) : Option Bool :=
  ob (f47 n (a0.length : Int) 1 60) fun r_1 =>
  bif (!r_1) then
    some false
  else
    ob (f54 n a0) fun r_2 =>
    bif r_2.2.2 then
      gd (decide (0 ≤ (W ((a0.length : Int) - 1))) && decide ((W ((a0.length : Int) - 1)) < (r_2.1.length : Int))) (
        bif ((r_2.1.getD ((W ((a0.length : Int) - 1)).toNat) 0) == 0) then
          ob (f55 n r_2.2.1) fun r_3 =>
          some (decide (r_3 ≤ 12))
        else
          some false)
    else
      some false
def f40_E (n : Nat) : Ent := ⟨40, [hE], [.bool], fun x => f40 n x⟩
def f40_D (α : Type) (n : Nat) : D3 α := { reg := [(2, { ops := [(1, { ent := some (f47_E n) })] }),
    (4, { ops := [(2, { ent := some (f54_E n) })] }),
    (5, { ops := [(11, { ent := some (f55_E n) })] })], join := [], loop := [] }
theorem f40_ents (α : Type) (n : Nat) : AllS Try.prog (entsOf (f40_D α n).reg) := ⟨f47_ok n, f54_ok n, f55_ok n, trivial⟩
theorem f40_d (α : Type) (n : Nat) : D3.OK Try.prog ⟨34, []⟩ (f40_D α n) (bodyOf Try.f40) :=
  D3.OK.mk3 (f40_ents α n) (show loopsOf (bodyOf Try.f40) = [] by kernel_rfl) trivial
theorem f40_ok (n : Nat) : (f40_E n).Sound Try.prog :=
  fn_ok (tyOf_ok _) prog_fol (f40_D _ n) (show Try.prog.funcs[40]? = some Try.f40 by kernel_rfl) (by kernel_rfl) (show Try.f40.body = some (bodyOf Try.f40) by kernel_rfl) rfl rfl (Nat.le_of_ble_eq_true rfl) (f40_d _ n) (by intro x; kernel_rfl) 

def f25 (n : Nat) (a0 : Bool) (a1 : Int) : Option Int :=
  bif a0 then
    some 0
  else
    some a1
def f25_E (n : Nat) : Ent := ⟨25, [.bool, hI], [hI], fun x => f25 n x.1 x.2⟩
def f25_D (α : Type) (n : Nat) : D3 α := { reg := [], join := [], loop := [] }
theorem f25_ents (α : Type) (n : Nat) : AllS Try.prog (entsOf (f25_D α n).reg) := trivial
theorem f25_d (α : Type) (n : Nat) : D3.OK Try.prog ⟨7, []⟩ (f25_D α n) (bodyOf Try.f25) :=
  D3.OK.mk3 (f25_ents α n) (show loopsOf (bodyOf Try.f25) = [] by kernel_rfl) trivial
theorem f25_ok (n : Nat) : (f25_E n).Sound Try.prog :=
  fn_ok (tyOf_ok _) prog_fol (f25_D _ n) (show Try.prog.funcs[25]? = some Try.f25 by kernel_rfl) (by kernel_rfl) (show Try.f25.body = some (bodyOf Try.f25) by kernel_rfl) rfl rfl (Nat.le_of_ble_eq_true rfl) (f25_d _ n) (by intro x; kernel_rfl) 

def f23 (n : Nat) (a0 : List (Int × Int × Int × Int)) : Option Int :=
  ob (f40 n a0) fun r_1 =>
  ob (f25 n r_1 1) fun r_2 =>
  some r_2
def f23_E (n : Nat) : Ent := ⟨23, [hE], [hI], fun x => f23 n x⟩
def f23_D (α : Type) (n : Nat) : D3 α := { reg := [(1, { ops := [(1, { ent := some (f40_E n) }), (2, { ent := some (f25_E n) })] })], join := [], loop := [] }
theorem f23_ents (α : Type) (n : Nat) : AllS Try.prog (entsOf (f23_D α n).reg) := ⟨f40_ok n, f25_ok n, trivial⟩
theorem f23_d (α : Type) (n : Nat) : D3.OK Try.prog ⟨6, []⟩ (f23_D α n) (bodyOf Try.f23) :=
  D3.OK.mk3 (f23_ents α n) (show loopsOf (bodyOf Try.f23) = [] by kernel_rfl) trivial
theorem f23_ok (n : Nat) : (f23_E n).Sound Try.prog :=
  fn_ok (tyOf_ok _) prog_fol (f23_D _ n) (show Try.prog.funcs[23]? = some Try.f23 by kernel_rfl) (by kernel_rfl) (show Try.f23.body = some (bodyOf Try.f23) by kernel_rfl) rfl rfl (Nat.le_of_ble_eq_true rfl) (f23_d _ n) (by intro x; kernel_rfl) 

def f41_L3B {α : Type} (n : Nat) (s10 : List (Int × Int × Int × Int)) (s11 : Int) (s12 : Int) (b9 : List Int) (f : (List (Int × Int × Int × Int)) → Int → Int → (List Int) → Option α) (k0 : (List Int) → Option α) : Option α :=
  bif (decide (s12 < s11)) then
    gd (decide (0 ≤ s12) && decide (s12 < (s10.length : Int))) (
      let x_1 := s10.getD s12.toNat (0, 0, 0, 0)
      let J_12 := fun (y_3 : Int) (y_4 : Int) => (
        let J_11 := fun (y_6 : Int) => (
          let J_10 := fun (y_9 : Int) => (
            bif (decide (y_3 < 0)) then
              gd (decide ((b9.length + 1) * 8 ≤ 140737488355328)) (
                f s10 s11 (W (s12 + 1)) (b9 ++ [(-1)]))
            else
              bif (decide (y_6 < 0)) then
                gd (decide ((b9.length + 1) * 8 ≤ 140737488355328)) (
                  f s10 s11 (W (s12 + 1)) (b9 ++ [(-1)]))
              else
                bif (x_1.1 == 6) then
                  bif (decide (y_6 > 0)) then
                    gd (decide ((b9.length + 1) * 8 ≤ 140737488355328)) (
                      f s10 s11 (W (s12 + 1)) (b9 ++ [(-1)]))
                  else
                    gd (decide ((b9.length + 1) * 8 ≤ 140737488355328)) (
                      f s10 s11 (W (s12 + 1)) (b9 ++ [y_9]))
                else
                  gd (decide ((b9.length + 1) * 8 ≤ 140737488355328)) (
                    f s10 s11 (W (s12 + 1)) (b9 ++ [y_9])))
          bif (x_1.1 == 2) then
            J_10 1
          else
            let J_8 := fun (y_7 : Bool) => (
              bif y_7 then
                J_10 (max y_3 y_6)
              else
                bif (x_1.1 == 5) then
                  J_10 (W (y_3 + y_6))
                else
                  bif (x_1.1 == 6) then
                    J_10 y_3
                  else
                    bif (x_1.1 == 7) then
                      J_10 y_3
                    else
                      bif (x_1.1 == 8) then
                        J_10 (W (x_1.2.2.2 * y_3))
                      else
                        J_10 0)
            bif (x_1.1 == 3) then
              J_8 true
            else
              J_8 (x_1.1 == 4))
        ob (f34 n x_1) fun r_5 =>
        bif (decide (r_5 > 1)) then
          gd (decide (0 ≤ x_1.2.2.1) && decide (x_1.2.2.1 < (b9.length : Int))) (
            gd (decide (x_1.2.2.1.toNat < b9.length)) (
              J_11 (b9.getD x_1.2.2.1.toNat 0)))
        else
          J_11 y_4)
      ob (f34 n x_1) fun r_2 =>
      bif (decide (r_2 > 0)) then
        gd (decide (0 ≤ x_1.2.1) && decide (x_1.2.1 < (b9.length : Int))) (
          gd (decide (x_1.2.1.toNat < b9.length)) (
            gd (decide (0 ≤ x_1.2.1) && decide (x_1.2.1 < (b9.length : Int))) (
              gd (decide (x_1.2.1.toNat < b9.length)) (
                J_12 (b9.getD x_1.2.1.toNat 0) (b9.getD x_1.2.1.toNat 0)))))
      else
        J_12 0 0)
  else
    k0 b9
abbrev f41_L3H : Tm := ⟨[(3, .k (.hw 9)), (10, .d hNs), (11, .d hI), (12, .d hI)], [(9, .arr 3 hI false)], [5, 81]⟩
abbrev f41_L3X0 : Tm := ⟨[(3, .k (.hw 9))], [(9, .arr 3 hI false)], []⟩
abbrev f41_L3O : List (Exit × Tm) := [(.exit 0, f41_L3X0)]
def f41_L3U {α : Type} (n : Nat) (v : f41_L3H.den) (f : f41_L3H.den → Option α) (ks : KS α f41_L3O) : Option α := f41_L3B n v.1.2.1 v.1.2.2.1 v.1.2.2.2.1 v.2.1 (fun s10 s11 s12 b9 => f (((), s10, s11, s12, ()), (b9, ()))) (fun w0 => ks.1 (((), ()), (w0, ())))
def f41_L3 {α : Type} (n m : Nat) (s10 : List (Int × Int × Int × Int)) (s11 : Int) (s12 : Int) (b9 : List Int) (k0 : (List Int) → Option α) : Option α := rounds (f41_L3U n) m (((), s10, s11, s12, ()), (b9, ())) (fun w => k0 w.2.1, ())
theorem f41_L3_0 {α : Type} (n : Nat) (s10 : List (Int × Int × Int × Int)) (s11 : Int) (s12 : Int) (b9 : List Int) (k0 : (List Int) → Option α) : f41_L3 (α := α) n 0 s10 s11 s12 b9 k0 = none := rfl
theorem f41_L3_s {α : Type} (n m : Nat) (s10 : List (Int × Int × Int × Int)) (s11 : Int) (s12 : Int) (b9 : List Int) (k0 : (List Int) → Option α) : f41_L3 (α := α) n (m + 1) s10 s11 s12 b9 k0 = f41_L3B n s10 s11 s12 b9 (fun s10 s11 s12 b9 => f41_L3 n m s10 s11 s12 b9 k0) k0 := rfl
abbrev f41_J8 : Tm := ⟨[(3, .k (.hw 9)), (5, .k (.hp 5 0 0)), (6, .d hI), (7, .d hI), (8, .d hI), (10, .d hNs), (11, .d hI), (12, .d hI)], [(5, .var 30 true false [.d hI, .d hI, .d hI, .d hI]), (9, .arr 3 hI false)], []⟩
abbrev f41_J10 : Tm := ⟨[(3, .k (.hw 9)), (5, .k (.hp 5 0 0)), (6, .d hI), (7, .d hI), (8, .d hI), (10, .d hNs), (11, .d hI), (12, .d hI)], [(5, .var 30 true false [.d hI, .d hI, .d hI, .d hI]), (9, .arr 3 hI false)], []⟩
abbrev f41_J15 : Tm := ⟨[(3, .k (.hw 9)), (5, .k (.hp 5 0 0)), (6, .d hI), (7, .d hI), (8, .d hI), (10, .d hNs), (11, .d hI), (12, .d hI), (38, .d hI), (41, .d .bool)], [(5, .var 30 true false [.d hI, .d hI, .d hI, .d hI]), (9, .arr 3 hI false)], []⟩
abbrev f41_J24 : Tm := ⟨[(3, .k (.hw 9)), (5, .k (.hp 5 0 0)), (6, .d hI), (7, .d hI), (8, .d hI), (10, .d hNs), (11, .d hI), (12, .d hI)], [(5, .var 30 true false [.d hI, .d hI, .d hI, .d hI]), (9, .arr 3 hI false)], []⟩
def f41 (n : Nat) (a0 : List (Int × Int × Int × Int)) : Option (List Int) :=
  f41_L3 n n a0 (a0.length : Int) 0 []
    (fun z_13 => (
      some z_13))
def f41_E (n : Nat) : Ent := ⟨41, [hNs], [hIs], fun x => f41 n x⟩
def f41_D (α : Type) (n : Nat) : D3 α := { reg := [(1, { ops := [(0, { sh := some hI })] }),
    (6, { ops := [(1, { ent := some (f34_E n) })] }),
    (7, { m := 11 }),
    (8, { ops := [(1, { ent := some (f34_E n) })] }),
    (26, { ops := [(2, { sh := some hI })] })], join := [(8, f41_J8), (10, f41_J10), (15, f41_J15), (24, f41_J24)], loop := [(3, ⟨f41_L3H, f41_L3O, rounds (f41_L3U n) n⟩)] }
theorem f41_ents (α : Type) (n : Nat) : AllS Try.prog (entsOf (f41_D α n).reg) := ⟨f34_ok n, f34_ok n, trivial⟩
theorem f41_L3_d (α : Type) (n : Nat) : D3.OK Try.prog ⟨85, []⟩ (f41_D α n) ((bodyOf Try.f41).at [1, 1, 0, 1, 0, 0]) :=
  D3.OK.mk3 (f41_ents α n) (show loopsOf ((bodyOf Try.f41).at [1, 1, 0, 1, 0, 0]) = [] by kernel_rfl) trivial
theorem f41_L3_ok (α : Type) (n : Nat) : LO.Sound (α := α) Try.prog ⟨85, []⟩ ⟨f41_L3H, f41_L3O, rounds (f41_L3U n) n⟩ (.loop ((bodyOf Try.f41).at [1, 1, 0, 1, 0, 0])) :=
  loop_ok (tyOf_ok _) prog_fol (f41_L3U n) (f41_L3_d α n) (by intro v f ks; kernel_rfl) n
theorem f41_d (α : Type) (n : Nat) : D3.OK Try.prog ⟨85, []⟩ (f41_D α n) (bodyOf Try.f41) :=
  D3.OK.mk3 (f41_ents α n) (show loopsOf (bodyOf Try.f41) = [(3, .loop ((bodyOf Try.f41).at [1, 1, 0, 1, 0, 0]))] by kernel_rfl) ⟨look_sound rfl (f41_L3_ok α n), trivial⟩
theorem f41_ok (n : Nat) : (f41_E n).Sound Try.prog :=
  fn_ok (tyOf_ok _) prog_fol (f41_D _ n) (show Try.prog.funcs[41]? = some Try.f41 by kernel_rfl) (by kernel_rfl) (show Try.f41.body = some (bodyOf Try.f41) by kernel_rfl) rfl rfl (Nat.le_of_ble_eq_true rfl) (f41_d _ n) (by intro x; kernel_rfl) 

def f24 (n : Nat) (a0 : List (Int × Int × Int × Int)) : Option Int :=
  ob (f41 n a0) fun r_1 =>
  gd (decide (0 ≤ (W ((a0.length : Int) - 1))) && decide ((W ((a0.length : Int) - 1)) < (r_1.length : Int))) (
    some (r_1.getD ((W ((a0.length : Int) - 1)).toNat) 0))
def f24_E (n : Nat) : Ent := ⟨24, [hE], [hI], fun x => f24 n x⟩
def f24_D (α : Type) (n : Nat) : D3 α := { reg := [(1, { m := 7, ops := [(2, { ent := some (f41_E n) })] })], join := [], loop := [] }
theorem f24_ents (α : Type) (n : Nat) : AllS Try.prog (entsOf (f24_D α n).reg) := ⟨f41_ok n, trivial⟩
theorem f24_d (α : Type) (n : Nat) : D3.OK Try.prog ⟨12, []⟩ (f24_D α n) (bodyOf Try.f24) :=
  D3.OK.mk3 (f24_ents α n) (show loopsOf (bodyOf Try.f24) = [] by kernel_rfl) trivial
theorem f24_ok (n : Nat) : (f24_E n).Sound Try.prog :=
  fn_ok (tyOf_ok _) prog_fol (f24_D _ n) (show Try.prog.funcs[24]? = some Try.f24 by kernel_rfl) (by kernel_rfl) (show Try.f24.body = some (bodyOf Try.f24) by kernel_rfl) rfl rfl (Nat.le_of_ble_eq_true rfl) (f24_d _ n) (by intro x; kernel_rfl) 

def f8 (n : Nat) (a0 : List (Int × Int × Int × Int)) : Option (Int × Int) :=
  ob (f23 n a0) fun r_1 =>
  bif (r_1 != 0) then
    some (0, r_1)
  else
    ob (f24 n a0) fun r_2 =>
    ob (f25 n (decide (r_2 ≥ 0)) 10) fun r_3 =>
    some ((max r_2 0), r_3)
def f8_E (n : Nat) : Ent := ⟨8, [hE], [hI, hI], fun x => f8 n x⟩
def f8_D (α : Type) (n : Nat) : D3 α := { reg := [(1, { ops := [(1, { ent := some (f23_E n) })] }),
    (4, { ops := [(1, { ent := some (f24_E n) })] }),
    (5, { ops := [(4, { ent := some (f25_E n) })] })], join := [], loop := [] }
theorem f8_ents (α : Type) (n : Nat) : AllS Try.prog (entsOf (f8_D α n).reg) := ⟨f23_ok n, f24_ok n, f25_ok n, trivial⟩
theorem f8_d (α : Type) (n : Nat) : D3.OK Try.prog ⟨18, []⟩ (f8_D α n) (bodyOf Try.f8) :=
  D3.OK.mk3 (f8_ents α n) (show loopsOf (bodyOf Try.f8) = [] by kernel_rfl) trivial
theorem f8_ok (n : Nat) : (f8_E n).Sound Try.prog :=
  fn_ok (tyOf_ok _) prog_fol (f8_D _ n) (show Try.prog.funcs[8]? = some Try.f8 by kernel_rfl) (by kernel_rfl) (show Try.f8.body = some (bodyOf Try.f8) by kernel_rfl) rfl rfl (Nat.le_of_ble_eq_true rfl) (f8_d _ n) (by intro x; kernel_rfl) 

def f49 (n : Nat) (a0 : Int × Int × Int × Int) (a1 : Int × Int × Int × Int) : Option Bool :=
  bif (a0.1 != a1.1) then
    some false
  else
    bif (a0.2.1 != a1.2.1) then
      some false
    else
      bif (a0.2.2.1 != a1.2.2.1) then
        some false
      else
        bif (a0.2.2.2 != a1.2.2.2) then
          some false
        else
          some true
def f49_E (n : Nat) : Ent := ⟨49, [hN, hN], [.bool], fun x => f49 n x.1 x.2⟩
def f49_D (α : Type) (n : Nat) : D3 α := { reg := [], join := [], loop := [] }
theorem f49_ents (α : Type) (n : Nat) : AllS Try.prog (entsOf (f49_D α n).reg) := trivial
theorem f49_d (α : Type) (n : Nat) : D3.OK Try.prog ⟨25, []⟩ (f49_D α n) (bodyOf Try.f49) :=
  D3.OK.mk3 (f49_ents α n) (show loopsOf (bodyOf Try.f49) = [] by kernel_rfl) trivial
theorem f49_ok (n : Nat) : (f49_E n).Sound Try.prog :=
  fn_ok (tyOf_ok _) prog_fol (f49_D _ n) (show Try.prog.funcs[49]? = some Try.f49 by kernel_rfl) (by kernel_rfl) (show Try.f49.body = some (bodyOf Try.f49) by kernel_rfl) rfl rfl (Nat.le_of_ble_eq_true rfl) (f49_d _ n) (by intro x; kernel_rfl) 

def f32_L4B {α : Type} (n : Nat) (s0 : List (Int × Int × Int × Int)) (s1 : List (Int × Int × Int × Int)) (s5 : Int) (f : (List (Int × Int × Int × Int)) → (List (Int × Int × Int × Int)) → Int → Option α) (k0 : Bool → Option α) (k1 : Unit → Option α) : Option α :=
  bif (decide (s5 < (s0.length : Int))) then
    gd (decide (0 ≤ s5) && decide (s5 < (s0.length : Int))) (
      let x_1 := s0.getD s5.toNat (0, 0, 0, 0)
      gd (decide (0 ≤ s5) && decide (s5 < (s1.length : Int))) (
        let x_2 := s1.getD s5.toNat (0, 0, 0, 0)
        ob (f49 n x_1 x_2) fun r_3 =>
        bif (!r_3) then
          k0 false
        else
          f s0 s1 (W (s5 + 1))))
  else
    k1 ()
abbrev f32_L4H : Tm := ⟨[(0, .d hNs), (1, .d hNs), (5, .d hI)], [], []⟩
abbrev f32_L4X0 : Tm := ⟨[(4, .d .bool)], [], []⟩
abbrev f32_L4X1 : Tm := ⟨[], [], []⟩
abbrev f32_L4O : List (Exit × Tm) := [(.ret, f32_L4X0), (.exit 0, f32_L4X1)]
def f32_L4U {α : Type} (n : Nat) (v : f32_L4H.den) (f : f32_L4H.den → Option α) (ks : KS α f32_L4O) : Option α := f32_L4B n v.1.1 v.1.2.1 v.1.2.2.1 (fun s0 s1 s5 => f ((s0, s1, s5, ()), ())) (fun w0 => ks.1 ((w0, ()), ())) (fun _ => ks.2.1 ((), ()))
def f32_L4 {α : Type} (n m : Nat) (s0 : List (Int × Int × Int × Int)) (s1 : List (Int × Int × Int × Int)) (s5 : Int) (k0 : Bool → Option α) (k1 : Unit → Option α) : Option α := rounds (f32_L4U n) m ((s0, s1, s5, ()), ()) (fun w => k0 w.1.1, fun w => k1 (), ())
theorem f32_L4_0 {α : Type} (n : Nat) (s0 : List (Int × Int × Int × Int)) (s1 : List (Int × Int × Int × Int)) (s5 : Int) (k0 : Bool → Option α) (k1 : Unit → Option α) : f32_L4 (α := α) n 0 s0 s1 s5 k0 k1 = none := rfl
theorem f32_L4_s {α : Type} (n m : Nat) (s0 : List (Int × Int × Int × Int)) (s1 : List (Int × Int × Int × Int)) (s5 : Int) (k0 : Bool → Option α) (k1 : Unit → Option α) : f32_L4 (α := α) n (m + 1) s0 s1 s5 k0 k1 = f32_L4B n s0 s1 s5 (fun s0 s1 s5 => f32_L4 n m s0 s1 s5 k0 k1) k0 k1 := rfl
def f32 (n : Nat) (a0 : List (Int × Int × Int × Int)) (a1 : List (Int × Int × Int × Int)) : Option Bool :=
  bif ((a0.length : Int) != (a1.length : Int)) then
    some false
  else
    f32_L4 n n a0 a1 0
      (fun z_4 => (
        some z_4))
      (fun (_ : Unit) => (
        some true))
def f32_E (n : Nat) : Ent := ⟨32, [hNs, hNs], [.bool], fun x => f32 n x.1 x.2⟩
def f32_D (α : Type) (n : Nat) : D3 α := { reg := [(6, { m := 8, ops := [(8, { ent := some (f49_E n) })] })], join := [], loop := [(4, ⟨f32_L4H, f32_L4O, rounds (f32_L4U n) n⟩)] }
theorem f32_ents (α : Type) (n : Nat) : AllS Try.prog (entsOf (f32_D α n).reg) := ⟨f49_ok n, trivial⟩
theorem f32_L4_d (α : Type) (n : Nat) : D3.OK Try.prog ⟨27, []⟩ (f32_D α n) ((bodyOf Try.f32).at [1, 1, 0, 1, 0, 0]) :=
  D3.OK.mk3 (f32_ents α n) (show loopsOf ((bodyOf Try.f32).at [1, 1, 0, 1, 0, 0]) = [] by kernel_rfl) trivial
theorem f32_L4_ok (α : Type) (n : Nat) : LO.Sound (α := α) Try.prog ⟨27, []⟩ ⟨f32_L4H, f32_L4O, rounds (f32_L4U n) n⟩ (.loop ((bodyOf Try.f32).at [1, 1, 0, 1, 0, 0])) :=
  loop_ok (tyOf_ok _) prog_fol (f32_L4U n) (f32_L4_d α n) (by intro v f ks; kernel_rfl) n
theorem f32_d (α : Type) (n : Nat) : D3.OK Try.prog ⟨27, []⟩ (f32_D α n) (bodyOf Try.f32) :=
  D3.OK.mk3 (f32_ents α n) (show loopsOf (bodyOf Try.f32) = [(4, .loop ((bodyOf Try.f32).at [1, 1, 0, 1, 0, 0]))] by kernel_rfl) ⟨look_sound rfl (f32_L4_ok α n), trivial⟩
theorem f32_ok (n : Nat) : (f32_E n).Sound Try.prog :=
  fn_ok (tyOf_ok _) prog_fol (f32_D _ n) (show Try.prog.funcs[32]? = some Try.f32 by kernel_rfl) (by kernel_rfl) (show Try.f32.body = some (bodyOf Try.f32) by kernel_rfl) rfl rfl (Nat.le_of_ble_eq_true rfl) (f32_d _ n) (by intro x; kernel_rfl) 

def f14 (n : Nat) (a0 : List (Int × Int × Int × Int)) (a1 : List (Int × Int × Int × Int)) : Option Bool :=
  ob (f32 n a0 a1) fun r_1 =>
  bif (!r_1) then
    some false
  else
    some true
def f14_E (n : Nat) : Ent := ⟨14, [hE, hE], [.bool], fun x => f14 n x.1 x.2⟩
def f14_D (α : Type) (n : Nat) : D3 α := { reg := [(1, { ops := [(4, { ent := some (f32_E n) })] })], join := [], loop := [] }
theorem f14_ents (α : Type) (n : Nat) : AllS Try.prog (entsOf (f14_D α n).reg) := ⟨f32_ok n, trivial⟩
theorem f14_d (α : Type) (n : Nat) : D3.OK Try.prog ⟨11, []⟩ (f14_D α n) (bodyOf Try.f14) :=
  D3.OK.mk3 (f14_ents α n) (show loopsOf (bodyOf Try.f14) = [] by kernel_rfl) trivial
theorem f14_ok (n : Nat) : (f14_E n).Sound Try.prog :=
  fn_ok (tyOf_ok _) prog_fol (f14_D _ n) (show Try.prog.funcs[14]? = some Try.f14 by kernel_rfl) (by kernel_rfl) (show Try.f14.body = some (bodyOf Try.f14) by kernel_rfl) rfl rfl (Nat.le_of_ble_eq_true rfl) (f14_d _ n) (by intro x; kernel_rfl) 

def f5 (n : Nat) (a0 : List (Int × Int × Int × Int)) : Option Bool :=
  ob (f11 n a0 1048576) fun r_1 =>
  bif (decide (r_1 < 0)) then
    some true
  else
    ob (f13 n a0) fun r_2 =>
    ob (f9 n r_2) fun r_3 =>
    ob (f13 n a0) fun r_4 =>
    ob (f8 n r_4) fun r_5 =>
    bif (r_5.1 != r_3.1) then
      some false
    else
      bif (r_5.2 != r_3.2) then
        some false
      else
        ob (f13 n a0) fun r_6 =>
        ob (f14 n r_4 r_6) fun r_7 =>
        bif (!r_7) then
          some false
        else
          some true
def f5_E (n : Nat) : Ent := ⟨5, [hE], [.bool], fun x => f5 n x⟩
def f5_D (α : Type) (n : Nat) : D3 α := { reg := [(2, { ops := [(2, { ent := some (f11_E n) })] }),
    (5, { ops := [(1, { ent := some (f13_E n) }), (2, { ent := some (f9_E n) })] }),
    (6, { ops := [(1, { ent := some (f13_E n) })] }),
    (7, { ops := [(1, { ent := some (f8_E n) })] }),
    (10, { m := 3, ops := [(2, { ent := some (f13_E n) }), (3, { ent := some (f14_E n) })] })], join := [], loop := [] }
theorem f5_ents (α : Type) (n : Nat) : AllS Try.prog (entsOf (f5_D α n).reg) := ⟨f11_ok n, f13_ok n, f9_ok n, f13_ok n, f8_ok n, f13_ok n, f14_ok n, trivial⟩
theorem f5_d (α : Type) (n : Nat) : D3.OK Try.prog ⟨40, []⟩ (f5_D α n) (bodyOf Try.f5) :=
  D3.OK.mk3 (f5_ents α n) (show loopsOf (bodyOf Try.f5) = [] by kernel_rfl) trivial
theorem f5_ok (n : Nat) : (f5_E n).Sound Try.prog :=
  fn_ok (tyOf_ok _) prog_fol (f5_D _ n) (show Try.prog.funcs[5]? = some Try.f5 by kernel_rfl) (by kernel_rfl) (show Try.f5.body = some (bodyOf Try.f5) by kernel_rfl) rfl rfl (Nat.le_of_ble_eq_true rfl) (f5_d _ n) (by intro x; kernel_rfl) 

def f30 (n : Nat) (a0 : List (Int × Int × Int × Int)) : Option Bool :=
  ob (f27 n n a0 (W ((a0.length : Int) - 1))) fun r_1 =>
  ob (f42 n r_1 0 2) fun r_2 =>
  some r_2
def f30_E (n : Nat) : Ent := ⟨30, [hE], [.bool], fun x => f30 n x⟩
def f30_D (α : Type) (n : Nat) : D3 α := { reg := [(1, { ops := [(5, { ent := some (f27_E n n) }), (6, { ent := some (f42_E n) })] })], join := [], loop := [] }
theorem f30_ents (α : Type) (n : Nat) : AllS Try.prog (entsOf (f30_D α n).reg) := ⟨f27_ok n n, f42_ok n, trivial⟩
theorem f30_d (α : Type) (n : Nat) : D3.OK Try.prog ⟨10, []⟩ (f30_D α n) (bodyOf Try.f30) :=
  D3.OK.mk3 (f30_ents α n) (show loopsOf (bodyOf Try.f30) = [] by kernel_rfl) trivial
theorem f30_ok (n : Nat) : (f30_E n).Sound Try.prog :=
  fn_ok (tyOf_ok _) prog_fol (f30_D _ n) (show Try.prog.funcs[30]? = some Try.f30 by kernel_rfl) (by kernel_rfl) (show Try.f30.body = some (bodyOf Try.f30) by kernel_rfl) rfl rfl (Nat.le_of_ble_eq_true rfl) (f30_d _ n) (by intro x; kernel_rfl) 

def f12 (n : Nat) (a0 : List (Int × Int × Int × Int)) : Option (Bool × Int) :=
  ob (f26 n a0) fun r_1 =>
  bif (!r_1) then
    some (false, 1)
  else
    ob (f30 n a0) fun r_2 =>
    some (r_2, 0)
def f12_E (n : Nat) : Ent := ⟨12, [hE], [.bool, hI], fun x => f12 n x⟩
def f12_D (α : Type) (n : Nat) : D3 α := { reg := [(1, { ops := [(1, { ent := some (f26_E n) })] }),
    (3, { ops := [(1, { ent := some (f30_E n) })] })], join := [], loop := [] }
theorem f12_ents (α : Type) (n : Nat) : AllS Try.prog (entsOf (f12_D α n).reg) := ⟨f26_ok n, f30_ok n, trivial⟩
theorem f12_d (α : Type) (n : Nat) : D3.OK Try.prog ⟨9, []⟩ (f12_D α n) (bodyOf Try.f12) :=
  D3.OK.mk3 (f12_ents α n) (show loopsOf (bodyOf Try.f12) = [] by kernel_rfl) trivial
theorem f12_ok (n : Nat) : (f12_E n).Sound Try.prog :=
  fn_ok (tyOf_ok _) prog_fol (f12_D _ n) (show Try.prog.funcs[12]? = some Try.f12 by kernel_rfl) (by kernel_rfl) (show Try.f12.body = some (bodyOf Try.f12) by kernel_rfl) rfl rfl (Nat.le_of_ble_eq_true rfl) (f12_d _ n) (by intro x; kernel_rfl) 

def f28 (n : Nat) (a0 : List (Int × Int × Int × Int)) : Option Bool :=
  ob (f24 n a0) fun r_1 =>
  ob (f47 n r_1 0 2) fun r_2 =>
  some r_2
def f28_E (n : Nat) : Ent := ⟨28, [hE], [.bool], fun x => f28 n x⟩
def f28_D (α : Type) (n : Nat) : D3 α := { reg := [(1, { ops := [(1, { ent := some (f24_E n) }), (2, { ent := some (f47_E n) })] })], join := [], loop := [] }
theorem f28_ents (α : Type) (n : Nat) : AllS Try.prog (entsOf (f28_D α n).reg) := ⟨f24_ok n, f47_ok n, trivial⟩
theorem f28_d (α : Type) (n : Nat) : D3.OK Try.prog ⟨6, []⟩ (f28_D α n) (bodyOf Try.f28) :=
  D3.OK.mk3 (f28_ents α n) (show loopsOf (bodyOf Try.f28) = [] by kernel_rfl) trivial
theorem f28_ok (n : Nat) : (f28_E n).Sound Try.prog :=
  fn_ok (tyOf_ok _) prog_fol (f28_D _ n) (show Try.prog.funcs[28]? = some Try.f28 by kernel_rfl) (by kernel_rfl) (show Try.f28.body = some (bodyOf Try.f28) by kernel_rfl) rfl rfl (Nat.le_of_ble_eq_true rfl) (f28_d _ n) (by intro x; kernel_rfl) 

def f10 (n : Nat) (a0 : List (Int × Int × Int × Int)) : Option (Bool × Int) :=
  ob (f23 n a0) fun r_1 =>
  bif (r_1 != 0) then
    some (false, r_1)
  else
    ob (f28 n a0) fun r_2 =>
    some (r_2, 0)
def f10_E (n : Nat) : Ent := ⟨10, [hE], [.bool, hI], fun x => f10 n x⟩
def f10_D (α : Type) (n : Nat) : D3 α := { reg := [(1, { ops := [(1, { ent := some (f23_E n) })] }),
    (4, { ops := [(1, { ent := some (f28_E n) })] })], join := [], loop := [] }
theorem f10_ents (α : Type) (n : Nat) : AllS Try.prog (entsOf (f10_D α n).reg) := ⟨f23_ok n, f28_ok n, trivial⟩
theorem f10_d (α : Type) (n : Nat) : D3.OK Try.prog ⟨12, []⟩ (f10_D α n) (bodyOf Try.f10) :=
  D3.OK.mk3 (f10_ents α n) (show loopsOf (bodyOf Try.f10) = [] by kernel_rfl) trivial
theorem f10_ok (n : Nat) : (f10_E n).Sound Try.prog :=
  fn_ok (tyOf_ok _) prog_fol (f10_D _ n) (show Try.prog.funcs[10]? = some Try.f10 by kernel_rfl) (by kernel_rfl) (show Try.f10.body = some (bodyOf Try.f10) by kernel_rfl) rfl rfl (Nat.le_of_ble_eq_true rfl) (f10_d _ n) (by intro x; kernel_rfl) 

def f4 (n : Nat) (a0 : List (Int × Int × Int × Int)) : Option Bool :=
  ob (f11 n a0 1048576) fun r_1 =>
  bif (decide (r_1 < 0)) then
    some true
  else
    ob (f13 n a0) fun r_2 =>
    ob (f12 n r_2) fun r_3 =>
    ob (f13 n a0) fun r_4 =>
    ob (f10 n r_4) fun r_5 =>
    bif (!(r_5.1 == r_3.1)) then
      some false
    else
      bif (r_5.2 != r_3.2) then
        some false
      else
        ob (f13 n a0) fun r_6 =>
        ob (f14 n r_4 r_6) fun r_7 =>
        bif (!r_7) then
          some false
        else
          some true
def f4_E (n : Nat) : Ent := ⟨4, [hE], [.bool], fun x => f4 n x⟩
def f4_D (α : Type) (n : Nat) : D3 α := { reg := [(2, { ops := [(2, { ent := some (f11_E n) })] }),
    (5, { ops := [(1, { ent := some (f13_E n) }), (2, { ent := some (f12_E n) })] }),
    (6, { ops := [(1, { ent := some (f13_E n) })] }),
    (7, { ops := [(1, { ent := some (f10_E n) })] }),
    (10, { m := 3, ops := [(2, { ent := some (f13_E n) }), (3, { ent := some (f14_E n) })] })], join := [], loop := [] }
theorem f4_ents (α : Type) (n : Nat) : AllS Try.prog (entsOf (f4_D α n).reg) := ⟨f11_ok n, f13_ok n, f12_ok n, f13_ok n, f10_ok n, f13_ok n, f14_ok n, trivial⟩
theorem f4_d (α : Type) (n : Nat) : D3.OK Try.prog ⟨40, []⟩ (f4_D α n) (bodyOf Try.f4) :=
  D3.OK.mk3 (f4_ents α n) (show loopsOf (bodyOf Try.f4) = [] by kernel_rfl) trivial
theorem f4_ok (n : Nat) : (f4_E n).Sound Try.prog :=
  fn_ok (tyOf_ok _) prog_fol (f4_D _ n) (show Try.prog.funcs[4]? = some Try.f4 by kernel_rfl) (by kernel_rfl) (show Try.f4.body = some (bodyOf Try.f4) by kernel_rfl) rfl rfl (Nat.le_of_ble_eq_true rfl) (f4_d _ n) (by intro x; kernel_rfl) 

def f50_L2B {α : Type} (n : Nat) (s0 : List (Int × Int × Int × Int)) (s5 : Int) (c3_0 : Int) (c3_1 : Int) (c3_2 : Int) (c3_3 : Int) (f : (List (Int × Int × Int × Int)) → Int → Int → Int → Int → Int → Option α) (k0 : Int → Option α) (k1 : Unit → Option α) : Option α :=
  bif (decide (s5 < (s0.length : Int))) then
    gd (decide (0 ≤ s5) && decide (s5 < (s0.length : Int))) (
      let x_1 := s0.getD s5.toNat (0, 0, 0, 0)
      bif (x_1.1 == c3_0 && (x_1.2.1 == c3_1 && (x_1.2.2.1 == c3_2 && (x_1.2.2.2 == c3_3 && true)))) then
        k0 s5
      else
        f s0 (W (s5 + 1)) c3_0 c3_1 c3_2 c3_3)
  else
    k1 ()
abbrev f50_L2H : Tm := ⟨[(0, .d hNs), (3, .k (.hp 3 0 0)), (5, .d hI)], [(3, .var 30 true false [.d hI, .d hI, .d hI, .d hI])], []⟩
abbrev f50_L2X0 : Tm := ⟨[(4, .d hI)], [], [3]⟩
abbrev f50_L2X1 : Tm := ⟨[], [], [3]⟩
abbrev f50_L2O : List (Exit × Tm) := [(.ret, f50_L2X0), (.exit 0, f50_L2X1)]
def f50_L2U {α : Type} (n : Nat) (v : f50_L2H.den) (f : f50_L2H.den → Option α) (ks : KS α f50_L2O) : Option α := f50_L2B n v.1.1 v.1.2.2.1 v.2.1.1 v.2.1.2.1 v.2.1.2.2.1 v.2.1.2.2.2.1 (fun s0 s5 c3_0 c3_1 c3_2 c3_3 => f ((s0, (), s5, ()), ((c3_0, c3_1, c3_2, c3_3, ()), ()))) (fun w0 => ks.1 ((w0, ()), ())) (fun _ => ks.2.1 ((), ()))
def f50_L2 {α : Type} (n m : Nat) (s0 : List (Int × Int × Int × Int)) (s5 : Int) (c3_0 : Int) (c3_1 : Int) (c3_2 : Int) (c3_3 : Int) (k0 : Int → Option α) (k1 : Unit → Option α) : Option α := rounds (f50_L2U n) m ((s0, (), s5, ()), ((c3_0, c3_1, c3_2, c3_3, ()), ())) (fun w => k0 w.1.1, fun w => k1 (), ())
theorem f50_L2_0 {α : Type} (n : Nat) (s0 : List (Int × Int × Int × Int)) (s5 : Int) (c3_0 : Int) (c3_1 : Int) (c3_2 : Int) (c3_3 : Int) (k0 : Int → Option α) (k1 : Unit → Option α) : f50_L2 (α := α) n 0 s0 s5 c3_0 c3_1 c3_2 c3_3 k0 k1 = none := rfl
theorem f50_L2_s {α : Type} (n m : Nat) (s0 : List (Int × Int × Int × Int)) (s5 : Int) (c3_0 : Int) (c3_1 : Int) (c3_2 : Int) (c3_3 : Int) (k0 : Int → Option α) (k1 : Unit → Option α) : f50_L2 (α := α) n (m + 1) s0 s5 c3_0 c3_1 c3_2 c3_3 k0 k1 = f50_L2B n s0 s5 c3_0 c3_1 c3_2 c3_3 (fun s0 s5 c3_0 c3_1 c3_2 c3_3 => f50_L2 n m s0 s5 c3_0 c3_1 c3_2 c3_3 k0 k1) k0 k1 := rfl
def f50 (n : Nat) (a0 : List (Int × Int × Int × Int)) (a1 : Int × Int × Int × Int) : Option Int :=
  f50_L2 n n a0 0 a1.1 a1.2.1 a1.2.2.1 a1.2.2.2
    (fun z_2 => (
      some z_2))
    (fun (_ : Unit) => (
      some (-1)))
def f50_E (n : Nat) : Ent := ⟨50, [hNs, hN], [hI], fun x => f50 n x.1 x.2⟩
def f50_D (α : Type) (n : Nat) : D3 α := { reg := [(4, { m := 5 })], join := [], loop := [(2, ⟨f50_L2H, f50_L2O, rounds (f50_L2U n) n⟩)] }
theorem f50_ents (α : Type) (n : Nat) : AllS Try.prog (entsOf (f50_D α n).reg) := trivial
theorem f50_L2_d (α : Type) (n : Nat) : D3.OK Try.prog ⟨19, []⟩ (f50_D α n) ((bodyOf Try.f50).at [1, 0, 1, 0, 0]) :=
  D3.OK.mk3 (f50_ents α n) (show loopsOf ((bodyOf Try.f50).at [1, 0, 1, 0, 0]) = [] by kernel_rfl) trivial
theorem f50_L2_ok (α : Type) (n : Nat) : LO.Sound (α := α) Try.prog ⟨19, []⟩ ⟨f50_L2H, f50_L2O, rounds (f50_L2U n) n⟩ (.loop ((bodyOf Try.f50).at [1, 0, 1, 0, 0])) :=
  loop_ok (tyOf_ok _) prog_fol (f50_L2U n) (f50_L2_d α n) (by intro v f ks; kernel_rfl) n
theorem f50_d (α : Type) (n : Nat) : D3.OK Try.prog ⟨19, []⟩ (f50_D α n) (bodyOf Try.f50) :=
  D3.OK.mk3 (f50_ents α n) (show loopsOf (bodyOf Try.f50) = [(2, .loop ((bodyOf Try.f50).at [1, 0, 1, 0, 0]))] by kernel_rfl) ⟨look_sound rfl (f50_L2_ok α n), trivial⟩
theorem f50_ok (n : Nat) : (f50_E n).Sound Try.prog :=
  fn_ok (tyOf_ok _) prog_fol (f50_D _ n) (show Try.prog.funcs[50]? = some Try.f50 by kernel_rfl) (by kernel_rfl) (show Try.f50.body = some (bodyOf Try.f50) by kernel_rfl) rfl rfl (Nat.le_of_ble_eq_true rfl) (f50_d _ n) (by intro x; kernel_rfl) 

def f33_L4B {α : Type} (n : Nat) (s5 : Int) (c1_0 : List (Int × Int × Int × Int)) (c2_1 : Int) (c3_1 : Int) (b8 : List (Int × Int × Int × Int)) (b10 : List Int) (f : Int → (List (Int × Int × Int × Int)) → Int → Int → (List (Int × Int × Int × Int)) → (List Int) → Option α) (k0 : Int → Int → (List (Int × Int × Int × Int)) → (List Int) → Option α) : Option α :=
  bif (decide (s5 < (c1_0.length : Int))) then
    gd (decide (0 ≤ s5) && decide (s5 < (c1_0.length : Int))) (
      let x_1 := c1_0.getD s5.toNat (0, 0, 0, 0)
      let J_9 := fun (y_3 : Int) (y_4 : Int) => (
        let J_8 := fun (y_6 : Int) => (
          ob (f50 n b8 (x_1.1, y_6, y_4, x_1.2.2.2)) fun r_7 =>
          bif (decide (r_7 < 0)) then
            gd (decide ((b8.length + 1) * 32 ≤ 140737488355328)) (
              gd (decide ((b10.length + 1) * 8 ≤ 140737488355328)) (
                f (W (s5 + 1)) c1_0 c2_1 c3_1 (b8 ++ [(x_1.1, y_6, y_4, x_1.2.2.2)]) (b10 ++ [(b8.length : Int)])))
          else
            gd (decide ((b10.length + 1) * 8 ≤ 140737488355328)) (
              f (W (s5 + 1)) c1_0 c2_1 c3_1 b8 (b10 ++ [r_7])))
        ob (f46 n x_1.1) fun r_5 =>
        bif r_5 then
          gd (decide (0 ≤ y_3) && decide (y_3 < (b10.length : Int))) (
            gd (decide (y_3.toNat < b10.length)) (
              J_8 (b10.getD y_3.toNat 0)))
        else
          J_8 y_3)
      ob (f44 n x_1.1) fun r_2 =>
      bif r_2 then
        gd (decide (0 ≤ x_1.2.1) && decide (x_1.2.1 < (b10.length : Int))) (
          gd (decide (x_1.2.1.toNat < b10.length)) (
            gd (decide (0 ≤ x_1.2.2.1) && decide (x_1.2.2.1 < (b10.length : Int))) (
              gd (decide (x_1.2.2.1.toNat < b10.length)) (
                J_9 (b10.getD x_1.2.1.toNat 0) (b10.getD x_1.2.2.1.toNat 0)))))
      else
        J_9 x_1.2.1 x_1.2.2.1)
  else
    k0 c2_1 c3_1 b8 b10
abbrev f33_L4H : Tm := ⟨[(1, .k (.hp 1 0 0)), (2, .k (.hp 2 0 0)), (3, .k (.hp 3 0 0)), (4, .k (.hw 10)), (5, .d hI)], [(1, .var 25 true false [.d hNs]), (2, .var 42 true false [.d .nil, .d hI]), (3, .var 42 false false [.k (.hw 8), .d hI]), (8, .arr 30 hN false), (10, .arr 3 hI false)], [6, 59, 64]⟩
abbrev f33_L4X0 : Tm := ⟨[(2, .k (.hp 2 0 0)), (3, .k (.hp 3 0 0)), (4, .k (.hw 10))], [(2, .var 42 true false [.d .nil, .d hI]), (3, .var 42 false false [.k (.hw 8), .d hI]), (8, .arr 30 hN false), (10, .arr 3 hI false)], [1]⟩
abbrev f33_L4O : List (Exit × Tm) := [(.exit 0, f33_L4X0)]
def f33_L4U {α : Type} (n : Nat) (v : f33_L4H.den) (f : f33_L4H.den → Option α) (ks : KS α f33_L4O) : Option α := f33_L4B n v.1.2.2.2.2.1 v.2.1.1 v.2.2.1.2.1 v.2.2.2.1.2.1 v.2.2.2.2.1 v.2.2.2.2.2.1 (fun s5 c1_0 c2_1 c3_1 b8 b10 => f (((), (), (), (), s5, ()), ((c1_0, ()), ((), c2_1, ()), ((), c3_1, ()), b8, b10, ()))) (fun w0 w1 w2 w3 => ks.1 (((), (), (), ()), (((), w0, ()), ((), w1, ()), w2, w3, ())))
def f33_L4 {α : Type} (n m : Nat) (s5 : Int) (c1_0 : List (Int × Int × Int × Int)) (c2_1 : Int) (c3_1 : Int) (b8 : List (Int × Int × Int × Int)) (b10 : List Int) (k0 : Int → Int → (List (Int × Int × Int × Int)) → (List Int) → Option α) : Option α := rounds (f33_L4U n) m (((), (), (), (), s5, ()), ((c1_0, ()), ((), c2_1, ()), ((), c3_1, ()), b8, b10, ())) (fun w => k0 w.2.1.2.1 w.2.2.1.2.1 w.2.2.2.1 w.2.2.2.2.1, ())
theorem f33_L4_0 {α : Type} (n : Nat) (s5 : Int) (c1_0 : List (Int × Int × Int × Int)) (c2_1 : Int) (c3_1 : Int) (b8 : List (Int × Int × Int × Int)) (b10 : List Int) (k0 : Int → Int → (List (Int × Int × Int × Int)) → (List Int) → Option α) : f33_L4 (α := α) n 0 s5 c1_0 c2_1 c3_1 b8 b10 k0 = none := rfl
theorem f33_L4_s {α : Type} (n m : Nat) (s5 : Int) (c1_0 : List (Int × Int × Int × Int)) (c2_1 : Int) (c3_1 : Int) (b8 : List (Int × Int × Int × Int)) (b10 : List Int) (k0 : Int → Int → (List (Int × Int × Int × Int)) → (List Int) → Option α) : f33_L4 (α := α) n (m + 1) s5 c1_0 c2_1 c3_1 b8 b10 k0 = f33_L4B n s5 c1_0 c2_1 c3_1 b8 b10 (fun s5 c1_0 c2_1 c3_1 b8 b10 => f33_L4 n m s5 c1_0 c2_1 c3_1 b8 b10 k0) k0 := rfl
abbrev f33_J10 : Tm := ⟨[(1, .k (.hp 1 0 0)), (2, .k (.hp 2 0 0)), (3, .k (.hp 3 0 0)), (4, .k (.hw 10)), (5, .d hI), (6, .k (.hp 6 0 0))], [(1, .var 25 true false [.d hNs]), (2, .var 42 true false [.d .nil, .d hI]), (3, .var 42 false false [.k (.hw 8), .d hI]), (6, .var 30 true false [.d hI, .d hI, .d hI, .d hI]), (8, .arr 30 hN false), (10, .arr 3 hI false)], []⟩
abbrev f33_J12 : Tm := ⟨[(1, .k (.hp 1 0 0)), (2, .k (.hp 2 0 0)), (3, .k (.hp 3 0 0)), (4, .k (.hw 10)), (5, .d hI), (6, .k (.hp 6 0 0))], [(1, .var 25 true false [.d hNs]), (2, .var 42 true false [.d .nil, .d hI]), (3, .var 42 false false [.k (.hw 8), .d hI]), (6, .var 30 true false [.d hI, .d hI, .d hI, .d hI]), (8, .arr 30 hN false), (10, .arr 3 hI false)], []⟩
def f33 (n : Nat) (a0 : List (Int × Int × Int × Int)) : Option ((List (Int × Int × Int × Int)) × Int) :=
  f33_L4 n n 0 a0 0 0 [] []
    (fun z_10 z_11 z_12 z_13 => (
      gd (decide (0 ≤ (W ((z_13.length : Int) - 1))) && decide ((W ((z_13.length : Int) - 1)) < (z_13.length : Int))) (
        gd (decide ((W ((z_13.length : Int) - 1)).toNat < z_13.length)) (
          some (z_12, (z_13.getD ((W ((z_13.length : Int) - 1)).toNat) 0))))))
def f33_E (n : Nat) : Ent := ⟨33, [hE], [(.st (.pair hNs hI))], fun x => f33 n x⟩
def f33_D (α : Type) (n : Nat) : D3 α := { reg := [(1, { ops := [(0, { sh := some hN })] }),
    (2, { ops := [(0, { sh := some hI })] }),
    (7, { ops := [(2, { ent := some (f44_E n) })] }),
    (10, { ops := [(2, { ent := some (f46_E n) })] }),
    (12, { ops := [(3, { ent := some (f50_E n) })] }),
    (15, { ops := [(3, { sh := some hN })] }),
    (16, { ops := [(2, { sh := some hI })] })], join := [(10, f33_J10), (12, f33_J12)], loop := [(4, ⟨f33_L4H, f33_L4O, rounds (f33_L4U n) n⟩)] }
theorem f33_ents (α : Type) (n : Nat) : AllS Try.prog (entsOf (f33_D α n).reg) := ⟨f44_ok n, f46_ok n, f50_ok n, trivial⟩
theorem f33_L4_d (α : Type) (n : Nat) : D3.OK Try.prog ⟨74, []⟩ (f33_D α n) ((bodyOf Try.f33).at [1, 1, 1, 0, 1, 0, 0]) :=
  D3.OK.mk3 (f33_ents α n) (show loopsOf ((bodyOf Try.f33).at [1, 1, 1, 0, 1, 0, 0]) = [] by kernel_rfl) trivial
theorem f33_L4_ok (α : Type) (n : Nat) : LO.Sound (α := α) Try.prog ⟨74, []⟩ ⟨f33_L4H, f33_L4O, rounds (f33_L4U n) n⟩ (.loop ((bodyOf Try.f33).at [1, 1, 1, 0, 1, 0, 0])) :=
  loop_ok (tyOf_ok _) prog_fol (f33_L4U n) (f33_L4_d α n) (by intro v f ks; kernel_rfl) n
theorem f33_d (α : Type) (n : Nat) : D3.OK Try.prog ⟨74, []⟩ (f33_D α n) (bodyOf Try.f33) :=
  D3.OK.mk3 (f33_ents α n) (show loopsOf (bodyOf Try.f33) = [(4, .loop ((bodyOf Try.f33).at [1, 1, 1, 0, 1, 0, 0]))] by kernel_rfl) ⟨look_sound rfl (f33_L4_ok α n), trivial⟩
theorem f33_ok (n : Nat) : (f33_E n).Sound Try.prog :=
  fn_ok (tyOf_ok _) prog_fol (f33_D _ n) (show Try.prog.funcs[33]? = some Try.f33 by kernel_rfl) (by kernel_rfl) (show Try.f33.body = some (bodyOf Try.f33) by kernel_rfl) rfl rfl (Nat.le_of_ble_eq_true rfl) (f33_d _ n) (by intro x; kernel_rfl) 

def f15 (n : Nat) (a0 : List (Int × Int × Int × Int)) : Option (((List (Int × Int × Int × Int)) × Int) × Int) :=
  ob (f26 n a0) fun r_1 =>
  bif (!r_1) then
    some (([], 0), 1)
  else
    ob (f33 n a0) fun r_2 =>
    some (r_2, 0)
def f15_E (n : Nat) : Ent := ⟨15, [hE], [(.st (.pair hNs hI)), hI], fun x => f15 n x⟩
def f15_D (α : Type) (n : Nat) : D3 α := { reg := [(1, { ops := [(1, { ent := some (f26_E n) })] }),
    (3, { ops := [(1, { ent := some (f33_E n) })] })], join := [], loop := [] }
theorem f15_ents (α : Type) (n : Nat) : AllS Try.prog (entsOf (f15_D α n).reg) := ⟨f26_ok n, f33_ok n, trivial⟩
theorem f15_d (α : Type) (n : Nat) : D3.OK Try.prog ⟨10, []⟩ (f15_D α n) (bodyOf Try.f15) :=
  D3.OK.mk3 (f15_ents α n) (show loopsOf (bodyOf Try.f15) = [] by kernel_rfl) trivial
theorem f15_ok (n : Nat) : (f15_E n).Sound Try.prog :=
  fn_ok (tyOf_ok _) prog_fol (f15_D _ n) (show Try.prog.funcs[15]? = some Try.f15 by kernel_rfl) (by kernel_rfl) (show Try.f15.body = some (bodyOf Try.f15) by kernel_rfl) rfl rfl (Nat.le_of_ble_eq_true rfl) (f15_d _ n) (by intro x; kernel_rfl) 

def f31B_L3B {α : Type} (n : Nat) (s0 : List (Int × Int × Int × Int)) (s4 : Int) (b7 : List (Int × Int × Int × Int)) (f : (List (Int × Int × Int × Int)) → Int → (List (Int × Int × Int × Int)) → Option α) (k0 : (List (Int × Int × Int × Int)) → Option α) : Option α :=
  bif (decide (s4 < (s0.length : Int))) then
    gd (decide (0 ≤ s4) && decide (s4 < (s0.length : Int))) (
      let x_1 := s0.getD s4.toNat (0, 0, 0, 0)
      ob (f48 n x_1) fun r_2 =>
      gd (decide (0 ≤ s4) && decide (s4 < (b7.length : Int))) (
        gd (decide (s4.toNat < b7.length)) (
          f s0 (W (s4 + 1)) (b7.set s4.toNat r_2))))
  else
    k0 b7
abbrev f31B_L3H : Tm := ⟨[(0, .d hNs), (3, .k (.hw 7)), (4, .d hI)], [(7, .arr 30 hN false)], []⟩
abbrev f31B_L3X0 : Tm := ⟨[(3, .k (.hw 7))], [(7, .arr 30 hN false)], []⟩
abbrev f31B_L3O : List (Exit × Tm) := [(.exit 0, f31B_L3X0)]
def f31B_L3U {α : Type} (n : Nat) (v : f31B_L3H.den) (f : f31B_L3H.den → Option α) (ks : KS α f31B_L3O) : Option α := f31B_L3B n v.1.1 v.1.2.2.1 v.2.1 (fun s0 s4 b7 => f ((s0, (), s4, ()), (b7, ()))) (fun w0 => ks.1 (((), ()), (w0, ())))
def f31B_L3 {α : Type} (n m : Nat) (s0 : List (Int × Int × Int × Int)) (s4 : Int) (b7 : List (Int × Int × Int × Int)) (k0 : (List (Int × Int × Int × Int)) → Option α) : Option α := rounds (f31B_L3U n) m ((s0, (), s4, ()), (b7, ())) (fun w => k0 w.2.1, ())
theorem f31B_L3_0 {α : Type} (n : Nat) (s0 : List (Int × Int × Int × Int)) (s4 : Int) (b7 : List (Int × Int × Int × Int)) (k0 : (List (Int × Int × Int × Int)) → Option α) : f31B_L3 (α := α) n 0 s0 s4 b7 k0 = none := rfl
theorem f31B_L3_s {α : Type} (n m : Nat) (s0 : List (Int × Int × Int × Int)) (s4 : Int) (b7 : List (Int × Int × Int × Int)) (k0 : (List (Int × Int × Int × Int)) → Option α) : f31B_L3 (α := α) n (m + 1) s0 s4 b7 k0 = f31B_L3B n s0 s4 b7 (fun s0 s4 b7 => f31B_L3 n m s0 s4 b7 k0) k0 := rfl
def f31B (n : Nat) (a0 : List (Int × Int × Int × Int)) : Option (List (Int × Int × Int × Int)) :=
  gd (decide (0 ≤ (a0.length : Int)) && decide ((a0.length : Int) ≤ 4611686018427387904) && decide ((32 : Int) * (a0.length : Int) ≤ 281474976710656)) (
    f31B_L3 n n a0 0 (List.replicate ((a0.length : Int).toNat) (0, 0, 0, 0))
      (fun z_3 => (
        some z_3)))
def f31B_E (n : Nat) : Ent3 := ⟨31, [.im hNs], [[.one (.own 30 hN)]], fun x => f31B n x⟩
def f31B_D (α : Type) (n : Nat) : D3 α := { reg := [(5, { ops := [(6, { ent := some (f48_E n) })] })], join := [], loop := [(3, ⟨f31B_L3H, f31B_L3O, rounds (f31B_L3U n) n⟩)] }
theorem f31B_ents (α : Type) (n : Nat) : AllS Try.prog (entsOf (f31B_D α n).reg) := ⟨f48_ok n, trivial⟩
theorem f31B_L3_d (α : Type) (n : Nat) : D3.OK Try.prog ⟨23, []⟩ (f31B_D α n) ((bodyOf Try.f31).at [1, 1, 0, 1, 0, 0]) :=
  D3.OK.mk3 (f31B_ents α n) (show loopsOf ((bodyOf Try.f31).at [1, 1, 0, 1, 0, 0]) = [] by kernel_rfl) trivial
theorem f31B_L3_ok (α : Type) (n : Nat) : LO.Sound (α := α) Try.prog ⟨23, []⟩ ⟨f31B_L3H, f31B_L3O, rounds (f31B_L3U n) n⟩ (.loop ((bodyOf Try.f31).at [1, 1, 0, 1, 0, 0])) :=
  loop_ok (tyOf_ok _) prog_fol (f31B_L3U n) (f31B_L3_d α n) (by intro v f ks; kernel_rfl) n
theorem f31B_d (α : Type) (n : Nat) : D3.OK Try.prog ⟨23, []⟩ (f31B_D α n) (bodyOf Try.f31) :=
  D3.OK.mk3 (f31B_ents α n) (show loopsOf (bodyOf Try.f31) = [(3, .loop ((bodyOf Try.f31).at [1, 1, 0, 1, 0, 0]))] by kernel_rfl) ⟨look_sound rfl (f31B_L3_ok α n), trivial⟩
theorem f31B_ok (n : Nat) : (f31B_E n).Sound Try.prog :=
  fn_okB (tyOf_ok _) prog_fol (f31B_D _ n) (show Try.prog.funcs[31]? = some Try.f31 by kernel_rfl) (by kernel_rfl) (show Try.f31.body = some (bodyOf Try.f31) by kernel_rfl) rfl rfl (Nat.le_of_ble_eq_true rfl) (f31B_d _ n) (by intro x; kernel_rfl) 

def f13B (n : Nat) (a0 : List (Int × Int × Int × Int)) : Option (List (Int × Int × Int × Int)) :=
  ob (f31B n a0) fun r_1 =>
  some r_1
def f13B_E (n : Nat) : Ent3 := ⟨13, [.im hE], [[.mix [.own 30 hN]]], fun x => f13B n x⟩
def f13B_D (α : Type) (n : Nat) : D3 α := { reg := [(2, { ops := [(2, { entB := some (f31B_E n), hb := 310 })] })], join := [], loop := [] }
theorem f13B_ents (α : Type) (n : Nat) : AllS Try.prog (entsOf (f13B_D α n).reg) := ⟨f31B_ok n, trivial⟩
theorem f13B_d (α : Type) (n : Nat) : D3.OK Try.prog ⟨9, []⟩ (f13B_D α n) (bodyOf Try.f13) :=
  D3.OK.mk3 (f13B_ents α n) (show loopsOf (bodyOf Try.f13) = [] by kernel_rfl) trivial
theorem f13B_ok (n : Nat) : (f13B_E n).Sound Try.prog :=
  fn_okB (tyOf_ok _) prog_fol (f13B_D _ n) (show Try.prog.funcs[13]? = some Try.f13 by kernel_rfl) (by kernel_rfl) (show Try.f13.body = some (bodyOf Try.f13) by kernel_rfl) rfl rfl (Nat.le_of_ble_eq_true rfl) (f13B_d _ n) (by intro x; kernel_rfl) 

def f35_L2B {α : Type} (n : Nat) (s0 : List (Int × Int × Int × Int)) (s7 : Int) (s8 : Int) (c3_0 : Int) (c3_1 : Int) (c3_2 : Int) (c3_3 : Int) (f : (List (Int × Int × Int × Int)) → Int → Int → Int → Int → Int → Int → Option α) (k0 : Int → Option α) (k1 : Unit → Option α) : Option α :=
  bif (decide (s8 < s7)) then
    gd (decide (0 ≤ s8) && decide (s8 < (s0.length : Int))) (
      let x_1 := s0.getD s8.toNat (0, 0, 0, 0)
      bif (c3_0 == x_1.1 && (c3_1 == x_1.2.1 && (c3_2 == x_1.2.2.1 && (c3_3 == x_1.2.2.2 && true)))) then
        k0 s8
      else
        f s0 s7 (W (s8 + 1)) c3_0 c3_1 c3_2 c3_3)
  else
    k1 ()
abbrev f35_L2H : Tm := ⟨[(0, .d hNs), (3, .k (.hp 3 0 0)), (7, .d hI), (8, .d hI)], [(3, .var 30 true false [.d hI, .d hI, .d hI, .d hI])], []⟩
abbrev f35_L2X0 : Tm := ⟨[(4, .d hI)], [], [3]⟩
abbrev f35_L2X1 : Tm := ⟨[], [], [3]⟩
abbrev f35_L2O : List (Exit × Tm) := [(.ret, f35_L2X0), (.exit 0, f35_L2X1)]
def f35_L2U {α : Type} (n : Nat) (v : f35_L2H.den) (f : f35_L2H.den → Option α) (ks : KS α f35_L2O) : Option α := f35_L2B n v.1.1 v.1.2.2.1 v.1.2.2.2.1 v.2.1.1 v.2.1.2.1 v.2.1.2.2.1 v.2.1.2.2.2.1 (fun s0 s7 s8 c3_0 c3_1 c3_2 c3_3 => f ((s0, (), s7, s8, ()), ((c3_0, c3_1, c3_2, c3_3, ()), ()))) (fun w0 => ks.1 ((w0, ()), ())) (fun _ => ks.2.1 ((), ()))
def f35_L2 {α : Type} (n m : Nat) (s0 : List (Int × Int × Int × Int)) (s7 : Int) (s8 : Int) (c3_0 : Int) (c3_1 : Int) (c3_2 : Int) (c3_3 : Int) (k0 : Int → Option α) (k1 : Unit → Option α) : Option α := rounds (f35_L2U n) m ((s0, (), s7, s8, ()), ((c3_0, c3_1, c3_2, c3_3, ()), ())) (fun w => k0 w.1.1, fun w => k1 (), ())
theorem f35_L2_0 {α : Type} (n : Nat) (s0 : List (Int × Int × Int × Int)) (s7 : Int) (s8 : Int) (c3_0 : Int) (c3_1 : Int) (c3_2 : Int) (c3_3 : Int) (k0 : Int → Option α) (k1 : Unit → Option α) : f35_L2 (α := α) n 0 s0 s7 s8 c3_0 c3_1 c3_2 c3_3 k0 k1 = none := rfl
theorem f35_L2_s {α : Type} (n m : Nat) (s0 : List (Int × Int × Int × Int)) (s7 : Int) (s8 : Int) (c3_0 : Int) (c3_1 : Int) (c3_2 : Int) (c3_3 : Int) (k0 : Int → Option α) (k1 : Unit → Option α) : f35_L2 (α := α) n (m + 1) s0 s7 s8 c3_0 c3_1 c3_2 c3_3 k0 k1 = f35_L2B n s0 s7 s8 c3_0 c3_1 c3_2 c3_3 (fun s0 s7 s8 c3_0 c3_1 c3_2 c3_3 => f35_L2 n m s0 s7 s8 c3_0 c3_1 c3_2 c3_3 k0 k1) k0 k1 := rfl
def f35 (n : Nat) (a0 : List (Int × Int × Int × Int)) (a1 : Int × Int × Int × Int) : Option Int :=
  f35_L2 n n a0 (a0.length : Int) 0 a1.1 a1.2.1 a1.2.2.1 a1.2.2.2
    (fun z_2 => (
      some z_2))
    (fun (_ : Unit) => (
      some (-1)))
def f35_E (n : Nat) : Ent := ⟨35, [hNs, hN], [hI], fun x => f35 n x.1 x.2⟩
def f35_D (α : Type) (n : Nat) : D3 α := { reg := [(4, { m := 5 })], join := [], loop := [(2, ⟨f35_L2H, f35_L2O, rounds (f35_L2U n) n⟩)] }
theorem f35_ents (α : Type) (n : Nat) : AllS Try.prog (entsOf (f35_D α n).reg) := trivial
theorem f35_L2_d (α : Type) (n : Nat) : D3.OK Try.prog ⟨19, []⟩ (f35_D α n) ((bodyOf Try.f35).at [1, 0, 1, 0, 0]) :=
  D3.OK.mk3 (f35_ents α n) (show loopsOf ((bodyOf Try.f35).at [1, 0, 1, 0, 0]) = [] by kernel_rfl) trivial
theorem f35_L2_ok (α : Type) (n : Nat) : LO.Sound (α := α) Try.prog ⟨19, []⟩ ⟨f35_L2H, f35_L2O, rounds (f35_L2U n) n⟩ (.loop ((bodyOf Try.f35).at [1, 0, 1, 0, 0])) :=
  loop_ok (tyOf_ok _) prog_fol (f35_L2U n) (f35_L2_d α n) (by intro v f ks; kernel_rfl) n
theorem f35_d (α : Type) (n : Nat) : D3.OK Try.prog ⟨19, []⟩ (f35_D α n) (bodyOf Try.f35) :=
  D3.OK.mk3 (f35_ents α n) (show loopsOf (bodyOf Try.f35) = [(2, .loop ((bodyOf Try.f35).at [1, 0, 1, 0, 0]))] by kernel_rfl) ⟨look_sound rfl (f35_L2_ok α n), trivial⟩
theorem f35_ok (n : Nat) : (f35_E n).Sound Try.prog :=
  fn_ok (tyOf_ok _) prog_fol (f35_D _ n) (show Try.prog.funcs[35]? = some Try.f35 by kernel_rfl) (by kernel_rfl) (show Try.f35.body = some (bodyOf Try.f35) by kernel_rfl) rfl rfl (Nat.le_of_ble_eq_true rfl) (f35_d _ n) (by intro x; kernel_rfl) 

def f16B_L6B {α : Type} (n : Nat) (s19 : List (Int × Int × Int × Int)) (s20 : Int) (s21 : Int) (c2_1 : Int) (b16 : List (Int × Int × Int × Int)) (b17 : List Int) (f : (List (Int × Int × Int × Int)) → Int → Int → Int → (List (Int × Int × Int × Int)) → (List Int) → Option α) (k0 : Int → (List (Int × Int × Int × Int)) → Option α) : Option α :=
  bif (decide (s21 < s20)) then
    gd (decide (0 ≤ s21) && decide (s21 < (s19.length : Int))) (
      let x_2 := s19.getD s21.toNat (0, 0, 0, 0)
      let J_9 := fun (y_4 : Int) => (
        let J_8 := fun (y_6 : Int) => (
          ob (f35 n b16 (x_2.1, y_4, y_6, x_2.2.2.2)) fun r_7 =>
          bif (decide (r_7 < 0)) then
            gd (decide ((b16.length + 1) * 32 ≤ 140737488355328)) (
              gd (decide ((b17.length + 1) * 8 ≤ 140737488355328)) (
                f s19 s20 (W (s21 + 1)) c2_1 (b16 ++ [(x_2.1, y_4, y_6, x_2.2.2.2)]) (b17 ++ [(b16.length : Int)])))
          else
            gd (decide ((b17.length + 1) * 8 ≤ 140737488355328)) (
              f s19 s20 (W (s21 + 1)) c2_1 b16 (b17 ++ [r_7])))
        ob (f34 n (x_2.1, y_4, x_2.2.2)) fun r_5 =>
        bif (decide (r_5 > 1)) then
          gd (decide (0 ≤ x_2.2.2.1) && decide (x_2.2.2.1 < (b17.length : Int))) (
            gd (decide (x_2.2.2.1.toNat < b17.length)) (
              J_8 (b17.getD x_2.2.2.1.toNat 0)))
        else
          J_8 x_2.2.2.1)
      ob (f34 n x_2) fun r_3 =>
      bif (decide (r_3 > 0)) then
        gd (decide (0 ≤ x_2.2.1) && decide (x_2.2.1 < (b17.length : Int))) (
          gd (decide (x_2.2.1.toNat < b17.length)) (
            J_9 (b17.getD x_2.2.1.toNat 0)))
      else
        J_9 x_2.2.1)
  else
    k0 c2_1 b16
abbrev f16B_L6H : Tm := ⟨[(2, .k (.hp 2 0 0)), (5, .k (.hw 16)), (6, .k (.hw 17)), (19, .d hNs), (20, .d hI), (21, .d hI)], [(2, .var 42 true false [.d .nil, .d hI]), (16, .arr 30 hN false), (17, .arr 3 hI false)], [1, 8, 52, 56]⟩
abbrev f16B_L6X0 : Tm := ⟨[(2, .k (.hp 2 0 0)), (5, .k (.hw 16))], [(2, .var 42 true false [.d .nil, .d hI]), (16, .arr 30 hN false)], [17]⟩
abbrev f16B_L6O : List (Exit × Tm) := [(.exit 0, f16B_L6X0)]
def f16B_L6U {α : Type} (n : Nat) (v : f16B_L6H.den) (f : f16B_L6H.den → Option α) (ks : KS α f16B_L6O) : Option α := f16B_L6B n v.1.2.2.2.1 v.1.2.2.2.2.1 v.1.2.2.2.2.2.1 v.2.1.2.1 v.2.2.1 v.2.2.2.1 (fun s19 s20 s21 c2_1 b16 b17 => f (((), (), (), s19, s20, s21, ()), (((), c2_1, ()), b16, b17, ()))) (fun w0 w1 => ks.1 (((), (), ()), (((), w0, ()), w1, ())))
def f16B_L6 {α : Type} (n m : Nat) (s19 : List (Int × Int × Int × Int)) (s20 : Int) (s21 : Int) (c2_1 : Int) (b16 : List (Int × Int × Int × Int)) (b17 : List Int) (k0 : Int → (List (Int × Int × Int × Int)) → Option α) : Option α := rounds (f16B_L6U n) m (((), (), (), s19, s20, s21, ()), (((), c2_1, ()), b16, b17, ())) (fun w => k0 w.2.1.2.1 w.2.2.1, ())
theorem f16B_L6_0 {α : Type} (n : Nat) (s19 : List (Int × Int × Int × Int)) (s20 : Int) (s21 : Int) (c2_1 : Int) (b16 : List (Int × Int × Int × Int)) (b17 : List Int) (k0 : Int → (List (Int × Int × Int × Int)) → Option α) : f16B_L6 (α := α) n 0 s19 s20 s21 c2_1 b16 b17 k0 = none := rfl
theorem f16B_L6_s {α : Type} (n m : Nat) (s19 : List (Int × Int × Int × Int)) (s20 : Int) (s21 : Int) (c2_1 : Int) (b16 : List (Int × Int × Int × Int)) (b17 : List Int) (k0 : Int → (List (Int × Int × Int × Int)) → Option α) : f16B_L6 (α := α) n (m + 1) s19 s20 s21 c2_1 b16 b17 k0 = f16B_L6B n s19 s20 s21 c2_1 b16 b17 (fun s19 s20 s21 c2_1 b16 b17 => f16B_L6 n m s19 s20 s21 c2_1 b16 b17 k0) k0 := rfl
abbrev f16B_J10 : Tm := ⟨[(2, .k (.hp 2 0 0)), (5, .k (.hw 16)), (6, .k (.hw 17)), (8, .k (.hp 8 0 0)), (19, .d hNs), (20, .d hI), (21, .d hI)], [(2, .var 42 true false [.d .nil, .d hI]), (8, .var 30 true false [.d hI, .d hI, .d hI, .d hI]), (16, .arr 30 hN false), (17, .arr 3 hI false)], []⟩
abbrev f16B_J12 : Tm := ⟨[(2, .k (.hp 2 0 0)), (5, .k (.hw 16)), (6, .k (.hw 17)), (8, .k (.hp 8 0 0)), (19, .d hNs), (20, .d hI), (21, .d hI)], [(2, .var 42 true false [.d .nil, .d hI]), (8, .var 30 true false [.d hI, .d hI, .d hI, .d hI]), (16, .arr 30 hN false), (17, .arr 3 hI false)], []⟩
def f16B (n : Nat) (a0 : List (Int × Int × Int × Int)) : Option ((((List (Int × Int × Int × Int)) × Int) × Int) ⊕ ((Unit × Int) × Int)) :=
  ob (f23 n a0) fun r_1 =>
  bif (r_1 != 0) then
    some (.inr (((), 0), r_1))
  else
    f16B_L6 n n a0 (a0.length : Int) 0 0 [] []
      (fun z_10 z_11 => (
        some (.inl ((z_11, (W ((z_11.length : Int) - 1))), 0))))
def f16B_E (n : Nat) : Ent3 := ⟨16, [.im hE], [[.mix [.own 30 hN, .im hI], .im hI], [.im (.st (.pair .nil hI)), .im hI]], fun x => f16B n x⟩
def f16B_D (α : Type) (n : Nat) : D3 α := { reg := [(1, { ops := [(1, { ent := some (f23_E n) })] }),
    (4, { ops := [(0, { sh := some hN }), (1, { sh := some hI })] }),
    (8, { ops := [(1, { ent := some (f34_E n) })] }),
    (10, { ops := [(1, { ent := some (f34_E n) })] }),
    (12, { ops := [(2, { ent := some (f35_E n) })] }),
    (14, { ops := [(4, { sh := some hN })] }),
    (15, { ops := [(2, { sh := some hI })] })], join := [(10, f16B_J10), (12, f16B_J12)], loop := [(6, ⟨f16B_L6H, f16B_L6O, rounds (f16B_L6U n) n⟩)] }
theorem f16B_ents (α : Type) (n : Nat) : AllS Try.prog (entsOf (f16B_D α n).reg) := ⟨f23_ok n, f34_ok n, f34_ok n, f35_ok n, trivial⟩
theorem f16B_L6_d (α : Type) (n : Nat) : D3.OK Try.prog ⟨64, []⟩ (f16B_D α n) ((bodyOf Try.f16).at [1, 1, 1, 0, 1, 0, 0]) :=
  D3.OK.mk3 (f16B_ents α n) (show loopsOf ((bodyOf Try.f16).at [1, 1, 1, 0, 1, 0, 0]) = [] by kernel_rfl) trivial
theorem f16B_L6_ok (α : Type) (n : Nat) : LO.Sound (α := α) Try.prog ⟨64, []⟩ ⟨f16B_L6H, f16B_L6O, rounds (f16B_L6U n) n⟩ (.loop ((bodyOf Try.f16).at [1, 1, 1, 0, 1, 0, 0])) :=
  loop_ok (tyOf_ok _) prog_fol (f16B_L6U n) (f16B_L6_d α n) (by intro v f ks; kernel_rfl) n
theorem f16B_d (α : Type) (n : Nat) : D3.OK Try.prog ⟨64, []⟩ (f16B_D α n) (bodyOf Try.f16) :=
  D3.OK.mk3 (f16B_ents α n) (show loopsOf (bodyOf Try.f16) = [(6, .loop ((bodyOf Try.f16).at [1, 1, 1, 0, 1, 0, 0]))] by kernel_rfl) ⟨look_sound rfl (f16B_L6_ok α n), trivial⟩
theorem f16B_ok (n : Nat) : (f16B_E n).Sound Try.prog :=
  fn_okB (tyOf_ok _) prog_fol (f16B_D _ n) (show Try.prog.funcs[16]? = some Try.f16 by kernel_rfl) (by kernel_rfl) (show Try.f16.body = some (bodyOf Try.f16) by kernel_rfl) rfl rfl (Nat.le_of_ble_eq_true rfl) (f16B_d _ n) (by intro x; kernel_rfl) 

def f17 (n : Nat) (a0 : (List (Int × Int × Int × Int)) × Int) (a1 : (List (Int × Int × Int × Int)) × Int) : Option Bool :=
  ob (f32 n a0.1 a1.1) fun r_1 =>
  bif (!r_1) then
    some false
  else
    bif (a0.2 != a1.2) then
      some false
    else
      some true
def f17_E (n : Nat) : Ent := ⟨17, [(.st (.pair hNs hI)), (.st (.pair hNs hI))], [.bool], fun x => f17 n x.1 x.2⟩
def f17_D (α : Type) (n : Nat) : D3 α := { reg := [(1, { ops := [(4, { ent := some (f32_E n) })] })], join := [], loop := [] }
theorem f17_ents (α : Type) (n : Nat) : AllS Try.prog (entsOf (f17_D α n).reg) := ⟨f32_ok n, trivial⟩
theorem f17_d (α : Type) (n : Nat) : D3.OK Try.prog ⟨16, []⟩ (f17_D α n) (bodyOf Try.f17) :=
  D3.OK.mk3 (f17_ents α n) (show loopsOf (bodyOf Try.f17) = [] by kernel_rfl) trivial
theorem f17_ok (n : Nat) : (f17_E n).Sound Try.prog :=
  fn_ok (tyOf_ok _) prog_fol (f17_D _ n) (show Try.prog.funcs[17]? = some Try.f17 by kernel_rfl) (by kernel_rfl) (show Try.f17.body = some (bodyOf Try.f17) by kernel_rfl) rfl rfl (Nat.le_of_ble_eq_true rfl) (f17_d _ n) (by intro x; kernel_rfl) 

def f36B_L2B {α : Type} (n : Nat) (s1 : Int) (s5 : Int) (b1000 : List (Int × Int × Int × Int)) (f : Int → Int → (List (Int × Int × Int × Int)) → Option α) (k0 : Int → (List (Int × Int × Int × Int)) → Option α) : Option α :=
  bif (decide (s5 < (b1000.length : Int))) then
    gd (decide (0 ≤ s5) && decide (s5 < (b1000.length : Int))) (
      gd (decide (s5.toNat < b1000.length)) (
        gd (decide (0 ≤ s5) && decide (s5 < (((b1000.set s5.toNat (s1, ((b1000.getD s5.toNat (0, 0, 0, 0)).2).1, (((b1000.getD s5.toNat (0, 0, 0, 0)).2).2))).length : Nat) : Int))) (
          gd (decide (s5.toNat < (b1000.set s5.toNat (s1, ((b1000.getD s5.toNat (0, 0, 0, 0)).2).1, (((b1000.getD s5.toNat (0, 0, 0, 0)).2).2))).length)) (
            gd (decide (0 ≤ s5) && decide (s5 < ((((b1000.set s5.toNat (s1, ((b1000.getD s5.toNat (0, 0, 0, 0)).2).1, (((b1000.getD s5.toNat (0, 0, 0, 0)).2).2))).set s5.toNat (((b1000.set s5.toNat (s1, ((b1000.getD s5.toNat (0, 0, 0, 0)).2).1, (((b1000.getD s5.toNat (0, 0, 0, 0)).2).2))).getD s5.toNat (0, 0, 0, 0)).1, (W (s1 + 1)), ((((b1000.set s5.toNat (s1, ((b1000.getD s5.toNat (0, 0, 0, 0)).2).1, (((b1000.getD s5.toNat (0, 0, 0, 0)).2).2))).getD s5.toNat (0, 0, 0, 0)).2).2))).length : Nat) : Int))) (
              gd (decide (s5.toNat < ((b1000.set s5.toNat (s1, ((b1000.getD s5.toNat (0, 0, 0, 0)).2).1, (((b1000.getD s5.toNat (0, 0, 0, 0)).2).2))).set s5.toNat (((b1000.set s5.toNat (s1, ((b1000.getD s5.toNat (0, 0, 0, 0)).2).1, (((b1000.getD s5.toNat (0, 0, 0, 0)).2).2))).getD s5.toNat (0, 0, 0, 0)).1, (W (s1 + 1)), ((((b1000.set s5.toNat (s1, ((b1000.getD s5.toNat (0, 0, 0, 0)).2).1, (((b1000.getD s5.toNat (0, 0, 0, 0)).2).2))).getD s5.toNat (0, 0, 0, 0)).2).2))).length)) (
                gd (decide (0 ≤ s5) && decide (s5 < (((((b1000.set s5.toNat (s1, ((b1000.getD s5.toNat (0, 0, 0, 0)).2).1, (((b1000.getD s5.toNat (0, 0, 0, 0)).2).2))).set s5.toNat (((b1000.set s5.toNat (s1, ((b1000.getD s5.toNat (0, 0, 0, 0)).2).1, (((b1000.getD s5.toNat (0, 0, 0, 0)).2).2))).getD s5.toNat (0, 0, 0, 0)).1, (W (s1 + 1)), ((((b1000.set s5.toNat (s1, ((b1000.getD s5.toNat (0, 0, 0, 0)).2).1, (((b1000.getD s5.toNat (0, 0, 0, 0)).2).2))).getD s5.toNat (0, 0, 0, 0)).2).2))).set s5.toNat ((((b1000.set s5.toNat (s1, ((b1000.getD s5.toNat (0, 0, 0, 0)).2).1, (((b1000.getD s5.toNat (0, 0, 0, 0)).2).2))).set s5.toNat (((b1000.set s5.toNat (s1, ((b1000.getD s5.toNat (0, 0, 0, 0)).2).1, (((b1000.getD s5.toNat (0, 0, 0, 0)).2).2))).getD s5.toNat (0, 0, 0, 0)).1, (W (s1 + 1)), ((((b1000.set s5.toNat (s1, ((b1000.getD s5.toNat (0, 0, 0, 0)).2).1, (((b1000.getD s5.toNat (0, 0, 0, 0)).2).2))).getD s5.toNat (0, 0, 0, 0)).2).2))).getD s5.toNat (0, 0, 0, 0)).1, ((((b1000.set s5.toNat (s1, ((b1000.getD s5.toNat (0, 0, 0, 0)).2).1, (((b1000.getD s5.toNat (0, 0, 0, 0)).2).2))).set s5.toNat (((b1000.set s5.toNat (s1, ((b1000.getD s5.toNat (0, 0, 0, 0)).2).1, (((b1000.getD s5.toNat (0, 0, 0, 0)).2).2))).getD s5.toNat (0, 0, 0, 0)).1, (W (s1 + 1)), ((((b1000.set s5.toNat (s1, ((b1000.getD s5.toNat (0, 0, 0, 0)).2).1, (((b1000.getD s5.toNat (0, 0, 0, 0)).2).2))).getD s5.toNat (0, 0, 0, 0)).2).2))).getD s5.toNat (0, 0, 0, 0)).2).1, (W ((W (s1 + 1)) + 1)), (((((b1000.set s5.toNat (s1, ((b1000.getD s5.toNat (0, 0, 0, 0)).2).1, (((b1000.getD s5.toNat (0, 0, 0, 0)).2).2))).set s5.toNat (((b1000.set s5.toNat (s1, ((b1000.getD s5.toNat (0, 0, 0, 0)).2).1, (((b1000.getD s5.toNat (0, 0, 0, 0)).2).2))).getD s5.toNat (0, 0, 0, 0)).1, (W (s1 + 1)), ((((b1000.set s5.toNat (s1, ((b1000.getD s5.toNat (0, 0, 0, 0)).2).1, (((b1000.getD s5.toNat (0, 0, 0, 0)).2).2))).getD s5.toNat (0, 0, 0, 0)).2).2))).getD s5.toNat (0, 0, 0, 0)).2).2).2)).length : Nat) : Int))) (
                  gd (decide (s5.toNat < (((b1000.set s5.toNat (s1, ((b1000.getD s5.toNat (0, 0, 0, 0)).2).1, (((b1000.getD s5.toNat (0, 0, 0, 0)).2).2))).set s5.toNat (((b1000.set s5.toNat (s1, ((b1000.getD s5.toNat (0, 0, 0, 0)).2).1, (((b1000.getD s5.toNat (0, 0, 0, 0)).2).2))).getD s5.toNat (0, 0, 0, 0)).1, (W (s1 + 1)), ((((b1000.set s5.toNat (s1, ((b1000.getD s5.toNat (0, 0, 0, 0)).2).1, (((b1000.getD s5.toNat (0, 0, 0, 0)).2).2))).getD s5.toNat (0, 0, 0, 0)).2).2))).set s5.toNat ((((b1000.set s5.toNat (s1, ((b1000.getD s5.toNat (0, 0, 0, 0)).2).1, (((b1000.getD s5.toNat (0, 0, 0, 0)).2).2))).set s5.toNat (((b1000.set s5.toNat (s1, ((b1000.getD s5.toNat (0, 0, 0, 0)).2).1, (((b1000.getD s5.toNat (0, 0, 0, 0)).2).2))).getD s5.toNat (0, 0, 0, 0)).1, (W (s1 + 1)), ((((b1000.set s5.toNat (s1, ((b1000.getD s5.toNat (0, 0, 0, 0)).2).1, (((b1000.getD s5.toNat (0, 0, 0, 0)).2).2))).getD s5.toNat (0, 0, 0, 0)).2).2))).getD s5.toNat (0, 0, 0, 0)).1, ((((b1000.set s5.toNat (s1, ((b1000.getD s5.toNat (0, 0, 0, 0)).2).1, (((b1000.getD s5.toNat (0, 0, 0, 0)).2).2))).set s5.toNat (((b1000.set s5.toNat (s1, ((b1000.getD s5.toNat (0, 0, 0, 0)).2).1, (((b1000.getD s5.toNat (0, 0, 0, 0)).2).2))).getD s5.toNat (0, 0, 0, 0)).1, (W (s1 + 1)), ((((b1000.set s5.toNat (s1, ((b1000.getD s5.toNat (0, 0, 0, 0)).2).1, (((b1000.getD s5.toNat (0, 0, 0, 0)).2).2))).getD s5.toNat (0, 0, 0, 0)).2).2))).getD s5.toNat (0, 0, 0, 0)).2).1, (W ((W (s1 + 1)) + 1)), (((((b1000.set s5.toNat (s1, ((b1000.getD s5.toNat (0, 0, 0, 0)).2).1, (((b1000.getD s5.toNat (0, 0, 0, 0)).2).2))).set s5.toNat (((b1000.set s5.toNat (s1, ((b1000.getD s5.toNat (0, 0, 0, 0)).2).1, (((b1000.getD s5.toNat (0, 0, 0, 0)).2).2))).getD s5.toNat (0, 0, 0, 0)).1, (W (s1 + 1)), ((((b1000.set s5.toNat (s1, ((b1000.getD s5.toNat (0, 0, 0, 0)).2).1, (((b1000.getD s5.toNat (0, 0, 0, 0)).2).2))).getD s5.toNat (0, 0, 0, 0)).2).2))).getD s5.toNat (0, 0, 0, 0)).2).2).2)).length)) (
                    f (W ((W ((W ((W (s1 + 1)) + 1)) + 1)) + 1)) (W (s5 + 1)) ((((b1000.set s5.toNat (s1, ((b1000.getD s5.toNat (0, 0, 0, 0)).2).1, (((b1000.getD s5.toNat (0, 0, 0, 0)).2).2))).set s5.toNat (((b1000.set s5.toNat (s1, ((b1000.getD s5.toNat (0, 0, 0, 0)).2).1, (((b1000.getD s5.toNat (0, 0, 0, 0)).2).2))).getD s5.toNat (0, 0, 0, 0)).1, (W (s1 + 1)), ((((b1000.set s5.toNat (s1, ((b1000.getD s5.toNat (0, 0, 0, 0)).2).1, (((b1000.getD s5.toNat (0, 0, 0, 0)).2).2))).getD s5.toNat (0, 0, 0, 0)).2).2))).set s5.toNat ((((b1000.set s5.toNat (s1, ((b1000.getD s5.toNat (0, 0, 0, 0)).2).1, (((b1000.getD s5.toNat (0, 0, 0, 0)).2).2))).set s5.toNat (((b1000.set s5.toNat (s1, ((b1000.getD s5.toNat (0, 0, 0, 0)).2).1, (((b1000.getD s5.toNat (0, 0, 0, 0)).2).2))).getD s5.toNat (0, 0, 0, 0)).1, (W (s1 + 1)), ((((b1000.set s5.toNat (s1, ((b1000.getD s5.toNat (0, 0, 0, 0)).2).1, (((b1000.getD s5.toNat (0, 0, 0, 0)).2).2))).getD s5.toNat (0, 0, 0, 0)).2).2))).getD s5.toNat (0, 0, 0, 0)).1, ((((b1000.set s5.toNat (s1, ((b1000.getD s5.toNat (0, 0, 0, 0)).2).1, (((b1000.getD s5.toNat (0, 0, 0, 0)).2).2))).set s5.toNat (((b1000.set s5.toNat (s1, ((b1000.getD s5.toNat (0, 0, 0, 0)).2).1, (((b1000.getD s5.toNat (0, 0, 0, 0)).2).2))).getD s5.toNat (0, 0, 0, 0)).1, (W (s1 + 1)), ((((b1000.set s5.toNat (s1, ((b1000.getD s5.toNat (0, 0, 0, 0)).2).1, (((b1000.getD s5.toNat (0, 0, 0, 0)).2).2))).getD s5.toNat (0, 0, 0, 0)).2).2))).getD s5.toNat (0, 0, 0, 0)).2).1, (W ((W (s1 + 1)) + 1)), (((((b1000.set s5.toNat (s1, ((b1000.getD s5.toNat (0, 0, 0, 0)).2).1, (((b1000.getD s5.toNat (0, 0, 0, 0)).2).2))).set s5.toNat (((b1000.set s5.toNat (s1, ((b1000.getD s5.toNat (0, 0, 0, 0)).2).1, (((b1000.getD s5.toNat (0, 0, 0, 0)).2).2))).getD s5.toNat (0, 0, 0, 0)).1, (W (s1 + 1)), ((((b1000.set s5.toNat (s1, ((b1000.getD s5.toNat (0, 0, 0, 0)).2).1, (((b1000.getD s5.toNat (0, 0, 0, 0)).2).2))).getD s5.toNat (0, 0, 0, 0)).2).2))).getD s5.toNat (0, 0, 0, 0)).2).2).2)).set s5.toNat (((((b1000.set s5.toNat (s1, ((b1000.getD s5.toNat (0, 0, 0, 0)).2).1, (((b1000.getD s5.toNat (0, 0, 0, 0)).2).2))).set s5.toNat (((b1000.set s5.toNat (s1, ((b1000.getD s5.toNat (0, 0, 0, 0)).2).1, (((b1000.getD s5.toNat (0, 0, 0, 0)).2).2))).getD s5.toNat (0, 0, 0, 0)).1, (W (s1 + 1)), ((((b1000.set s5.toNat (s1, ((b1000.getD s5.toNat (0, 0, 0, 0)).2).1, (((b1000.getD s5.toNat (0, 0, 0, 0)).2).2))).getD s5.toNat (0, 0, 0, 0)).2).2))).set s5.toNat ((((b1000.set s5.toNat (s1, ((b1000.getD s5.toNat (0, 0, 0, 0)).2).1, (((b1000.getD s5.toNat (0, 0, 0, 0)).2).2))).set s5.toNat (((b1000.set s5.toNat (s1, ((b1000.getD s5.toNat (0, 0, 0, 0)).2).1, (((b1000.getD s5.toNat (0, 0, 0, 0)).2).2))).getD s5.toNat (0, 0, 0, 0)).1, (W (s1 + 1)), ((((b1000.set s5.toNat (s1, ((b1000.getD s5.toNat (0, 0, 0, 0)).2).1, (((b1000.getD s5.toNat (0, 0, 0, 0)).2).2))).getD s5.toNat (0, 0, 0, 0)).2).2))).getD s5.toNat (0, 0, 0, 0)).1, ((((b1000.set s5.toNat (s1, ((b1000.getD s5.toNat (0, 0, 0, 0)).2).1, (((b1000.getD s5.toNat (0, 0, 0, 0)).2).2))).set s5.toNat (((b1000.set s5.toNat (s1, ((b1000.getD s5.toNat (0, 0, 0, 0)).2).1, (((b1000.getD s5.toNat (0, 0, 0, 0)).2).2))).getD s5.toNat (0, 0, 0, 0)).1, (W (s1 + 1)), ((((b1000.set s5.toNat (s1, ((b1000.getD s5.toNat (0, 0, 0, 0)).2).1, (((b1000.getD s5.toNat (0, 0, 0, 0)).2).2))).getD s5.toNat (0, 0, 0, 0)).2).2))).getD s5.toNat (0, 0, 0, 0)).2).1, (W ((W (s1 + 1)) + 1)), (((((b1000.set s5.toNat (s1, ((b1000.getD s5.toNat (0, 0, 0, 0)).2).1, (((b1000.getD s5.toNat (0, 0, 0, 0)).2).2))).set s5.toNat (((b1000.set s5.toNat (s1, ((b1000.getD s5.toNat (0, 0, 0, 0)).2).1, (((b1000.getD s5.toNat (0, 0, 0, 0)).2).2))).getD s5.toNat (0, 0, 0, 0)).1, (W (s1 + 1)), ((((b1000.set s5.toNat (s1, ((b1000.getD s5.toNat (0, 0, 0, 0)).2).1, (((b1000.getD s5.toNat (0, 0, 0, 0)).2).2))).getD s5.toNat (0, 0, 0, 0)).2).2))).getD s5.toNat (0, 0, 0, 0)).2).2).2)).getD s5.toNat (0, 0, 0, 0)).1, (((((b1000.set s5.toNat (s1, ((b1000.getD s5.toNat (0, 0, 0, 0)).2).1, (((b1000.getD s5.toNat (0, 0, 0, 0)).2).2))).set s5.toNat (((b1000.set s5.toNat (s1, ((b1000.getD s5.toNat (0, 0, 0, 0)).2).1, (((b1000.getD s5.toNat (0, 0, 0, 0)).2).2))).getD s5.toNat (0, 0, 0, 0)).1, (W (s1 + 1)), ((((b1000.set s5.toNat (s1, ((b1000.getD s5.toNat (0, 0, 0, 0)).2).1, (((b1000.getD s5.toNat (0, 0, 0, 0)).2).2))).getD s5.toNat (0, 0, 0, 0)).2).2))).set s5.toNat ((((b1000.set s5.toNat (s1, ((b1000.getD s5.toNat (0, 0, 0, 0)).2).1, (((b1000.getD s5.toNat (0, 0, 0, 0)).2).2))).set s5.toNat (((b1000.set s5.toNat (s1, ((b1000.getD s5.toNat (0, 0, 0, 0)).2).1, (((b1000.getD s5.toNat (0, 0, 0, 0)).2).2))).getD s5.toNat (0, 0, 0, 0)).1, (W (s1 + 1)), ((((b1000.set s5.toNat (s1, ((b1000.getD s5.toNat (0, 0, 0, 0)).2).1, (((b1000.getD s5.toNat (0, 0, 0, 0)).2).2))).getD s5.toNat (0, 0, 0, 0)).2).2))).getD s5.toNat (0, 0, 0, 0)).1, ((((b1000.set s5.toNat (s1, ((b1000.getD s5.toNat (0, 0, 0, 0)).2).1, (((b1000.getD s5.toNat (0, 0, 0, 0)).2).2))).set s5.toNat (((b1000.set s5.toNat (s1, ((b1000.getD s5.toNat (0, 0, 0, 0)).2).1, (((b1000.getD s5.toNat (0, 0, 0, 0)).2).2))).getD s5.toNat (0, 0, 0, 0)).1, (W (s1 + 1)), ((((b1000.set s5.toNat (s1, ((b1000.getD s5.toNat (0, 0, 0, 0)).2).1, (((b1000.getD s5.toNat (0, 0, 0, 0)).2).2))).getD s5.toNat (0, 0, 0, 0)).2).2))).getD s5.toNat (0, 0, 0, 0)).2).1, (W ((W (s1 + 1)) + 1)), (((((b1000.set s5.toNat (s1, ((b1000.getD s5.toNat (0, 0, 0, 0)).2).1, (((b1000.getD s5.toNat (0, 0, 0, 0)).2).2))).set s5.toNat (((b1000.set s5.toNat (s1, ((b1000.getD s5.toNat (0, 0, 0, 0)).2).1, (((b1000.getD s5.toNat (0, 0, 0, 0)).2).2))).getD s5.toNat (0, 0, 0, 0)).1, (W (s1 + 1)), ((((b1000.set s5.toNat (s1, ((b1000.getD s5.toNat (0, 0, 0, 0)).2).1, (((b1000.getD s5.toNat (0, 0, 0, 0)).2).2))).getD s5.toNat (0, 0, 0, 0)).2).2))).getD s5.toNat (0, 0, 0, 0)).2).2).2)).getD s5.toNat (0, 0, 0, 0)).2).1, ((((((b1000.set s5.toNat (s1, ((b1000.getD s5.toNat (0, 0, 0, 0)).2).1, (((b1000.getD s5.toNat (0, 0, 0, 0)).2).2))).set s5.toNat (((b1000.set s5.toNat (s1, ((b1000.getD s5.toNat (0, 0, 0, 0)).2).1, (((b1000.getD s5.toNat (0, 0, 0, 0)).2).2))).getD s5.toNat (0, 0, 0, 0)).1, (W (s1 + 1)), ((((b1000.set s5.toNat (s1, ((b1000.getD s5.toNat (0, 0, 0, 0)).2).1, (((b1000.getD s5.toNat (0, 0, 0, 0)).2).2))).getD s5.toNat (0, 0, 0, 0)).2).2))).set s5.toNat ((((b1000.set s5.toNat (s1, ((b1000.getD s5.toNat (0, 0, 0, 0)).2).1, (((b1000.getD s5.toNat (0, 0, 0, 0)).2).2))).set s5.toNat (((b1000.set s5.toNat (s1, ((b1000.getD s5.toNat (0, 0, 0, 0)).2).1, (((b1000.getD s5.toNat (0, 0, 0, 0)).2).2))).getD s5.toNat (0, 0, 0, 0)).1, (W (s1 + 1)), ((((b1000.set s5.toNat (s1, ((b1000.getD s5.toNat (0, 0, 0, 0)).2).1, (((b1000.getD s5.toNat (0, 0, 0, 0)).2).2))).getD s5.toNat (0, 0, 0, 0)).2).2))).getD s5.toNat (0, 0, 0, 0)).1, ((((b1000.set s5.toNat (s1, ((b1000.getD s5.toNat (0, 0, 0, 0)).2).1, (((b1000.getD s5.toNat (0, 0, 0, 0)).2).2))).set s5.toNat (((b1000.set s5.toNat (s1, ((b1000.getD s5.toNat (0, 0, 0, 0)).2).1, (((b1000.getD s5.toNat (0, 0, 0, 0)).2).2))).getD s5.toNat (0, 0, 0, 0)).1, (W (s1 + 1)), ((((b1000.set s5.toNat (s1, ((b1000.getD s5.toNat (0, 0, 0, 0)).2).1, (((b1000.getD s5.toNat (0, 0, 0, 0)).2).2))).getD s5.toNat (0, 0, 0, 0)).2).2))).getD s5.toNat (0, 0, 0, 0)).2).1, (W ((W (s1 + 1)) + 1)), (((((b1000.set s5.toNat (s1, ((b1000.getD s5.toNat (0, 0, 0, 0)).2).1, (((b1000.getD s5.toNat (0, 0, 0, 0)).2).2))).set s5.toNat (((b1000.set s5.toNat (s1, ((b1000.getD s5.toNat (0, 0, 0, 0)).2).1, (((b1000.getD s5.toNat (0, 0, 0, 0)).2).2))).getD s5.toNat (0, 0, 0, 0)).1, (W (s1 + 1)), ((((b1000.set s5.toNat (s1, ((b1000.getD s5.toNat (0, 0, 0, 0)).2).1, (((b1000.getD s5.toNat (0, 0, 0, 0)).2).2))).getD s5.toNat (0, 0, 0, 0)).2).2))).getD s5.toNat (0, 0, 0, 0)).2).2).2)).getD s5.toNat (0, 0, 0, 0)).2).2).1, (W ((W ((W (s1 + 1)) + 1)) + 1))))))))))))
  else
    k0 s1 b1000
abbrev f36B_L2H : Tm := ⟨[(0, .k (.hw 1000)), (1, .d hI), (5, .d hI)], [(1000, .arr 30 hN false)], []⟩
abbrev f36B_L2X0 : Tm := ⟨[(1, .d hI)], [(1000, .arr 30 hN false)], []⟩
abbrev f36B_L2O : List (Exit × Tm) := [(.exit 0, f36B_L2X0)]
def f36B_L2U {α : Type} (n : Nat) (v : f36B_L2H.den) (f : f36B_L2H.den → Option α) (ks : KS α f36B_L2O) : Option α := f36B_L2B n v.1.2.1 v.1.2.2.1 v.2.1 (fun s1 s5 b1000 => f (((), s1, s5, ()), (b1000, ()))) (fun w0 w1 => ks.1 ((w0, ()), (w1, ())))
def f36B_L2 {α : Type} (n m : Nat) (s1 : Int) (s5 : Int) (b1000 : List (Int × Int × Int × Int)) (k0 : Int → (List (Int × Int × Int × Int)) → Option α) : Option α := rounds (f36B_L2U n) m (((), s1, s5, ()), (b1000, ())) (fun w => k0 w.1.1 w.2.1, ())
theorem f36B_L2_0 {α : Type} (n : Nat) (s1 : Int) (s5 : Int) (b1000 : List (Int × Int × Int × Int)) (k0 : Int → (List (Int × Int × Int × Int)) → Option α) : f36B_L2 (α := α) n 0 s1 s5 b1000 k0 = none := rfl
theorem f36B_L2_s {α : Type} (n m : Nat) (s1 : Int) (s5 : Int) (b1000 : List (Int × Int × Int × Int)) (k0 : Int → (List (Int × Int × Int × Int)) → Option α) : f36B_L2 (α := α) n (m + 1) s1 s5 b1000 k0 = f36B_L2B n s1 s5 b1000 (fun s1 s5 b1000 => f36B_L2 n m s1 s5 b1000 k0) k0 := rfl
def f36B (n : Nat) (a0 : List (Int × Int × Int × Int)) (a1 : Int) : Option (Int × (List (Int × Int × Int × Int))) :=
  f36B_L2 n n a1 0 a0
    (fun z_1 z_2 => (
      some (z_1, z_2)))
def f36B_E (n : Nat) : Ent3 := ⟨36, [.one (.own 30 hN), .im hI], [[.im hI]], fun x => f36B n x.1 x.2⟩
def f36B_D (α : Type) (n : Nat) : D3 α := { reg := [], join := [], loop := [(2, ⟨f36B_L2H, f36B_L2O, rounds (f36B_L2U n) n⟩)] }
theorem f36B_ents (α : Type) (n : Nat) : AllS Try.prog (entsOf (f36B_D α n).reg) := trivial
theorem f36B_L2_d (α : Type) (n : Nat) : D3.OK Try.prog ⟨41, []⟩ (f36B_D α n) ((bodyOf Try.f36).at [1, 0, 1, 0, 0]) :=
  D3.OK.mk3 (f36B_ents α n) (show loopsOf ((bodyOf Try.f36).at [1, 0, 1, 0, 0]) = [] by kernel_rfl) trivial
theorem f36B_L2_ok (α : Type) (n : Nat) : LO.Sound (α := α) Try.prog ⟨41, []⟩ ⟨f36B_L2H, f36B_L2O, rounds (f36B_L2U n) n⟩ (.loop ((bodyOf Try.f36).at [1, 0, 1, 0, 0])) :=
  loop_ok (tyOf_ok _) prog_fol (f36B_L2U n) (f36B_L2_d α n) (by intro v f ks; kernel_rfl) n
theorem f36B_d (α : Type) (n : Nat) : D3.OK Try.prog ⟨41, []⟩ (f36B_D α n) (bodyOf Try.f36) :=
  D3.OK.mk3 (f36B_ents α n) (show loopsOf (bodyOf Try.f36) = [(2, .loop ((bodyOf Try.f36).at [1, 0, 1, 0, 0]))] by kernel_rfl) ⟨look_sound rfl (f36B_L2_ok α n), trivial⟩
theorem f36B_ok (n : Nat) : (f36B_E n).Sound Try.prog :=
  fn_okB (tyOf_ok _) prog_fol (f36B_D _ n) (show Try.prog.funcs[36]? = some Try.f36 by kernel_rfl) (by kernel_rfl) (show Try.f36.body = some (bodyOf Try.f36) by kernel_rfl) rfl rfl (Nat.le_of_ble_eq_true rfl) (f36B_d _ n) (by intro x; kernel_rfl) 

def f18B (n : Nat) (a0 : List (Int × Int × Int × Int)) (a1 : Int) : Option (Int × (List (Int × Int × Int × Int))) :=
  ob (f36B n a0 a1) fun r_1 =>
  gd (Nat.beq r_1.2.length a0.length && true) (
    some (r_1.1, r_1.2))
def f18B_E (n : Nat) : Ent3 := ⟨18, [.mix [.own 30 hN], .im hI], [[.im hI]], fun x => f18B n x.1 x.2⟩
def f18B_D (α : Type) (n : Nat) : D3 α := { reg := [(1, { ops := [(3, { entB := some (f36B_E n), hb := 310 })] })], join := [], loop := [] }
theorem f18B_ents (α : Type) (n : Nat) : AllS Try.prog (entsOf (f18B_D α n).reg) := ⟨f36B_ok n, trivial⟩
theorem f18B_d (α : Type) (n : Nat) : D3.OK Try.prog ⟨10, []⟩ (f18B_D α n) (bodyOf Try.f18) :=
  D3.OK.mk3 (f18B_ents α n) (show loopsOf (bodyOf Try.f18) = [] by kernel_rfl) trivial
theorem f18B_ok (n : Nat) : (f18B_E n).Sound Try.prog :=
  fn_okB (tyOf_ok _) prog_fol (f18B_D _ n) (show Try.prog.funcs[18]? = some Try.f18 by kernel_rfl) (by kernel_rfl) (show Try.f18.body = some (bodyOf Try.f18) by kernel_rfl) rfl rfl (Nat.le_of_ble_eq_true rfl) (f18B_d _ n) (by intro x; kernel_rfl) 

def f19B (n : Nat) (a0 : (List (Int × Int × Int × Int)) × Int) (a1 : Int) : Option (Int × (List (Int × Int × Int × Int))) :=
  ob (f36B n a0.1 a1) fun r_1 =>
  gd (Nat.beq r_1.2.length a0.1.length && true) (
    some (r_1.1, r_1.2))
def f19B_E (n : Nat) : Ent3 := ⟨19, [.mix [.own 30 hN, .im hI], .im hI], [[.im hI]], fun x => f19B n x.1 x.2⟩
def f19B_D (α : Type) (n : Nat) : D3 α := { reg := [(1, { ops := [(3, { entB := some (f36B_E n), hb := 310 })] })], join := [], loop := [] }
theorem f19B_ents (α : Type) (n : Nat) : AllS Try.prog (entsOf (f19B_D α n).reg) := ⟨f36B_ok n, trivial⟩
theorem f19B_d (α : Type) (n : Nat) : D3.OK Try.prog ⟨10, []⟩ (f19B_D α n) (bodyOf Try.f19) :=
  D3.OK.mk3 (f19B_ents α n) (show loopsOf (bodyOf Try.f19) = [] by kernel_rfl) trivial
theorem f19B_ok (n : Nat) : (f19B_E n).Sound Try.prog :=
  fn_okB (tyOf_ok _) prog_fol (f19B_D _ n) (show Try.prog.funcs[19]? = some Try.f19 by kernel_rfl) (by kernel_rfl) (show Try.f19.body = some (bodyOf Try.f19) by kernel_rfl) rfl rfl (Nat.le_of_ble_eq_true rfl) (f19B_d _ n) (by intro x; kernel_rfl) 

def f37_L2B {α : Type} (n : Nat) (s0 : List (Int × Int × Int × Int)) (s1 : Int) (s5 : Int) (f : (List (Int × Int × Int × Int)) → Int → Int → Option α) (k0 : Int → Option α) (k1 : Int → Option α) : Option α :=
  bif (decide (s5 < (s0.length : Int))) then
    gd (decide (0 ≤ s5) && decide (s5 < (s0.length : Int))) (
      let x_1 := s0.getD s5.toNat (0, 0, 0, 0)
      bif (x_1.1 != s1) then
        k0 (-1)
      else
        gd (decide (0 ≤ s5) && decide (s5 < (s0.length : Int))) (
          let x_2 := s0.getD s5.toNat (0, 0, 0, 0)
          bif (x_2.2.1 != (W (s1 + 1))) then
            k0 (-1)
          else
            gd (decide (0 ≤ s5) && decide (s5 < (s0.length : Int))) (
              let x_3 := s0.getD s5.toNat (0, 0, 0, 0)
              bif (x_3.2.2.1 != (W ((W (s1 + 1)) + 1))) then
                k0 (-1)
              else
                gd (decide (0 ≤ s5) && decide (s5 < (s0.length : Int))) (
                  let x_4 := s0.getD s5.toNat (0, 0, 0, 0)
                  bif (x_4.2.2.2 != (W ((W ((W (s1 + 1)) + 1)) + 1))) then
                    k0 (-1)
                  else
                    f s0 (W ((W ((W ((W (s1 + 1)) + 1)) + 1)) + 1)) (W (s5 + 1))))))
  else
    k1 s1
abbrev f37_L2H : Tm := ⟨[(0, .d hNs), (1, .d hI), (5, .d hI)], [], []⟩
abbrev f37_L2X0 : Tm := ⟨[(4, .d hI)], [], []⟩
abbrev f37_L2X1 : Tm := ⟨[(1, .d hI)], [], []⟩
abbrev f37_L2O : List (Exit × Tm) := [(.ret, f37_L2X0), (.exit 0, f37_L2X1)]
def f37_L2U {α : Type} (n : Nat) (v : f37_L2H.den) (f : f37_L2H.den → Option α) (ks : KS α f37_L2O) : Option α := f37_L2B n v.1.1 v.1.2.1 v.1.2.2.1 (fun s0 s1 s5 => f ((s0, s1, s5, ()), ())) (fun w0 => ks.1 ((w0, ()), ())) (fun w0 => ks.2.1 ((w0, ()), ()))
def f37_L2 {α : Type} (n m : Nat) (s0 : List (Int × Int × Int × Int)) (s1 : Int) (s5 : Int) (k0 : Int → Option α) (k1 : Int → Option α) : Option α := rounds (f37_L2U n) m ((s0, s1, s5, ()), ()) (fun w => k0 w.1.1, fun w => k1 w.1.1, ())
theorem f37_L2_0 {α : Type} (n : Nat) (s0 : List (Int × Int × Int × Int)) (s1 : Int) (s5 : Int) (k0 : Int → Option α) (k1 : Int → Option α) : f37_L2 (α := α) n 0 s0 s1 s5 k0 k1 = none := rfl
theorem f37_L2_s {α : Type} (n m : Nat) (s0 : List (Int × Int × Int × Int)) (s1 : Int) (s5 : Int) (k0 : Int → Option α) (k1 : Int → Option α) : f37_L2 (α := α) n (m + 1) s0 s1 s5 k0 k1 = f37_L2B n s0 s1 s5 (fun s0 s1 s5 => f37_L2 n m s0 s1 s5 k0 k1) k0 k1 := rfl
def f37 (n : Nat) (a0 : List (Int × Int × Int × Int)) (a1 : Int) : Option Int :=
  f37_L2 n n a0 a1 0
    (fun z_5 => (
      some z_5))
    (fun z_6 => (
      some z_6))
def f37_E (n : Nat) : Ent := ⟨37, [hNs, hI], [hI], fun x => f37 n x.1 x.2⟩
def f37_D (α : Type) (n : Nat) : D3 α := { reg := [], join := [], loop := [(2, ⟨f37_L2H, f37_L2O, rounds (f37_L2U n) n⟩)] }
theorem f37_ents (α : Type) (n : Nat) : AllS Try.prog (entsOf (f37_D α n).reg) := trivial
theorem f37_L2_d (α : Type) (n : Nat) : D3.OK Try.prog ⟨49, []⟩ (f37_D α n) ((bodyOf Try.f37).at [1, 0, 1, 0, 0]) :=
  D3.OK.mk3 (f37_ents α n) (show loopsOf ((bodyOf Try.f37).at [1, 0, 1, 0, 0]) = [] by kernel_rfl) trivial
theorem f37_L2_ok (α : Type) (n : Nat) : LO.Sound (α := α) Try.prog ⟨49, []⟩ ⟨f37_L2H, f37_L2O, rounds (f37_L2U n) n⟩ (.loop ((bodyOf Try.f37).at [1, 0, 1, 0, 0])) :=
  loop_ok (tyOf_ok _) prog_fol (f37_L2U n) (f37_L2_d α n) (by intro v f ks; kernel_rfl) n
theorem f37_d (α : Type) (n : Nat) : D3.OK Try.prog ⟨49, []⟩ (f37_D α n) (bodyOf Try.f37) :=
  D3.OK.mk3 (f37_ents α n) (show loopsOf (bodyOf Try.f37) = [(2, .loop ((bodyOf Try.f37).at [1, 0, 1, 0, 0]))] by kernel_rfl) ⟨look_sound rfl (f37_L2_ok α n), trivial⟩
theorem f37_ok (n : Nat) : (f37_E n).Sound Try.prog :=
  fn_ok (tyOf_ok _) prog_fol (f37_D _ n) (show Try.prog.funcs[37]? = some Try.f37 by kernel_rfl) (by kernel_rfl) (show Try.f37.body = some (bodyOf Try.f37) by kernel_rfl) rfl rfl (Nat.le_of_ble_eq_true rfl) (f37_d _ n) (by intro x; kernel_rfl) 

def f20 (n : Nat) (a0 : (List (Int × Int × Int × Int)) × Int) (a1 : Int) : Option Int :=
  ob (f37 n a0.1 a1) fun r_1 =>
  bif (decide (r_1 < 0)) then
    some (-1)
  else
    some r_1
def f20_E (n : Nat) : Ent := ⟨20, [(.st (.pair hNs hI)), hI], [hI], fun x => f20 n x.1 x.2⟩
def f20_D (α : Type) (n : Nat) : D3 α := { reg := [(1, { ops := [(3, { ent := some (f37_E n) })] })], join := [], loop := [] }
theorem f20_ents (α : Type) (n : Nat) : AllS Try.prog (entsOf (f20_D α n).reg) := ⟨f37_ok n, trivial⟩
theorem f20_d (α : Type) (n : Nat) : D3.OK Try.prog ⟨12, []⟩ (f20_D α n) (bodyOf Try.f20) :=
  D3.OK.mk3 (f20_ents α n) (show loopsOf (bodyOf Try.f20) = [] by kernel_rfl) trivial
theorem f20_ok (n : Nat) : (f20_E n).Sound Try.prog :=
  fn_ok (tyOf_ok _) prog_fol (f20_D _ n) (show Try.prog.funcs[20]? = some Try.f20 by kernel_rfl) (by kernel_rfl) (show Try.f20.body = some (bodyOf Try.f20) by kernel_rfl) rfl rfl (Nat.le_of_ble_eq_true rfl) (f20_d _ n) (by intro x; kernel_rfl) 

def f16b_L6B {α : Type} (n : Nat) (s19 : List (Int × Int × Int × Int)) (s20 : Int) (s21 : Int) (c2_1 : Int) (b16 : List (Int × Int × Int × Int)) (b17 : List Int) (f : (List (Int × Int × Int × Int)) → Int → Int → Int → (List (Int × Int × Int × Int)) → (List Int) → Option α) (k0 : Int → (List (Int × Int × Int × Int)) → Option α) : Option α :=
  bif (decide (s21 < s20)) then
    gd (decide (0 ≤ s21) && decide (s21 < (s19.length : Int))) (
      let x_2 := s19.getD s21.toNat (0, 0, 0, 0)
      let J_9 := fun (y_4 : Int) => (
        let J_8 := fun (y_6 : Int) => (
          ob (f35 n b16 (x_2.1, y_4, y_6, x_2.2.2.2)) fun r_7 =>
          bif (decide (r_7 < 0)) then
            gd (decide ((b16.length + 1) * 32 ≤ 140737488355328)) (
              gd (decide ((b17.length + 1) * 8 ≤ 140737488355328)) (
                f s19 s20 (W (s21 + 1)) c2_1 (b16 ++ [(x_2.1, y_4, y_6, x_2.2.2.2)]) (b17 ++ [(b16.length : Int)])))
          else
            gd (decide ((b17.length + 1) * 8 ≤ 140737488355328)) (
              f s19 s20 (W (s21 + 1)) c2_1 b16 (b17 ++ [r_7])))
        ob (f34 n (x_2.1, y_4, x_2.2.2)) fun r_5 =>
        bif (decide (r_5 > 1)) then
          gd (decide (0 ≤ x_2.2.2.1) && decide (x_2.2.2.1 < (b17.length : Int))) (
            gd (decide (x_2.2.2.1.toNat < b17.length)) (
              J_8 (b17.getD x_2.2.2.1.toNat 0)))
        else
          J_8 x_2.2.2.1)
      ob (f34 n x_2) fun r_3 =>
      bif (decide (r_3 > 0)) then
        gd (decide (0 ≤ x_2.2.1) && decide (x_2.2.1 < (b17.length : Int))) (
          gd (decide (x_2.2.1.toNat < b17.length)) (
            J_9 (b17.getD x_2.2.1.toNat 0)))
      else
        J_9 x_2.2.1)
  else
    k0 c2_1 b16
abbrev f16b_L6H : Tm := ⟨[(2, .k (.hp 2 0 0)), (5, .k (.hw 16)), (6, .k (.hw 17)), (19, .d hNs), (20, .d hI), (21, .d hI)], [(2, .var 42 true false [.d .nil, .d hI]), (16, .arr 30 hN false), (17, .arr 3 hI false)], [1, 8, 52, 56]⟩
abbrev f16b_L6X0 : Tm := ⟨[(2, .k (.hp 2 0 0)), (5, .k (.hw 16))], [(2, .var 42 true false [.d .nil, .d hI]), (16, .arr 30 hN false)], [17]⟩
abbrev f16b_L6O : List (Exit × Tm) := [(.exit 0, f16b_L6X0)]
def f16b_L6U {α : Type} (n : Nat) (v : f16b_L6H.den) (f : f16b_L6H.den → Option α) (ks : KS α f16b_L6O) : Option α := f16b_L6B n v.1.2.2.2.1 v.1.2.2.2.2.1 v.1.2.2.2.2.2.1 v.2.1.2.1 v.2.2.1 v.2.2.2.1 (fun s19 s20 s21 c2_1 b16 b17 => f (((), (), (), s19, s20, s21, ()), (((), c2_1, ()), b16, b17, ()))) (fun w0 w1 => ks.1 (((), (), ()), (((), w0, ()), w1, ())))
def f16b_L6 {α : Type} (n m : Nat) (s19 : List (Int × Int × Int × Int)) (s20 : Int) (s21 : Int) (c2_1 : Int) (b16 : List (Int × Int × Int × Int)) (b17 : List Int) (k0 : Int → (List (Int × Int × Int × Int)) → Option α) : Option α := rounds (f16b_L6U n) m (((), (), (), s19, s20, s21, ()), (((), c2_1, ()), b16, b17, ())) (fun w => k0 w.2.1.2.1 w.2.2.1, ())
theorem f16b_L6_0 {α : Type} (n : Nat) (s19 : List (Int × Int × Int × Int)) (s20 : Int) (s21 : Int) (c2_1 : Int) (b16 : List (Int × Int × Int × Int)) (b17 : List Int) (k0 : Int → (List (Int × Int × Int × Int)) → Option α) : f16b_L6 (α := α) n 0 s19 s20 s21 c2_1 b16 b17 k0 = none := rfl
theorem f16b_L6_s {α : Type} (n m : Nat) (s19 : List (Int × Int × Int × Int)) (s20 : Int) (s21 : Int) (c2_1 : Int) (b16 : List (Int × Int × Int × Int)) (b17 : List Int) (k0 : Int → (List (Int × Int × Int × Int)) → Option α) : f16b_L6 (α := α) n (m + 1) s19 s20 s21 c2_1 b16 b17 k0 = f16b_L6B n s19 s20 s21 c2_1 b16 b17 (fun s19 s20 s21 c2_1 b16 b17 => f16b_L6 n m s19 s20 s21 c2_1 b16 b17 k0) k0 := rfl
abbrev f16b_J10 : Tm := ⟨[(2, .k (.hp 2 0 0)), (5, .k (.hw 16)), (6, .k (.hw 17)), (8, .k (.hp 8 0 0)), (19, .d hNs), (20, .d hI), (21, .d hI)], [(2, .var 42 true false [.d .nil, .d hI]), (8, .var 30 true false [.d hI, .d hI, .d hI, .d hI]), (16, .arr 30 hN false), (17, .arr 3 hI false)], []⟩
abbrev f16b_J12 : Tm := ⟨[(2, .k (.hp 2 0 0)), (5, .k (.hw 16)), (6, .k (.hw 17)), (8, .k (.hp 8 0 0)), (19, .d hNs), (20, .d hI), (21, .d hI)], [(2, .var 42 true false [.d .nil, .d hI]), (8, .var 30 true false [.d hI, .d hI, .d hI, .d hI]), (16, .arr 30 hN false), (17, .arr 3 hI false)], []⟩
def f16b (n : Nat) (a0 : List (Int × Int × Int × Int)) : Option (((List (Int × Int × Int × Int)) × Int) × Int) :=
  ob (f23 n a0) fun r_1 =>
  bif (r_1 != 0) then
    some (([], 0), r_1)
  else
    f16b_L6 n n a0 (a0.length : Int) 0 0 [] []
      (fun z_10 z_11 => (
        some ((z_11, (W ((z_11.length : Int) - 1))), 0)))
def f16b_E (n : Nat) : Ent := ⟨16, [hE], [(.st (.pair hNs hI)), hI], fun x => f16b n x⟩
def f16b_D (α : Type) (n : Nat) : D3 α := { reg := [(1, { ops := [(1, { ent := some (f23_E n) })] }),
    (4, { ops := [(0, { sh := some hN }), (1, { sh := some hI })] }),
    (8, { ops := [(1, { ent := some (f34_E n) })] }),
    (10, { ops := [(1, { ent := some (f34_E n) })] }),
    (12, { ops := [(2, { ent := some (f35_E n) })] }),
    (14, { ops := [(4, { sh := some hN })] }),
    (15, { ops := [(2, { sh := some hI })] })], join := [(10, f16b_J10), (12, f16b_J12)], loop := [(6, ⟨f16b_L6H, f16b_L6O, rounds (f16b_L6U n) n⟩)] }
theorem f16b_ents (α : Type) (n : Nat) : AllS Try.prog (entsOf (f16b_D α n).reg) := ⟨f23_ok n, f34_ok n, f34_ok n, f35_ok n, trivial⟩
theorem f16b_L6_d (α : Type) (n : Nat) : D3.OK Try.prog ⟨64, []⟩ (f16b_D α n) ((bodyOf Try.f16).at [1, 1, 1, 0, 1, 0, 0]) :=
  D3.OK.mk3 (f16b_ents α n) (show loopsOf ((bodyOf Try.f16).at [1, 1, 1, 0, 1, 0, 0]) = [] by kernel_rfl) trivial
theorem f16b_L6_ok (α : Type) (n : Nat) : LO.Sound (α := α) Try.prog ⟨64, []⟩ ⟨f16b_L6H, f16b_L6O, rounds (f16b_L6U n) n⟩ (.loop ((bodyOf Try.f16).at [1, 1, 1, 0, 1, 0, 0])) :=
  loop_ok (tyOf_ok _) prog_fol (f16b_L6U n) (f16b_L6_d α n) (by intro v f ks; kernel_rfl) n
theorem f16b_d (α : Type) (n : Nat) : D3.OK Try.prog ⟨64, []⟩ (f16b_D α n) (bodyOf Try.f16) :=
  D3.OK.mk3 (f16b_ents α n) (show loopsOf (bodyOf Try.f16) = [(6, .loop ((bodyOf Try.f16).at [1, 1, 1, 0, 1, 0, 0]))] by kernel_rfl) ⟨look_sound rfl (f16b_L6_ok α n), trivial⟩
theorem f16b_ok (n : Nat) : (f16b_E n).Sound Try.prog :=
  fn_ok (tyOf_ok _) prog_fol (f16b_D _ n) (show Try.prog.funcs[16]? = some Try.f16 by kernel_rfl) (by kernel_rfl) (show Try.f16.body = some (bodyOf Try.f16) by kernel_rfl) rfl rfl (Nat.le_of_ble_eq_true rfl) (f16b_d _ n) (by intro x; kernel_rfl) 

def f36b_L2B {α : Type} (n : Nat) (s1 : Int) (s5 : Int) (f : Int → Int → Option α) (k0 : Int → Option α) : Option α :=
  bif (decide (s5 < 0)) then
    none
  else
    k0 s1
abbrev f36b_L2H : Tm := ⟨[(0, .d .nil), (1, .d hI), (5, .d hI)], [], []⟩
abbrev f36b_L2X0 : Tm := ⟨[(1, .d hI)], [], []⟩
abbrev f36b_L2O : List (Exit × Tm) := [(.exit 0, f36b_L2X0)]
def f36b_L2U {α : Type} (n : Nat) (v : f36b_L2H.den) (f : f36b_L2H.den → Option α) (ks : KS α f36b_L2O) : Option α := f36b_L2B n v.1.2.1 v.1.2.2.1 (fun s1 s5 => f (((), s1, s5, ()), ())) (fun w0 => ks.1 ((w0, ()), ()))
def f36b_L2 {α : Type} (n m : Nat) (s1 : Int) (s5 : Int) (k0 : Int → Option α) : Option α := rounds (f36b_L2U n) m (((), s1, s5, ()), ()) (fun w => k0 w.1.1, ())
theorem f36b_L2_0 {α : Type} (n : Nat) (s1 : Int) (s5 : Int) (k0 : Int → Option α) : f36b_L2 (α := α) n 0 s1 s5 k0 = none := rfl
theorem f36b_L2_s {α : Type} (n m : Nat) (s1 : Int) (s5 : Int) (k0 : Int → Option α) : f36b_L2 (α := α) n (m + 1) s1 s5 k0 = f36b_L2B n s1 s5 (fun s1 s5 => f36b_L2 n m s1 s5 k0) k0 := rfl
def f36b (n : Nat) (a0 : Unit) (a1 : Int) : Option Int :=
  f36b_L2 n n a1 0
    (fun z_1 => (
      some z_1))
def f36b_E (n : Nat) : Ent := ⟨36, [.nil, hI], [hI], fun x => f36b n x.1 x.2⟩
def f36b_D (α : Type) (n : Nat) : D3 α := { reg := [], join := [], loop := [(2, ⟨f36b_L2H, f36b_L2O, rounds (f36b_L2U n) n⟩)] }
theorem f36b_ents (α : Type) (n : Nat) : AllS Try.prog (entsOf (f36b_D α n).reg) := trivial
theorem f36b_L2_d (α : Type) (n : Nat) : D3.OK Try.prog ⟨41, []⟩ (f36b_D α n) ((bodyOf Try.f36).at [1, 0, 1, 0, 0]) :=
  D3.OK.mk3 (f36b_ents α n) (show loopsOf ((bodyOf Try.f36).at [1, 0, 1, 0, 0]) = [] by kernel_rfl) trivial
theorem f36b_L2_ok (α : Type) (n : Nat) : LO.Sound (α := α) Try.prog ⟨41, []⟩ ⟨f36b_L2H, f36b_L2O, rounds (f36b_L2U n) n⟩ (.loop ((bodyOf Try.f36).at [1, 0, 1, 0, 0])) :=
  loop_ok (tyOf_ok _) prog_fol (f36b_L2U n) (f36b_L2_d α n) (by intro v f ks; kernel_rfl) n
theorem f36b_d (α : Type) (n : Nat) : D3.OK Try.prog ⟨41, []⟩ (f36b_D α n) (bodyOf Try.f36) :=
  D3.OK.mk3 (f36b_ents α n) (show loopsOf (bodyOf Try.f36) = [(2, .loop ((bodyOf Try.f36).at [1, 0, 1, 0, 0]))] by kernel_rfl) ⟨look_sound rfl (f36b_L2_ok α n), trivial⟩
theorem f36b_ok (n : Nat) : (f36b_E n).Sound Try.prog :=
  fn_ok (tyOf_ok _) prog_fol (f36b_D _ n) (show Try.prog.funcs[36]? = some Try.f36 by kernel_rfl) (by kernel_rfl) (show Try.f36.body = some (bodyOf Try.f36) by kernel_rfl) rfl rfl (Nat.le_of_ble_eq_true rfl) (f36b_d _ n) (by intro x; kernel_rfl) 

def f19b (n : Nat) (a0 : Unit × Int) (a1 : Int) : Option Int :=
  ob (f36b n a0.1 a1) fun r_1 =>
  some r_1
def f19b_E (n : Nat) : Ent := ⟨19, [(.st (.pair .nil hI)), hI], [hI], fun x => f19b n x.1 x.2⟩
def f19b_D (α : Type) (n : Nat) : D3 α := { reg := [(1, { ops := [(3, { ent := some (f36b_E n) })] })], join := [], loop := [] }
theorem f19b_ents (α : Type) (n : Nat) : AllS Try.prog (entsOf (f19b_D α n).reg) := ⟨f36b_ok n, trivial⟩
theorem f19b_d (α : Type) (n : Nat) : D3.OK Try.prog ⟨10, []⟩ (f19b_D α n) (bodyOf Try.f19) :=
  D3.OK.mk3 (f19b_ents α n) (show loopsOf (bodyOf Try.f19) = [] by kernel_rfl) trivial
theorem f19b_ok (n : Nat) : (f19b_E n).Sound Try.prog :=
  fn_ok (tyOf_ok _) prog_fol (f19b_D _ n) (show Try.prog.funcs[19]? = some Try.f19 by kernel_rfl) (by kernel_rfl) (show Try.f19.body = some (bodyOf Try.f19) by kernel_rfl) rfl rfl (Nat.le_of_ble_eq_true rfl) (f19b_d _ n) (by intro x; kernel_rfl) 

def f6 (n : Nat) (a0 : List (Int × Int × Int × Int)) : Option Bool :=
  ob (f11 n a0 1048576) fun r_1 =>
  bif (decide (r_1 < 0)) then
    some true
  else
    ob (f13 n a0) fun r_2 =>
    ob (f15 n r_2) fun r_3 =>
    ob (f13B n a0) fun r_4 =>
    ob (f16B n r_4) fun r_5 =>
    caseS r_5 (fun r_6 =>
      ob (f17 n r_6.1 r_3.1) fun r_8 =>
      bif (!r_8) then
        some false
      else
        bif (r_6.2 != r_3.2) then
          some false
        else
          ob (f13 n a0) fun r_9 =>
          ob (f14 n r_4 r_9) fun r_10 =>
          bif (!r_10) then
            some false
          else
            ob (f18B n r_4 1) fun r_11 =>
            gd (Nat.beq r_11.2.length r_4.length && true) (
              bif (decide (r_11.1 < 0)) then
                some false
              else
                ob (f17 n r_6.1 r_3.1) fun r_12 =>
                bif (!r_12) then
                  some false
                else
                  bif (r_6.2 != r_3.2) then
                    some false
                  else
                    ob (f19B n (r_6.1.1, r_6.1.2) 1) fun r_13 =>
                    gd (Nat.beq r_13.2.length r_6.1.1.length && true) (
                      ob (f20 n (r_13.2, r_6.1.2) 1) fun r_14 =>
                      bif (decide (r_14 < 0)) then
                        some false
                      else
                        bif (r_14 != r_13.1) then
                          some false
                        else
                          ob (f13 n a0) fun r_15 =>
                          ob (f16b n r_15) fun r_16 =>
                          ob (f17 n r_16.1 r_3.1) fun r_17 =>
                          bif (!r_17) then
                            some false
                          else
                            bif (r_16.2 != r_3.2) then
                              some false
                            else
                              ob (f20 n (r_13.2, r_6.1.2) 1) fun r_18 =>
                              bif (decide (r_18 < 0)) then
                                some false
                              else
                                bif (r_18 != r_13.1) then
                                  some false
                                else
                                  some true))) (fun r_7 =>
      ob (f17 n ([], r_7.1.2) r_3.1) fun r_19 =>
      bif (!r_19) then
        some false
      else
        bif (r_7.2 != r_3.2) then
          some false
        else
          ob (f13 n a0) fun r_20 =>
          ob (f14 n r_4 r_20) fun r_21 =>
          bif (!r_21) then
            some false
          else
            ob (f18B n r_4 1) fun r_22 =>
            gd (Nat.beq r_22.2.length r_4.length && true) (
              bif (decide (r_22.1 < 0)) then
                some false
              else
                ob (f17 n ([], r_7.1.2) r_3.1) fun r_23 =>
                bif (!r_23) then
                  some false
                else
                  bif (r_7.2 != r_3.2) then
                    some false
                  else
                    ob (f19b n r_7.1 1) fun r_24 =>
                    ob (f20 n ([], r_7.1.2) 1) fun r_25 =>
                    bif (decide (r_25 < 0)) then
                      some false
                    else
                      bif (r_25 != r_24) then
                        some false
                      else
                        ob (f13 n a0) fun r_26 =>
                        ob (f16b n r_26) fun r_27 =>
                        ob (f17 n r_27.1 r_3.1) fun r_28 =>
                        bif (!r_28) then
                          some false
                        else
                          bif (r_27.2 != r_3.2) then
                            some false
                          else
                            ob (f20 n ([], r_7.1.2) 1) fun r_29 =>
                            bif (decide (r_29 < 0)) then
                              some false
                            else
                              bif (r_29 != r_24) then
                                some false
                              else
                                some true))
def f6_E (n : Nat) : Ent := ⟨6, [hE], [.bool], fun x => f6 n x⟩
def f6_D (α : Type) (n : Nat) : D3 α := { reg := [(2, { ops := [(2, { ent := some (f11_E n) })] }),
    (5, { ops := [(1, { ent := some (f13_E n) }), (2, { ent := some (f15_E n) })] }),
    (6, { ops := [(1, { entB := some (f13B_E n), hb := 310 })] }),
    (7, { ops := [(1, { entB := some (f16B_E n), hb := 320 })] }),
    (8, { ops := [(2, { ent := some (f17_E n) })] }),
    (10, { m := 3, ops := [(2, { ent := some (f13_E n) }), (3, { ent := some (f14_E n) })] }),
    (13, { ops := [(2, { entB := some (f18B_E n), hb := 330 })] }),
    (14, { ops := [(5, { ent := some (f17_E n) })] }),
    (17, { ops := [(2, { ent := some (f19b_E n), entB := some (f19B_E n), hb := 340 })] }),
    (19, { ops := [(2, { ent := some (f20_E n) })] }),
    (24, { ops := [(1, { ent := some (f13_E n) }), (2, { ent := some (f16b_E n) })] }),
    (25, { ops := [(2, { ent := some (f17_E n) })] }),
    (28, { ops := [(2, { ent := some (f20_E n) })] })], join := [], loop := [] }
theorem f6_ents (α : Type) (n : Nat) : AllS Try.prog (entsOf (f6_D α n).reg) := ⟨f11_ok n, f13_ok n, f15_ok n, f13B_ok n, f16B_ok n, f17_ok n, f13_ok n, f14_ok n, f18B_ok n, f17_ok n, f19b_ok n, f19B_ok n, f20_ok n, f13_ok n, f16b_ok n, f17_ok n, f20_ok n, trivial⟩
theorem f6_d (α : Type) (n : Nat) : D3.OK Try.prog ⟨96, []⟩ (f6_D α n) (bodyOf Try.f6) :=
  D3.OK.mk3 (f6_ents α n) (show loopsOf (bodyOf Try.f6) = [] by kernel_rfl) trivial
theorem f6_ok (n : Nat) : (f6_E n).Sound Try.prog :=
  fn_ok (tyOf_ok _) prog_fol (f6_D _ n) (show Try.prog.funcs[6]? = some Try.f6 by kernel_rfl) (by kernel_rfl) (show Try.f6.body = some (bodyOf Try.f6) by kernel_rfl) rfl rfl (Nat.le_of_ble_eq_true rfl) (f6_d _ n) (by intro x; kernel_rfl) 


end Go.Ev
