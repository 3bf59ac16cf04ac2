/- DERIVED. What the functions compute, and that they do. -/
import Derived.Test.YtcoilfmbghghpaaEe

set_option linter.all false
set_option linter.unusedVariables false
set_option linter.unusedSimpArgs false

namespace Go.Ev
open Go Go.Proofs Go.RowKit Go.Shelf
def f69 (n : Nat) (a0 : List Int) (a1 : Int) : Option Int :=
  bif (decide ((W (a1 - (a0.length : Int))) < 0)) then
    some (-1)
  else
    some (W (a1 - (a0.length : Int)))
def f69_E (n : Nat) : Ent := ⟨69, [hIs, hI], [hI], fun x => f69 n x.1 x.2⟩
def f69_D (α : Type) (n : Nat) : D3 α := { reg := [], join := [], loop := [] }
theorem f69_ents (α : Type) (n : Nat) : AllS Try.prog (entsOf (f69_D α n).reg) := trivial
theorem f69_d (α : Type) (n : Nat) : D3.OK Try.prog (tyOf Try.prog) ⟨12, []⟩ (f69_D α n) (bodyOf Try.f69) :=
  D3.OK.mk3 (f69_ents α n) (show loopsOf (bodyOf Try.f69) = [] by kernel_rfl) trivial
theorem f69_ok (n : Nat) : (f69_E n).Sound Try.prog :=
  fn_ok (tyOf_ok _) prog_fol (f69_D _ n) (show Try.prog.funcs[69]? = some Try.f69 by kernel_rfl) (by kernel_rfl) (show Try.f69.body = some (bodyOf Try.f69) by kernel_rfl) rfl rfl (Nat.le_of_ble_eq_true rfl) (f69_d _ n) (by intro x; kernel_rfl) 

def f20 (n : Nat) (a0 : Bool × (List Int) × (List Int)) (a1 : Int) : Option Int :=
  ob (f69 n a0.2.1 a1) fun r_1 =>
  bif (decide (r_1 < 0)) then
    some (-1)
  else
    ob (f69 n a0.2.2 r_1) fun r_2 =>
    bif (decide (r_2 < 0)) then
      some (-1)
    else
      some r_2
def f20_E (n : Nat) : Ent := ⟨20, [hR, hI], [hI], fun x => f20 n x.1 x.2⟩
def f20_D (α : Type) (n : Nat) : D3 α := { reg := [(1, ⟨0, [], [(3, { ent := some (f69_E n) })]⟩), (4, ⟨0, [], [(3, { ent := some (f69_E n) })]⟩)], join := [], loop := [] }
theorem f20_ents (α : Type) (n : Nat) : AllS Try.prog (entsOf (f20_D α n).reg) := ⟨f69_ok n, f69_ok n, trivial⟩
theorem f20_d (α : Type) (n : Nat) : D3.OK Try.prog (tyOf Try.prog) ⟨18, []⟩ (f20_D α n) (bodyOf Try.f20) :=
  D3.OK.mk3 (f20_ents α n) (show loopsOf (bodyOf Try.f20) = [] by kernel_rfl) trivial
theorem f20_ok (n : Nat) : (f20_E n).Sound Try.prog :=
  fn_ok (tyOf_ok _) prog_fol (f20_D _ n) (show Try.prog.funcs[20]? = some Try.f20 by kernel_rfl) (by kernel_rfl) (show Try.f20.body = some (bodyOf Try.f20) by kernel_rfl) rfl rfl (Nat.le_of_ble_eq_true rfl) (f20_d _ n) (by intro x; kernel_rfl) 

def f15_L5B {α : Type} (n : Nat) (s0 : List (Bool × (List Int) × (List Int))) (s1 : Int) (s5 : Int) (f : (List (Bool × (List Int) × (List Int))) → Int → Int → Option α) (k0 : Int → Option α) (k1 : Int → Option α) : Option α :=
  bif (decide (s5 < (s0.length : Int))) then
    gd (decide (0 ≤ s5) && decide (s5 < (s0.length : Int))) (
      let x_1 := s0.getD s5.toNat (false, [], [])
      ob (f20 n x_1 s1) fun r_2 =>
      bif (decide (r_2 < 0)) then
        k0 (-1)
      else
        f s0 r_2 (W (s5 + 1)))
  else
    k1 s1
abbrev f15_L5H : Tm := ⟨[(0, .d hRs), (1, .d hI), (5, .d hI)], [], [], []⟩
abbrev f15_L5X0 : Tm := ⟨[(4, .d hI)], [], [], []⟩
abbrev f15_L5X1 : Tm := ⟨[(1, .d hI)], [], [], []⟩
abbrev f15_L5O : List (Exit × Tm) := [(.ret, f15_L5X0), (.exit 0, f15_L5X1)]
def f15_L5U {α : Type} (n : Nat) (v : f15_L5H.den) (f : f15_L5H.den → Option α) (ks : KS α f15_L5O) : Option α := f15_L5B n v.1.1 v.1.2.1 v.1.2.2.1 (fun s0 s1 s5 => f ((s0, s1, s5, ()), ())) (fun w0 => ks.1 ((w0, ()), ())) (fun w0 => ks.2.1 ((w0, ()), ()))
def f15_L5 {α : Type} (n m : Nat) (s0 : List (Bool × (List Int) × (List Int))) (s1 : Int) (s5 : Int) (k0 : Int → Option α) (k1 : Int → Option α) : Option α := rounds (f15_L5U n) m ((s0, s1, s5, ()), ()) (fun w => k0 w.1.1, fun w => k1 w.1.1, ())
theorem f15_L5_0 {α : Type} (n : Nat) (s0 : List (Bool × (List Int) × (List Int))) (s1 : Int) (s5 : Int) (k0 : Int → Option α) (k1 : Int → Option α) : f15_L5 (α := α) n 0 s0 s1 s5 k0 k1 = none := rfl
theorem f15_L5_s {α : Type} (n m : Nat) (s0 : List (Bool × (List Int) × (List Int))) (s1 : Int) (s5 : Int) (k0 : Int → Option α) (k1 : Int → Option α) : f15_L5 (α := α) n (m + 1) s0 s1 s5 k0 k1 = f15_L5B n s0 s1 s5 (fun s0 s1 s5 => f15_L5 n m s0 s1 s5 k0 k1) k0 k1 := rfl
def f15 (n : Nat) (a0 : List (Bool × (List Int) × (List Int))) (a1 : Int) : Option Int :=
  bif (decide ((W (a1 - (a0.length : Int))) < 0)) then
    some (-1)
  else
    f15_L5 n n a0 (W (a1 - (a0.length : Int))) 0
      (fun z_3 => (
        some z_3))
      (fun z_4 => (
        some z_4))
def f15_E (n : Nat) : Ent := ⟨15, [hRs, hI], [hI], fun x => f15 n x.1 x.2⟩
def f15_D (α : Type) (n : Nat) : D3 α := { reg := [(7, ⟨0, [], [(5, { ent := some (f20_E n) })]⟩)], join := [], loop := [(5, ⟨f15_L5H, f15_L5O, rounds (f15_L5U n) n⟩)] }
theorem f15_ents (α : Type) (n : Nat) : AllS Try.prog (entsOf (f15_D α n).reg) := ⟨f20_ok n, trivial⟩
theorem f15_L5_d (α : Type) (n : Nat) : D3.OK Try.prog (tyOf Try.prog) ⟨27, []⟩ (f15_D α n) ((bodyOf Try.f15).at [1, 1, 1, 0, 1, 0, 0]) :=
  D3.OK.mk3 (f15_ents α n) (show loopsOf ((bodyOf Try.f15).at [1, 1, 1, 0, 1, 0, 0]) = [] by kernel_rfl) trivial
theorem f15_L5_ok (α : Type) (n : Nat) : LO.Sound (α := α) Try.prog ⟨27, []⟩ ⟨f15_L5H, f15_L5O, rounds (f15_L5U n) n⟩ (.loop ((bodyOf Try.f15).at [1, 1, 1, 0, 1, 0, 0])) :=
  loop_ok (tyOf_ok _) prog_fol (f15_L5U n) (f15_L5_d α n) (by intro v f ks; kernel_rfl) n
theorem f15_d (α : Type) (n : Nat) : D3.OK Try.prog (tyOf Try.prog) ⟨27, []⟩ (f15_D α n) (bodyOf Try.f15) :=
  D3.OK.mk3 (f15_ents α n) (show loopsOf (bodyOf Try.f15) = [(5, (.loop ((bodyOf Try.f15).at [1, 1, 1, 0, 1, 0, 0])))] by kernel_rfl) ⟨look_sound rfl (f15_L5_ok α n), trivial⟩
theorem f15_ok (n : Nat) : (f15_E n).Sound Try.prog :=
  fn_ok (tyOf_ok _) prog_fol (f15_D _ n) (show Try.prog.funcs[15]? = some Try.f15 by kernel_rfl) (by kernel_rfl) (show Try.f15.body = some (bodyOf Try.f15) by kernel_rfl) rfl rfl (Nat.le_of_ble_eq_true rfl) (f15_d _ n) (by intro x; kernel_rfl) 

def f71_L3B {α : Type} (n : Nat) (s0 : List Int) (s4 : Int) (b7 : List Int) (f : (List Int) → Int → (List Int) → Option α) (k0 : (List Int) → Option α) : Option α :=
  bif (decide (s4 < (s0.length : Int))) then
    gd (decide (0 ≤ s4) && decide (s4 < (s0.length : Int))) (
      gd (decide (0 ≤ s4) && decide (s4 < (b7.length : Int))) (
        gd (decide (s4.toNat < b7.length)) (
          f s0 (W (s4 + 1)) (b7.set s4.toNat (s0.getD s4.toNat 0)))))
  else
    k0 b7
abbrev f71_L3H : Tm := ⟨[(0, .d hIs), (3, .k (.hw 7)), (4, .d hI)], [(7, .arr 3 hI false)], [], []⟩
abbrev f71_L3X0 : Tm := ⟨[(3, .k (.hw 7))], [(7, .arr 3 hI false)], [], []⟩
abbrev f71_L3O : List (Exit × Tm) := [(.exit 0, f71_L3X0)]
def f71_L3U {α : Type} (n : Nat) (v : f71_L3H.den) (f : f71_L3H.den → Option α) (ks : KS α f71_L3O) : Option α := f71_L3B n v.1.1 v.1.2.2.1 v.2.1 (fun s0 s4 b7 => f ((s0, (), s4, ()), (b7, ()))) (fun w0 => ks.1 (((), ()), (w0, ())))
def f71_L3 {α : Type} (n m : Nat) (s0 : List Int) (s4 : Int) (b7 : List Int) (k0 : (List Int) → Option α) : Option α := rounds (f71_L3U n) m ((s0, (), s4, ()), (b7, ())) (fun w => k0 w.2.1, ())
theorem f71_L3_0 {α : Type} (n : Nat) (s0 : List Int) (s4 : Int) (b7 : List Int) (k0 : (List Int) → Option α) : f71_L3 (α := α) n 0 s0 s4 b7 k0 = none := rfl
theorem f71_L3_s {α : Type} (n m : Nat) (s0 : List Int) (s4 : Int) (b7 : List Int) (k0 : (List Int) → Option α) : f71_L3 (α := α) n (m + 1) s0 s4 b7 k0 = f71_L3B n s0 s4 b7 (fun s0 s4 b7 => f71_L3 n m s0 s4 b7 k0) k0 := rfl
def f71 (n : Nat) (a0 : List Int) : Option (List Int) :=
  gd (decide (0 ≤ (a0.length : Int)) && decide ((a0.length : Int) ≤ 4611686018427387904) && decide ((8 : Int) * (a0.length : Int) ≤ 281474976710656)) (
    f71_L3 n n a0 0 (List.replicate ((a0.length : Int).toNat) 0)
      (fun z_1 => (
        some z_1)))
def f71_E (n : Nat) : Ent := ⟨71, [hIs], [hIs], fun x => f71 n x⟩
def f71_D (α : Type) (n : Nat) : D3 α := { reg := [], join := [], loop := [(3, ⟨f71_L3H, f71_L3O, rounds (f71_L3U n) n⟩)] }
theorem f71_ents (α : Type) (n : Nat) : AllS Try.prog (entsOf (f71_D α n).reg) := trivial
theorem f71_L3_d (α : Type) (n : Nat) : D3.OK Try.prog (tyOf Try.prog) ⟨22, []⟩ (f71_D α n) ((bodyOf Try.f71).at [1, 1, 0, 1, 0, 0]) :=
  D3.OK.mk3 (f71_ents α n) (show loopsOf ((bodyOf Try.f71).at [1, 1, 0, 1, 0, 0]) = [] by kernel_rfl) trivial
theorem f71_L3_ok (α : Type) (n : Nat) : LO.Sound (α := α) Try.prog ⟨22, []⟩ ⟨f71_L3H, f71_L3O, rounds (f71_L3U n) n⟩ (.loop ((bodyOf Try.f71).at [1, 1, 0, 1, 0, 0])) :=
  loop_ok (tyOf_ok _) prog_fol (f71_L3U n) (f71_L3_d α n) (by intro v f ks; kernel_rfl) n
theorem f71_d (α : Type) (n : Nat) : D3.OK Try.prog (tyOf Try.prog) ⟨22, []⟩ (f71_D α n) (bodyOf Try.f71) :=
  D3.OK.mk3 (f71_ents α n) (show loopsOf (bodyOf Try.f71) = [(3, (.loop ((bodyOf Try.f71).at [1, 1, 0, 1, 0, 0])))] by kernel_rfl) ⟨look_sound rfl (f71_L3_ok α n), trivial⟩
theorem f71_ok (n : Nat) : (f71_E n).Sound Try.prog :=
  fn_ok (tyOf_ok _) prog_fol (f71_D _ n) (show Try.prog.funcs[71]? = some Try.f71 by kernel_rfl) (by kernel_rfl) (show Try.f71.body = some (bodyOf Try.f71) by kernel_rfl) rfl rfl (Nat.le_of_ble_eq_true rfl) (f71_d _ n) (by intro x; kernel_rfl) 

def f22 (n : Nat) (a0 : Bool × (List Int) × (List Int)) : Option (Bool × (List Int) × (List Int)) :=
  ob (f71 n a0.2.1) fun r_1 =>
  ob (f71 n a0.2.2) fun r_2 =>
  some (a0.1, r_1, r_2)
def f22_E (n : Nat) : Ent := ⟨22, [hR], [hR], fun x => f22 n x⟩
def f22_D (α : Type) (n : Nat) : D3 α := { reg := [(3, ⟨0, [], [(2, { ent := some (f71_E n) })]⟩), (4, ⟨0, [], [(2, { ent := some (f71_E n) })]⟩)], join := [], loop := [] }
theorem f22_ents (α : Type) (n : Nat) : AllS Try.prog (entsOf (f22_D α n).reg) := ⟨f71_ok n, f71_ok n, trivial⟩
theorem f22_d (α : Type) (n : Nat) : D3.OK Try.prog (tyOf Try.prog) ⟨16, []⟩ (f22_D α n) (bodyOf Try.f22) :=
  D3.OK.mk3 (f22_ents α n) (show loopsOf (bodyOf Try.f22) = [] by kernel_rfl) trivial
theorem f22_ok (n : Nat) : (f22_E n).Sound Try.prog :=
  fn_ok (tyOf_ok _) prog_fol (f22_D _ n) (show Try.prog.funcs[22]? = some Try.f22 by kernel_rfl) (by kernel_rfl) (show Try.f22.body = some (bodyOf Try.f22) by kernel_rfl) rfl rfl (Nat.le_of_ble_eq_true rfl) (f22_d _ n) (by intro x; kernel_rfl) 

def f17_L3B {α : Type} (n : Nat) (s0 : List (Bool × (List Int) × (List Int))) (s4 : Int) (b7 : List (Bool × (List Int) × (List Int))) (f : (List (Bool × (List Int) × (List Int))) → Int → (List (Bool × (List Int) × (List Int))) → Option α) (k0 : (List (Bool × (List Int) × (List Int))) → Option α) : Option α :=
  bif (decide (s4 < (s0.length : Int))) then
    gd (decide (0 ≤ s4) && decide (s4 < (s0.length : Int))) (
      let x_1 := s0.getD s4.toNat (false, [], [])
      ob (f22 n x_1) fun r_2 =>
      gd (decide (0 ≤ s4) && decide (s4 < (b7.length : Int))) (
        gd (decide (s4.toNat < b7.length)) (
          f s0 (W (s4 + 1)) (b7.set s4.toNat r_2))))
  else
    k0 b7
abbrev f17_L3H : Tm := ⟨[(0, .d hRs), (3, .k (.hw 7)), (4, .d hI)], [(7, .arr 33 hR false)], [], []⟩
abbrev f17_L3X0 : Tm := ⟨[(3, .k (.hw 7))], [(7, .arr 33 hR false)], [], []⟩
abbrev f17_L3O : List (Exit × Tm) := [(.exit 0, f17_L3X0)]
def f17_L3U {α : Type} (n : Nat) (v : f17_L3H.den) (f : f17_L3H.den → Option α) (ks : KS α f17_L3O) : Option α := f17_L3B n v.1.1 v.1.2.2.1 v.2.1 (fun s0 s4 b7 => f ((s0, (), s4, ()), (b7, ()))) (fun w0 => ks.1 (((), ()), (w0, ())))
def f17_L3 {α : Type} (n m : Nat) (s0 : List (Bool × (List Int) × (List Int))) (s4 : Int) (b7 : List (Bool × (List Int) × (List Int))) (k0 : (List (Bool × (List Int) × (List Int))) → Option α) : Option α := rounds (f17_L3U n) m ((s0, (), s4, ()), (b7, ())) (fun w => k0 w.2.1, ())
theorem f17_L3_0 {α : Type} (n : Nat) (s0 : List (Bool × (List Int) × (List Int))) (s4 : Int) (b7 : List (Bool × (List Int) × (List Int))) (k0 : (List (Bool × (List Int) × (List Int))) → Option α) : f17_L3 (α := α) n 0 s0 s4 b7 k0 = none := rfl
theorem f17_L3_s {α : Type} (n m : Nat) (s0 : List (Bool × (List Int) × (List Int))) (s4 : Int) (b7 : List (Bool × (List Int) × (List Int))) (k0 : (List (Bool × (List Int) × (List Int))) → Option α) : f17_L3 (α := α) n (m + 1) s0 s4 b7 k0 = f17_L3B n s0 s4 b7 (fun s0 s4 b7 => f17_L3 n m s0 s4 b7 k0) k0 := rfl
def f17 (n : Nat) (a0 : List (Bool × (List Int) × (List Int))) : Option (List (Bool × (List Int) × (List Int))) :=
  gd (decide (0 ≤ (a0.length : Int)) && decide ((a0.length : Int) ≤ 4611686018427387904) && decide ((56 : Int) * (a0.length : Int) ≤ 281474976710656)) (
    f17_L3 n n a0 0 (List.replicate ((a0.length : Int).toNat) (false, [], []))
      (fun z_3 => (
        some z_3)))
def f17_E (n : Nat) : Ent := ⟨17, [hRs], [hRs], fun x => f17 n x⟩
def f17_D (α : Type) (n : Nat) : D3 α := { reg := [(5, ⟨0, [], [(6, { ent := some (f22_E n) })]⟩)], join := [], loop := [(3, ⟨f17_L3H, f17_L3O, rounds (f17_L3U n) n⟩)] }
theorem f17_ents (α : Type) (n : Nat) : AllS Try.prog (entsOf (f17_D α n).reg) := ⟨f22_ok n, trivial⟩
theorem f17_L3_d (α : Type) (n : Nat) : D3.OK Try.prog (tyOf Try.prog) ⟨23, []⟩ (f17_D α n) ((bodyOf Try.f17).at [1, 1, 0, 1, 0, 0]) :=
  D3.OK.mk3 (f17_ents α n) (show loopsOf ((bodyOf Try.f17).at [1, 1, 0, 1, 0, 0]) = [] by kernel_rfl) trivial
theorem f17_L3_ok (α : Type) (n : Nat) : LO.Sound (α := α) Try.prog ⟨23, []⟩ ⟨f17_L3H, f17_L3O, rounds (f17_L3U n) n⟩ (.loop ((bodyOf Try.f17).at [1, 1, 0, 1, 0, 0])) :=
  loop_ok (tyOf_ok _) prog_fol (f17_L3U n) (f17_L3_d α n) (by intro v f ks; kernel_rfl) n
theorem f17_d (α : Type) (n : Nat) : D3.OK Try.prog (tyOf Try.prog) ⟨23, []⟩ (f17_D α n) (bodyOf Try.f17) :=
  D3.OK.mk3 (f17_ents α n) (show loopsOf (bodyOf Try.f17) = [(3, (.loop ((bodyOf Try.f17).at [1, 1, 0, 1, 0, 0])))] by kernel_rfl) ⟨look_sound rfl (f17_L3_ok α n), trivial⟩
theorem f17_ok (n : Nat) : (f17_E n).Sound Try.prog :=
  fn_ok (tyOf_ok _) prog_fol (f17_D _ n) (show Try.prog.funcs[17]? = some Try.f17 by kernel_rfl) (by kernel_rfl) (show Try.f17.body = some (bodyOf Try.f17) by kernel_rfl) rfl rfl (Nat.le_of_ble_eq_true rfl) (f17_d _ n) (by intro x; kernel_rfl) 

def f65 (n : Nat) (a0 : Int) (a1 : Int) (a2 : Int) : Option Bool :=
  bif (decide (a1 ≤ a0)) then
    some (decide (a0 ≤ a2))
  else
    some false
def f65_E (n : Nat) : Ent := ⟨65, [hI, hI, hI], [.bool], fun x => f65 n x.1 x.2.1 x.2.2⟩
def f65_D (α : Type) (n : Nat) : D3 α := { reg := [], join := [], loop := [] }
theorem f65_ents (α : Type) (n : Nat) : AllS Try.prog (entsOf (f65_D α n).reg) := trivial
theorem f65_d (α : Type) (n : Nat) : D3.OK Try.prog (tyOf Try.prog) ⟨15, []⟩ (f65_D α n) (bodyOf Try.f65) :=
  D3.OK.mk3 (f65_ents α n) (show loopsOf (bodyOf Try.f65) = [] by kernel_rfl) trivial
theorem f65_ok (n : Nat) : (f65_E n).Sound Try.prog :=
  fn_ok (tyOf_ok _) prog_fol (f65_D _ n) (show Try.prog.funcs[65]? = some Try.f65 by kernel_rfl) (by kernel_rfl) (show Try.f65.body = some (bodyOf Try.f65) by kernel_rfl) rfl rfl (Nat.le_of_ble_eq_true rfl) (f65_d _ n) (by intro x; kernel_rfl) 

def f126_L4B {α : Type} (n : Nat) (s0 : List Int) (s3 : Int) (f : (List Int) → Int → Option α) (k0 : Bool → Option α) (k1 : (List Int) → Option α) : Option α :=
  bif (decide (s3 < (s0.length : Int))) then
    gd (decide (0 ≤ s3) && decide (s3 < (s0.length : Int))) (
      ob (f65 n (s0.getD s3.toNat 0) 0 9999) fun r_1 =>
      bif (!r_1) then
        k0 false
      else
        f s0 (W (s3 + 1)))
  else
    k1 s0
abbrev f126_L4H : Tm := ⟨[(0, .d hIs), (3, .d hI)], [], [], []⟩
abbrev f126_L4X0 : Tm := ⟨[(2, .d .bool)], [], [], []⟩
abbrev f126_L4X1 : Tm := ⟨[(0, .d hIs)], [], [], []⟩
abbrev f126_L4O : List (Exit × Tm) := [(.ret, f126_L4X0), (.exit 0, f126_L4X1)]
def f126_L4U {α : Type} (n : Nat) (v : f126_L4H.den) (f : f126_L4H.den → Option α) (ks : KS α f126_L4O) : Option α := f126_L4B n v.1.1 v.1.2.1 (fun s0 s3 => f ((s0, s3, ()), ())) (fun w0 => ks.1 ((w0, ()), ())) (fun w0 => ks.2.1 ((w0, ()), ()))
def f126_L4 {α : Type} (n m : Nat) (s0 : List Int) (s3 : Int) (k0 : Bool → Option α) (k1 : (List Int) → Option α) : Option α := rounds (f126_L4U n) m ((s0, s3, ()), ()) (fun w => k0 w.1.1, fun w => k1 w.1.1, ())
theorem f126_L4_0 {α : Type} (n : Nat) (s0 : List Int) (s3 : Int) (k0 : Bool → Option α) (k1 : (List Int) → Option α) : f126_L4 (α := α) n 0 s0 s3 k0 k1 = none := rfl
theorem f126_L4_s {α : Type} (n m : Nat) (s0 : List Int) (s3 : Int) (k0 : Bool → Option α) (k1 : (List Int) → Option α) : f126_L4 (α := α) n (m + 1) s0 s3 k0 k1 = f126_L4B n s0 s3 (fun s0 s3 => f126_L4 n m s0 s3 k0 k1) k0 k1 := rfl
def f126 (n : Nat) (a0 : List Int) : Option Bool :=
  bif (decide ((a0.length : Int) > 4096)) then
    some false
  else
    f126_L4 n n a0 0
      (fun z_2 => (
        some z_2))
      (fun z_3 => (
        bif (decide ((z_3.length : Int) ≤ 40)) then
          bif ((z_3.length : Int) == 0) then
            some true
          else
            gd (decide (0 ≤ (W ((z_3.length : Int) - 1))) && decide ((W ((z_3.length : Int) - 1)) < (z_3.length : Int))) (
              some (decide ((z_3.getD ((W ((z_3.length : Int) - 1)).toNat) 0) > 0)))
        else
          some false))
def f126_E (n : Nat) : Ent := ⟨126, [hIs], [.bool], fun x => f126 n x⟩
def f126_D (α : Type) (n : Nat) : D3 α := { reg := [(6, ⟨0, [], [(4, { ent := some (f65_E n) })]⟩)], join := [], loop := [(4, ⟨f126_L4H, f126_L4O, rounds (f126_L4U n) n⟩)] }
theorem f126_ents (α : Type) (n : Nat) : AllS Try.prog (entsOf (f126_D α n).reg) := ⟨f65_ok n, trivial⟩
theorem f126_L4_d (α : Type) (n : Nat) : D3.OK Try.prog (tyOf Try.prog) ⟨36, []⟩ (f126_D α n) ((bodyOf Try.f126).at [1, 1, 0, 1, 0, 0]) :=
  D3.OK.mk3 (f126_ents α n) (show loopsOf ((bodyOf Try.f126).at [1, 1, 0, 1, 0, 0]) = [] by kernel_rfl) trivial
theorem f126_L4_ok (α : Type) (n : Nat) : LO.Sound (α := α) Try.prog ⟨36, []⟩ ⟨f126_L4H, f126_L4O, rounds (f126_L4U n) n⟩ (.loop ((bodyOf Try.f126).at [1, 1, 0, 1, 0, 0])) :=
  loop_ok (tyOf_ok _) prog_fol (f126_L4U n) (f126_L4_d α n) (by intro v f ks; kernel_rfl) n
theorem f126_d (α : Type) (n : Nat) : D3.OK Try.prog (tyOf Try.prog) ⟨36, []⟩ (f126_D α n) (bodyOf Try.f126) :=
  D3.OK.mk3 (f126_ents α n) (show loopsOf (bodyOf Try.f126) = [(4, (.loop ((bodyOf Try.f126).at [1, 1, 0, 1, 0, 0])))] by kernel_rfl) ⟨look_sound rfl (f126_L4_ok α n), trivial⟩
theorem f126_ok (n : Nat) : (f126_E n).Sound Try.prog :=
  fn_ok (tyOf_ok _) prog_fol (f126_D _ n) (show Try.prog.funcs[126]? = some Try.f126 by kernel_rfl) (by kernel_rfl) (show Try.f126.body = some (bodyOf Try.f126) by kernel_rfl) rfl rfl (Nat.le_of_ble_eq_true rfl) (f126_d _ n) (by intro x; kernel_rfl) 

def f185_L2B {α : Type} (n : Nat) (s0 : List Int) (s3 : Int) (f : (List Int) → Int → Option α) (k0 : (List Int) → Int → Option α) : Option α :=
  bif (decide (s3 > 0)) then
    gd (decide (0 ≤ (W (s3 - 1))) && decide ((W (s3 - 1)) < (s0.length : Int))) (
      bif ((s0.getD ((W (s3 - 1)).toNat) 0) == 0) then
        f s0 (W (s3 - 1))
      else
        k0 s0 s3)
  else
    k0 s0 s3
abbrev f185_L2H : Tm := ⟨[(0, .d hIs), (3, .d hI)], [], [], []⟩
abbrev f185_L2X0 : Tm := ⟨[(0, .d hIs), (3, .d hI)], [], [], []⟩
abbrev f185_L2O : List (Exit × Tm) := [(.exit 0, f185_L2X0)]
def f185_L2U {α : Type} (n : Nat) (v : f185_L2H.den) (f : f185_L2H.den → Option α) (ks : KS α f185_L2O) : Option α := f185_L2B n v.1.1 v.1.2.1 (fun s0 s3 => f ((s0, s3, ()), ())) (fun w0 w1 => ks.1 ((w0, w1, ()), ()))
def f185_L2 {α : Type} (n m : Nat) (s0 : List Int) (s3 : Int) (k0 : (List Int) → Int → Option α) : Option α := rounds (f185_L2U n) m ((s0, s3, ()), ()) (fun w => k0 w.1.1 w.1.2.1, ())
theorem f185_L2_0 {α : Type} (n : Nat) (s0 : List Int) (s3 : Int) (k0 : (List Int) → Int → Option α) : f185_L2 (α := α) n 0 s0 s3 k0 = none := rfl
theorem f185_L2_s {α : Type} (n m : Nat) (s0 : List Int) (s3 : Int) (k0 : (List Int) → Int → Option α) : f185_L2 (α := α) n (m + 1) s0 s3 k0 = f185_L2B n s0 s3 (fun s0 s3 => f185_L2 n m s0 s3 k0) k0 := rfl
def f185 (n : Nat) (a0 : List Int) : Option (List Int) :=
  f185_L2 n n a0 (a0.length : Int)
    (fun z_1 z_2 => (
      gd (decide (0 ≤ z_2) && decide (z_2 ≤ (z_1.length : Int))) (
        gd (decide ((0 + ((z_1.drop 0).take (z_2.toNat - 0)).length) * 8 ≤ 140737488355328)) (
          some ((z_1.drop 0).take (z_2.toNat - 0))))))
def f185_E (n : Nat) : Ent := ⟨185, [hIs], [hIs], fun x => f185 n x⟩
def f185_D (α : Type) (n : Nat) : D3 α := { reg := [(4, ⟨0, [], [(0, { sh := some hI })]⟩)], join := [], loop := [(2, ⟨f185_L2H, f185_L2O, rounds (f185_L2U n) n⟩)] }
theorem f185_ents (α : Type) (n : Nat) : AllS Try.prog (entsOf (f185_D α n).reg) := trivial
theorem f185_L2_d (α : Type) (n : Nat) : D3.OK Try.prog (tyOf Try.prog) ⟨23, []⟩ (f185_D α n) ((bodyOf Try.f185).at [1, 1, 0, 0, 0]) :=
  D3.OK.mk3 (f185_ents α n) (show loopsOf ((bodyOf Try.f185).at [1, 1, 0, 0, 0]) = [] by kernel_rfl) trivial
theorem f185_L2_ok (α : Type) (n : Nat) : LO.Sound (α := α) Try.prog ⟨23, []⟩ ⟨f185_L2H, f185_L2O, rounds (f185_L2U n) n⟩ (.loop ((bodyOf Try.f185).at [1, 1, 0, 0, 0])) :=
  loop_ok (tyOf_ok _) prog_fol (f185_L2U n) (f185_L2_d α n) (by intro v f ks; kernel_rfl) n
theorem f185_d (α : Type) (n : Nat) : D3.OK Try.prog (tyOf Try.prog) ⟨23, []⟩ (f185_D α n) (bodyOf Try.f185) :=
  D3.OK.mk3 (f185_ents α n) (show loopsOf (bodyOf Try.f185) = [(2, (.loop ((bodyOf Try.f185).at [1, 1, 0, 0, 0])))] by kernel_rfl) ⟨look_sound rfl (f185_L2_ok α n), trivial⟩
theorem f185_ok (n : Nat) : (f185_E n).Sound Try.prog :=
  fn_ok (tyOf_ok _) prog_fol (f185_D _ n) (show Try.prog.funcs[185]? = some Try.f185 by kernel_rfl) (by kernel_rfl) (show Try.f185.body = some (bodyOf Try.f185) by kernel_rfl) rfl rfl (Nat.le_of_ble_eq_true rfl) (f185_d _ n) (by intro x; kernel_rfl) 

def f175 (n : Nat) (a0 : Bool) : Option Int :=
  bif a0 then
    some 1
  else
    some 0
def f175_E (n : Nat) : Ent := ⟨175, [.bool], [hI], fun x => f175 n x⟩
def f175_D (α : Type) (n : Nat) : D3 α := { reg := [], join := [], loop := [] }
theorem f175_ents (α : Type) (n : Nat) : AllS Try.prog (entsOf (f175_D α n).reg) := trivial
theorem f175_d (α : Type) (n : Nat) : D3.OK Try.prog (tyOf Try.prog) ⟨4, []⟩ (f175_D α n) (bodyOf Try.f175) :=
  D3.OK.mk3 (f175_ents α n) (show loopsOf (bodyOf Try.f175) = [] by kernel_rfl) trivial
theorem f175_ok (n : Nat) : (f175_E n).Sound Try.prog :=
  fn_ok (tyOf_ok _) prog_fol (f175_D _ n) (show Try.prog.funcs[175]? = some Try.f175 by kernel_rfl) (by kernel_rfl) (show Try.f175.body = some (bodyOf Try.f175) by kernel_rfl) rfl rfl (Nat.le_of_ble_eq_true rfl) (f175_d _ n) (by intro x; kernel_rfl) 

def f127_L4B {α : Type} (n : Nat) (s0 : List Int) (s1 : List Int) (s5 : Int) (f : (List Int) → (List Int) → Int → Option α) (k0 : Int → Option α) (k1 : Unit → Option α) : Option α :=
  bif (decide (s5 ≥ 0)) then
    gd (decide (0 ≤ s5) && decide (s5 < (s0.length : Int))) (
      gd (decide (0 ≤ s5) && decide (s5 < (s1.length : Int))) (
        bif ((s0.getD s5.toNat 0) != (s1.getD s5.toNat 0)) then
          gd (decide (0 ≤ s5) && decide (s5 < (s0.length : Int))) (
            gd (decide (0 ≤ s5) && decide (s5 < (s1.length : Int))) (
              ob (f175 n (decide ((s0.getD s5.toNat 0) > (s1.getD s5.toNat 0)))) fun r_2 =>
              k0 (W ((W (2 * r_2)) - 1))))
        else
          f s0 s1 (W (s5 - 1))))
  else
    k1 ()
abbrev f127_L4H : Tm := ⟨[(0, .d hIs), (1, .d hIs), (5, .d hI)], [], [], []⟩
abbrev f127_L4X0 : Tm := ⟨[(4, .d hI)], [], [], []⟩
abbrev f127_L4X1 : Tm := ⟨[], [], [], []⟩
abbrev f127_L4O : List (Exit × Tm) := [(.ret, f127_L4X0), (.exit 0, f127_L4X1)]
def f127_L4U {α : Type} (n : Nat) (v : f127_L4H.den) (f : f127_L4H.den → Option α) (ks : KS α f127_L4O) : Option α := f127_L4B n v.1.1 v.1.2.1 v.1.2.2.1 (fun s0 s1 s5 => f ((s0, s1, s5, ()), ())) (fun w0 => ks.1 ((w0, ()), ())) (fun _ => ks.2.1 ((), ()))
def f127_L4 {α : Type} (n m : Nat) (s0 : List Int) (s1 : List Int) (s5 : Int) (k0 : Int → Option α) (k1 : Unit → Option α) : Option α := rounds (f127_L4U n) m ((s0, s1, s5, ()), ()) (fun w => k0 w.1.1, fun w => k1 (), ())
theorem f127_L4_0 {α : Type} (n : Nat) (s0 : List Int) (s1 : List Int) (s5 : Int) (k0 : Int → Option α) (k1 : Unit → Option α) : f127_L4 (α := α) n 0 s0 s1 s5 k0 k1 = none := rfl
theorem f127_L4_s {α : Type} (n m : Nat) (s0 : List Int) (s1 : List Int) (s5 : Int) (k0 : Int → Option α) (k1 : Unit → Option α) : f127_L4 (α := α) n (m + 1) s0 s1 s5 k0 k1 = f127_L4B n s0 s1 s5 (fun s0 s1 s5 => f127_L4 n m s0 s1 s5 k0 k1) k0 k1 := rfl
def f127 (n : Nat) (a0 : List Int) (a1 : List Int) : Option Int :=
  bif ((a0.length : Int) != (a1.length : Int)) then
    ob (f175 n (decide ((a0.length : Int) > (a1.length : Int)))) fun r_1 =>
    some (W ((W (2 * r_1)) - 1))
  else
    f127_L4 n n a0 a1 (W ((a0.length : Int) - 1))
      (fun z_3 => (
        some z_3))
      (fun (_ : Unit) => (
        some 0))
def f127_E (n : Nat) : Ent := ⟨127, [hIs, hIs], [hI], fun x => f127 n x.1 x.2⟩
def f127_D (α : Type) (n : Nat) : D3 α := { reg := [(2, ⟨0, [], [(5, { ent := some (f175_E n) })]⟩), (6, ⟨8, [], []⟩), (7, ⟨8, [], [(9, { ent := some (f175_E n) })]⟩)], join := [], loop := [(4, ⟨f127_L4H, f127_L4O, rounds (f127_L4U n) n⟩)] }
theorem f127_ents (α : Type) (n : Nat) : AllS Try.prog (entsOf (f127_D α n).reg) := ⟨f175_ok n, f175_ok n, trivial⟩
theorem f127_L4_d (α : Type) (n : Nat) : D3.OK Try.prog (tyOf Try.prog) ⟨47, []⟩ (f127_D α n) ((bodyOf Try.f127).at [1, 1, 0, 1, 0, 0]) :=
  D3.OK.mk3 (f127_ents α n) (show loopsOf ((bodyOf Try.f127).at [1, 1, 0, 1, 0, 0]) = [] by kernel_rfl) trivial
theorem f127_L4_ok (α : Type) (n : Nat) : LO.Sound (α := α) Try.prog ⟨47, []⟩ ⟨f127_L4H, f127_L4O, rounds (f127_L4U n) n⟩ (.loop ((bodyOf Try.f127).at [1, 1, 0, 1, 0, 0])) :=
  loop_ok (tyOf_ok _) prog_fol (f127_L4U n) (f127_L4_d α n) (by intro v f ks; kernel_rfl) n
theorem f127_d (α : Type) (n : Nat) : D3.OK Try.prog (tyOf Try.prog) ⟨47, []⟩ (f127_D α n) (bodyOf Try.f127) :=
  D3.OK.mk3 (f127_ents α n) (show loopsOf (bodyOf Try.f127) = [(4, (.loop ((bodyOf Try.f127).at [1, 1, 0, 1, 0, 0])))] by kernel_rfl) ⟨look_sound rfl (f127_L4_ok α n), trivial⟩
theorem f127_ok (n : Nat) : (f127_E n).Sound Try.prog :=
  fn_ok (tyOf_ok _) prog_fol (f127_D _ n) (show Try.prog.funcs[127]? = some Try.f127 by kernel_rfl) (by kernel_rfl) (show Try.f127.body = some (bodyOf Try.f127) by kernel_rfl) rfl rfl (Nat.le_of_ble_eq_true rfl) (f127_d _ n) (by intro x; kernel_rfl) 

def f190_L2B {α : Type} (n : Nat) (s0 : Int) (b4 : List Int) (f : Int → (List Int) → Option α) (k0 : (List Int) → Option α) : Option α :=
  bif (decide (s0 > 0)) then
    gd (decide ((b4.length + 1) * 8 ≤ 140737488355328)) (
      f (W (Int.tdiv s0 10000)) (b4 ++ [(Int.tmod s0 10000)]))
  else
    k0 b4
abbrev f190_L2H : Tm := ⟨[(0, .d hI), (3, .k (.hw 4))], [(4, .arr 3 hI false)], [10], []⟩
abbrev f190_L2X0 : Tm := ⟨[(3, .k (.hw 4))], [(4, .arr 3 hI false)], [], []⟩
abbrev f190_L2O : List (Exit × Tm) := [(.exit 0, f190_L2X0)]
def f190_L2U {α : Type} (n : Nat) (v : f190_L2H.den) (f : f190_L2H.den → Option α) (ks : KS α f190_L2O) : Option α := f190_L2B n v.1.1 v.2.1 (fun s0 b4 => f ((s0, (), ()), (b4, ()))) (fun w0 => ks.1 (((), ()), (w0, ())))
def f190_L2 {α : Type} (n m : Nat) (s0 : Int) (b4 : List Int) (k0 : (List Int) → Option α) : Option α := rounds (f190_L2U n) m ((s0, (), ()), (b4, ())) (fun w => k0 w.2.1, ())
theorem f190_L2_0 {α : Type} (n : Nat) (s0 : Int) (b4 : List Int) (k0 : (List Int) → Option α) : f190_L2 (α := α) n 0 s0 b4 k0 = none := rfl
theorem f190_L2_s {α : Type} (n m : Nat) (s0 : Int) (b4 : List Int) (k0 : (List Int) → Option α) : f190_L2 (α := α) n (m + 1) s0 b4 k0 = f190_L2B n s0 b4 (fun s0 b4 => f190_L2 n m s0 b4 k0) k0 := rfl
def f190 (n : Nat) (a0 : Int) : Option (List Int) :=
  f190_L2 n n a0 []
    (fun z_1 => (
      some z_1))
def f190_E (n : Nat) : Ent := ⟨190, [hI], [hIs], fun x => f190 n x⟩
def f190_D (α : Type) (n : Nat) : D3 α := { reg := [(1, ⟨0, [], [(0, { sh := some hI })]⟩), (3, ⟨0, [], [(3, { sh := some hI })]⟩)], join := [], loop := [(2, ⟨f190_L2H, f190_L2O, rounds (f190_L2U n) n⟩)] }
theorem f190_ents (α : Type) (n : Nat) : AllS Try.prog (entsOf (f190_D α n).reg) := trivial
theorem f190_L2_d (α : Type) (n : Nat) : D3.OK Try.prog (tyOf Try.prog) ⟨15, []⟩ (f190_D α n) ((bodyOf Try.f190).at [1, 1, 0, 0, 0]) :=
  D3.OK.mk3 (f190_ents α n) (show loopsOf ((bodyOf Try.f190).at [1, 1, 0, 0, 0]) = [] by kernel_rfl) trivial
theorem f190_L2_ok (α : Type) (n : Nat) : LO.Sound (α := α) Try.prog ⟨15, []⟩ ⟨f190_L2H, f190_L2O, rounds (f190_L2U n) n⟩ (.loop ((bodyOf Try.f190).at [1, 1, 0, 0, 0])) :=
  loop_ok (tyOf_ok _) prog_fol (f190_L2U n) (f190_L2_d α n) (by intro v f ks; kernel_rfl) n
theorem f190_d (α : Type) (n : Nat) : D3.OK Try.prog (tyOf Try.prog) ⟨15, []⟩ (f190_D α n) (bodyOf Try.f190) :=
  D3.OK.mk3 (f190_ents α n) (show loopsOf (bodyOf Try.f190) = [(2, (.loop ((bodyOf Try.f190).at [1, 1, 0, 0, 0])))] by kernel_rfl) ⟨look_sound rfl (f190_L2_ok α n), trivial⟩
theorem f190_ok (n : Nat) : (f190_E n).Sound Try.prog :=
  fn_ok (tyOf_ok _) prog_fol (f190_D _ n) (show Try.prog.funcs[190]? = some Try.f190 by kernel_rfl) (by kernel_rfl) (show Try.f190.body = some (bodyOf Try.f190) by kernel_rfl) rfl rfl (Nat.le_of_ble_eq_true rfl) (f190_d _ n) (by intro x; kernel_rfl) 

def f154_L7B {α : Type} (n : Nat) (s0 : List Int) (s1 : List Int) (s6 : Int) (s7 : Int) (s8 : Int) (b16 : List Int) (f : (List Int) → (List Int) → Int → Int → Int → (List Int) → Option α) (k0 : (List Int) → (List Int) → Int → (List Int) → Option α) : Option α :=
  let J_3 := fun (_ : Unit) => (
    gd (decide (0 ≤ (W (s6 + s8))) && decide ((W (s6 + s8)) < (b16.length : Int))) (
      gd (decide ((W (s6 + s8)).toNat < b16.length)) (
        let J_2 := fun (y_1 : Int) => (
          gd (decide (0 ≤ (W (s6 + s8))) && decide ((W (s6 + s8)) < (b16.length : Int))) (
            gd (decide ((W (s6 + s8)).toNat < b16.length)) (
              f s0 s1 s6 (W (Int.tdiv y_1 10000)) (W (s8 + 1)) (b16.set ((W (s6 + s8)).toNat) (Int.tmod y_1 10000)))))
        bif (decide (s8 < (s1.length : Int))) then
          gd (decide (0 ≤ s6) && decide (s6 < (s0.length : Int))) (
            gd (decide (0 ≤ s8) && decide (s8 < (s1.length : Int))) (
              J_2 (W ((W ((b16.getD ((W (s6 + s8)).toNat) 0) + s7)) + (W ((s0.getD s6.toNat 0) * (s1.getD s8.toNat 0)))))))
        else
          J_2 (W ((b16.getD ((W (s6 + s8)).toNat) 0) + s7)))))
  bif (decide (s8 < (s1.length : Int))) then
    J_3 ()
  else
    bif (decide (s7 > 0)) then
      J_3 ()
    else
      k0 s0 s1 s6 b16
abbrev f154_L7H : Tm := ⟨[(0, .d hIs), (1, .d hIs), (5, .k (.hw 16)), (6, .d hI), (7, .d hI), (8, .d hI)], [(16, .arr 3 hI false)], [], []⟩
abbrev f154_L7X0 : Tm := ⟨[(0, .d hIs), (1, .d hIs), (5, .k (.hw 16)), (6, .d hI)], [(16, .arr 3 hI false)], [], []⟩
abbrev f154_L7O : List (Exit × Tm) := [(.exit 2, f154_L7X0)]
def f154_L7U {α : Type} (n : Nat) (v : f154_L7H.den) (f : f154_L7H.den → Option α) (ks : KS α f154_L7O) : Option α := f154_L7B n v.1.1 v.1.2.1 v.1.2.2.2.1 v.1.2.2.2.2.1 v.1.2.2.2.2.2.1 v.2.1 (fun s0 s1 s6 s7 s8 b16 => f ((s0, s1, (), s6, s7, s8, ()), (b16, ()))) (fun w0 w1 w2 w3 => ks.1 ((w0, w1, (), w2, ()), (w3, ())))
def f154_L7 {α : Type} (n m : Nat) (s0 : List Int) (s1 : List Int) (s6 : Int) (s7 : Int) (s8 : Int) (b16 : List Int) (k0 : (List Int) → (List Int) → Int → (List Int) → Option α) : Option α := rounds (f154_L7U n) m ((s0, s1, (), s6, s7, s8, ()), (b16, ())) (fun w => k0 w.1.1 w.1.2.1 w.1.2.2.2.1 w.2.1, ())
theorem f154_L7_0 {α : Type} (n : Nat) (s0 : List Int) (s1 : List Int) (s6 : Int) (s7 : Int) (s8 : Int) (b16 : List Int) (k0 : (List Int) → (List Int) → Int → (List Int) → Option α) : f154_L7 (α := α) n 0 s0 s1 s6 s7 s8 b16 k0 = none := rfl
theorem f154_L7_s {α : Type} (n m : Nat) (s0 : List Int) (s1 : List Int) (s6 : Int) (s7 : Int) (s8 : Int) (b16 : List Int) (k0 : (List Int) → (List Int) → Int → (List Int) → Option α) : f154_L7 (α := α) n (m + 1) s0 s1 s6 s7 s8 b16 k0 = f154_L7B n s0 s1 s6 s7 s8 b16 (fun s0 s1 s6 s7 s8 b16 => f154_L7 n m s0 s1 s6 s7 s8 b16 k0) k0 := rfl
def f154_L3B {α : Type} (n : Nat) (s0 : List Int) (s1 : List Int) (s6 : Int) (b16 : List Int) (f : (List Int) → (List Int) → Int → (List Int) → Option α) (k0 : (List Int) → Option α) : Option α :=
  bif (decide (s6 < (s0.length : Int))) then
    f154_L7 n n s0 s1 s6 0 0 b16
      (fun z_1 z_2 z_3 z_4 => (
        f z_1 z_2 (W (z_3 + 1)) z_4))
  else
    k0 b16
abbrev f154_L3H : Tm := ⟨[(0, .d hIs), (1, .d hIs), (5, .k (.hw 16)), (6, .d hI)], [(16, .arr 3 hI false)], [], []⟩
abbrev f154_L3X0 : Tm := ⟨[(5, .k (.hw 16))], [(16, .arr 3 hI false)], [], []⟩
abbrev f154_L3O : List (Exit × Tm) := [(.exit 0, f154_L3X0)]
def f154_L3U {α : Type} (n : Nat) (v : f154_L3H.den) (f : f154_L3H.den → Option α) (ks : KS α f154_L3O) : Option α := f154_L3B n v.1.1 v.1.2.1 v.1.2.2.2.1 v.2.1 (fun s0 s1 s6 b16 => f ((s0, s1, (), s6, ()), (b16, ()))) (fun w0 => ks.1 (((), ()), (w0, ())))
def f154_L3 {α : Type} (n m : Nat) (s0 : List Int) (s1 : List Int) (s6 : Int) (b16 : List Int) (k0 : (List Int) → Option α) : Option α := rounds (f154_L3U n) m ((s0, s1, (), s6, ()), (b16, ())) (fun w => k0 w.2.1, ())
theorem f154_L3_0 {α : Type} (n : Nat) (s0 : List Int) (s1 : List Int) (s6 : Int) (b16 : List Int) (k0 : (List Int) → Option α) : f154_L3 (α := α) n 0 s0 s1 s6 b16 k0 = none := rfl
theorem f154_L3_s {α : Type} (n m : Nat) (s0 : List Int) (s1 : List Int) (s6 : Int) (b16 : List Int) (k0 : (List Int) → Option α) : f154_L3 (α := α) n (m + 1) s0 s1 s6 b16 k0 = f154_L3B n s0 s1 s6 b16 (fun s0 s1 s6 b16 => f154_L3 n m s0 s1 s6 b16 k0) k0 := rfl
abbrev f154_J9 : Tm := ⟨[(0, .d hIs), (1, .d hIs), (5, .k (.hw 16)), (6, .d hI), (7, .d hI), (8, .d hI)], [(16, .arr 3 hI false)], [], []⟩
abbrev f154_J12 : Tm := ⟨[(0, .d hIs), (1, .d hIs), (5, .k (.hw 16)), (6, .d hI), (8, .d hI), (9, .d hI)], [(16, .arr 3 hI false)], [], []⟩
def f154 (n : Nat) (a0 : List Int) (a1 : List Int) : Option (List Int) :=
  gd (decide (0 ≤ (W ((W ((a0.length : Int) + (a1.length : Int))) + 1))) && decide ((W ((W ((a0.length : Int) + (a1.length : Int))) + 1)) ≤ 4611686018427387904) && decide ((8 : Int) * (W ((W ((a0.length : Int) + (a1.length : Int))) + 1)) ≤ 281474976710656)) (
    f154_L3 n n a0 a1 0 (List.replicate ((W ((W ((a0.length : Int) + (a1.length : Int))) + 1)).toNat) 0)
      (fun z_5 => (
        ob (f185 n z_5) fun r_6 =>
        some r_6)))
def f154_E (n : Nat) : Ent := ⟨154, [hIs, hIs], [hIs], fun x => f154 n x.1 x.2⟩
def f154_D (α : Type) (n : Nat) : D3 α := { reg := [(11, ⟨10, [], []⟩), (14, ⟨0, [], [(1, { ent := some (f185_E n), fz := [(65, hIs)] })]⟩)], join := [(9, f154_J9), (12, f154_J12)], loop := [(7, ⟨f154_L7H, f154_L7O, rounds (f154_L7U n) n⟩), (3, ⟨f154_L3H, f154_L3O, rounds (f154_L3U n) n⟩)] }
theorem f154_ents (α : Type) (n : Nat) : AllS Try.prog (entsOf (f154_D α n).reg) := ⟨f185_ok n, trivial⟩
theorem f154_L7_d (α : Type) (n : Nat) : D3.OK Try.prog (tyOf Try.prog) ⟨67, []⟩ (f154_D α n) ((bodyOf Try.f154).at [1, 1, 0, 1, 0, 0, 1, 0, 0, 1, 1, 0, 0]) :=
  D3.OK.mk3 (f154_ents α n) (show loopsOf ((bodyOf Try.f154).at [1, 1, 0, 1, 0, 0, 1, 0, 0, 1, 1, 0, 0]) = [] by kernel_rfl) trivial
theorem f154_L7_ok (α : Type) (n : Nat) : LO.Sound (α := α) Try.prog ⟨67, []⟩ ⟨f154_L7H, f154_L7O, rounds (f154_L7U n) n⟩ (.loop ((bodyOf Try.f154).at [1, 1, 0, 1, 0, 0, 1, 0, 0, 1, 1, 0, 0])) :=
  loop_ok (tyOf_ok _) prog_fol (f154_L7U n) (f154_L7_d α n) (by intro v f ks; kernel_rfl) n
theorem f154_L3_d (α : Type) (n : Nat) : D3.OK Try.prog (tyOf Try.prog) ⟨67, []⟩ (f154_D α n) ((bodyOf Try.f154).at [1, 1, 0, 1, 0, 0]) :=
  D3.OK.mk3 (f154_ents α n) (show loopsOf ((bodyOf Try.f154).at [1, 1, 0, 1, 0, 0]) = [(7, (.loop ((bodyOf Try.f154).at [1, 1, 0, 1, 0, 0, 1, 0, 0, 1, 1, 0, 0])))] by kernel_rfl) ⟨look_sound rfl (f154_L7_ok α n), trivial⟩
theorem f154_L3_ok (α : Type) (n : Nat) : LO.Sound (α := α) Try.prog ⟨67, []⟩ ⟨f154_L3H, f154_L3O, rounds (f154_L3U n) n⟩ (.loop ((bodyOf Try.f154).at [1, 1, 0, 1, 0, 0])) :=
  loop_ok (tyOf_ok _) prog_fol (f154_L3U n) (f154_L3_d α n) (by intro v f ks; kernel_rfl) n
theorem f154_d (α : Type) (n : Nat) : D3.OK Try.prog (tyOf Try.prog) ⟨67, []⟩ (f154_D α n) (bodyOf Try.f154) :=
  D3.OK.mk3 (f154_ents α n) (show loopsOf (bodyOf Try.f154) = [(3, (.loop ((bodyOf Try.f154).at [1, 1, 0, 1, 0, 0])))] by kernel_rfl) ⟨look_sound rfl (f154_L3_ok α n), trivial⟩
theorem f154_ok (n : Nat) : (f154_E n).Sound Try.prog :=
  fn_ok (tyOf_ok _) prog_fol (f154_D _ n) (show Try.prog.funcs[154]? = some Try.f154 by kernel_rfl) (by kernel_rfl) (show Try.f154.body = some (bodyOf Try.f154) by kernel_rfl) rfl rfl (Nat.le_of_ble_eq_true rfl) (f154_d _ n) (by intro x; kernel_rfl) 

def f189_L4B {α : Type} (n : Nat) (s0 : List Int) (s1 : List Int) (s6 : Int) (s7 : Int) (b9 : List Int) (f : (List Int) → (List Int) → Int → Int → (List Int) → Option α) (k0 : (List Int) → Option α) : Option α :=
  bif (decide (s7 < (s0.length : Int))) then
    gd (decide (0 ≤ s7) && decide (s7 < (s0.length : Int))) (
      let J_3 := fun (y_1 : Int) => (
        ob (f175 n (decide (y_1 < 0))) fun r_2 =>
        gd (decide ((b9.length + 1) * 8 ≤ 140737488355328)) (
          f s0 s1 r_2 (W (s7 + 1)) (b9 ++ [(W (y_1 + (W (r_2 * 10000))))])))
      bif (decide (s7 < (s1.length : Int))) then
        gd (decide (0 ≤ s7) && decide (s7 < (s1.length : Int))) (
          J_3 (W ((W ((s0.getD s7.toNat 0) - s6)) - (s1.getD s7.toNat 0))))
      else
        J_3 (W ((s0.getD s7.toNat 0) - s6)))
  else
    k0 b9
abbrev f189_L4H : Tm := ⟨[(0, .d hIs), (1, .d hIs), (5, .k (.hw 9)), (6, .d hI), (7, .d hI)], [(9, .arr 3 hI false)], [40], []⟩
abbrev f189_L4X0 : Tm := ⟨[(5, .k (.hw 9))], [(9, .arr 3 hI false)], [], []⟩
abbrev f189_L4O : List (Exit × Tm) := [(.exit 0, f189_L4X0)]
def f189_L4U {α : Type} (n : Nat) (v : f189_L4H.den) (f : f189_L4H.den → Option α) (ks : KS α f189_L4O) : Option α := f189_L4B n v.1.1 v.1.2.1 v.1.2.2.2.1 v.1.2.2.2.2.1 v.2.1 (fun s0 s1 s6 s7 b9 => f ((s0, s1, (), s6, s7, ()), (b9, ()))) (fun w0 => ks.1 (((), ()), (w0, ())))
def f189_L4 {α : Type} (n m : Nat) (s0 : List Int) (s1 : List Int) (s6 : Int) (s7 : Int) (b9 : List Int) (k0 : (List Int) → Option α) : Option α := rounds (f189_L4U n) m ((s0, s1, (), s6, s7, ()), (b9, ())) (fun w => k0 w.2.1, ())
theorem f189_L4_0 {α : Type} (n : Nat) (s0 : List Int) (s1 : List Int) (s6 : Int) (s7 : Int) (b9 : List Int) (k0 : (List Int) → Option α) : f189_L4 (α := α) n 0 s0 s1 s6 s7 b9 k0 = none := rfl
theorem f189_L4_s {α : Type} (n m : Nat) (s0 : List Int) (s1 : List Int) (s6 : Int) (s7 : Int) (b9 : List Int) (k0 : (List Int) → Option α) : f189_L4 (α := α) n (m + 1) s0 s1 s6 s7 b9 k0 = f189_L4B n s0 s1 s6 s7 b9 (fun s0 s1 s6 s7 b9 => f189_L4 n m s0 s1 s6 s7 b9 k0) k0 := rfl
abbrev f189_J9 : Tm := ⟨[(0, .d hIs), (1, .d hIs), (5, .k (.hw 9)), (7, .d hI), (8, .d hI)], [(9, .arr 3 hI false)], [], []⟩
def f189 (n : Nat) (a0 : List Int) (a1 : List Int) : Option (List Int) :=
  f189_L4 n n a0 a1 0 0 []
    (fun z_4 => (
      ob (f185 n z_4) fun r_5 =>
      some r_5))
def f189_E (n : Nat) : Ent := ⟨189, [hIs, hIs], [hIs], fun x => f189 n x.1 x.2⟩
def f189_D (α : Type) (n : Nat) : D3 α := { reg := [(1, ⟨0, [], [(0, { sh := some hI })]⟩), (9, ⟨0, [], [(2, { ent := some (f175_E n) })]⟩), (10, ⟨0, [], [(5, { sh := some hI })]⟩), (11, ⟨0, [], [(1, { ent := some (f185_E n), fz := [(42, hIs)] })]⟩)], join := [(9, f189_J9)], loop := [(4, ⟨f189_L4H, f189_L4O, rounds (f189_L4U n) n⟩)] }
theorem f189_ents (α : Type) (n : Nat) : AllS Try.prog (entsOf (f189_D α n).reg) := ⟨f175_ok n, f185_ok n, trivial⟩
theorem f189_L4_d (α : Type) (n : Nat) : D3.OK Try.prog (tyOf Try.prog) ⟨44, []⟩ (f189_D α n) ((bodyOf Try.f189).at [1, 1, 1, 0, 1, 0, 0]) :=
  D3.OK.mk3 (f189_ents α n) (show loopsOf ((bodyOf Try.f189).at [1, 1, 1, 0, 1, 0, 0]) = [] by kernel_rfl) trivial
theorem f189_L4_ok (α : Type) (n : Nat) : LO.Sound (α := α) Try.prog ⟨44, []⟩ ⟨f189_L4H, f189_L4O, rounds (f189_L4U n) n⟩ (.loop ((bodyOf Try.f189).at [1, 1, 1, 0, 1, 0, 0])) :=
  loop_ok (tyOf_ok _) prog_fol (f189_L4U n) (f189_L4_d α n) (by intro v f ks; kernel_rfl) n
theorem f189_d (α : Type) (n : Nat) : D3.OK Try.prog (tyOf Try.prog) ⟨44, []⟩ (f189_D α n) (bodyOf Try.f189) :=
  D3.OK.mk3 (f189_ents α n) (show loopsOf (bodyOf Try.f189) = [(4, (.loop ((bodyOf Try.f189).at [1, 1, 1, 0, 1, 0, 0])))] by kernel_rfl) ⟨look_sound rfl (f189_L4_ok α n), trivial⟩
theorem f189_ok (n : Nat) : (f189_E n).Sound Try.prog :=
  fn_ok (tyOf_ok _) prog_fol (f189_D _ n) (show Try.prog.funcs[189]? = some Try.f189 by kernel_rfl) (by kernel_rfl) (show Try.f189.body = some (bodyOf Try.f189) by kernel_rfl) rfl rfl (Nat.le_of_ble_eq_true rfl) (f189_d _ n) (by intro x; kernel_rfl) 

def f176_L10B {α : Type} (n : Nat) (s0 : List Int) (s1 : List Int) (s7 : List Int) (s8 : Int) (s9 : Int) (s10 : Int) (b14 : List Int) (f : (List Int) → (List Int) → (List Int) → Int → Int → Int → (List Int) → Option α) (k0 : (List Int) → (List Int) → (List Int) → Int → Int → (List Int) → Option α) : Option α :=
  bif (decide ((W (s10 - s9)) > 1)) then
    ob (f190 n (W (Int.tdiv (W (s9 + s10)) 2))) fun r_3 =>
    ob (f154 n s1 r_3) fun r_4 =>
    ob (f127 n r_4 s7) fun r_5 =>
    bif (decide (r_5 ≤ 0)) then
      f s0 s1 s7 s8 (W (Int.tdiv (W (s9 + s10)) 2)) s10 b14
    else
      f s0 s1 s7 s8 s9 (W (Int.tdiv (W (s9 + s10)) 2)) b14
  else
    k0 s0 s1 s7 s8 s9 b14
abbrev f176_L10H : Tm := ⟨[(0, .d hIs), (1, .d hIs), (6, .k (.hw 14)), (7, .d hIs), (8, .d hI), (9, .d hI), (10, .d hI)], [(14, .arr 3 hI false)], [15, 27], []⟩
abbrev f176_L10X0 : Tm := ⟨[(0, .d hIs), (1, .d hIs), (6, .k (.hw 14)), (7, .d hIs), (8, .d hI), (9, .d hI)], [(14, .arr 3 hI false)], [], []⟩
abbrev f176_L10O : List (Exit × Tm) := [(.exit 2, f176_L10X0)]
def f176_L10U {α : Type} (n : Nat) (v : f176_L10H.den) (f : f176_L10H.den → Option α) (ks : KS α f176_L10O) : Option α := f176_L10B n v.1.1 v.1.2.1 v.1.2.2.2.1 v.1.2.2.2.2.1 v.1.2.2.2.2.2.1 v.1.2.2.2.2.2.2.1 v.2.1 (fun s0 s1 s7 s8 s9 s10 b14 => f ((s0, s1, (), s7, s8, s9, s10, ()), (b14, ()))) (fun w0 w1 w2 w3 w4 w5 => ks.1 ((w0, w1, (), w2, w3, w4, ()), (w5, ())))
def f176_L10 {α : Type} (n m : Nat) (s0 : List Int) (s1 : List Int) (s7 : List Int) (s8 : Int) (s9 : Int) (s10 : Int) (b14 : List Int) (k0 : (List Int) → (List Int) → (List Int) → Int → Int → (List Int) → Option α) : Option α := rounds (f176_L10U n) m ((s0, s1, (), s7, s8, s9, s10, ()), (b14, ())) (fun w => k0 w.1.1 w.1.2.1 w.1.2.2.2.1 w.1.2.2.2.2.1 w.1.2.2.2.2.2.1 w.2.1, ())
theorem f176_L10_0 {α : Type} (n : Nat) (s0 : List Int) (s1 : List Int) (s7 : List Int) (s8 : Int) (s9 : Int) (s10 : Int) (b14 : List Int) (k0 : (List Int) → (List Int) → (List Int) → Int → Int → (List Int) → Option α) : f176_L10 (α := α) n 0 s0 s1 s7 s8 s9 s10 b14 k0 = none := rfl
theorem f176_L10_s {α : Type} (n m : Nat) (s0 : List Int) (s1 : List Int) (s7 : List Int) (s8 : Int) (s9 : Int) (s10 : Int) (b14 : List Int) (k0 : (List Int) → (List Int) → (List Int) → Int → Int → (List Int) → Option α) : f176_L10 (α := α) n (m + 1) s0 s1 s7 s8 s9 s10 b14 k0 = f176_L10B n s0 s1 s7 s8 s9 s10 b14 (fun s0 s1 s7 s8 s9 s10 b14 => f176_L10 n m s0 s1 s7 s8 s9 s10 b14 k0) k0 := rfl
def f176_L4B {α : Type} (n : Nat) (s0 : List Int) (s1 : List Int) (s7 : List Int) (s8 : Int) (b14 : List Int) (f : (List Int) → (List Int) → (List Int) → Int → (List Int) → Option α) (k0 : (List Int) → (List Int) → Option α) : Option α :=
  bif (decide (s8 ≥ 0)) then
    gd (decide (0 ≤ s8) && decide (s8 < (s0.length : Int))) (
      gd (decide ((1 + s7.length) * 8 ≤ 140737488355328)) (
        ob (f185 n ([(s0.getD s8.toNat 0)] ++ s7)) fun r_1 =>
        ob (f127 n r_1 s1) fun r_2 =>
        bif (decide (r_2 < 0)) then
          f s0 s1 r_1 (W (s8 - 1)) b14
        else
          f176_L10 n n s0 s1 r_1 s8 0 10000 b14
            (fun z_3 z_4 z_5 z_6 z_7 z_8 => (
              gd (decide (0 ≤ z_6) && decide (z_6 < (z_8.length : Int))) (
                gd (decide (z_6.toNat < z_8.length)) (
                  ob (f190 n z_7) fun r_9 =>
                  ob (f154 n z_4 r_9) fun r_10 =>
                  ob (f189 n z_5 r_10) fun r_11 =>
                  f z_3 z_4 r_11 (W (z_6 - 1)) (z_8.set z_6.toNat z_7)))))))
  else
    k0 s7 b14
abbrev f176_L4H : Tm := ⟨[(0, .d hIs), (1, .d hIs), (6, .k (.hw 14)), (7, .d hIs), (8, .d hI)], [(14, .arr 3 hI false)], [15, 27], [(7, hIs)]⟩
abbrev f176_L4X0 : Tm := ⟨[(6, .k (.hw 14)), (7, .d hIs)], [(14, .arr 3 hI false)], [], []⟩
abbrev f176_L4O : List (Exit × Tm) := [(.exit 0, f176_L4X0)]
def f176_L4U {α : Type} (n : Nat) (v : f176_L4H.den) (f : f176_L4H.den → Option α) (ks : KS α f176_L4O) : Option α := f176_L4B n v.1.1 v.1.2.1 v.1.2.2.2.1 v.1.2.2.2.2.1 v.2.1 (fun s0 s1 s7 s8 b14 => f ((s0, s1, (), s7, s8, ()), (b14, ()))) (fun w0 w1 => ks.1 (((), w0, ()), (w1, ())))
def f176_L4 {α : Type} (n m : Nat) (s0 : List Int) (s1 : List Int) (s7 : List Int) (s8 : Int) (b14 : List Int) (k0 : (List Int) → (List Int) → Option α) : Option α := rounds (f176_L4U n) m ((s0, s1, (), s7, s8, ()), (b14, ())) (fun w => k0 w.1.2.1 w.2.1, ())
theorem f176_L4_0 {α : Type} (n : Nat) (s0 : List Int) (s1 : List Int) (s7 : List Int) (s8 : Int) (b14 : List Int) (k0 : (List Int) → (List Int) → Option α) : f176_L4 (α := α) n 0 s0 s1 s7 s8 b14 k0 = none := rfl
theorem f176_L4_s {α : Type} (n m : Nat) (s0 : List Int) (s1 : List Int) (s7 : List Int) (s8 : Int) (b14 : List Int) (k0 : (List Int) → (List Int) → Option α) : f176_L4 (α := α) n (m + 1) s0 s1 s7 s8 b14 k0 = f176_L4B n s0 s1 s7 s8 b14 (fun s0 s1 s7 s8 b14 => f176_L4 n m s0 s1 s7 s8 b14 k0) k0 := rfl
def f176 (n : Nat) (a0 : List Int) (a1 : List Int) : Option ((List Int) × (List Int)) :=
  gd (decide (0 ≤ (a0.length : Int)) && decide ((a0.length : Int) ≤ 4611686018427387904) && decide ((8 : Int) * (a0.length : Int) ≤ 281474976710656)) (
    f176_L4 n n a0 a1 [] (W ((a0.length : Int) - 1)) (List.replicate ((a0.length : Int).toNat) 0)
      (fun z_12 z_13 => (
        ob (f185 n z_13) fun r_14 =>
        some (r_14, z_12))))
def f176_E (n : Nat) : Ent := ⟨176, [hIs, hIs], [hIs, hIs], fun x => f176 n x.1 x.2⟩
def f176_D (α : Type) (n : Nat) : D3 α := { reg := [(2, ⟨0, [], [(0, { sh := some hI })]⟩), (6, ⟨0, [], [(4, { sh := some hI }), (7, { ent := some (f185_E n), fz := [(29, hIs)] })]⟩), (7, ⟨0, [], [(2, { ent := some (f127_E n) })]⟩), (12, ⟨0, [], [(2, { ent := some (f190_E n) }), (3, { ent := some (f154_E n) }), (5, { ent := some (f127_E n) })]⟩), (16, ⟨0, [], [(3, { ent := some (f190_E n) }), (4, { ent := some (f154_E n) }), (5, { ent := some (f189_E n) })]⟩), (17, ⟨0, [], [(1, { ent := some (f185_E n), fz := [(62, hIs)] })]⟩)], join := [], loop := [(10, ⟨f176_L10H, f176_L10O, rounds (f176_L10U n) n⟩), (4, ⟨f176_L4H, f176_L4O, rounds (f176_L4U n) n⟩)] }
theorem f176_ents (α : Type) (n : Nat) : AllS Try.prog (entsOf (f176_D α n).reg) := ⟨f185_ok n, f127_ok n, f190_ok n, f154_ok n, f127_ok n, f190_ok n, f154_ok n, f189_ok n, f185_ok n, trivial⟩
theorem f176_L10_d (α : Type) (n : Nat) : D3.OK Try.prog (tyOf Try.prog) ⟨65, []⟩ (f176_D α n) ((bodyOf Try.f176).at [1, 1, 1, 0, 1, 0, 0, 1, 0, 0, 1, 1, 1, 1, 0, 0, 0]) :=
  D3.OK.mk3 (f176_ents α n) (show loopsOf ((bodyOf Try.f176).at [1, 1, 1, 0, 1, 0, 0, 1, 0, 0, 1, 1, 1, 1, 0, 0, 0]) = [] by kernel_rfl) trivial
theorem f176_L10_ok (α : Type) (n : Nat) : LO.Sound (α := α) Try.prog ⟨65, []⟩ ⟨f176_L10H, f176_L10O, rounds (f176_L10U n) n⟩ (.loop ((bodyOf Try.f176).at [1, 1, 1, 0, 1, 0, 0, 1, 0, 0, 1, 1, 1, 1, 0, 0, 0])) :=
  loop_ok (tyOf_ok _) prog_fol (f176_L10U n) (f176_L10_d α n) (by intro v f ks; kernel_rfl) n
theorem f176_L4_d (α : Type) (n : Nat) : D3.OK Try.prog (tyOf Try.prog) ⟨65, []⟩ (f176_D α n) ((bodyOf Try.f176).at [1, 1, 1, 0, 1, 0, 0]) :=
  D3.OK.mk3 (f176_ents α n) (show loopsOf ((bodyOf Try.f176).at [1, 1, 1, 0, 1, 0, 0]) = [(10, (.loop ((bodyOf Try.f176).at [1, 1, 1, 0, 1, 0, 0, 1, 0, 0, 1, 1, 1, 1, 0, 0, 0])))] by kernel_rfl) ⟨look_sound rfl (f176_L10_ok α n), trivial⟩
theorem f176_L4_ok (α : Type) (n : Nat) : LO.Sound (α := α) Try.prog ⟨65, []⟩ ⟨f176_L4H, f176_L4O, rounds (f176_L4U n) n⟩ (.loop ((bodyOf Try.f176).at [1, 1, 1, 0, 1, 0, 0])) :=
  loop_ok (tyOf_ok _) prog_fol (f176_L4U n) (f176_L4_d α n) (by intro v f ks; kernel_rfl) n
theorem f176_d (α : Type) (n : Nat) : D3.OK Try.prog (tyOf Try.prog) ⟨65, []⟩ (f176_D α n) (bodyOf Try.f176) :=
  D3.OK.mk3 (f176_ents α n) (show loopsOf (bodyOf Try.f176) = [(4, (.loop ((bodyOf Try.f176).at [1, 1, 1, 0, 1, 0, 0])))] by kernel_rfl) ⟨look_sound rfl (f176_L4_ok α n), trivial⟩
theorem f176_ok (n : Nat) : (f176_E n).Sound Try.prog :=
  fn_ok (tyOf_ok _) prog_fol (f176_D _ n) (show Try.prog.funcs[176]? = some Try.f176 by kernel_rfl) (by kernel_rfl) (show Try.f176.body = some (bodyOf Try.f176) by kernel_rfl) rfl rfl (Nat.le_of_ble_eq_true rfl) (f176_d _ n) (by intro x; kernel_rfl) 

def f128_L1B {α : Type} (n : Nat) (s0 : List Int) (s1 : List Int) (f : (List Int) → (List Int) → Option α) (k0 : (List Int) → Option α) : Option α :=
  bif (decide ((s1.length : Int) > 0)) then
    ob (f176 n s0 s1) fun r_1 =>
    f s1 r_1.2
  else
    k0 s0
abbrev f128_L1H : Tm := ⟨[(0, .d hIs), (1, .d hIs)], [], [], []⟩
abbrev f128_L1X0 : Tm := ⟨[(0, .d hIs)], [], [], []⟩
abbrev f128_L1O : List (Exit × Tm) := [(.exit 0, f128_L1X0)]
def f128_L1U {α : Type} (n : Nat) (v : f128_L1H.den) (f : f128_L1H.den → Option α) (ks : KS α f128_L1O) : Option α := f128_L1B n v.1.1 v.1.2.1 (fun s0 s1 => f ((s0, s1, ()), ())) (fun w0 => ks.1 ((w0, ()), ()))
def f128_L1 {α : Type} (n m : Nat) (s0 : List Int) (s1 : List Int) (k0 : (List Int) → Option α) : Option α := rounds (f128_L1U n) m ((s0, s1, ()), ()) (fun w => k0 w.1.1, ())
theorem f128_L1_0 {α : Type} (n : Nat) (s0 : List Int) (s1 : List Int) (k0 : (List Int) → Option α) : f128_L1 (α := α) n 0 s0 s1 k0 = none := rfl
theorem f128_L1_s {α : Type} (n m : Nat) (s0 : List Int) (s1 : List Int) (k0 : (List Int) → Option α) : f128_L1 (α := α) n (m + 1) s0 s1 k0 = f128_L1B n s0 s1 (fun s0 s1 => f128_L1 n m s0 s1 k0) k0 := rfl
def f128 (n : Nat) (a0 : List Int) (a1 : List Int) : Option (List Int) :=
  f128_L1 n n a0 a1
    (fun z_2 => (
      gd (decide ((0 + z_2.length) * 8 ≤ 140737488355328)) (
        some z_2)))
def f128_E (n : Nat) : Ent := ⟨128, [hIs, hIs], [hIs], fun x => f128 n x.1 x.2⟩
def f128_D (α : Type) (n : Nat) : D3 α := { reg := [(2, ⟨0, [], [(2, { ent := some (f176_E n) })]⟩), (5, ⟨0, [], [(0, { sh := some hI })]⟩)], join := [], loop := [(1, ⟨f128_L1H, f128_L1O, rounds (f128_L1U n) n⟩)] }
theorem f128_ents (α : Type) (n : Nat) : AllS Try.prog (entsOf (f128_D α n).reg) := ⟨f176_ok n, trivial⟩
theorem f128_L1_d (α : Type) (n : Nat) : D3.OK Try.prog (tyOf Try.prog) ⟨21, []⟩ (f128_D α n) ((bodyOf Try.f128).at [1, 0, 0, 0]) :=
  D3.OK.mk3 (f128_ents α n) (show loopsOf ((bodyOf Try.f128).at [1, 0, 0, 0]) = [] by kernel_rfl) trivial
theorem f128_L1_ok (α : Type) (n : Nat) : LO.Sound (α := α) Try.prog ⟨21, []⟩ ⟨f128_L1H, f128_L1O, rounds (f128_L1U n) n⟩ (.loop ((bodyOf Try.f128).at [1, 0, 0, 0])) :=
  loop_ok (tyOf_ok _) prog_fol (f128_L1U n) (f128_L1_d α n) (by intro v f ks; kernel_rfl) n
theorem f128_d (α : Type) (n : Nat) : D3.OK Try.prog (tyOf Try.prog) ⟨21, []⟩ (f128_D α n) (bodyOf Try.f128) :=
  D3.OK.mk3 (f128_ents α n) (show loopsOf (bodyOf Try.f128) = [(1, (.loop ((bodyOf Try.f128).at [1, 0, 0, 0])))] by kernel_rfl) ⟨look_sound rfl (f128_L1_ok α n), trivial⟩
theorem f128_ok (n : Nat) : (f128_E n).Sound Try.prog :=
  fn_ok (tyOf_ok _) prog_fol (f128_D _ n) (show Try.prog.funcs[128]? = some Try.f128 by kernel_rfl) (by kernel_rfl) (show Try.f128.body = some (bodyOf Try.f128) by kernel_rfl) rfl rfl (Nat.le_of_ble_eq_true rfl) (f128_d _ n) (by intro x; kernel_rfl) 

abbrev f66_J3 : Tm := ⟨[(1, .k (.hp 1 0 0))], [(1, .var 33 true false [.d .bool, .d hIs, .d hIs])], [], []⟩
def f66 (n : Nat) (a0 : Bool × (List Int) × (List Int)) : Option Bool :=
  let J_5 := fun (_ : Unit) => (
    ob (f128 n a0.2.1 a0.2.2) fun r_3 =>
    ob (f127 n r_3 [1]) fun r_4 =>
    some (r_4 == 0))
  ob (f126 n a0.2.1) fun r_1 =>
  bif (!r_1) then
    some false
  else
    ob (f126 n a0.2.2) fun r_2 =>
    bif (!r_2) then
      some false
    else
      bif ((a0.2.2.length : Int) == 0) then
        some false
      else
        bif ((a0.2.1.length : Int) == 0) then
          bif a0.1 then
            some false
          else
            J_5 ()
        else
          J_5 ()
def f66_E (n : Nat) : Ent := ⟨66, [hR], [.bool], fun x => f66 n x⟩
def f66_D (α : Type) (n : Nat) : D3 α := { reg := [(1, ⟨0, [], [(2, { ent := some (f126_E n) }), (7, { ent := some (f126_E n) })]⟩), (3, ⟨0, [], [(4, { ent := some (f128_E n) }), (5, { sh := some hI }), (6, { ent := some (f127_E n) })]⟩)], join := [(3, f66_J3)], loop := [] }
theorem f66_ents (α : Type) (n : Nat) : AllS Try.prog (entsOf (f66_D α n).reg) := ⟨f126_ok n, f126_ok n, f128_ok n, f127_ok n, trivial⟩
theorem f66_d (α : Type) (n : Nat) : D3.OK Try.prog (tyOf Try.prog) ⟨37, []⟩ (f66_D α n) (bodyOf Try.f66) :=
  D3.OK.mk3 (f66_ents α n) (show loopsOf (bodyOf Try.f66) = [] by kernel_rfl) trivial
theorem f66_ok (n : Nat) : (f66_E n).Sound Try.prog :=
  fn_ok (tyOf_ok _) prog_fol (f66_D _ n) (show Try.prog.funcs[66]? = some Try.f66 by kernel_rfl) (by kernel_rfl) (show Try.f66.body = some (bodyOf Try.f66) by kernel_rfl) rfl rfl (Nat.le_of_ble_eq_true rfl) (f66_d _ n) (by intro x; kernel_rfl) 

def f16_L6B {α : Type} (n : Nat) (s0 : List (Bool × (List Int) × (List Int))) (s5 : Int) (f : (List (Bool × (List Int) × (List Int))) → Int → Option α) (k0 : Bool → Option α) (k1 : Unit → Option α) : Option α :=
  bif (decide (s5 < (s0.length : Int))) then
    gd (decide (0 ≤ s5) && decide (s5 < (s0.length : Int))) (
      let x_2 := s0.getD s5.toNat (false, [], [])
      ob (f66 n x_2) fun r_3 =>
      bif (!r_3) then
        k0 false
      else
        f s0 (W (s5 + 1)))
  else
    k1 ()
abbrev f16_L6H : Tm := ⟨[(0, .d hRs), (5, .d hI)], [], [], []⟩
abbrev f16_L6X0 : Tm := ⟨[(4, .d .bool)], [], [], []⟩
abbrev f16_L6X1 : Tm := ⟨[], [], [], []⟩
abbrev f16_L6O : List (Exit × Tm) := [(.ret, f16_L6X0), (.exit 0, f16_L6X1)]
def f16_L6U {α : Type} (n : Nat) (v : f16_L6H.den) (f : f16_L6H.den → Option α) (ks : KS α f16_L6O) : Option α := f16_L6B n v.1.1 v.1.2.1 (fun s0 s5 => f ((s0, s5, ()), ())) (fun w0 => ks.1 ((w0, ()), ())) (fun _ => ks.2.1 ((), ()))
def f16_L6 {α : Type} (n m : Nat) (s0 : List (Bool × (List Int) × (List Int))) (s5 : Int) (k0 : Bool → Option α) (k1 : Unit → Option α) : Option α := rounds (f16_L6U n) m ((s0, s5, ()), ()) (fun w => k0 w.1.1, fun w => k1 (), ())
theorem f16_L6_0 {α : Type} (n : Nat) (s0 : List (Bool × (List Int) × (List Int))) (s5 : Int) (k0 : Bool → Option α) (k1 : Unit → Option α) : f16_L6 (α := α) n 0 s0 s5 k0 k1 = none := rfl
theorem f16_L6_s {α : Type} (n m : Nat) (s0 : List (Bool × (List Int) × (List Int))) (s5 : Int) (k0 : Bool → Option α) (k1 : Unit → Option α) : f16_L6 (α := α) n (m + 1) s0 s5 k0 k1 = f16_L6B n s0 s5 (fun s0 s5 => f16_L6 n m s0 s5 k0 k1) k0 k1 := rfl
def f16 (n : Nat) (a0 : List (Bool × (List Int) × (List Int))) (a1 : Int) : Option Bool :=
  bif (decide ((a0.length : Int) > 4096)) then
    some false
  else
    ob (f65 n a1 1 4) fun r_1 =>
    bif (!r_1) then
      some false
    else
      bif ((a0.length : Int) != (W (a1 * a1))) then
        some false
      else
        f16_L6 n n a0 0
          (fun z_4 => (
            some z_4))
          (fun (_ : Unit) => (
            some true))
def f16_E (n : Nat) : Ent := ⟨16, [hRs, hI], [.bool], fun x => f16 n x.1 x.2⟩
def f16_D (α : Type) (n : Nat) : D3 α := { reg := [(3, ⟨0, [], [(1, { ent := some (f65_E n) })]⟩), (8, ⟨0, [], [(4, { ent := some (f66_E n) })]⟩)], join := [], loop := [(6, ⟨f16_L6H, f16_L6O, rounds (f16_L6U n) n⟩)] }
theorem f16_ents (α : Type) (n : Nat) : AllS Try.prog (entsOf (f16_D α n).reg) := ⟨f65_ok n, f66_ok n, trivial⟩
theorem f16_L6_d (α : Type) (n : Nat) : D3.OK Try.prog (tyOf Try.prog) ⟨32, []⟩ (f16_D α n) ((bodyOf Try.f16).at [1, 1, 1, 0, 1, 0, 0]) :=
  D3.OK.mk3 (f16_ents α n) (show loopsOf ((bodyOf Try.f16).at [1, 1, 1, 0, 1, 0, 0]) = [] by kernel_rfl) trivial
theorem f16_L6_ok (α : Type) (n : Nat) : LO.Sound (α := α) Try.prog ⟨32, []⟩ ⟨f16_L6H, f16_L6O, rounds (f16_L6U n) n⟩ (.loop ((bodyOf Try.f16).at [1, 1, 1, 0, 1, 0, 0])) :=
  loop_ok (tyOf_ok _) prog_fol (f16_L6U n) (f16_L6_d α n) (by intro v f ks; kernel_rfl) n
theorem f16_d (α : Type) (n : Nat) : D3.OK Try.prog (tyOf Try.prog) ⟨32, []⟩ (f16_D α n) (bodyOf Try.f16) :=
  D3.OK.mk3 (f16_ents α n) (show loopsOf (bodyOf Try.f16) = [(6, (.loop ((bodyOf Try.f16).at [1, 1, 1, 0, 1, 0, 0])))] by kernel_rfl) ⟨look_sound rfl (f16_L6_ok α n), trivial⟩
theorem f16_ok (n : Nat) : (f16_E n).Sound Try.prog :=
  fn_ok (tyOf_ok _) prog_fol (f16_D _ n) (show Try.prog.funcs[16]? = some Try.f16 by kernel_rfl) (by kernel_rfl) (show Try.f16.body = some (bodyOf Try.f16) by kernel_rfl) rfl rfl (Nat.le_of_ble_eq_true rfl) (f16_d _ n) (by intro x; kernel_rfl) 

def f67 (n : Nat) (a0 : Int) (a1 : Int) (a2 : Int) : Option Bool :=
  bif (decide (a1 ≤ a0)) then
    some (decide (a0 ≤ a2))
  else
    some false
def f67_E (n : Nat) : Ent := ⟨67, [hI, hI, hI], [.bool], fun x => f67 n x.1 x.2.1 x.2.2⟩
def f67_D (α : Type) (n : Nat) : D3 α := { reg := [], join := [], loop := [] }
theorem f67_ents (α : Type) (n : Nat) : AllS Try.prog (entsOf (f67_D α n).reg) := trivial
theorem f67_d (α : Type) (n : Nat) : D3.OK Try.prog (tyOf Try.prog) ⟨15, []⟩ (f67_D α n) (bodyOf Try.f67) :=
  D3.OK.mk3 (f67_ents α n) (show loopsOf (bodyOf Try.f67) = [] by kernel_rfl) trivial
theorem f67_ok (n : Nat) : (f67_E n).Sound Try.prog :=
  fn_ok (tyOf_ok _) prog_fol (f67_D _ n) (show Try.prog.funcs[67]? = some Try.f67 by kernel_rfl) (by kernel_rfl) (show Try.f67.body = some (bodyOf Try.f67) by kernel_rfl) rfl rfl (Nat.le_of_ble_eq_true rfl) (f67_d _ n) (by intro x; kernel_rfl) 

def f180 (n : Nat) (a0 : Int) : Option Bool :=
  bif (decide (a0 < 0)) then
    some true
  else
    some (decide (a0 ≥ 10000))
def f180_E (n : Nat) : Ent := ⟨180, [hI], [.bool], fun x => f180 n x⟩
def f180_D (α : Type) (n : Nat) : D3 α := { reg := [], join := [], loop := [] }
theorem f180_ents (α : Type) (n : Nat) : AllS Try.prog (entsOf (f180_D α n).reg) := trivial
theorem f180_d (α : Type) (n : Nat) : D3.OK Try.prog (tyOf Try.prog) ⟨9, []⟩ (f180_D α n) (bodyOf Try.f180) :=
  D3.OK.mk3 (f180_ents α n) (show loopsOf (bodyOf Try.f180) = [] by kernel_rfl) trivial
theorem f180_ok (n : Nat) : (f180_E n).Sound Try.prog :=
  fn_ok (tyOf_ok _) prog_fol (f180_D _ n) (show Try.prog.funcs[180]? = some Try.f180 by kernel_rfl) (by kernel_rfl) (show Try.f180.body = some (bodyOf Try.f180) by kernel_rfl) rfl rfl (Nat.le_of_ble_eq_true rfl) (f180_d _ n) (by intro x; kernel_rfl) 

def f195_L2B {α : Type} (n : Nat) (s0 : List Int) (s7 : Int) (s8 : Int) (f : (List Int) → Int → Int → Option α) (k0 : Int → Option α) (k1 : Unit → Option α) : Option α :=
  bif (decide (s8 < s7)) then
    gd (decide (0 ≤ s8) && decide (s8 < (s0.length : Int))) (
      ob (f180 n (s0.getD s8.toNat 0)) fun r_1 =>
      bif r_1 then
        k0 s8
      else
        f s0 s7 (W (s8 + 1)))
  else
    k1 ()
abbrev f195_L2H : Tm := ⟨[(0, .d hIs), (1, .d (.fn 180)), (7, .d hI), (8, .d hI)], [], [], []⟩
abbrev f195_L2X0 : Tm := ⟨[(4, .d hI)], [], [], []⟩
abbrev f195_L2X1 : Tm := ⟨[], [], [], []⟩
abbrev f195_L2O : List (Exit × Tm) := [(.ret, f195_L2X0), (.exit 0, f195_L2X1)]
def f195_L2U {α : Type} (n : Nat) (v : f195_L2H.den) (f : f195_L2H.den → Option α) (ks : KS α f195_L2O) : Option α := f195_L2B n v.1.1 v.1.2.2.1 v.1.2.2.2.1 (fun s0 s7 s8 => f ((s0, (), s7, s8, ()), ())) (fun w0 => ks.1 ((w0, ()), ())) (fun _ => ks.2.1 ((), ()))
def f195_L2 {α : Type} (n m : Nat) (s0 : List Int) (s7 : Int) (s8 : Int) (k0 : Int → Option α) (k1 : Unit → Option α) : Option α := rounds (f195_L2U n) m ((s0, (), s7, s8, ()), ()) (fun w => k0 w.1.1, fun w => k1 (), ())
theorem f195_L2_0 {α : Type} (n : Nat) (s0 : List Int) (s7 : Int) (s8 : Int) (k0 : Int → Option α) (k1 : Unit → Option α) : f195_L2 (α := α) n 0 s0 s7 s8 k0 k1 = none := rfl
theorem f195_L2_s {α : Type} (n m : Nat) (s0 : List Int) (s7 : Int) (s8 : Int) (k0 : Int → Option α) (k1 : Unit → Option α) : f195_L2 (α := α) n (m + 1) s0 s7 s8 k0 k1 = f195_L2B n s0 s7 s8 (fun s0 s7 s8 => f195_L2 n m s0 s7 s8 k0 k1) k0 k1 := rfl
def f195 (n : Nat) (a0 : List Int) (a1 : Unit) : Option Int :=
  f195_L2 n n a0 (a0.length : Int) 0
    (fun z_2 => (
      some z_2))
    (fun (_ : Unit) => (
      some (-1)))
def f195_E (n : Nat) : Ent := ⟨195, [hIs, (.fn 180)], [hI], fun x => f195 n x.1 x.2⟩
def f195_D (α : Type) (n : Nat) : D3 α := { reg := [(4, ⟨0, [], [(5, { ent := some (f180_E n) })]⟩)], join := [], loop := [(2, ⟨f195_L2H, f195_L2O, rounds (f195_L2U n) n⟩)] }
theorem f195_ents (α : Type) (n : Nat) : AllS Try.prog (entsOf (f195_D α n).reg) := ⟨f180_ok n, trivial⟩
theorem f195_L2_d (α : Type) (n : Nat) : D3.OK Try.prog (tyOf Try.prog) ⟨19, []⟩ (f195_D α n) ((bodyOf Try.f195).at [1, 0, 1, 0, 0]) :=
  D3.OK.mk3 (f195_ents α n) (show loopsOf ((bodyOf Try.f195).at [1, 0, 1, 0, 0]) = [] by kernel_rfl) trivial
theorem f195_L2_ok (α : Type) (n : Nat) : LO.Sound (α := α) Try.prog ⟨19, []⟩ ⟨f195_L2H, f195_L2O, rounds (f195_L2U n) n⟩ (.loop ((bodyOf Try.f195).at [1, 0, 1, 0, 0])) :=
  loop_ok (tyOf_ok _) prog_fol (f195_L2U n) (f195_L2_d α n) (by intro v f ks; kernel_rfl) n
theorem f195_d (α : Type) (n : Nat) : D3.OK Try.prog (tyOf Try.prog) ⟨19, []⟩ (f195_D α n) (bodyOf Try.f195) :=
  D3.OK.mk3 (f195_ents α n) (show loopsOf (bodyOf Try.f195) = [(2, (.loop ((bodyOf Try.f195).at [1, 0, 1, 0, 0])))] by kernel_rfl) ⟨look_sound rfl (f195_L2_ok α n), trivial⟩
theorem f195_ok (n : Nat) : (f195_E n).Sound Try.prog :=
  fn_ok (tyOf_ok _) prog_fol (f195_D _ n) (show Try.prog.funcs[195]? = some Try.f195 by kernel_rfl) (by kernel_rfl) (show Try.f195.body = some (bodyOf Try.f195) by kernel_rfl) rfl rfl (Nat.le_of_ble_eq_true rfl) (f195_d _ n) (by intro x; kernel_rfl) 

def f179 (n : Nat) (a0 : List Int) (a1 : Unit) : Option Bool :=
  ob (f195 n a0 a1) fun r_1 =>
  some (decide (r_1 ≥ 0))
def f179_E (n : Nat) : Ent := ⟨179, [hIs, (.fn 180)], [.bool], fun x => f179 n x.1 x.2⟩
def f179_D (α : Type) (n : Nat) : D3 α := { reg := [(1, ⟨0, [], [(2, { ent := some (f195_E n) })]⟩)], join := [], loop := [] }
theorem f179_ents (α : Type) (n : Nat) : AllS Try.prog (entsOf (f179_D α n).reg) := ⟨f195_ok n, trivial⟩
theorem f179_d (α : Type) (n : Nat) : D3.OK Try.prog (tyOf Try.prog) ⟨9, []⟩ (f179_D α n) (bodyOf Try.f179) :=
  D3.OK.mk3 (f179_ents α n) (show loopsOf (bodyOf Try.f179) = [] by kernel_rfl) trivial
theorem f179_ok (n : Nat) : (f179_E n).Sound Try.prog :=
  fn_ok (tyOf_ok _) prog_fol (f179_D _ n) (show Try.prog.funcs[179]? = some Try.f179 by kernel_rfl) (by kernel_rfl) (show Try.f179.body = some (bodyOf Try.f179) by kernel_rfl) rfl rfl (Nat.le_of_ble_eq_true rfl) (f179_d _ n) (by intro x; kernel_rfl) 

def f134 (n : Nat) (a0 : List Int) : Option Bool :=
  bif (decide ((a0.length : Int) > 40)) then
    some false
  else
    bif (decide ((a0.length : Int) > 0)) then
      gd (decide (0 ≤ (W ((a0.length : Int) - 1))) && decide ((W ((a0.length : Int) - 1)) < (a0.length : Int))) (
        bif ((a0.getD ((W ((a0.length : Int) - 1)).toNat) 0) == 0) then
          some false
        else
          ob (f179 n a0 ()) fun r_1 =>
          some (!r_1))
    else
      ob (f179 n a0 ()) fun r_2 =>
      some (!r_2)
def f134_E (n : Nat) : Ent := ⟨134, [hIs], [.bool], fun x => f134 n x⟩
def f134_D (α : Type) (n : Nat) : D3 α := { reg := [(4, ⟨0, [], [(1, { ent := some (f179_E n) })]⟩)], join := [], loop := [] }
theorem f134_ents (α : Type) (n : Nat) : AllS Try.prog (entsOf (f134_D α n).reg) := ⟨f179_ok n, trivial⟩
theorem f134_d (α : Type) (n : Nat) : D3.OK Try.prog (tyOf Try.prog) ⟨23, []⟩ (f134_D α n) (bodyOf Try.f134) :=
  D3.OK.mk3 (f134_ents α n) (show loopsOf (bodyOf Try.f134) = [] by kernel_rfl) trivial
theorem f134_ok (n : Nat) : (f134_E n).Sound Try.prog :=
  fn_ok (tyOf_ok _) prog_fol (f134_D _ n) (show Try.prog.funcs[134]? = some Try.f134 by kernel_rfl) (by kernel_rfl) (show Try.f134.body = some (bodyOf Try.f134) by kernel_rfl) rfl rfl (Nat.le_of_ble_eq_true rfl) (f134_d _ n) (by intro x; kernel_rfl) 

def f135 (n : Nat) (a0 : Bool × (List Int) × (List Int)) : Option Bool :=
  some ((a0.2.1.length : Int) == 0)
def f135_E (n : Nat) : Ent := ⟨135, [hR], [.bool], fun x => f135 n x⟩
def f135_D (α : Type) (n : Nat) : D3 α := { reg := [], join := [], loop := [] }
theorem f135_ents (α : Type) (n : Nat) : AllS Try.prog (entsOf (f135_D α n).reg) := trivial
theorem f135_d (α : Type) (n : Nat) : D3.OK Try.prog (tyOf Try.prog) ⟨7, []⟩ (f135_D α n) (bodyOf Try.f135) :=
  D3.OK.mk3 (f135_ents α n) (show loopsOf (bodyOf Try.f135) = [] by kernel_rfl) trivial
theorem f135_ok (n : Nat) : (f135_E n).Sound Try.prog :=
  fn_ok (tyOf_ok _) prog_fol (f135_D _ n) (show Try.prog.funcs[135]? = some Try.f135 by kernel_rfl) (by kernel_rfl) (show Try.f135.body = some (bodyOf Try.f135) by kernel_rfl) rfl rfl (Nat.le_of_ble_eq_true rfl) (f135_d _ n) (by intro x; kernel_rfl) 

def f181 (n : Nat) (a0 : List Int) : Option (List Int) :=
  some a0
def f181_E (n : Nat) : Ent := ⟨181, [hIs], [(.clo 196 (.ref hIs))], fun x => f181 n x⟩
def f181_D (α : Type) (n : Nat) : D3 α := { reg := [(1, ⟨0, [], [(0, { sh := some (.ref hIs) })]⟩)], join := [], loop := [] }
theorem f181_ents (α : Type) (n : Nat) : AllS Try.prog (entsOf (f181_D α n).reg) := trivial
theorem f181_d (α : Type) (n : Nat) : D3.OK Try.prog (tyOf Try.prog) ⟨4, []⟩ (f181_D α n) (bodyOf Try.f181) :=
  D3.OK.mk3 (f181_ents α n) (show loopsOf (bodyOf Try.f181) = [] by kernel_rfl) trivial
theorem f181_ok (n : Nat) : (f181_E n).Sound Try.prog :=
  fn_ok (tyOf_ok _) prog_fol (f181_D _ n) (show Try.prog.funcs[181]? = some Try.f181 by kernel_rfl) (by kernel_rfl) (show Try.f181.body = some (bodyOf Try.f181) by kernel_rfl) rfl rfl (Nat.le_of_ble_eq_true rfl) (f181_d _ n) (by intro x; kernel_rfl) 

def f136_L6B {α : Type} (n : Nat) (i : Nat) (z : Int) (s18 : List Int) (c3_0 : List Int) (c4_0 : Int) (f : (List Int) → (List Int) → Int → Option α) (k0 : Int → Option α) (k1 : Int → Option α) : Option α :=
  gd (decide (0 ≤ (i : Int)) && decide ((i : Int) < (c3_0.length : Int))) (
    bif (z != (c3_0.getD ((i : Int).toNat) 0)) then
      gd (decide (0 ≤ (i : Int)) && decide ((i : Int) < (c3_0.length : Int))) (
        bif (decide (z < (c3_0.getD ((i : Int).toNat) 0))) then
          k1 (-1)
        else
          k1 1)
    else
      f s18 c3_0 c4_0)
abbrev f136_L6H : Tm := ⟨[(3, .k (.hp 3 0 0)), (4, .k (.hp 4 0 0)), (18, .d (.clo 196 (.ref hIs)))], [(3, .var 29 true false [.d hIs]), (4, .var 3 true false [.d hI])], [], []⟩
abbrev f136_L6X0 : Tm := ⟨[(4, .k (.hp 4 0 0))], [(4, .var 3 true false [.d hI])], [3], []⟩
abbrev f136_L6X1 : Tm := ⟨[(4, .k (.hp 4 0 0))], [(4, .var 3 true false [.d hI])], [3], []⟩
abbrev f136_L6O : List (Exit × Tm) := [(.normal, f136_L6X0), (.ret, f136_L6X1)]
def f136_L6Z (v : f136_L6H.den) : List Int := (fun s18 c3_0 c4_0 => s18) v.1.2.2.1 v.2.1.1 v.2.2.1.1
def f136_L6U {α : Type} (n : Nat) (i : Nat) (z : Int) (v : f136_L6H.den) (f : f136_L6H.den → Option α) (ks : KS α f136_L6O) : Option α := f136_L6B n i z v.1.2.2.1 v.2.1.1 v.2.2.1.1 (fun s18 c3_0 c4_0 => f (((), (), s18, ()), ((c3_0, ()), (c4_0, ()), ()))) (fun w0 => ks.1 (((), ()), ((w0, ()), ()))) (fun w0 => ks.2.1 (((), ()), ((w0, ()), ())))
def f136_L6N {α : Type} (v : f136_L6H.den) (ks : KS α f136_L6O) : Option α := (fun s18 c3_0 c4_0 => ks.1 (((), ()), ((c4_0, ()), ()))) v.1.2.2.1 v.2.1.1 v.2.2.1.1
def f136_L6 {α : Type} (n : Nat) (s18 : List Int) (c3_0 : List Int) (c4_0 : Int) (k0 : Int → Option α) (k1 : Int → Option α) : Option α := rangeR f136_L6Z (f136_L6U n) f136_L6N (((), (), s18, ()), ((c3_0, ()), (c4_0, ()), ())) (fun w => k0 w.2.1.1, fun w => k1 w.2.1.1, ())
def f136_L6R {α : Type} (n : Nat) (zs : List Int) (i : Nat) (s18 : List Int) (c3_0 : List Int) (c4_0 : Int) (k0 : Int → Option α) (k1 : Int → Option α) : Option α := rangeB f136_L6Z (f136_L6U n) zs i (((), (), s18, ()), ((c3_0, ()), (c4_0, ()), ())) (fun v => f136_L6N v (fun w => k0 w.2.1.1, fun w => k1 w.2.1.1, ())) (fun w => k0 w.2.1.1, fun w => k1 w.2.1.1, ())
theorem f136_L6_e {α : Type} (n : Nat) (s18 : List Int) (c3_0 : List Int) (c4_0 : Int) (k0 : Int → Option α) (k1 : Int → Option α) : f136_L6 (α := α) n s18 c3_0 c4_0 k0 k1 = gd (decide (s18.length ≤ 4611686018427387904)) (f136_L6R n s18 s18.length s18 c3_0 c4_0 k0 k1) := rfl
theorem f136_L6_0 {α : Type} (n : Nat) (zs : List Int) (s18 : List Int) (c3_0 : List Int) (c4_0 : Int) (k0 : Int → Option α) (k1 : Int → Option α) : f136_L6R (α := α) n zs 0 s18 c3_0 c4_0 k0 k1 = k0 c4_0 := rfl
theorem f136_L6_s {α : Type} (n : Nat) (zs : List Int) (i : Nat) (s18 : List Int) (c3_0 : List Int) (c4_0 : Int) (k0 : Int → Option α) (k1 : Int → Option α) : f136_L6R (α := α) n zs (i + 1) s18 c3_0 c4_0 k0 k1 = f136_L6B n i (zs.getD i 0) s18 c3_0 c4_0 (fun s18 c3_0 c4_0 => gd (decide (s18 = zs)) (f136_L6R n zs i s18 c3_0 c4_0 k0 k1)) k0 k1 := rfl
def f136 (n : Nat) (a0 : List Int) (a1 : List Int) : Option Int :=
  bif ((a0.length : Int) != (a1.length : Int)) then
    bif (decide ((a0.length : Int) < (a1.length : Int))) then
      some (-1)
    else
      some 1
  else
    ob (f181 n a0) fun r_1 =>
    f136_L6 n r_1 a1 0
      (fun z_2 => (
        some 0))
      (fun z_3 => (
        some z_3))
def f136_E (n : Nat) : Ent := ⟨136, [hIs, hIs], [hI], fun x => f136 n x.1 x.2⟩
def f136_D (α : Type) (n : Nat) : D3 α := { reg := [(5, ⟨0, [], [(1, { ent := some (f181_E n) })]⟩)], join := [], loop := [(6, ⟨f136_L6H, f136_L6O, rangeR f136_L6Z (f136_L6U n) f136_L6N⟩)] }
theorem f136_ents (α : Type) (n : Nat) : AllS Try.prog (entsOf (f136_D α n).reg) := ⟨f181_ok n, trivial⟩
theorem f136_L6A_d (α : Type) (n : Nat) : D3.OK Try.prog (tyOf Try.prog) ⟨33, []⟩ (f136_D α n) ((bodyOf Try.f136).at [1, 1, 0, 1, 0, 0]) :=
  D3.OK.mk3 (f136_ents α n) (show loopsOf ((bodyOf Try.f136).at [1, 1, 0, 1, 0, 0]) = [] by kernel_rfl) trivial
theorem f136_L6B_d (α : Type) (n : Nat) : D3.OK Try.prog (tyOf Try.prog) ⟨33, []⟩ (f136_D α n) ((bodyOf Try.f136).at [1, 1, 0, 1, 0, 1]) :=
  D3.OK.mk3 (f136_ents α n) (show loopsOf ((bodyOf Try.f136).at [1, 1, 0, 1, 0, 1]) = [] by kernel_rfl) trivial
theorem f136_L6_ok (α : Type) (n : Nat) : LO.Sound (α := α) Try.prog ⟨33, []⟩ ⟨f136_L6H, f136_L6O, rangeR f136_L6Z (f136_L6U n) f136_L6N⟩ (.rangeFunc (.tmp 18) #[19, 20] ((bodyOf Try.f136).at [1, 1, 0, 1, 0, 0]) ((bodyOf Try.f136).at [1, 1, 0, 1, 0, 1])) :=
  range_ok (tyOf_ok _) prog_fol f136_L6Z (f136_L6U n) f136_L6N back_ok rfl rfl rfl rfl (f136_L6A_d α n) (f136_L6B_d α n) (by intro v; rfl) (by intro i z v f ks; kernel_rfl) (by intro v ks; kernel_rfl)
theorem f136_d (α : Type) (n : Nat) : D3.OK Try.prog (tyOf Try.prog) ⟨33, []⟩ (f136_D α n) (bodyOf Try.f136) :=
  D3.OK.mk3 (f136_ents α n) (show loopsOf (bodyOf Try.f136) = [(6, (.rangeFunc (.tmp 18) #[19, 20] ((bodyOf Try.f136).at [1, 1, 0, 1, 0, 0]) ((bodyOf Try.f136).at [1, 1, 0, 1, 0, 1])))] by kernel_rfl) ⟨look_sound rfl (f136_L6_ok α n), trivial⟩
theorem f136_ok (n : Nat) : (f136_E n).Sound Try.prog :=
  fn_ok (tyOf_ok _) prog_fol (f136_D _ n) (show Try.prog.funcs[136]? = some Try.f136 by kernel_rfl) (by kernel_rfl) (show Try.f136.body = some (bodyOf Try.f136) by kernel_rfl) rfl rfl (Nat.le_of_ble_eq_true rfl) (f136_d _ n) (by intro x; kernel_rfl) 

def f132G (n : Nat) (a0 : List Int) : Option (List Int) :=
  gd ((!a0.isEmpty)) (
    gd (decide ((0 + a0.length) * 8 ≤ 140737488355328)) (
      some a0))
def f132G_E (n : Nat) : Ent := ⟨132, [hIs], [hIs], fun x => f132G n x⟩
def f132G_D (α : Type) (n : Nat) : D3 α := { reg := [(3, ⟨0, [], [(0, { sh := some hI })]⟩)], join := [], loop := [] }
theorem f132G_ents (α : Type) (n : Nat) : AllS Try.prog (entsOf (f132G_D α n).reg) := trivial
theorem f132G_d (α : Type) (n : Nat) : D3.OK Try.prog (tyOf Try.prog) ⟨8, []⟩ (f132G_D α n) (bodyOf Try.f132) :=
  D3.OK.mk3 (f132G_ents α n) (show loopsOf (bodyOf Try.f132) = [] by kernel_rfl) trivial
theorem f132G_ok (n : Nat) : (f132G_E n).Sound Try.prog :=
  fn_ok (tyOf_ok _) prog_fol (f132G_D _ n) (show Try.prog.funcs[132]? = some Try.f132 by kernel_rfl) (by kernel_rfl) (show Try.f132.body = some (bodyOf Try.f132) by kernel_rfl) rfl rfl (Nat.le_of_ble_eq_true rfl) (f132G_d _ n) (by intro x; kernel_rfl) 

set_option maxRecDepth 100000 in
set_option maxHeartbeats 2000000 in
theorem clone_nil (ad : Option Addr) (cap : Nat) (hc : ad = none → cap = 0) (w : World) : Calls Try.prog 132 #[.slice ad 0 cap] w fun e w' => (∃ a c, e = .returned (.slice a 0 c) ∧ (a = none → c = 0)) ∧ w.grownBy w' none := by
  refine (callsIn_wide (n := 3)).1 ?_
  refine callsIn_of_wp Try.func132 rfl trivial ?_ rfl
  simp only [Try.ntmps132, List.size_toArray, List.length_cons, List.length_nil, Nat.reduceAdd, Nat.reduceSub, Array.replicate_succ, Array.replicate_zero, List.push_toArray, List.append_toArray, List.nil_append, List.cons_append]
  have hi : ∃ i, Try.prog.info? 3 = some i := ⟨_, rfl⟩
  obtain ⟨i3, hi3⟩ := hi
  have hap : ∀ (base : Option Addr) (sCap : Nat) (a : Option Addr) (cp : Nat) (w : World), (Builtin.append_ #[29, 29] 29 #[.slice base 0 sCap, .slice a 0 cp]).run Try.prog w = .ok (.slice base 0 sCap) w := fun base sCap a cp w =>
    run_append_none w 29 29 3 i3 Try.underlying29 hi3 base 0 sCap (Nat.zero_le _) a cp
  cases ad with
  | none =>
    obtain rfl := hc rfl
    have hb : ∀ w, (binOp BinOp.eql 29 (.slice none 0 0) (.slice none 0 0)).run Try.prog w = .ok (.bool true) w := fun w => by kernel_rfl
    gi_wp2
    refine bodyPost_ret (results_tmp rfl _ _ _) rfl ?_
    exact ⟨⟨none, 0, rfl, fun _ => rfl⟩, ⟨rfl, rfl, rfl, Nat.le_refl _, fun _ _ _ => rfl⟩⟩
  | some ad =>
    have hb : ∀ w, (binOp BinOp.eql 29 (.slice (some ad) 0 cap) (.slice none 0 0)).run Try.prog w = .ok (.bool false) w := fun w => by kernel_rfl
    gi_wp2
    refine bodyPost_ret (results_tmp rfl _ _ _) rfl ?_
    exact ⟨⟨_, 0, rfl, fun _ => rfl⟩, World.grownBy_alloc w _ none⟩
def f132 (n : Nat) (a0 : List Int) : Option (List Int) := bif a0.isEmpty then some [] else f132G n a0
def f132_E (n : Nat) : Ent := ⟨132, [hIs], [hIs], fun x => f132 n x⟩
theorem f132_ok (n : Nat) : (f132_E n).Sound Try.prog := by
  intro nt x r h
  cases x with
  | cons z l => exact f132G_ok n nt (z :: l) r h
  | nil =>
    have h : some ([] : List Int) = some r := h
    obtain rfl := Option.some.inj h
    refine ⟨⟨Try.f132, by kernel_rfl, by kernel_rfl, by kernel_rfl⟩, fun w E vs hin hv => ?_⟩
    obtain ⟨hl, hget⟩ := hv
    match vs, hl with
    | [v], _ =>
      have h1 : Rv w E v (.one (.i (.sl 0 false 1 []))) := hget 0 v _ rfl rfl
      cases h1 with
      | one h1 =>
        cases h1 with
        | i h1 =>
          cases h1 with
          | sl _ _ _ _ _ _ _ hne => exact absurd rfl hne
          | nil _ _ cap a _ hn hc =>
            refine (clone_nil a cap hc w).mono ?_
            rintro e w' ⟨⟨a', c', rfl, hc'⟩, hg⟩
            exact ⟨_, E, rfl, .v (.one (.i (.nil 0 1 c' a' false (fun e => by cases e) hc'))), ⟨hg.os, hg.tape, hg.output, hg.size, fun b hb _ => hg.block b hb (by simp)⟩,
              ⟨fun b hb => Nat.lt_of_lt_of_le (hin.wf.alt b hb) hg.size, hin.wf.tag, hin.wf.inj⟩, fun _ _ => Iff.rfl, Nat.le_refl _, fun _ _ => rfl, fun t g ht h => absurd (hin.wf.tag t g h).1 (Nat.not_lt.2 ht),
              fun h b hb => (by cases hb), fun h h' b b' g g' z z' hb => (by cases hb), fun h b g z hb => (by cases hb), fun h b hb => (by cases hb)⟩
 

def f186_L2B {α : Type} (n : Nat) (s0 : List Int) (s3 : Int) (f : (List Int) → Int → Option α) (k0 : (List Int) → Int → Option α) : Option α :=
  bif (decide (s3 > 0)) then
    gd (decide (0 ≤ (W (s3 - 1))) && decide ((W (s3 - 1)) < (s0.length : Int))) (
      bif ((s0.getD ((W (s3 - 1)).toNat) 0) == 0) then
        f s0 (W (s3 - 1))
      else
        k0 s0 s3)
  else
    k0 s0 s3
abbrev f186_L2H : Tm := ⟨[(0, .d hIs), (3, .d hI)], [], [], []⟩
abbrev f186_L2X0 : Tm := ⟨[(0, .d hIs), (3, .d hI)], [], [], []⟩
abbrev f186_L2O : List (Exit × Tm) := [(.exit 0, f186_L2X0)]
def f186_L2U {α : Type} (n : Nat) (v : f186_L2H.den) (f : f186_L2H.den → Option α) (ks : KS α f186_L2O) : Option α := f186_L2B n v.1.1 v.1.2.1 (fun s0 s3 => f ((s0, s3, ()), ())) (fun w0 w1 => ks.1 ((w0, w1, ()), ()))
def f186_L2 {α : Type} (n m : Nat) (s0 : List Int) (s3 : Int) (k0 : (List Int) → Int → Option α) : Option α := rounds (f186_L2U n) m ((s0, s3, ()), ()) (fun w => k0 w.1.1 w.1.2.1, ())
theorem f186_L2_0 {α : Type} (n : Nat) (s0 : List Int) (s3 : Int) (k0 : (List Int) → Int → Option α) : f186_L2 (α := α) n 0 s0 s3 k0 = none := rfl
theorem f186_L2_s {α : Type} (n m : Nat) (s0 : List Int) (s3 : Int) (k0 : (List Int) → Int → Option α) : f186_L2 (α := α) n (m + 1) s0 s3 k0 = f186_L2B n s0 s3 (fun s0 s3 => f186_L2 n m s0 s3 k0) k0 := rfl
def f186 (n : Nat) (a0 : List Int) : Option (List Int) :=
  f186_L2 n n a0 (a0.length : Int)
    (fun z_1 z_2 => (
      gd (decide (0 ≤ z_2) && decide (z_2 ≤ (z_1.length : Int))) (
        some ((z_1.drop 0).take (z_2.toNat - 0)))))
def f186_E (n : Nat) : Ent := ⟨186, [hIs], [hIs], fun x => f186 n x⟩
def f186_D (α : Type) (n : Nat) : D3 α := { reg := [], join := [], loop := [(2, ⟨f186_L2H, f186_L2O, rounds (f186_L2U n) n⟩)] }
theorem f186_ents (α : Type) (n : Nat) : AllS Try.prog (entsOf (f186_D α n).reg) := trivial
theorem f186_L2_d (α : Type) (n : Nat) : D3.OK Try.prog (tyOf Try.prog) ⟨21, []⟩ (f186_D α n) ((bodyOf Try.f186).at [1, 1, 0, 0, 0]) :=
  D3.OK.mk3 (f186_ents α n) (show loopsOf ((bodyOf Try.f186).at [1, 1, 0, 0, 0]) = [] by kernel_rfl) trivial
theorem f186_L2_ok (α : Type) (n : Nat) : LO.Sound (α := α) Try.prog ⟨21, []⟩ ⟨f186_L2H, f186_L2O, rounds (f186_L2U n) n⟩ (.loop ((bodyOf Try.f186).at [1, 1, 0, 0, 0])) :=
  loop_ok (tyOf_ok _) prog_fol (f186_L2U n) (f186_L2_d α n) (by intro v f ks; kernel_rfl) n
theorem f186_d (α : Type) (n : Nat) : D3.OK Try.prog (tyOf Try.prog) ⟨21, []⟩ (f186_D α n) (bodyOf Try.f186) :=
  D3.OK.mk3 (f186_ents α n) (show loopsOf (bodyOf Try.f186) = [(2, (.loop ((bodyOf Try.f186).at [1, 1, 0, 0, 0])))] by kernel_rfl) ⟨look_sound rfl (f186_L2_ok α n), trivial⟩
theorem f186_ok (n : Nat) : (f186_E n).Sound Try.prog :=
  fn_ok (tyOf_ok _) prog_fol (f186_D _ n) (show Try.prog.funcs[186]? = some Try.f186 by kernel_rfl) (by kernel_rfl) (show Try.f186.body = some (bodyOf Try.f186) by kernel_rfl) rfl rfl (Nat.le_of_ble_eq_true rfl) (f186_d _ n) (by intro x; kernel_rfl) 

def f163_L2B {α : Type} (n : Nat) (s0 : Int) (b4 : List Int) (f : Int → (List Int) → Option α) (k0 : (List Int) → Option α) : Option α :=
  bif (decide (s0 > 0)) then
    gd (decide ((b4.length + 1) * 8 ≤ 140737488355328)) (
      f (W (Int.tdiv s0 10000)) (b4 ++ [(Int.tmod s0 10000)]))
  else
    k0 b4
abbrev f163_L2H : Tm := ⟨[(0, .d hI), (3, .k (.hw 4))], [(4, .arr 3 hI false)], [12], []⟩
abbrev f163_L2X0 : Tm := ⟨[(3, .k (.hw 4))], [(4, .arr 3 hI false)], [], []⟩
abbrev f163_L2O : List (Exit × Tm) := [(.exit 0, f163_L2X0)]
def f163_L2U {α : Type} (n : Nat) (v : f163_L2H.den) (f : f163_L2H.den → Option α) (ks : KS α f163_L2O) : Option α := f163_L2B n v.1.1 v.2.1 (fun s0 b4 => f ((s0, (), ()), (b4, ()))) (fun w0 => ks.1 (((), ()), (w0, ())))
def f163_L2 {α : Type} (n m : Nat) (s0 : Int) (b4 : List Int) (k0 : (List Int) → Option α) : Option α := rounds (f163_L2U n) m ((s0, (), ()), (b4, ())) (fun w => k0 w.2.1, ())
theorem f163_L2_0 {α : Type} (n : Nat) (s0 : Int) (b4 : List Int) (k0 : (List Int) → Option α) : f163_L2 (α := α) n 0 s0 b4 k0 = none := rfl
theorem f163_L2_s {α : Type} (n m : Nat) (s0 : Int) (b4 : List Int) (k0 : (List Int) → Option α) : f163_L2 (α := α) n (m + 1) s0 b4 k0 = f163_L2B n s0 b4 (fun s0 b4 => f163_L2 n m s0 b4 k0) k0 := rfl
def f163 (n : Nat) (a0 : Int) : Option (List Int) :=
  f163_L2 n n a0 []
    (fun z_1 => (
      some z_1))
def f163_E (n : Nat) : Ent := ⟨163, [hI], [hIs], fun x => f163 n x⟩
def f163_D (α : Type) (n : Nat) : D3 α := { reg := [(1, ⟨0, [], [(0, { sh := some hI })]⟩), (4, ⟨0, [], [(3, { sh := some hI })]⟩)], join := [], loop := [(2, ⟨f163_L2H, f163_L2O, rounds (f163_L2U n) n⟩)] }
theorem f163_ents (α : Type) (n : Nat) : AllS Try.prog (entsOf (f163_D α n).reg) := trivial
theorem f163_L2_d (α : Type) (n : Nat) : D3.OK Try.prog (tyOf Try.prog) ⟨15, []⟩ (f163_D α n) ((bodyOf Try.f163).at [1, 1, 0, 0, 0]) :=
  D3.OK.mk3 (f163_ents α n) (show loopsOf ((bodyOf Try.f163).at [1, 1, 0, 0, 0]) = [] by kernel_rfl) trivial
theorem f163_L2_ok (α : Type) (n : Nat) : LO.Sound (α := α) Try.prog ⟨15, []⟩ ⟨f163_L2H, f163_L2O, rounds (f163_L2U n) n⟩ (.loop ((bodyOf Try.f163).at [1, 1, 0, 0, 0])) :=
  loop_ok (tyOf_ok _) prog_fol (f163_L2U n) (f163_L2_d α n) (by intro v f ks; kernel_rfl) n
theorem f163_d (α : Type) (n : Nat) : D3.OK Try.prog (tyOf Try.prog) ⟨15, []⟩ (f163_D α n) (bodyOf Try.f163) :=
  D3.OK.mk3 (f163_ents α n) (show loopsOf (bodyOf Try.f163) = [(2, (.loop ((bodyOf Try.f163).at [1, 1, 0, 0, 0])))] by kernel_rfl) ⟨look_sound rfl (f163_L2_ok α n), trivial⟩
theorem f163_ok (n : Nat) : (f163_E n).Sound Try.prog :=
  fn_ok (tyOf_ok _) prog_fol (f163_D _ n) (show Try.prog.funcs[163]? = some Try.f163 by kernel_rfl) (by kernel_rfl) (show Try.f163.body = some (bodyOf Try.f163) by kernel_rfl) rfl rfl (Nat.le_of_ble_eq_true rfl) (f163_d _ n) (by intro x; kernel_rfl) 

def f132B (n : Nat) (a0 : List Int) : Option (List Int) :=
  gd ((!a0.isEmpty)) (
    gd (decide ((0 + a0.length) * 8 ≤ 140737488355328)) (
      some a0))
def f132B_E (n : Nat) : Ent3 := ⟨132, [.im hIs], [[.one (.own 3 hI)]], fun x => f132B n x⟩
def f132B_D (α : Type) (n : Nat) : D3 α := { reg := [(3, ⟨0, [], [(0, { sh := some hI })]⟩)], join := [], loop := [] }
theorem f132B_ents (α : Type) (n : Nat) : AllS Try.prog (entsOf (f132B_D α n).reg) := trivial
theorem f132B_d (α : Type) (n : Nat) : D3.OK Try.prog (tyOf Try.prog) ⟨8, []⟩ (f132B_D α n) (bodyOf Try.f132) :=
  D3.OK.mk3 (f132B_ents α n) (show loopsOf (bodyOf Try.f132) = [] by kernel_rfl) trivial
theorem f132B_ok (n : Nat) : (f132B_E n).Sound Try.prog :=
  fn_okB (tyOf_ok _) prog_fol (f132B_D _ n) (show Try.prog.funcs[132]? = some Try.f132 by kernel_rfl) (by kernel_rfl) (show Try.f132.body = some (bodyOf Try.f132) by kernel_rfl) rfl rfl (Nat.le_of_ble_eq_true rfl) (f132B_d _ n) (by intro x; kernel_rfl) 

def f197B_L6B {α : Type} (n : Nat) (s0o : Nat) (s0l : Nat) (s1 : List Int) (s5 : Int) (s7 : Int) (s8 : Int) (s50 : Int) (s51 : Int) (b1000 : List Int) (f : Nat → Nat → (List Int) → Int → Int → Int → Int → Int → (List Int) → Option α) (k0 : Nat → Nat → (List Int) → Int → Int → Int → (List Int) → Option α) : Option α :=
  bif (decide (s51 < s50)) then
    gd (decide (0 ≤ s51) && decide (s51 < (s0l : Int))) (
      gd (decide ((s0o + s51.toNat) < b1000.length)) (
        let J_4 := fun (y_1 : Int) => (
          let J_3 := fun (y_2 : Int) => (
            gd (decide (0 ≤ s51) && decide (s51 < (s0l : Int))) (
              gd (decide ((s0o + s51.toNat) < b1000.length)) (
                f s0o s0l s1 s5 s7 y_2 s50 (W (s51 + 1)) (b1000.set (s0o + s51.toNat) (W (y_1 - (W (y_2 * 10000))))))))
          bif (decide (y_1 < 0)) then
            J_3 (W (Int.tdiv (W ((W (y_1 - 10000)) + 1)) 10000))
          else
            J_3 0)
        bif (decide (s51 < s5)) then
          gd (decide (0 ≤ s51) && decide (s51 < (s1.length : Int))) (
            J_4 (W ((W ((b1000.getD (s0o + s51.toNat) 0) + s8)) - (W (s7 * (s1.getD s51.toNat 0))))))
        else
          J_4 (W ((b1000.getD (s0o + s51.toNat) 0) + s8))))
  else
    k0 s0o s0l s1 s5 s7 s8 b1000
abbrev f197B_L6H : Tm := ⟨[(0, .hs 1000), (1, .d hIs), (5, .d hI), (7, .d hI), (8, .d hI), (50, .d hI), (51, .d hI)], [(1000, .arr 3 hI false)], [], []⟩
abbrev f197B_L6X0 : Tm := ⟨[(0, .hs 1000), (1, .d hIs), (5, .d hI), (7, .d hI), (8, .d hI)], [(1000, .arr 3 hI false)], [], []⟩
abbrev f197B_L6O : List (Exit × Tm) := [(.exit 0, f197B_L6X0)]
def f197B_L6U {α : Type} (n : Nat) (v : f197B_L6H.den) (f : f197B_L6H.den → Option α) (ks : KS α f197B_L6O) : Option α := f197B_L6B n v.1.1.1 v.1.1.2 v.1.2.1 v.1.2.2.1 v.1.2.2.2.1 v.1.2.2.2.2.1 v.1.2.2.2.2.2.1 v.1.2.2.2.2.2.2.1 v.2.1 (fun s0o s0l s1 s5 s7 s8 s50 s51 b1000 => f (((s0o, s0l), s1, s5, s7, s8, s50, s51, ()), (b1000, ()))) (fun w0 w1 w2 w3 w4 w5 w6 => ks.1 (((w0, w1), w2, w3, w4, w5, ()), (w6, ())))
def f197B_L6 {α : Type} (n m : Nat) (s0o : Nat) (s0l : Nat) (s1 : List Int) (s5 : Int) (s7 : Int) (s8 : Int) (s50 : Int) (s51 : Int) (b1000 : List Int) (k0 : Nat → Nat → (List Int) → Int → Int → Int → (List Int) → Option α) : Option α := rounds (f197B_L6U n) m (((s0o, s0l), s1, s5, s7, s8, s50, s51, ()), (b1000, ())) (fun w => k0 w.1.1.1 w.1.1.2 w.1.2.1 w.1.2.2.1 w.1.2.2.2.1 w.1.2.2.2.2.1 w.2.1, ())
theorem f197B_L6_0 {α : Type} (n : Nat) (s0o : Nat) (s0l : Nat) (s1 : List Int) (s5 : Int) (s7 : Int) (s8 : Int) (s50 : Int) (s51 : Int) (b1000 : List Int) (k0 : Nat → Nat → (List Int) → Int → Int → Int → (List Int) → Option α) : f197B_L6 (α := α) n 0 s0o s0l s1 s5 s7 s8 s50 s51 b1000 k0 = none := rfl
theorem f197B_L6_s {α : Type} (n m : Nat) (s0o : Nat) (s0l : Nat) (s1 : List Int) (s5 : Int) (s7 : Int) (s8 : Int) (s50 : Int) (s51 : Int) (b1000 : List Int) (k0 : Nat → Nat → (List Int) → Int → Int → Int → (List Int) → Option α) : f197B_L6 (α := α) n (m + 1) s0o s0l s1 s5 s7 s8 s50 s51 b1000 k0 = f197B_L6B n s0o s0l s1 s5 s7 s8 s50 s51 b1000 (fun s0o s0l s1 s5 s7 s8 s50 s51 b1000 => f197B_L6 n m s0o s0l s1 s5 s7 s8 s50 s51 b1000 k0) k0 := rfl
def f197B_L20B {α : Type} (n : Nat) (s0o : Nat) (s0l : Nat) (s1 : List Int) (s5 : Int) (s7 : Int) (s8 : Int) (s11 : Int) (s90 : Int) (s91 : Int) (b1000 : List Int) (f : Nat → Nat → (List Int) → Int → Int → Int → Int → Int → Int → (List Int) → Option α) (k0 : Nat → Nat → (List Int) → Int → Int → Int → Int → (List Int) → Option α) : Option α :=
  bif (decide (s91 < s90)) then
    gd (decide (0 ≤ s91) && decide (s91 < (s0l : Int))) (
      gd (decide ((s0o + s91.toNat) < b1000.length)) (
        let J_13 := fun (y_12 : Int) => (
          gd (decide (0 ≤ s91) && decide (s91 < (s0l : Int))) (
            gd (decide ((s0o + s91.toNat) < b1000.length)) (
              f s0o s0l s1 s5 s7 s8 (W (Int.tdiv y_12 10000)) s90 (W (s91 + 1)) (b1000.set (s0o + s91.toNat) (Int.tmod y_12 10000)))))
        bif (decide (s91 < s5)) then
          gd (decide (0 ≤ s91) && decide (s91 < (s1.length : Int))) (
            J_13 (W ((W ((b1000.getD (s0o + s91.toNat) 0) + s11)) + (s1.getD s91.toNat 0))))
        else
          J_13 (W ((b1000.getD (s0o + s91.toNat) 0) + s11))))
  else
    k0 s0o s0l s1 s5 s7 s8 s11 b1000
abbrev f197B_L20H : Tm := ⟨[(0, .hs 1000), (1, .d hIs), (5, .d hI), (7, .d hI), (8, .d hI), (11, .d hI), (90, .d hI), (91, .d hI)], [(1000, .arr 3 hI false)], [], []⟩
abbrev f197B_L20X0 : Tm := ⟨[(0, .hs 1000), (1, .d hIs), (5, .d hI), (7, .d hI), (8, .d hI), (11, .d hI)], [(1000, .arr 3 hI false)], [], []⟩
abbrev f197B_L20O : List (Exit × Tm) := [(.exit 4, f197B_L20X0)]
def f197B_L20U {α : Type} (n : Nat) (v : f197B_L20H.den) (f : f197B_L20H.den → Option α) (ks : KS α f197B_L20O) : Option α := f197B_L20B n v.1.1.1 v.1.1.2 v.1.2.1 v.1.2.2.1 v.1.2.2.2.1 v.1.2.2.2.2.1 v.1.2.2.2.2.2.1 v.1.2.2.2.2.2.2.1 v.1.2.2.2.2.2.2.2.1 v.2.1 (fun s0o s0l s1 s5 s7 s8 s11 s90 s91 b1000 => f (((s0o, s0l), s1, s5, s7, s8, s11, s90, s91, ()), (b1000, ()))) (fun w0 w1 w2 w3 w4 w5 w6 w7 => ks.1 (((w0, w1), w2, w3, w4, w5, w6, ()), (w7, ())))
def f197B_L20 {α : Type} (n m : Nat) (s0o : Nat) (s0l : Nat) (s1 : List Int) (s5 : Int) (s7 : Int) (s8 : Int) (s11 : Int) (s90 : Int) (s91 : Int) (b1000 : List Int) (k0 : Nat → Nat → (List Int) → Int → Int → Int → Int → (List Int) → Option α) : Option α := rounds (f197B_L20U n) m (((s0o, s0l), s1, s5, s7, s8, s11, s90, s91, ()), (b1000, ())) (fun w => k0 w.1.1.1 w.1.1.2 w.1.2.1 w.1.2.2.1 w.1.2.2.2.1 w.1.2.2.2.2.1 w.1.2.2.2.2.2.1 w.2.1, ())
theorem f197B_L20_0 {α : Type} (n : Nat) (s0o : Nat) (s0l : Nat) (s1 : List Int) (s5 : Int) (s7 : Int) (s8 : Int) (s11 : Int) (s90 : Int) (s91 : Int) (b1000 : List Int) (k0 : Nat → Nat → (List Int) → Int → Int → Int → Int → (List Int) → Option α) : f197B_L20 (α := α) n 0 s0o s0l s1 s5 s7 s8 s11 s90 s91 b1000 k0 = none := rfl
theorem f197B_L20_s {α : Type} (n m : Nat) (s0o : Nat) (s0l : Nat) (s1 : List Int) (s5 : Int) (s7 : Int) (s8 : Int) (s11 : Int) (s90 : Int) (s91 : Int) (b1000 : List Int) (k0 : Nat → Nat → (List Int) → Int → Int → Int → Int → (List Int) → Option α) : f197B_L20 (α := α) n (m + 1) s0o s0l s1 s5 s7 s8 s11 s90 s91 b1000 k0 = f197B_L20B n s0o s0l s1 s5 s7 s8 s11 s90 s91 b1000 (fun s0o s0l s1 s5 s7 s8 s11 s90 s91 b1000 => f197B_L20 n m s0o s0l s1 s5 s7 s8 s11 s90 s91 b1000 k0) k0 := rfl
def f197B_L16B {α : Type} (n : Nat) (s0o : Nat) (s0l : Nat) (s1 : List Int) (s5 : Int) (s7 : Int) (s8 : Int) (b1000 : List Int) (f : Nat → Nat → (List Int) → Int → Int → Int → (List Int) → Option α) (k0 : Int → (List Int) → Option α) : Option α :=
  bif (decide (s8 < 0)) then
    f197B_L20 n n s0o s0l s1 s5 (W (s7 - 1)) s8 0 (s0l : Int) 0 b1000
      (fun z_12 z_13 z_14 z_15 z_16 z_17 z_18 z_19 => (
        f z_12 z_13 z_14 z_15 z_16 (W (z_17 + z_18)) z_19))
  else
    k0 s7 b1000
abbrev f197B_L16H : Tm := ⟨[(0, .hs 1000), (1, .d hIs), (5, .d hI), (7, .d hI), (8, .d hI)], [(1000, .arr 3 hI false)], [], []⟩
abbrev f197B_L16X0 : Tm := ⟨[(7, .d hI)], [(1000, .arr 3 hI false)], [], []⟩
abbrev f197B_L16O : List (Exit × Tm) := [(.exit 2, f197B_L16X0)]
def f197B_L16U {α : Type} (n : Nat) (v : f197B_L16H.den) (f : f197B_L16H.den → Option α) (ks : KS α f197B_L16O) : Option α := f197B_L16B n v.1.1.1 v.1.1.2 v.1.2.1 v.1.2.2.1 v.1.2.2.2.1 v.1.2.2.2.2.1 v.2.1 (fun s0o s0l s1 s5 s7 s8 b1000 => f (((s0o, s0l), s1, s5, s7, s8, ()), (b1000, ()))) (fun w0 w1 => ks.1 ((w0, ()), (w1, ())))
def f197B_L16 {α : Type} (n m : Nat) (s0o : Nat) (s0l : Nat) (s1 : List Int) (s5 : Int) (s7 : Int) (s8 : Int) (b1000 : List Int) (k0 : Int → (List Int) → Option α) : Option α := rounds (f197B_L16U n) m (((s0o, s0l), s1, s5, s7, s8, ()), (b1000, ())) (fun w => k0 w.1.1 w.2.1, ())
theorem f197B_L16_0 {α : Type} (n : Nat) (s0o : Nat) (s0l : Nat) (s1 : List Int) (s5 : Int) (s7 : Int) (s8 : Int) (b1000 : List Int) (k0 : Int → (List Int) → Option α) : f197B_L16 (α := α) n 0 s0o s0l s1 s5 s7 s8 b1000 k0 = none := rfl
theorem f197B_L16_s {α : Type} (n m : Nat) (s0o : Nat) (s0l : Nat) (s1 : List Int) (s5 : Int) (s7 : Int) (s8 : Int) (b1000 : List Int) (k0 : Int → (List Int) → Option α) : f197B_L16 (α := α) n (m + 1) s0o s0l s1 s5 s7 s8 b1000 k0 = f197B_L16B n s0o s0l s1 s5 s7 s8 b1000 (fun s0o s0l s1 s5 s7 s8 b1000 => f197B_L16 n m s0o s0l s1 s5 s7 s8 b1000 k0) k0 := rfl
abbrev f197B_J11 : Tm := ⟨[(0, .hs 1000), (1, .d hIs), (5, .d hI), (7, .d hI), (9, .d hI), (10, .d hI), (50, .d hI), (51, .d hI)], [(1000, .arr 3 hI false)], [], []⟩
abbrev f197B_J14 : Tm := ⟨[(0, .hs 1000), (1, .d hIs), (5, .d hI), (7, .d hI), (8, .d hI), (9, .d hI), (10, .d hI), (50, .d hI), (51, .d hI)], [(1000, .arr 3 hI false)], [], []⟩
abbrev f197B_J25 : Tm := ⟨[(0, .hs 1000), (1, .d hIs), (5, .d hI), (7, .d hI), (8, .d hI), (12, .d hI), (13, .d hI), (90, .d hI), (91, .d hI)], [(1000, .arr 3 hI false)], [], []⟩
def f197B (n : Nat) (a0 : List Int × Nat × Nat) (a1 : List Int) : Option (Int × (List Int)) :=
  gd (decide (0 ≤ (a1.length : Int)) && decide ((a1.length : Int) < (a0.2.2 : Int))) (
    gd (decide ((a0.2.1 + (a1.length : Int).toNat) < a0.1.length)) (
      gd (decide (0 ≤ (W ((a1.length : Int) - 1))) && decide ((W ((a1.length : Int) - 1)) < (a0.2.2 : Int))) (
        gd (decide ((a0.2.1 + (W ((a1.length : Int) - 1)).toNat) < a0.1.length)) (
          gd (decide (0 ≤ (W ((a1.length : Int) - 2))) && decide ((W ((a1.length : Int) - 2)) < (a0.2.2 : Int))) (
            gd (decide ((a0.2.1 + (W ((a1.length : Int) - 2)).toNat) < a0.1.length)) (
              gd (decide (0 ≤ (W ((a1.length : Int) - 1))) && decide ((W ((a1.length : Int) - 1)) < (a1.length : Int))) (
                gd (decide (0 ≤ (W ((a1.length : Int) - 2))) && decide ((W ((a1.length : Int) - 2)) < (a1.length : Int))) (
                  gd (decide ((W ((W ((a1.getD ((W ((a1.length : Int) - 1)).toNat) 0) * 10000)) + (a1.getD ((W ((a1.length : Int) - 2)).toNat) 0))) ≠ 0)) (
                    f197B_L6 n n a0.2.1 a0.2.2 a1 (a1.length : Int) (min (W (Int.tdiv (W ((W ((W ((W ((a0.1.getD (a0.2.1 + (a1.length : Int).toNat) 0) * 10000)) + (a0.1.getD (a0.2.1 + (W ((a1.length : Int) - 1)).toNat) 0))) * 10000)) + (a0.1.getD (a0.2.1 + (W ((a1.length : Int) - 2)).toNat) 0))) (W ((W ((a1.getD ((W ((a1.length : Int) - 1)).toNat) 0) * 10000)) + (a1.getD ((W ((a1.length : Int) - 2)).toNat) 0))))) 9999) 0 (a0.2.2 : Int) 0 a0.1
                      (fun z_5 z_6 z_7 z_8 z_9 z_10 z_11 => (
                        f197B_L16 n n z_5 z_6 z_7 z_8 z_9 z_10 z_11
                          (fun z_20 z_21 => (
                            some (z_20, z_21))))))))))))))
def f197B_E (n : Nat) : Ent3 := ⟨197, [.one (.win 3 hI), .im hIs], [[.im hI]], fun x => f197B n x.1 x.2⟩
def f197B_D (α : Type) (n : Nat) : D3 α := { reg := [(2, ⟨17, [], []⟩), (3, ⟨13, [], []⟩)], join := [(11, f197B_J11), (14, f197B_J14), (25, f197B_J25)], loop := [(6, ⟨f197B_L6H, f197B_L6O, rounds (f197B_L6U n) n⟩), (20, ⟨f197B_L20H, f197B_L20O, rounds (f197B_L20U n) n⟩), (16, ⟨f197B_L16H, f197B_L16O, rounds (f197B_L16U n) n⟩)] }
theorem f197B_ents (α : Type) (n : Nat) : AllS Try.prog (entsOf (f197B_D α n).reg) := trivial
theorem f197B_L6_d (α : Type) (n : Nat) : D3.OK Try.prog (tyOf Try.prog) ⟨121, []⟩ (f197B_D α n) ((bodyOf Try.f197).at [1, 1, 1, 1, 1, 0, 1, 0, 0]) :=
  D3.OK.mk3 (f197B_ents α n) (show loopsOf ((bodyOf Try.f197).at [1, 1, 1, 1, 1, 0, 1, 0, 0]) = [] by kernel_rfl) trivial
theorem f197B_L6_ok (α : Type) (n : Nat) : LO.Sound (α := α) Try.prog ⟨121, []⟩ ⟨f197B_L6H, f197B_L6O, rounds (f197B_L6U n) n⟩ (.loop ((bodyOf Try.f197).at [1, 1, 1, 1, 1, 0, 1, 0, 0])) :=
  loop_ok (tyOf_ok _) prog_fol (f197B_L6U n) (f197B_L6_d α n) (by intro v f ks; kernel_rfl) n
theorem f197B_L20_d (α : Type) (n : Nat) : D3.OK Try.prog (tyOf Try.prog) ⟨121, []⟩ (f197B_D α n) ((bodyOf Try.f197).at [1, 1, 1, 1, 1, 1, 0, 0, 0, 1, 0, 1, 1, 0, 1, 0, 0]) :=
  D3.OK.mk3 (f197B_ents α n) (show loopsOf ((bodyOf Try.f197).at [1, 1, 1, 1, 1, 1, 0, 0, 0, 1, 0, 1, 1, 0, 1, 0, 0]) = [] by kernel_rfl) trivial
theorem f197B_L20_ok (α : Type) (n : Nat) : LO.Sound (α := α) Try.prog ⟨121, []⟩ ⟨f197B_L20H, f197B_L20O, rounds (f197B_L20U n) n⟩ (.loop ((bodyOf Try.f197).at [1, 1, 1, 1, 1, 1, 0, 0, 0, 1, 0, 1, 1, 0, 1, 0, 0])) :=
  loop_ok (tyOf_ok _) prog_fol (f197B_L20U n) (f197B_L20_d α n) (by intro v f ks; kernel_rfl) n
theorem f197B_L16_d (α : Type) (n : Nat) : D3.OK Try.prog (tyOf Try.prog) ⟨121, []⟩ (f197B_D α n) ((bodyOf Try.f197).at [1, 1, 1, 1, 1, 1, 0, 0, 0]) :=
  D3.OK.mk3 (f197B_ents α n) (show loopsOf ((bodyOf Try.f197).at [1, 1, 1, 1, 1, 1, 0, 0, 0]) = [(20, (.loop ((bodyOf Try.f197).at [1, 1, 1, 1, 1, 1, 0, 0, 0, 1, 0, 1, 1, 0, 1, 0, 0])))] by kernel_rfl) ⟨look_sound rfl (f197B_L20_ok α n), trivial⟩
theorem f197B_L16_ok (α : Type) (n : Nat) : LO.Sound (α := α) Try.prog ⟨121, []⟩ ⟨f197B_L16H, f197B_L16O, rounds (f197B_L16U n) n⟩ (.loop ((bodyOf Try.f197).at [1, 1, 1, 1, 1, 1, 0, 0, 0])) :=
  loop_ok (tyOf_ok _) prog_fol (f197B_L16U n) (f197B_L16_d α n) (by intro v f ks; kernel_rfl) n
theorem f197B_d (α : Type) (n : Nat) : D3.OK Try.prog (tyOf Try.prog) ⟨121, []⟩ (f197B_D α n) (bodyOf Try.f197) :=
  D3.OK.mk3 (f197B_ents α n) (show loopsOf (bodyOf Try.f197) = [(6, (.loop ((bodyOf Try.f197).at [1, 1, 1, 1, 1, 0, 1, 0, 0]))), (16, (.loop ((bodyOf Try.f197).at [1, 1, 1, 1, 1, 1, 0, 0, 0])))] by kernel_rfl) ⟨look_sound rfl (f197B_L6_ok α n), look_sound rfl (f197B_L16_ok α n), trivial⟩
theorem f197B_ok (n : Nat) : (f197B_E n).Sound Try.prog :=
  fn_okB (tyOf_ok _) prog_fol (f197B_D _ n) (show Try.prog.funcs[197]? = some Try.f197 by kernel_rfl) (by kernel_rfl) (show Try.f197.body = some (bodyOf Try.f197) by kernel_rfl) rfl rfl (Nat.le_of_ble_eq_true rfl) (f197B_d _ n) (by intro x; kernel_rfl) 

def f182_L7B {α : Type} (n : Nat) (i : Nat) (z : Int) (s29 : List Int) (c3_0 : List Int) (c8_0 : Int) (b27 : List Int) (f : (List Int) → (List Int) → Int → (List Int) → Option α) (k0 : Int → (List Int) → Option α) : Option α :=
  gd (decide (0 < (c3_0.length : Int))) (
    gd (decide ((c3_0.getD 0 0) ≠ 0)) (
      gd (decide (0 < (c3_0.length : Int))) (
        gd (decide ((c3_0.getD 0 0) ≠ 0)) (
          gd (decide (0 ≤ (i : Int)) && decide ((i : Int) < (b27.length : Int))) (
            gd (decide ((i : Int).toNat < b27.length)) (
              f s29 c3_0 (Int.tmod (W ((W (c8_0 * 10000)) + z)) (c3_0.getD 0 0)) (b27.set ((i : Int).toNat) (W (Int.tdiv (W ((W (c8_0 * 10000)) + z)) (c3_0.getD 0 0))))))))))
abbrev f182_L7H : Tm := ⟨[(3, .k (.hp 3 0 0)), (7, .k (.hp 7 0 0)), (8, .k (.hp 8 0 0)), (29, .d (.clo 196 (.ref hIs)))], [(3, .var 29 true false [.d hIs]), (7, .var 29 false false [.k (.hw 27)]), (8, .var 3 true false [.d hI]), (27, .arr 3 hI false)], [], []⟩
abbrev f182_L7X0 : Tm := ⟨[(7, .k (.hp 7 0 0)), (8, .k (.hp 8 0 0))], [(7, .var 29 false false [.k (.hw 27)]), (8, .var 3 true false [.d hI]), (27, .arr 3 hI false)], [3], []⟩
abbrev f182_L7O : List (Exit × Tm) := [(.normal, f182_L7X0)]
def f182_L7Z (v : f182_L7H.den) : List Int := (fun s29 c3_0 c8_0 b27 => s29) v.1.2.2.2.1 v.2.1.1 v.2.2.2.1.1 v.2.2.2.2.1
def f182_L7U {α : Type} (n : Nat) (i : Nat) (z : Int) (v : f182_L7H.den) (f : f182_L7H.den → Option α) (ks : KS α f182_L7O) : Option α := f182_L7B n i z v.1.2.2.2.1 v.2.1.1 v.2.2.2.1.1 v.2.2.2.2.1 (fun s29 c3_0 c8_0 b27 => f (((), (), (), s29, ()), ((c3_0, ()), ((), ()), (c8_0, ()), b27, ()))) (fun w0 w1 => ks.1 (((), (), ()), (((), ()), (w0, ()), w1, ())))
def f182_L7N {α : Type} (v : f182_L7H.den) (ks : KS α f182_L7O) : Option α := (fun s29 c3_0 c8_0 b27 => ks.1 (((), (), ()), (((), ()), (c8_0, ()), b27, ()))) v.1.2.2.2.1 v.2.1.1 v.2.2.2.1.1 v.2.2.2.2.1
def f182_L7 {α : Type} (n : Nat) (s29 : List Int) (c3_0 : List Int) (c8_0 : Int) (b27 : List Int) (k0 : Int → (List Int) → Option α) : Option α := rangeR f182_L7Z (f182_L7U n) f182_L7N (((), (), (), s29, ()), ((c3_0, ()), ((), ()), (c8_0, ()), b27, ())) (fun w => k0 w.2.2.1.1 w.2.2.2.1, ())
def f182_L7R {α : Type} (n : Nat) (zs : List Int) (i : Nat) (s29 : List Int) (c3_0 : List Int) (c8_0 : Int) (b27 : List Int) (k0 : Int → (List Int) → Option α) : Option α := rangeB f182_L7Z (f182_L7U n) zs i (((), (), (), s29, ()), ((c3_0, ()), ((), ()), (c8_0, ()), b27, ())) (fun v => f182_L7N v (fun w => k0 w.2.2.1.1 w.2.2.2.1, ())) (fun w => k0 w.2.2.1.1 w.2.2.2.1, ())
theorem f182_L7_e {α : Type} (n : Nat) (s29 : List Int) (c3_0 : List Int) (c8_0 : Int) (b27 : List Int) (k0 : Int → (List Int) → Option α) : f182_L7 (α := α) n s29 c3_0 c8_0 b27 k0 = gd (decide (s29.length ≤ 4611686018427387904)) (f182_L7R n s29 s29.length s29 c3_0 c8_0 b27 k0) := rfl
theorem f182_L7_0 {α : Type} (n : Nat) (zs : List Int) (s29 : List Int) (c3_0 : List Int) (c8_0 : Int) (b27 : List Int) (k0 : Int → (List Int) → Option α) : f182_L7R (α := α) n zs 0 s29 c3_0 c8_0 b27 k0 = k0 c8_0 b27 := rfl
theorem f182_L7_s {α : Type} (n : Nat) (zs : List Int) (i : Nat) (s29 : List Int) (c3_0 : List Int) (c8_0 : Int) (b27 : List Int) (k0 : Int → (List Int) → Option α) : f182_L7R (α := α) n zs (i + 1) s29 c3_0 c8_0 b27 k0 = f182_L7B n i (zs.getD i 0) s29 c3_0 c8_0 b27 (fun s29 c3_0 c8_0 b27 => gd (decide (s29 = zs)) (f182_L7R n zs i s29 c3_0 c8_0 b27 k0)) k0 := rfl
def f182_L14B {α : Type} (n : Nat) (s6 : Int) (s13 : Int) (c3_0 : List Int) (b62 : List Int) (b310 : List Int) (f : Int → Int → (List Int) → (List Int) → (List Int) → Option α) (k0 : (List Int) → (List Int) → Option α) : Option α :=
  bif (decide (s13 ≥ 0)) then
    gd (decide (0 ≤ s13) && decide (s13 ≤ (W ((W (s13 + s6)) + 1))) && decide ((W ((W (s13 + s6)) + 1)) ≤ (b310.length : Int))) (
      ob (f197B n (b310, s13.toNat, ((W ((W (s13 + s6)) + 1)).toNat - s13.toNat)) c3_0) fun r_9 =>
      gd (Nat.beq r_9.2.length b310.length && true) (
        gd (decide (0 ≤ s13) && decide (s13 < (b62.length : Int))) (
          gd (decide (s13.toNat < b62.length)) (
            f s6 (W (s13 - 1)) c3_0 (b62.set s13.toNat r_9.1) r_9.2))))
  else
    k0 b62 b310
abbrev f182_L14H : Tm := ⟨[(3, .k (.hp 3 0 0)), (6, .d hI), (11, .k (.hw 310)), (12, .k (.hw 62)), (13, .d hI)], [(3, .var 29 true false [.d hIs]), (62, .arr 3 hI false), (310, .arr 3 hI false)], [55], []⟩
abbrev f182_L14X0 : Tm := ⟨[(11, .k (.hw 310)), (12, .k (.hw 62))], [(62, .arr 3 hI false), (310, .arr 3 hI false)], [3], []⟩
abbrev f182_L14O : List (Exit × Tm) := [(.exit 2, f182_L14X0)]
def f182_L14U {α : Type} (n : Nat) (v : f182_L14H.den) (f : f182_L14H.den → Option α) (ks : KS α f182_L14O) : Option α := f182_L14B n v.1.2.1 v.1.2.2.2.2.1 v.2.1.1 v.2.2.1 v.2.2.2.1 (fun s6 s13 c3_0 b62 b310 => f (((), s6, (), (), s13, ()), ((c3_0, ()), b62, b310, ()))) (fun w0 w1 => ks.1 (((), (), ()), (w0, w1, ())))
def f182_L14 {α : Type} (n m : Nat) (s6 : Int) (s13 : Int) (c3_0 : List Int) (b62 : List Int) (b310 : List Int) (k0 : (List Int) → (List Int) → Option α) : Option α := rounds (f182_L14U n) m (((), s6, (), (), s13, ()), ((c3_0, ()), b62, b310, ())) (fun w => k0 w.2.1 w.2.2.1, ())
theorem f182_L14_0 {α : Type} (n : Nat) (s6 : Int) (s13 : Int) (c3_0 : List Int) (b62 : List Int) (b310 : List Int) (k0 : (List Int) → (List Int) → Option α) : f182_L14 (α := α) n 0 s6 s13 c3_0 b62 b310 k0 = none := rfl
theorem f182_L14_s {α : Type} (n m : Nat) (s6 : Int) (s13 : Int) (c3_0 : List Int) (b62 : List Int) (b310 : List Int) (k0 : (List Int) → (List Int) → Option α) : f182_L14 (α := α) n (m + 1) s6 s13 c3_0 b62 b310 k0 = f182_L14B n s6 s13 c3_0 b62 b310 (fun s6 s13 c3_0 b62 b310 => f182_L14 n m s6 s13 c3_0 b62 b310 k0) k0 := rfl
abbrev f182_G10 : Tm := ⟨[(3, .k (.hp 3 0 0)), (7, .k (.hp 7 0 0)), (8, .k (.hp 8 0 0)), (9, .d hI), (10, .d hI), (29, .d (.clo 196 (.ref hIs))), (30, .d hI), (31, .d hI)], [(3, .var 29 true false [.d hIs]), (7, .var 29 false false [.k (.hw 27)]), (8, .var 3 true false [.d hI]), (27, .arr 3 hI false)], [], []⟩
abbrev f182_G11 : Tm := ⟨[(7, .k (.hp 7 0 0)), (8, .k (.hp 8 0 0))], [(7, .var 29 false false [.k (.hw 27)]), (8, .var 3 true false [.d hI]), (27, .arr 3 hI false)], [], []⟩
abbrev f182_G12 : Tm := ⟨[(0, .d hIs), (3, .k (.hp 3 0 0)), (6, .d hI)], [(3, .var 29 true false [.d hIs])], [], []⟩
abbrev f182_G16 : Tm := ⟨[(3, .k (.hp 3 0 0)), (6, .d hI), (11, .k (.hw 310)), (12, .k (.hw 62)), (13, .d hI)], [(3, .var 29 true false [.d hIs]), (62, .arr 3 hI false), (310, .arr 3 hI false)], [], []⟩
def f182 (n : Nat) (a0 : List Int) (a1 : List Int) : Option ((List Int) × (List Int)) :=
  ob (f136 n a0 a1) fun r_1 =>
  bif (decide (r_1 < 0)) then
    ob (f132 n a0) fun r_2 =>
    some ([], r_2)
  else
    bif ((a1.length : Int) == 1) then
      gd (decide (0 ≤ (a0.length : Int)) && decide ((a0.length : Int) ≤ 4611686018427387904) && decide ((8 : Int) * (a0.length : Int) ≤ 281474976710656)) (
        ob (f181 n a0) fun r_3 =>
        f182_L7 n r_3 a1 0 (List.replicate ((a0.length : Int).toNat) 0)
          (fun z_4 z_5 => (
            ob (f186 n z_5) fun r_6 =>
            ob (f163 n z_4) fun r_7 =>
            some (r_6, r_7))))
    else
      ob (f132B n a0) fun r_8 =>
      gd (decide ((r_8.length + 1) * 8 ≤ 140737488355328)) (
        gd (decide (0 ≤ (W ((W ((a0.length : Int) - (a1.length : Int))) + 1))) && decide ((W ((W ((a0.length : Int) - (a1.length : Int))) + 1)) ≤ 4611686018427387904) && decide ((8 : Int) * (W ((W ((a0.length : Int) - (a1.length : Int))) + 1)) ≤ 281474976710656)) (
          f182_L14 n n (a1.length : Int) (W ((a0.length : Int) - (a1.length : Int))) a1 (List.replicate ((W ((W ((a0.length : Int) - (a1.length : Int))) + 1)).toNat) 0) (r_8 ++ [0])
            (fun z_10 z_11 => (
              ob (f186 n z_10) fun r_12 =>
              ob (f186 n z_11) fun r_13 =>
              some (r_12, r_13)))))
def f182_E (n : Nat) : Ent := ⟨182, [hIs, hIs], [hIs, hIs], fun x => f182 n x.1 x.2⟩
def f182_D (α : Type) (n : Nat) : D3 α := { reg := [(1, ⟨0, [], [(2, { ent := some (f136_E n) })]⟩), (2, ⟨0, [], [(0, { sh := some hI }), (2, { ent := some (f132_E n) })]⟩), (6, ⟨0, [], [(1, { ent := some (f181_E n) })]⟩), (11, ⟨0, [], [(1, { ent := some (f186_E n), fz := [(49, hIs)] }), (3, { ent := some (f163_E n) })]⟩), (12, ⟨0, [], [(1, { entB := some (f132B_E n), hb := 310 }), (2, { sh := some hI })]⟩), (16, ⟨0, [], [(10, { entB := some (f197B_E n), hb := 320 })]⟩), (17, ⟨0, [], [(1, { ent := some (f186_E n), fz := [(83, hIs)] }), (3, { ent := some (f186_E n), fz := [(85, hIs)] })]⟩)], join := [], loop := [(7, ⟨f182_L7H, f182_L7O, rangeR f182_L7Z (f182_L7U n) f182_L7N⟩), (14, ⟨f182_L14H, f182_L14O, rounds (f182_L14U n) n⟩)], any := [(10, f182_G10), (11, f182_G11), (12, f182_G12), (16, f182_G16)] }
theorem f182_A10 (n : Nat) : FamAll (tyOf Try.prog) ⟨87, []⟩ [] f182_G10 (regOps ((bodyOf Try.f182).at [1, 1, 1, 0, 1, 0, 1, 0, 1, 0, 1, 0, 1])) := by
  refine ⟨by kernel_rfl, fun w q hq => ?_⟩
  have e : WT [] (swapIdx (regOps ((bodyOf Try.f182).at [1, 1, 1, 0, 1, 0, 1, 0, 1, 0, 1, 0, 1])).toList) q = (q = []) := by kernel_rfl
  rw [e] at hq
  obtain rfl := hq
  exact FamEq.mk (by kernel_rfl)
theorem f182_A11 (n : Nat) : FamAll (tyOf Try.prog) ⟨87, []⟩ [(1, { ent := some (f186_E n), fz := [(49, hIs)] }), (3, { ent := some (f163_E n) })] f182_G11 (regOps ((bodyOf Try.f182).at [1, 1, 1, 0, 1, 0, 1, 1, 0])) := by
  refine ⟨by kernel_rfl, fun w q hq => ?_⟩
  have e : WT [(1, { ent := some (f186_E n), fz := [(49, hIs)] }), (3, { ent := some (f163_E n) })] (swapIdx (regOps ((bodyOf Try.f182).at [1, 1, 1, 0, 1, 0, 1, 1, 0])).toList) q = (∃ (y0 : HL (f186_E n).rs) (q0 : List (Nat × RV)), q = (1, .sv (resSV (f186_E n).rs y0)) :: q0 ∧ ∃ (y1 : HL (f163_E n).rs) (q1 : List (Nat × RV)), q0 = (3, .sv (resSV (f163_E n).rs y1)) :: q1 ∧ q1 = []) := by kernel_rfl
  rw [e] at hq
  obtain ⟨y0, q0, rfl, y1, q1, rfl, rfl⟩ := hq
  exact FamEq.mk (by kernel_rfl)
theorem f182_A12 (n : Nat) : FamAll (tyOf Try.prog) ⟨87, []⟩ [(1, { entB := some (f132B_E n), hb := 310 }), (2, { sh := some hI })] f182_G12 (regOps ((bodyOf Try.f182).at [1, 1, 1, 1, 0])) := by
  refine ⟨by kernel_rfl, fun w q hq => ?_⟩
  have e : WT [(1, { entB := some (f132B_E n), hb := 310 }), (2, { sh := some hI })] (swapIdx (regOps ((bodyOf Try.f182).at [1, 1, 1, 1, 0])).toList) q = (∃ (y0 : HF (ownsP 1000 (f132B_E n).ts) (f132B_E n).forms) (q0 : List (Nat × RV)), q = (1, .bx (f132B_E n) y0) :: q0 ∧ q0 = []) := by kernel_rfl
  rw [e] at hq
  obtain ⟨y0, q0, rfl, rfl⟩ := hq
  exact FamEq.mk (by kernel_rfl)
theorem f182_A16 (n : Nat) : FamAll (tyOf Try.prog) ⟨87, []⟩ [(10, { entB := some (f197B_E n), hb := 320 })] f182_G16 (regOps ((bodyOf Try.f182).at [1, 1, 1, 1, 1, 0, 1, 0, 0, 1, 0, 0])) := by
  refine ⟨by kernel_rfl, fun w q hq => ?_⟩
  have e : WT [(10, { entB := some (f197B_E n), hb := 320 })] (swapIdx (regOps ((bodyOf Try.f182).at [1, 1, 1, 1, 1, 0, 1, 0, 0, 1, 0, 0])).toList) q = (∃ (y0 : HF (ownsP 1000 (f197B_E n).ts) (f197B_E n).forms) (q0 : List (Nat × RV)), q = (10, .bx (f197B_E n) y0) :: q0 ∧ q0 = []) := by kernel_rfl
  rw [e] at hq
  obtain ⟨y0, q0, rfl, rfl⟩ := hq
  exact FamEq.mk (by kernel_rfl)
theorem f182_ents (α : Type) (n : Nat) : AllS Try.prog (entsOf (f182_D α n).reg) := ⟨f136_ok n, f132_ok n, f181_ok n, f186_ok n, f163_ok n, f132B_ok n, f197B_ok n, f186_ok n, f186_ok n, trivial⟩
theorem f182_L7A_d (α : Type) (n : Nat) : D3.OK Try.prog (tyOf Try.prog) ⟨87, []⟩ (f182_D α n) ((bodyOf Try.f182).at [1, 1, 1, 0, 1, 0, 1, 0, 1, 0, 0]) :=
  D3.OK.mk3a (f182_ents α n) (show loopsOf ((bodyOf Try.f182).at [1, 1, 1, 0, 1, 0, 1, 0, 1, 0, 0]) = [] by kernel_rfl) trivial (show anysOf ((bodyOf Try.f182).at [1, 1, 1, 0, 1, 0, 1, 0, 1, 0, 0]) = [] by kernel_rfl) trivial
theorem f182_L7B_d (α : Type) (n : Nat) : D3.OK Try.prog (tyOf Try.prog) ⟨87, []⟩ (f182_D α n) ((bodyOf Try.f182).at [1, 1, 1, 0, 1, 0, 1, 0, 1, 0, 1]) :=
  D3.OK.mk3a (f182_ents α n) (show loopsOf ((bodyOf Try.f182).at [1, 1, 1, 0, 1, 0, 1, 0, 1, 0, 1]) = [] by kernel_rfl) trivial (show anysOf ((bodyOf Try.f182).at [1, 1, 1, 0, 1, 0, 1, 0, 1, 0, 1]) = [(10, regOps ((bodyOf Try.f182).at [1, 1, 1, 0, 1, 0, 1, 0, 1, 0, 1, 0, 1]))] by kernel_rfl) ⟨fun X h => by cases h; exact f182_A10 n, trivial⟩
theorem f182_L7_ok (α : Type) (n : Nat) : LO.Sound (α := α) Try.prog ⟨87, []⟩ ⟨f182_L7H, f182_L7O, rangeR f182_L7Z (f182_L7U n) f182_L7N⟩ (.rangeFunc (.tmp 29) #[30, 31] ((bodyOf Try.f182).at [1, 1, 1, 0, 1, 0, 1, 0, 1, 0, 0]) ((bodyOf Try.f182).at [1, 1, 1, 0, 1, 0, 1, 0, 1, 0, 1])) :=
  range_ok (tyOf_ok _) prog_fol f182_L7Z (f182_L7U n) f182_L7N back_ok rfl rfl rfl rfl (f182_L7A_d α n) (f182_L7B_d α n) (by intro v; rfl) (by intro i z v f ks; kernel_rfl) (by intro v ks; kernel_rfl)
theorem f182_L14_d (α : Type) (n : Nat) : D3.OK Try.prog (tyOf Try.prog) ⟨87, []⟩ (f182_D α n) ((bodyOf Try.f182).at [1, 1, 1, 1, 1, 0, 1, 0, 0]) :=
  D3.OK.mk3a (f182_ents α n) (show loopsOf ((bodyOf Try.f182).at [1, 1, 1, 1, 1, 0, 1, 0, 0]) = [] by kernel_rfl) trivial (show anysOf ((bodyOf Try.f182).at [1, 1, 1, 1, 1, 0, 1, 0, 0]) = [(16, regOps ((bodyOf Try.f182).at [1, 1, 1, 1, 1, 0, 1, 0, 0, 1, 0, 0]))] by kernel_rfl) ⟨fun X h => by cases h; exact f182_A16 n, trivial⟩
theorem f182_L14_ok (α : Type) (n : Nat) : LO.Sound (α := α) Try.prog ⟨87, []⟩ ⟨f182_L14H, f182_L14O, rounds (f182_L14U n) n⟩ (.loop ((bodyOf Try.f182).at [1, 1, 1, 1, 1, 0, 1, 0, 0])) :=
  loop_ok (tyOf_ok _) prog_fol (f182_L14U n) (f182_L14_d α n) (by intro v f ks; kernel_rfl) n
theorem f182_d (α : Type) (n : Nat) : D3.OK Try.prog (tyOf Try.prog) ⟨87, []⟩ (f182_D α n) (bodyOf Try.f182) :=
  D3.OK.mk3a (f182_ents α n) (show loopsOf (bodyOf Try.f182) = [(7, (.rangeFunc (.tmp 29) #[30, 31] ((bodyOf Try.f182).at [1, 1, 1, 0, 1, 0, 1, 0, 1, 0, 0]) ((bodyOf Try.f182).at [1, 1, 1, 0, 1, 0, 1, 0, 1, 0, 1]))), (14, (.loop ((bodyOf Try.f182).at [1, 1, 1, 1, 1, 0, 1, 0, 0])))] by kernel_rfl) ⟨look_sound rfl (f182_L7_ok α n), look_sound rfl (f182_L14_ok α n), trivial⟩ (show anysOf (bodyOf Try.f182) = [(11, regOps ((bodyOf Try.f182).at [1, 1, 1, 0, 1, 0, 1, 1, 0])), (12, regOps ((bodyOf Try.f182).at [1, 1, 1, 1, 0]))] by kernel_rfl) ⟨fun X h => by cases h; exact f182_A11 n, fun X h => by cases h; exact f182_A12 n, trivial⟩
theorem f182_ok (n : Nat) : (f182_E n).Sound Try.prog :=
  fn_ok (tyOf_ok _) prog_fol (f182_D _ n) (show Try.prog.funcs[182]? = some Try.f182 by kernel_rfl) (by kernel_rfl) (show Try.f182.body = some (bodyOf Try.f182) by kernel_rfl) rfl rfl (Nat.le_of_ble_eq_true rfl) (f182_d _ n) (by intro x; kernel_rfl) 

def f137_L1B {α : Type} (n : Nat) (s0 : List Int) (s1 : List Int) (f : (List Int) → (List Int) → Option α) (k0 : (List Int) → Option α) : Option α :=
  bif (decide ((s1.length : Int) > 0)) then
    ob (f182 n s0 s1) fun r_1 =>
    f s1 r_1.2
  else
    k0 s0
abbrev f137_L1H : Tm := ⟨[(0, .d hIs), (1, .d hIs)], [], [], []⟩
abbrev f137_L1X0 : Tm := ⟨[(0, .d hIs)], [], [], []⟩
abbrev f137_L1O : List (Exit × Tm) := [(.exit 0, f137_L1X0)]
def f137_L1U {α : Type} (n : Nat) (v : f137_L1H.den) (f : f137_L1H.den → Option α) (ks : KS α f137_L1O) : Option α := f137_L1B n v.1.1 v.1.2.1 (fun s0 s1 => f ((s0, s1, ()), ())) (fun w0 => ks.1 ((w0, ()), ()))
def f137_L1 {α : Type} (n m : Nat) (s0 : List Int) (s1 : List Int) (k0 : (List Int) → Option α) : Option α := rounds (f137_L1U n) m ((s0, s1, ()), ()) (fun w => k0 w.1.1, ())
theorem f137_L1_0 {α : Type} (n : Nat) (s0 : List Int) (s1 : List Int) (k0 : (List Int) → Option α) : f137_L1 (α := α) n 0 s0 s1 k0 = none := rfl
theorem f137_L1_s {α : Type} (n m : Nat) (s0 : List Int) (s1 : List Int) (k0 : (List Int) → Option α) : f137_L1 (α := α) n (m + 1) s0 s1 k0 = f137_L1B n s0 s1 (fun s0 s1 => f137_L1 n m s0 s1 k0) k0 := rfl
def f137 (n : Nat) (a0 : List Int) (a1 : List Int) : Option (List Int) :=
  f137_L1 n n a0 a1
    (fun z_2 => (
      some z_2))
def f137_E (n : Nat) : Ent := ⟨137, [hIs, hIs], [hIs], fun x => f137 n x.1 x.2⟩
def f137_D (α : Type) (n : Nat) : D3 α := { reg := [(2, ⟨0, [], [(2, { ent := some (f182_E n) })]⟩)], join := [], loop := [(1, ⟨f137_L1H, f137_L1O, rounds (f137_L1U n) n⟩)] }
theorem f137_ents (α : Type) (n : Nat) : AllS Try.prog (entsOf (f137_D α n).reg) := ⟨f182_ok n, trivial⟩
theorem f137_L1_d (α : Type) (n : Nat) : D3.OK Try.prog (tyOf Try.prog) ⟨19, []⟩ (f137_D α n) ((bodyOf Try.f137).at [1, 0, 0, 0]) :=
  D3.OK.mk3 (f137_ents α n) (show loopsOf ((bodyOf Try.f137).at [1, 0, 0, 0]) = [] by kernel_rfl) trivial
theorem f137_L1_ok (α : Type) (n : Nat) : LO.Sound (α := α) Try.prog ⟨19, []⟩ ⟨f137_L1H, f137_L1O, rounds (f137_L1U n) n⟩ (.loop ((bodyOf Try.f137).at [1, 0, 0, 0])) :=
  loop_ok (tyOf_ok _) prog_fol (f137_L1U n) (f137_L1_d α n) (by intro v f ks; kernel_rfl) n
theorem f137_d (α : Type) (n : Nat) : D3.OK Try.prog (tyOf Try.prog) ⟨19, []⟩ (f137_D α n) (bodyOf Try.f137) :=
  D3.OK.mk3 (f137_ents α n) (show loopsOf (bodyOf Try.f137) = [(1, (.loop ((bodyOf Try.f137).at [1, 0, 0, 0])))] by kernel_rfl) ⟨look_sound rfl (f137_L1_ok α n), trivial⟩
theorem f137_ok (n : Nat) : (f137_E n).Sound Try.prog :=
  fn_ok (tyOf_ok _) prog_fol (f137_D _ n) (show Try.prog.funcs[137]? = some Try.f137 by kernel_rfl) (by kernel_rfl) (show Try.f137.body = some (bodyOf Try.f137) by kernel_rfl) rfl rfl (Nat.le_of_ble_eq_true rfl) (f137_d _ n) (by intro x; kernel_rfl) 

def f138 (n : Nat)  : Option (List Int) :=
  some [1]
def f138_E (n : Nat) : Ent := ⟨138, [], [hIs], fun _ => f138 n⟩
def f138_D (α : Type) (n : Nat) : D3 α := { reg := [(1, ⟨0, [], [(0, { sh := some hI })]⟩)], join := [], loop := [] }
theorem f138_ents (α : Type) (n : Nat) : AllS Try.prog (entsOf (f138_D α n).reg) := trivial
theorem f138_d (α : Type) (n : Nat) : D3.OK Try.prog (tyOf Try.prog) ⟨2, []⟩ (f138_D α n) (bodyOf Try.f138) :=
  D3.OK.mk3 (f138_ents α n) (show loopsOf (bodyOf Try.f138) = [] by kernel_rfl) trivial
theorem f138_ok (n : Nat) : (f138_E n).Sound Try.prog :=
  fn_ok (tyOf_ok _) prog_fol (f138_D _ n) (show Try.prog.funcs[138]? = some Try.f138 by kernel_rfl) (by kernel_rfl) (show Try.f138.body = some (bodyOf Try.f138) by kernel_rfl) rfl rfl (Nat.le_of_ble_eq_true rfl) (f138_d _ n) (by intro x; kernel_rfl) 

abbrev f78_J3 : Tm := ⟨[(1, .k (.hp 1 0 0))], [(1, .var 33 true false [.d .bool, .d hIs, .d hIs])], [], []⟩
def f78 (n : Nat) (a0 : Bool × (List Int) × (List Int)) : Option Bool :=
  let J_7 := fun (_ : Unit) => (
    ob (f137 n a0.2.1 a0.2.2) fun r_4 =>
    ob (f138 n) fun r_5 =>
    ob (f136 n r_4 r_5) fun r_6 =>
    some (r_6 == 0))
  ob (f134 n a0.2.1) fun r_1 =>
  bif (!r_1) then
    some false
  else
    ob (f134 n a0.2.2) fun r_2 =>
    bif (!r_2) then
      some false
    else
      bif ((a0.2.2.length : Int) == 0) then
        some false
      else
        bif a0.1 then
          ob (f135 n a0) fun r_3 =>
          bif r_3 then
            some false
          else
            J_7 ()
        else
          J_7 ()
def f78_E (n : Nat) : Ent := ⟨78, [hR], [.bool], fun x => f78 n x⟩
def f78_D (α : Type) (n : Nat) : D3 α := { reg := [(1, ⟨0, [], [(2, { ent := some (f134_E n) }), (7, { ent := some (f134_E n) }), (21, { ent := some (f135_E n) })]⟩), (3, ⟨0, [], [(4, { ent := some (f137_E n) }), (5, { ent := some (f138_E n) }), (6, { ent := some (f136_E n) })]⟩)], join := [(3, f78_J3)], loop := [] }
theorem f78_ents (α : Type) (n : Nat) : AllS Try.prog (entsOf (f78_D α n).reg) := ⟨f134_ok n, f134_ok n, f135_ok n, f137_ok n, f138_ok n, f136_ok n, trivial⟩
theorem f78_d (α : Type) (n : Nat) : D3.OK Try.prog (tyOf Try.prog) ⟨35, []⟩ (f78_D α n) (bodyOf Try.f78) :=
  D3.OK.mk3 (f78_ents α n) (show loopsOf (bodyOf Try.f78) = [] by kernel_rfl) trivial
theorem f78_ok (n : Nat) : (f78_E n).Sound Try.prog :=
  fn_ok (tyOf_ok _) prog_fol (f78_D _ n) (show Try.prog.funcs[78]? = some Try.f78 by kernel_rfl) (by kernel_rfl) (show Try.f78.body = some (bodyOf Try.f78) by kernel_rfl) rfl rfl (Nat.le_of_ble_eq_true rfl) (f78_d _ n) (by intro x; kernel_rfl) 

def f131 (n : Nat) (a0 : Bool × (List Int) × (List Int)) : Option Bool :=
  ob (f78 n a0) fun r_1 =>
  some (!r_1)
def f131_E (n : Nat) : Ent := ⟨131, [hR], [.bool], fun x => f131 n x⟩
def f131_D (α : Type) (n : Nat) : D3 α := { reg := [(1, ⟨0, [], [(1, { ent := some (f78_E n) })]⟩)], join := [], loop := [] }
theorem f131_ents (α : Type) (n : Nat) : AllS Try.prog (entsOf (f131_D α n).reg) := ⟨f78_ok n, trivial⟩
theorem f131_d (α : Type) (n : Nat) : D3.OK Try.prog (tyOf Try.prog) ⟨6, []⟩ (f131_D α n) (bodyOf Try.f131) :=
  D3.OK.mk3 (f131_ents α n) (show loopsOf (bodyOf Try.f131) = [] by kernel_rfl) trivial
theorem f131_ok (n : Nat) : (f131_E n).Sound Try.prog :=
  fn_ok (tyOf_ok _) prog_fol (f131_D _ n) (show Try.prog.funcs[131]? = some Try.f131 by kernel_rfl) (by kernel_rfl) (show Try.f131.body = some (bodyOf Try.f131) by kernel_rfl) rfl rfl (Nat.le_of_ble_eq_true rfl) (f131_d _ n) (by intro x; kernel_rfl) 

def f177_L2B {α : Type} (n : Nat) (s0 : List (Bool × (List Int) × (List Int))) (s7 : Int) (s8 : Int) (f : (List (Bool × (List Int) × (List Int))) → Int → Int → Option α) (k0 : Int → Option α) (k1 : Unit → Option α) : Option α :=
  bif (decide (s8 < s7)) then
    gd (decide (0 ≤ s8) && decide (s8 < (s0.length : Int))) (
      let x_1 := s0.getD s8.toNat (false, [], [])
      ob (f131 n x_1) fun r_2 =>
      bif r_2 then
        k0 s8
      else
        f s0 s7 (W (s8 + 1)))
  else
    k1 ()
abbrev f177_L2H : Tm := ⟨[(0, .d hRs), (1, .d (.fn 131)), (7, .d hI), (8, .d hI)], [], [], []⟩
abbrev f177_L2X0 : Tm := ⟨[(4, .d hI)], [], [], []⟩
abbrev f177_L2X1 : Tm := ⟨[], [], [], []⟩
abbrev f177_L2O : List (Exit × Tm) := [(.ret, f177_L2X0), (.exit 0, f177_L2X1)]
def f177_L2U {α : Type} (n : Nat) (v : f177_L2H.den) (f : f177_L2H.den → Option α) (ks : KS α f177_L2O) : Option α := f177_L2B n v.1.1 v.1.2.2.1 v.1.2.2.2.1 (fun s0 s7 s8 => f ((s0, (), s7, s8, ()), ())) (fun w0 => ks.1 ((w0, ()), ())) (fun _ => ks.2.1 ((), ()))
def f177_L2 {α : Type} (n m : Nat) (s0 : List (Bool × (List Int) × (List Int))) (s7 : Int) (s8 : Int) (k0 : Int → Option α) (k1 : Unit → Option α) : Option α := rounds (f177_L2U n) m ((s0, (), s7, s8, ()), ()) (fun w => k0 w.1.1, fun w => k1 (), ())
theorem f177_L2_0 {α : Type} (n : Nat) (s0 : List (Bool × (List Int) × (List Int))) (s7 : Int) (s8 : Int) (k0 : Int → Option α) (k1 : Unit → Option α) : f177_L2 (α := α) n 0 s0 s7 s8 k0 k1 = none := rfl
theorem f177_L2_s {α : Type} (n m : Nat) (s0 : List (Bool × (List Int) × (List Int))) (s7 : Int) (s8 : Int) (k0 : Int → Option α) (k1 : Unit → Option α) : f177_L2 (α := α) n (m + 1) s0 s7 s8 k0 k1 = f177_L2B n s0 s7 s8 (fun s0 s7 s8 => f177_L2 n m s0 s7 s8 k0 k1) k0 k1 := rfl
def f177 (n : Nat) (a0 : List (Bool × (List Int) × (List Int))) (a1 : Unit) : Option Int :=
  f177_L2 n n a0 (a0.length : Int) 0
    (fun z_3 => (
      some z_3))
    (fun (_ : Unit) => (
      some (-1)))
def f177_E (n : Nat) : Ent := ⟨177, [hRs, (.fn 131)], [hI], fun x => f177 n x.1 x.2⟩
def f177_D (α : Type) (n : Nat) : D3 α := { reg := [(4, ⟨0, [], [(5, { ent := some (f131_E n) })]⟩)], join := [], loop := [(2, ⟨f177_L2H, f177_L2O, rounds (f177_L2U n) n⟩)] }
theorem f177_ents (α : Type) (n : Nat) : AllS Try.prog (entsOf (f177_D α n).reg) := ⟨f131_ok n, trivial⟩
theorem f177_L2_d (α : Type) (n : Nat) : D3.OK Try.prog (tyOf Try.prog) ⟨19, []⟩ (f177_D α n) ((bodyOf Try.f177).at [1, 0, 1, 0, 0]) :=
  D3.OK.mk3 (f177_ents α n) (show loopsOf ((bodyOf Try.f177).at [1, 0, 1, 0, 0]) = [] by kernel_rfl) trivial
theorem f177_L2_ok (α : Type) (n : Nat) : LO.Sound (α := α) Try.prog ⟨19, []⟩ ⟨f177_L2H, f177_L2O, rounds (f177_L2U n) n⟩ (.loop ((bodyOf Try.f177).at [1, 0, 1, 0, 0])) :=
  loop_ok (tyOf_ok _) prog_fol (f177_L2U n) (f177_L2_d α n) (by intro v f ks; kernel_rfl) n
theorem f177_d (α : Type) (n : Nat) : D3.OK Try.prog (tyOf Try.prog) ⟨19, []⟩ (f177_D α n) (bodyOf Try.f177) :=
  D3.OK.mk3 (f177_ents α n) (show loopsOf (bodyOf Try.f177) = [(2, (.loop ((bodyOf Try.f177).at [1, 0, 1, 0, 0])))] by kernel_rfl) ⟨look_sound rfl (f177_L2_ok α n), trivial⟩
theorem f177_ok (n : Nat) : (f177_E n).Sound Try.prog :=
  fn_ok (tyOf_ok _) prog_fol (f177_D _ n) (show Try.prog.funcs[177]? = some Try.f177 by kernel_rfl) (by kernel_rfl) (show Try.f177.body = some (bodyOf Try.f177) by kernel_rfl) rfl rfl (Nat.le_of_ble_eq_true rfl) (f177_d _ n) (by intro x; kernel_rfl) 

def f130 (n : Nat) (a0 : List (Bool × (List Int) × (List Int))) (a1 : Unit) : Option Bool :=
  ob (f177 n a0 a1) fun r_1 =>
  some (decide (r_1 ≥ 0))
def f130_E (n : Nat) : Ent := ⟨130, [hRs, (.fn 131)], [.bool], fun x => f130 n x.1 x.2⟩
def f130_D (α : Type) (n : Nat) : D3 α := { reg := [(1, ⟨0, [], [(2, { ent := some (f177_E n) })]⟩)], join := [], loop := [] }
theorem f130_ents (α : Type) (n : Nat) : AllS Try.prog (entsOf (f130_D α n).reg) := ⟨f177_ok n, trivial⟩
theorem f130_d (α : Type) (n : Nat) : D3.OK Try.prog (tyOf Try.prog) ⟨9, []⟩ (f130_D α n) (bodyOf Try.f130) :=
  D3.OK.mk3 (f130_ents α n) (show loopsOf (bodyOf Try.f130) = [] by kernel_rfl) trivial
theorem f130_ok (n : Nat) : (f130_E n).Sound Try.prog :=
  fn_ok (tyOf_ok _) prog_fol (f130_D _ n) (show Try.prog.funcs[130]? = some Try.f130 by kernel_rfl) (by kernel_rfl) (show Try.f130.body = some (bodyOf Try.f130) by kernel_rfl) rfl rfl (Nat.le_of_ble_eq_true rfl) (f130_d _ n) (by intro x; kernel_rfl) 

def f129 (n : Nat) (a0 : Bool) (a1 : Int) : Option Int :=
  bif a0 then
    some 0
  else
    some a1
def f129_E (n : Nat) : Ent := ⟨129, [.bool, hI], [hI], fun x => f129 n x.1 x.2⟩
def f129_D (α : Type) (n : Nat) : D3 α := { reg := [], join := [], loop := [] }
theorem f129_ents (α : Type) (n : Nat) : AllS Try.prog (entsOf (f129_D α n).reg) := trivial
theorem f129_d (α : Type) (n : Nat) : D3.OK Try.prog (tyOf Try.prog) ⟨7, []⟩ (f129_D α n) (bodyOf Try.f129) :=
  D3.OK.mk3 (f129_ents α n) (show loopsOf (bodyOf Try.f129) = [] by kernel_rfl) trivial
theorem f129_ok (n : Nat) : (f129_E n).Sound Try.prog :=
  fn_ok (tyOf_ok _) prog_fol (f129_D _ n) (show Try.prog.funcs[129]? = some Try.f129 by kernel_rfl) (by kernel_rfl) (show Try.f129.body = some (bodyOf Try.f129) by kernel_rfl) rfl rfl (Nat.le_of_ble_eq_true rfl) (f129_d _ n) (by intro x; kernel_rfl) 

def f68 (n : Nat) (a0 : List (Bool × (List Int) × (List Int))) : Option Int :=
  ob (f130 n a0 ()) fun r_1 =>
  ob (f129 n (!r_1) 1) fun r_2 =>
  some r_2
def f68_E (n : Nat) : Ent := ⟨68, [hRs], [hI], fun x => f68 n x⟩
def f68_D (α : Type) (n : Nat) : D3 α := { reg := [(1, ⟨0, [], [(1, { ent := some (f130_E n) }), (3, { ent := some (f129_E n) })]⟩)], join := [], loop := [] }
theorem f68_ents (α : Type) (n : Nat) : AllS Try.prog (entsOf (f68_D α n).reg) := ⟨f130_ok n, f129_ok n, trivial⟩
theorem f68_d (α : Type) (n : Nat) : D3.OK Try.prog (tyOf Try.prog) ⟨7, []⟩ (f68_D α n) (bodyOf Try.f68) :=
  D3.OK.mk3 (f68_ents α n) (show loopsOf (bodyOf Try.f68) = [] by kernel_rfl) trivial
theorem f68_ok (n : Nat) : (f68_E n).Sound Try.prog :=
  fn_ok (tyOf_ok _) prog_fol (f68_D _ n) (show Try.prog.funcs[68]? = some Try.f68 by kernel_rfl) (by kernel_rfl) (show Try.f68.body = some (bodyOf Try.f68) by kernel_rfl) rfl rfl (Nat.le_of_ble_eq_true rfl) (f68_d _ n) (by intro x; kernel_rfl) 

def f18 (n : Nat) (a0 : List (Bool × (List Int) × (List Int))) (a1 : Int) : Option Bool :=
  ob (f67 n a1 1 4) fun r_1 =>
  bif r_1 then
    bif ((a0.length : Int) == (W (a1 * a1))) then
      ob (f68 n a0) fun r_2 =>
      some (r_2 == 0)
    else
      some false
  else
    some false
def f18_E (n : Nat) : Ent := ⟨18, [hRs, hI], [.bool], fun x => f18 n x.1 x.2⟩
def f18_D (α : Type) (n : Nat) : D3 α := { reg := [(1, ⟨0, [], [(1, { ent := some (f67_E n) }), (12, { ent := some (f68_E n) })]⟩)], join := [], loop := [] }
theorem f18_ents (α : Type) (n : Nat) : AllS Try.prog (entsOf (f18_D α n).reg) := ⟨f67_ok n, f68_ok n, trivial⟩
theorem f18_d (α : Type) (n : Nat) : D3.OK Try.prog (tyOf Try.prog) ⟨20, []⟩ (f18_D α n) (bodyOf Try.f18) :=
  D3.OK.mk3 (f18_ents α n) (show loopsOf (bodyOf Try.f18) = [] by kernel_rfl) trivial
theorem f18_ok (n : Nat) : (f18_E n).Sound Try.prog :=
  fn_ok (tyOf_ok _) prog_fol (f18_D _ n) (show Try.prog.funcs[18]? = some Try.f18 by kernel_rfl) (by kernel_rfl) (show Try.f18.body = some (bodyOf Try.f18) by kernel_rfl) rfl rfl (Nat.le_of_ble_eq_true rfl) (f18_d _ n) (by intro x; kernel_rfl) 

def f73_L4B {α : Type} (n : Nat) (s0 : List Int) (s1 : List Int) (s5 : Int) (f : (List Int) → (List Int) → Int → Option α) (k0 : Bool → Option α) (k1 : Unit → Option α) : Option α :=
  bif (decide (s5 < (s0.length : Int))) then
    gd (decide (0 ≤ s5) && decide (s5 < (s0.length : Int))) (
      gd (decide (0 ≤ s5) && decide (s5 < (s1.length : Int))) (
        bif ((s0.getD s5.toNat 0) != (s1.getD s5.toNat 0)) then
          k0 false
        else
          f s0 s1 (W (s5 + 1))))
  else
    k1 ()
abbrev f73_L4H : Tm := ⟨[(0, .d hIs), (1, .d hIs), (5, .d hI)], [], [], []⟩
abbrev f73_L4X0 : Tm := ⟨[(4, .d .bool)], [], [], []⟩
abbrev f73_L4X1 : Tm := ⟨[], [], [], []⟩
abbrev f73_L4O : List (Exit × Tm) := [(.ret, f73_L4X0), (.exit 0, f73_L4X1)]
def f73_L4U {α : Type} (n : Nat) (v : f73_L4H.den) (f : f73_L4H.den → Option α) (ks : KS α f73_L4O) : Option α := f73_L4B n v.1.1 v.1.2.1 v.1.2.2.1 (fun s0 s1 s5 => f ((s0, s1, s5, ()), ())) (fun w0 => ks.1 ((w0, ()), ())) (fun _ => ks.2.1 ((), ()))
def f73_L4 {α : Type} (n m : Nat) (s0 : List Int) (s1 : List Int) (s5 : Int) (k0 : Bool → Option α) (k1 : Unit → Option α) : Option α := rounds (f73_L4U n) m ((s0, s1, s5, ()), ()) (fun w => k0 w.1.1, fun w => k1 (), ())
theorem f73_L4_0 {α : Type} (n : Nat) (s0 : List Int) (s1 : List Int) (s5 : Int) (k0 : Bool → Option α) (k1 : Unit → Option α) : f73_L4 (α := α) n 0 s0 s1 s5 k0 k1 = none := rfl
theorem f73_L4_s {α : Type} (n m : Nat) (s0 : List Int) (s1 : List Int) (s5 : Int) (k0 : Bool → Option α) (k1 : Unit → Option α) : f73_L4 (α := α) n (m + 1) s0 s1 s5 k0 k1 = f73_L4B n s0 s1 s5 (fun s0 s1 s5 => f73_L4 n m s0 s1 s5 k0 k1) k0 k1 := rfl
def f73 (n : Nat) (a0 : List Int) (a1 : List Int) : Option Bool :=
  bif ((a0.length : Int) != (a1.length : Int)) then
    some false
  else
    f73_L4 n n a0 a1 0
      (fun z_1 => (
        some z_1))
      (fun (_ : Unit) => (
        some true))
def f73_E (n : Nat) : Ent := ⟨73, [hIs, hIs], [.bool], fun x => f73 n x.1 x.2⟩
def f73_D (α : Type) (n : Nat) : D3 α := { reg := [(6, ⟨8, [], []⟩)], join := [], loop := [(4, ⟨f73_L4H, f73_L4O, rounds (f73_L4U n) n⟩)] }
theorem f73_ents (α : Type) (n : Nat) : AllS Try.prog (entsOf (f73_D α n).reg) := trivial
theorem f73_L4_d (α : Type) (n : Nat) : D3.OK Try.prog (tyOf Try.prog) ⟨26, []⟩ (f73_D α n) ((bodyOf Try.f73).at [1, 1, 0, 1, 0, 0]) :=
  D3.OK.mk3 (f73_ents α n) (show loopsOf ((bodyOf Try.f73).at [1, 1, 0, 1, 0, 0]) = [] by kernel_rfl) trivial
theorem f73_L4_ok (α : Type) (n : Nat) : LO.Sound (α := α) Try.prog ⟨26, []⟩ ⟨f73_L4H, f73_L4O, rounds (f73_L4U n) n⟩ (.loop ((bodyOf Try.f73).at [1, 1, 0, 1, 0, 0])) :=
  loop_ok (tyOf_ok _) prog_fol (f73_L4U n) (f73_L4_d α n) (by intro v f ks; kernel_rfl) n
theorem f73_d (α : Type) (n : Nat) : D3.OK Try.prog (tyOf Try.prog) ⟨26, []⟩ (f73_D α n) (bodyOf Try.f73) :=
  D3.OK.mk3 (f73_ents α n) (show loopsOf (bodyOf Try.f73) = [(4, (.loop ((bodyOf Try.f73).at [1, 1, 0, 1, 0, 0])))] by kernel_rfl) ⟨look_sound rfl (f73_L4_ok α n), trivial⟩
theorem f73_ok (n : Nat) : (f73_E n).Sound Try.prog :=
  fn_ok (tyOf_ok _) prog_fol (f73_D _ n) (show Try.prog.funcs[73]? = some Try.f73 by kernel_rfl) (by kernel_rfl) (show Try.f73.body = some (bodyOf Try.f73) by kernel_rfl) rfl rfl (Nat.le_of_ble_eq_true rfl) (f73_d _ n) (by intro x; kernel_rfl) 

def f24 (n : Nat) (a0 : Bool × (List Int) × (List Int)) (a1 : Bool × (List Int) × (List Int)) : Option Bool :=
  bif (!(a0.1 == a1.1)) then
    some false
  else
    ob (f73 n a0.2.1 a1.2.1) fun r_1 =>
    bif (!r_1) then
      some false
    else
      ob (f73 n a0.2.2 a1.2.2) fun r_2 =>
      bif (!r_2) then
        some false
      else
        some true
def f24_E (n : Nat) : Ent := ⟨24, [hR, hR], [.bool], fun x => f24 n x.1 x.2⟩
def f24_D (α : Type) (n : Nat) : D3 α := { reg := [(3, ⟨0, [], [(4, { ent := some (f73_E n) })]⟩), (5, ⟨0, [], [(4, { ent := some (f73_E n) })]⟩)], join := [], loop := [] }
theorem f24_ents (α : Type) (n : Nat) : AllS Try.prog (entsOf (f24_D α n).reg) := ⟨f73_ok n, f73_ok n, trivial⟩
theorem f24_d (α : Type) (n : Nat) : D3.OK Try.prog (tyOf Try.prog) ⟨22, []⟩ (f24_D α n) (bodyOf Try.f24) :=
  D3.OK.mk3 (f24_ents α n) (show loopsOf (bodyOf Try.f24) = [] by kernel_rfl) trivial
theorem f24_ok (n : Nat) : (f24_E n).Sound Try.prog :=
  fn_ok (tyOf_ok _) prog_fol (f24_D _ n) (show Try.prog.funcs[24]? = some Try.f24 by kernel_rfl) (by kernel_rfl) (show Try.f24.body = some (bodyOf Try.f24) by kernel_rfl) rfl rfl (Nat.le_of_ble_eq_true rfl) (f24_d _ n) (by intro x; kernel_rfl) 

def f19_L4B {α : Type} (n : Nat) (s0 : List (Bool × (List Int) × (List Int))) (s1 : List (Bool × (List Int) × (List Int))) (s5 : Int) (f : (List (Bool × (List Int) × (List Int))) → (List (Bool × (List Int) × (List Int))) → Int → Option α) (k0 : Bool → Option α) (k1 : Unit → Option α) : Option α :=
  bif (decide (s5 < (s0.length : Int))) then
    gd (decide (0 ≤ s5) && decide (s5 < (s0.length : Int))) (
      let x_1 := s0.getD s5.toNat (false, [], [])
      gd (decide (0 ≤ s5) && decide (s5 < (s1.length : Int))) (
        let x_2 := s1.getD s5.toNat (false, [], [])
        ob (f24 n x_1 x_2) fun r_3 =>
        bif (!r_3) then
          k0 false
        else
          f s0 s1 (W (s5 + 1))))
  else
    k1 ()
abbrev f19_L4H : Tm := ⟨[(0, .d hRs), (1, .d hRs), (5, .d hI)], [], [], []⟩
abbrev f19_L4X0 : Tm := ⟨[(4, .d .bool)], [], [], []⟩
abbrev f19_L4X1 : Tm := ⟨[], [], [], []⟩
abbrev f19_L4O : List (Exit × Tm) := [(.ret, f19_L4X0), (.exit 0, f19_L4X1)]
def f19_L4U {α : Type} (n : Nat) (v : f19_L4H.den) (f : f19_L4H.den → Option α) (ks : KS α f19_L4O) : Option α := f19_L4B n v.1.1 v.1.2.1 v.1.2.2.1 (fun s0 s1 s5 => f ((s0, s1, s5, ()), ())) (fun w0 => ks.1 ((w0, ()), ())) (fun _ => ks.2.1 ((), ()))
def f19_L4 {α : Type} (n m : Nat) (s0 : List (Bool × (List Int) × (List Int))) (s1 : List (Bool × (List Int) × (List Int))) (s5 : Int) (k0 : Bool → Option α) (k1 : Unit → Option α) : Option α := rounds (f19_L4U n) m ((s0, s1, s5, ()), ()) (fun w => k0 w.1.1, fun w => k1 (), ())
theorem f19_L4_0 {α : Type} (n : Nat) (s0 : List (Bool × (List Int) × (List Int))) (s1 : List (Bool × (List Int) × (List Int))) (s5 : Int) (k0 : Bool → Option α) (k1 : Unit → Option α) : f19_L4 (α := α) n 0 s0 s1 s5 k0 k1 = none := rfl
theorem f19_L4_s {α : Type} (n m : Nat) (s0 : List (Bool × (List Int) × (List Int))) (s1 : List (Bool × (List Int) × (List Int))) (s5 : Int) (k0 : Bool → Option α) (k1 : Unit → Option α) : f19_L4 (α := α) n (m + 1) s0 s1 s5 k0 k1 = f19_L4B n s0 s1 s5 (fun s0 s1 s5 => f19_L4 n m s0 s1 s5 k0 k1) k0 k1 := rfl
def f19 (n : Nat) (a0 : List (Bool × (List Int) × (List Int))) (a1 : List (Bool × (List Int) × (List Int))) : Option Bool :=
  bif ((a0.length : Int) != (a1.length : Int)) then
    some false
  else
    f19_L4 n n a0 a1 0
      (fun z_4 => (
        some z_4))
      (fun (_ : Unit) => (
        some true))
def f19_E (n : Nat) : Ent := ⟨19, [hRs, hRs], [.bool], fun x => f19 n x.1 x.2⟩
def f19_D (α : Type) (n : Nat) : D3 α := { reg := [(6, ⟨8, [], [(8, { ent := some (f24_E n) })]⟩)], join := [], loop := [(4, ⟨f19_L4H, f19_L4O, rounds (f19_L4U n) n⟩)] }
theorem f19_ents (α : Type) (n : Nat) : AllS Try.prog (entsOf (f19_D α n).reg) := ⟨f24_ok n, trivial⟩
theorem f19_L4_d (α : Type) (n : Nat) : D3.OK Try.prog (tyOf Try.prog) ⟨27, []⟩ (f19_D α n) ((bodyOf Try.f19).at [1, 1, 0, 1, 0, 0]) :=
  D3.OK.mk3 (f19_ents α n) (show loopsOf ((bodyOf Try.f19).at [1, 1, 0, 1, 0, 0]) = [] by kernel_rfl) trivial
theorem f19_L4_ok (α : Type) (n : Nat) : LO.Sound (α := α) Try.prog ⟨27, []⟩ ⟨f19_L4H, f19_L4O, rounds (f19_L4U n) n⟩ (.loop ((bodyOf Try.f19).at [1, 1, 0, 1, 0, 0])) :=
  loop_ok (tyOf_ok _) prog_fol (f19_L4U n) (f19_L4_d α n) (by intro v f ks; kernel_rfl) n
theorem f19_d (α : Type) (n : Nat) : D3.OK Try.prog (tyOf Try.prog) ⟨27, []⟩ (f19_D α n) (bodyOf Try.f19) :=
  D3.OK.mk3 (f19_ents α n) (show loopsOf (bodyOf Try.f19) = [(4, (.loop ((bodyOf Try.f19).at [1, 1, 0, 1, 0, 0])))] by kernel_rfl) ⟨look_sound rfl (f19_L4_ok α n), trivial⟩
theorem f19_ok (n : Nat) : (f19_E n).Sound Try.prog :=
  fn_ok (tyOf_ok _) prog_fol (f19_D _ n) (show Try.prog.funcs[19]? = some Try.f19 by kernel_rfl) (by kernel_rfl) (show Try.f19.body = some (bodyOf Try.f19) by kernel_rfl) rfl rfl (Nat.le_of_ble_eq_true rfl) (f19_d _ n) (by intro x; kernel_rfl) 

def f3 (n : Nat) (a0 : List (Bool × (List Int) × (List Int))) (a1 : Int) : Option Bool :=
  ob (f15 n a0 1048576) fun r_1 =>
  bif (decide (r_1 < 0)) then
    some true
  else
    ob (f17 n a0) fun r_2 =>
    ob (f16 n r_2 a1) fun r_3 =>
    ob (f17 n a0) fun r_4 =>
    ob (f18 n r_4 a1) fun r_5 =>
    bif (!(r_5 == r_3)) then
      some false
    else
      ob (f17 n a0) fun r_6 =>
      ob (f19 n r_4 r_6) fun r_7 =>
      bif (!r_7) then
        some false
      else
        some true
def f3_E (n : Nat) : Ent := ⟨3, [hRs, hI], [.bool], fun x => f3 n x.1 x.2⟩
def f3_D (α : Type) (n : Nat) : D3 α := { reg := [(2, ⟨0, [], [(2, { ent := some (f15_E n) })]⟩), (5, ⟨0, [], [(1, { ent := some (f17_E n) }), (3, { ent := some (f16_E n) })]⟩), (6, ⟨0, [], [(1, { ent := some (f17_E n) })]⟩), (7, ⟨0, [], [(2, { ent := some (f18_E n) })]⟩), (10, ⟨0, [], [(2, { ent := some (f17_E n) }), (3, { ent := some (f19_E n) })]⟩)], join := [], loop := [] }
theorem f3_ents (α : Type) (n : Nat) : AllS Try.prog (entsOf (f3_D α n).reg) := ⟨f15_ok n, f17_ok n, f16_ok n, f17_ok n, f18_ok n, f17_ok n, f19_ok n, trivial⟩
theorem f3_d (α : Type) (n : Nat) : D3.OK Try.prog (tyOf Try.prog) ⟨31, []⟩ (f3_D α n) (bodyOf Try.f3) :=
  D3.OK.mk3 (f3_ents α n) (show loopsOf (bodyOf Try.f3) = [] by kernel_rfl) trivial
theorem f3_ok (n : Nat) : (f3_E n).Sound Try.prog :=
  fn_ok (tyOf_ok _) prog_fol (f3_D _ n) (show Try.prog.funcs[3]? = some Try.f3 by kernel_rfl) (by kernel_rfl) (show Try.f3.body = some (bodyOf Try.f3) by kernel_rfl) rfl rfl (Nat.le_of_ble_eq_true rfl) (f3_d _ n) (by intro x; kernel_rfl) 

def f27 (n : Nat) (a0 : (List (Bool × (List Int) × (List Int))) × (List (Bool × (List Int) × (List Int))) × (List (Bool × (List Int) × (List Int))) × (Bool × (List Int) × (List Int)) × Int × Int × Int) (a1 : Int) : Option Int :=
  ob (f15 n a0.1 a1) fun r_1 =>
  bif (decide (r_1 < 0)) then
    some (-1)
  else
    ob (f15 n a0.2.1 r_1) fun r_2 =>
    bif (decide (r_2 < 0)) then
      some (-1)
    else
      ob (f15 n a0.2.2.1 r_2) fun r_3 =>
      bif (decide (r_3 < 0)) then
        some (-1)
      else
        ob (f20 n a0.2.2.2.1 r_3) fun r_4 =>
        bif (decide (r_4 < 0)) then
          some (-1)
        else
          some r_4
def f27_E (n : Nat) : Ent := ⟨27, [(.st (.pair hRs (.pair hRs (.pair hRs (.pair hR (.pair hI (.pair hI hI))))))), hI], [hI], fun x => f27 n x.1 x.2⟩
def f27_D (α : Type) (n : Nat) : D3 α := { reg := [(1, ⟨0, [], [(3, { ent := some (f15_E n) })]⟩), (4, ⟨0, [], [(3, { ent := some (f15_E n) })]⟩), (7, ⟨0, [], [(3, { ent := some (f15_E n) })]⟩), (10, ⟨0, [], [(3, { ent := some (f20_E n) })]⟩)], join := [], loop := [] }
theorem f27_ents (α : Type) (n : Nat) : AllS Try.prog (entsOf (f27_D α n).reg) := ⟨f15_ok n, f15_ok n, f15_ok n, f20_ok n, trivial⟩
theorem f27_d (α : Type) (n : Nat) : D3.OK Try.prog (tyOf Try.prog) ⟨30, []⟩ (f27_D α n) (bodyOf Try.f27) :=
  D3.OK.mk3 (f27_ents α n) (show loopsOf (bodyOf Try.f27) = [] by kernel_rfl) trivial
theorem f27_ok (n : Nat) : (f27_E n).Sound Try.prog :=
  fn_ok (tyOf_ok _) prog_fol (f27_D _ n) (show Try.prog.funcs[27]? = some Try.f27 by kernel_rfl) (by kernel_rfl) (show Try.f27.body = some (bodyOf Try.f27) by kernel_rfl) rfl rfl (Nat.le_of_ble_eq_true rfl) (f27_d _ n) (by intro x; kernel_rfl) 

def f29 (n : Nat) (a0 : (List (Bool × (List Int) × (List Int))) × (List (Bool × (List Int) × (List Int))) × (List (Bool × (List Int) × (List Int))) × (Bool × (List Int) × (List Int)) × Int × Int × Int) : Option ((List (Bool × (List Int) × (List Int))) × (List (Bool × (List Int) × (List Int))) × (List (Bool × (List Int) × (List Int))) × (Bool × (List Int) × (List Int)) × Int × Int × Int) :=
  ob (f17 n a0.1) fun r_1 =>
  ob (f17 n a0.2.1) fun r_2 =>
  ob (f17 n a0.2.2.1) fun r_3 =>
  ob (f22 n a0.2.2.2.1) fun r_4 =>
  some (r_1, r_2, r_3, r_4, a0.2.2.2.2)
def f29_E (n : Nat) : Ent := ⟨29, [(.st (.pair hRs (.pair hRs (.pair hRs (.pair hR (.pair hI (.pair hI hI)))))))], [(.st (.pair hRs (.pair hRs (.pair hRs (.pair hR (.pair hI (.pair hI hI)))))))], fun x => f29 n x⟩
def f29_D (α : Type) (n : Nat) : D3 α := { reg := [(2, ⟨0, [], [(2, { ent := some (f17_E n) })]⟩), (3, ⟨0, [], [(2, { ent := some (f17_E n) })]⟩), (4, ⟨0, [], [(2, { ent := some (f17_E n) })]⟩), (5, ⟨0, [], [(2, { ent := some (f22_E n) })]⟩)], join := [], loop := [] }
theorem f29_ents (α : Type) (n : Nat) : AllS Try.prog (entsOf (f29_D α n).reg) := ⟨f17_ok n, f17_ok n, f17_ok n, f22_ok n, trivial⟩
theorem f29_d (α : Type) (n : Nat) : D3.OK Try.prog (tyOf Try.prog) ⟨30, []⟩ (f29_D α n) (bodyOf Try.f29) :=
  D3.OK.mk3 (f29_ents α n) (show loopsOf (bodyOf Try.f29) = [] by kernel_rfl) trivial
theorem f29_ok (n : Nat) : (f29_E n).Sound Try.prog :=
  fn_ok (tyOf_ok _) prog_fol (f29_D _ n) (show Try.prog.funcs[29]? = some Try.f29 by kernel_rfl) (by kernel_rfl) (show Try.f29.body = some (bodyOf Try.f29) by kernel_rfl) rfl rfl (Nat.le_of_ble_eq_true rfl) (f29_d _ n) (by intro x; kernel_rfl) 

def f76_L4B {α : Type} (n : Nat) (s0 : List (Bool × (List Int) × (List Int))) (s3 : Int) (f : (List (Bool × (List Int) × (List Int))) → Int → Option α) (k0 : Bool → Option α) (k1 : (List (Bool × (List Int) × (List Int))) → Option α) : Option α :=
  bif (decide (s3 < (s0.length : Int))) then
    gd (decide (0 ≤ s3) && decide (s3 < (s0.length : Int))) (
      let x_1 := s0.getD s3.toNat (false, [], [])
      ob (f66 n x_1) fun r_2 =>
      bif (!r_2) then
        k0 false
      else
        f s0 (W (s3 + 1)))
  else
    k1 s0
abbrev f76_L4H : Tm := ⟨[(0, .d hRs), (3, .d hI)], [], [], []⟩
abbrev f76_L4X0 : Tm := ⟨[(2, .d .bool)], [], [], []⟩
abbrev f76_L4X1 : Tm := ⟨[(0, .d hRs)], [], [], []⟩
abbrev f76_L4O : List (Exit × Tm) := [(.ret, f76_L4X0), (.exit 0, f76_L4X1)]
def f76_L4U {α : Type} (n : Nat) (v : f76_L4H.den) (f : f76_L4H.den → Option α) (ks : KS α f76_L4O) : Option α := f76_L4B n v.1.1 v.1.2.1 (fun s0 s3 => f ((s0, s3, ()), ())) (fun w0 => ks.1 ((w0, ()), ())) (fun w0 => ks.2.1 ((w0, ()), ()))
def f76_L4 {α : Type} (n m : Nat) (s0 : List (Bool × (List Int) × (List Int))) (s3 : Int) (k0 : Bool → Option α) (k1 : (List (Bool × (List Int) × (List Int))) → Option α) : Option α := rounds (f76_L4U n) m ((s0, s3, ()), ()) (fun w => k0 w.1.1, fun w => k1 w.1.1, ())
theorem f76_L4_0 {α : Type} (n : Nat) (s0 : List (Bool × (List Int) × (List Int))) (s3 : Int) (k0 : Bool → Option α) (k1 : (List (Bool × (List Int) × (List Int))) → Option α) : f76_L4 (α := α) n 0 s0 s3 k0 k1 = none := rfl
theorem f76_L4_s {α : Type} (n m : Nat) (s0 : List (Bool × (List Int) × (List Int))) (s3 : Int) (k0 : Bool → Option α) (k1 : (List (Bool × (List Int) × (List Int))) → Option α) : f76_L4 (α := α) n (m + 1) s0 s3 k0 k1 = f76_L4B n s0 s3 (fun s0 s3 => f76_L4 n m s0 s3 k0 k1) k0 k1 := rfl
def f76 (n : Nat) (a0 : List (Bool × (List Int) × (List Int))) : Option Bool :=
  bif (decide ((a0.length : Int) > 4096)) then
    some false
  else
    f76_L4 n n a0 0
      (fun z_3 => (
        some z_3))
      (fun z_4 => (
        ob (f65 n (z_4.length : Int) 1 4) fun r_5 =>
        some r_5))
def f76_E (n : Nat) : Ent := ⟨76, [hRs], [.bool], fun x => f76 n x⟩
def f76_D (α : Type) (n : Nat) : D3 α := { reg := [(6, ⟨0, [], [(4, { ent := some (f66_E n) })]⟩), (8, ⟨0, [], [(2, { ent := some (f65_E n) })]⟩)], join := [], loop := [(4, ⟨f76_L4H, f76_L4O, rounds (f76_L4U n) n⟩)] }
theorem f76_ents (α : Type) (n : Nat) : AllS Try.prog (entsOf (f76_D α n).reg) := ⟨f66_ok n, f65_ok n, trivial⟩
theorem f76_L4_d (α : Type) (n : Nat) : D3.OK Try.prog (tyOf Try.prog) ⟨22, []⟩ (f76_D α n) ((bodyOf Try.f76).at [1, 1, 0, 1, 0, 0]) :=
  D3.OK.mk3 (f76_ents α n) (show loopsOf ((bodyOf Try.f76).at [1, 1, 0, 1, 0, 0]) = [] by kernel_rfl) trivial
theorem f76_L4_ok (α : Type) (n : Nat) : LO.Sound (α := α) Try.prog ⟨22, []⟩ ⟨f76_L4H, f76_L4O, rounds (f76_L4U n) n⟩ (.loop ((bodyOf Try.f76).at [1, 1, 0, 1, 0, 0])) :=
  loop_ok (tyOf_ok _) prog_fol (f76_L4U n) (f76_L4_d α n) (by intro v f ks; kernel_rfl) n
theorem f76_d (α : Type) (n : Nat) : D3.OK Try.prog (tyOf Try.prog) ⟨22, []⟩ (f76_D α n) (bodyOf Try.f76) :=
  D3.OK.mk3 (f76_ents α n) (show loopsOf (bodyOf Try.f76) = [(4, (.loop ((bodyOf Try.f76).at [1, 1, 0, 1, 0, 0])))] by kernel_rfl) ⟨look_sound rfl (f76_L4_ok α n), trivial⟩
theorem f76_ok (n : Nat) : (f76_E n).Sound Try.prog :=
  fn_ok (tyOf_ok _) prog_fol (f76_D _ n) (show Try.prog.funcs[76]? = some Try.f76 by kernel_rfl) (by kernel_rfl) (show Try.f76.body = some (bodyOf Try.f76) by kernel_rfl) rfl rfl (Nat.le_of_ble_eq_true rfl) (f76_d _ n) (by intro x; kernel_rfl) 

def f28 (n : Nat) (a0 : (List (Bool × (List Int) × (List Int))) × (List (Bool × (List Int) × (List Int))) × (List (Bool × (List Int) × (List Int))) × (Bool × (List Int) × (List Int)) × Int × Int × Int) : Option Bool :=
  ob (f76 n a0.1) fun r_1 =>
  bif r_1 then
    ob (f76 n a0.2.1) fun r_2 =>
    bif r_2 then
      ob (f76 n a0.2.2.1) fun r_3 =>
      bif r_3 then
        bif ((a0.2.1.length : Int) == (a0.1.length : Int)) then
          bif ((a0.2.2.1.length : Int) == (a0.1.length : Int)) then
            ob (f66 n a0.2.2.2.1) fun r_4 =>
            bif r_4 then
              ob (f65 n a0.2.2.2.2.1 0 6) fun r_5 =>
              bif r_5 then
                ob (f65 n a0.2.2.2.2.2.1 0 30) fun r_6 =>
                bif r_6 then
                  ob (f65 n a0.2.2.2.2.2.2 0 6) fun r_7 =>
                  some r_7
                else
                  some false
              else
                some false
            else
              some false
          else
            some false
        else
          some false
      else
        some false
    else
      some false
  else
    some false
def f28_E (n : Nat) : Ent := ⟨28, [(.st (.pair hRs (.pair hRs (.pair hRs (.pair hR (.pair hI (.pair hI hI)))))))], [.bool], fun x => f28 n x⟩
def f28_D (α : Type) (n : Nat) : D3 α := { reg := [(1, ⟨0, [], [(2, { ent := some (f76_E n) }), (6, { ent := some (f76_E n) }), (11, { ent := some (f76_E n) }), (34, { ent := some (f66_E n) }), (39, { ent := some (f65_E n) }), (44, { ent := some (f65_E n) }), (49, { ent := some (f65_E n) })]⟩)], join := [], loop := [] }
theorem f28_ents (α : Type) (n : Nat) : AllS Try.prog (entsOf (f28_D α n).reg) := ⟨f76_ok n, f76_ok n, f76_ok n, f66_ok n, f65_ok n, f65_ok n, f65_ok n, trivial⟩
theorem f28_d (α : Type) (n : Nat) : D3.OK Try.prog (tyOf Try.prog) ⟨54, []⟩ (f28_D α n) (bodyOf Try.f28) :=
  D3.OK.mk3 (f28_ents α n) (show loopsOf (bodyOf Try.f28) = [] by kernel_rfl) trivial
theorem f28_ok (n : Nat) : (f28_E n).Sound Try.prog :=
  fn_ok (tyOf_ok _) prog_fol (f28_D _ n) (show Try.prog.funcs[28]? = some Try.f28 by kernel_rfl) (by kernel_rfl) (show Try.f28.body = some (bodyOf Try.f28) by kernel_rfl) rfl rfl (Nat.le_of_ble_eq_true rfl) (f28_d _ n) (by intro x; kernel_rfl) 

def f178_L2B {α : Type} (n : Nat) (s0 : Int) (s7 : List Int) (s8 : Int) (s9 : Int) (f : Int → (List Int) → Int → Int → Option α) (k0 : Int → Option α) (k1 : Unit → Option α) : Option α :=
  bif (decide (s9 < s8)) then
    gd (decide (0 ≤ s9) && decide (s9 < (s7.length : Int))) (
      bif (decide ((s7.getD s9.toNat 0) > s0)) then
        k0 2
      else
        f s0 s7 s8 (W (s9 + 1)))
  else
    k1 ()
abbrev f178_L2H : Tm := ⟨[(0, .d hI), (7, .d hIs), (8, .d hI), (9, .d hI)], [], [], []⟩
abbrev f178_L2X0 : Tm := ⟨[(4, .d hI)], [], [], []⟩
abbrev f178_L2X1 : Tm := ⟨[], [], [], []⟩
abbrev f178_L2O : List (Exit × Tm) := [(.ret, f178_L2X0), (.exit 0, f178_L2X1)]
def f178_L2U {α : Type} (n : Nat) (v : f178_L2H.den) (f : f178_L2H.den → Option α) (ks : KS α f178_L2O) : Option α := f178_L2B n v.1.1 v.1.2.1 v.1.2.2.1 v.1.2.2.2.1 (fun s0 s7 s8 s9 => f ((s0, s7, s8, s9, ()), ())) (fun w0 => ks.1 ((w0, ()), ())) (fun _ => ks.2.1 ((), ()))
def f178_L2 {α : Type} (n m : Nat) (s0 : Int) (s7 : List Int) (s8 : Int) (s9 : Int) (k0 : Int → Option α) (k1 : Unit → Option α) : Option α := rounds (f178_L2U n) m ((s0, s7, s8, s9, ()), ()) (fun w => k0 w.1.1, fun w => k1 (), ())
theorem f178_L2_0 {α : Type} (n : Nat) (s0 : Int) (s7 : List Int) (s8 : Int) (s9 : Int) (k0 : Int → Option α) (k1 : Unit → Option α) : f178_L2 (α := α) n 0 s0 s7 s8 s9 k0 k1 = none := rfl
theorem f178_L2_s {α : Type} (n m : Nat) (s0 : Int) (s7 : List Int) (s8 : Int) (s9 : Int) (k0 : Int → Option α) (k1 : Unit → Option α) : f178_L2 (α := α) n (m + 1) s0 s7 s8 s9 k0 k1 = f178_L2B n s0 s7 s8 s9 (fun s0 s7 s8 s9 => f178_L2 n m s0 s7 s8 s9 k0 k1) k0 k1 := rfl
def f178 (n : Nat) (a0 : Int) (a1 : List Int) : Option Int :=
  f178_L2 n n a0 a1 (a1.length : Int) 0
    (fun z_1 => (
      some z_1))
    (fun (_ : Unit) => (
      some 0))
def f178_E (n : Nat) : Ent := ⟨178, [hI, hIs], [hI], fun x => f178 n x.1 x.2⟩
def f178_D (α : Type) (n : Nat) : D3 α := { reg := [], join := [], loop := [(2, ⟨f178_L2H, f178_L2O, rounds (f178_L2U n) n⟩)] }
theorem f178_ents (α : Type) (n : Nat) : AllS Try.prog (entsOf (f178_D α n).reg) := trivial
theorem f178_L2_d (α : Type) (n : Nat) : D3.OK Try.prog (tyOf Try.prog) ⟨17, []⟩ (f178_D α n) ((bodyOf Try.f178).at [1, 0, 1, 0, 0]) :=
  D3.OK.mk3 (f178_ents α n) (show loopsOf ((bodyOf Try.f178).at [1, 0, 1, 0, 0]) = [] by kernel_rfl) trivial
theorem f178_L2_ok (α : Type) (n : Nat) : LO.Sound (α := α) Try.prog ⟨17, []⟩ ⟨f178_L2H, f178_L2O, rounds (f178_L2U n) n⟩ (.loop ((bodyOf Try.f178).at [1, 0, 1, 0, 0])) :=
  loop_ok (tyOf_ok _) prog_fol (f178_L2U n) (f178_L2_d α n) (by intro v f ks; kernel_rfl) n
theorem f178_d (α : Type) (n : Nat) : D3.OK Try.prog (tyOf Try.prog) ⟨17, []⟩ (f178_D α n) (bodyOf Try.f178) :=
  D3.OK.mk3 (f178_ents α n) (show loopsOf (bodyOf Try.f178) = [(2, (.loop ((bodyOf Try.f178).at [1, 0, 1, 0, 0])))] by kernel_rfl) ⟨look_sound rfl (f178_L2_ok α n), trivial⟩
theorem f178_ok (n : Nat) : (f178_E n).Sound Try.prog :=
  fn_ok (tyOf_ok _) prog_fol (f178_D _ n) (show Try.prog.funcs[178]? = some Try.f178 by kernel_rfl) (by kernel_rfl) (show Try.f178.body = some (bodyOf Try.f178) by kernel_rfl) rfl rfl (Nat.le_of_ble_eq_true rfl) (f178_d _ n) (by intro x; kernel_rfl) 

def f133_L3B {α : Type} (n : Nat) (s7 : List (List (Bool × (List Int) × (List Int)))) (s8 : Int) (s9 : Int) (b6 : List Int) (f : (List (List (Bool × (List Int) × (List Int)))) → Int → Int → (List Int) → Option α) (k0 : (List Int) → Option α) : Option α :=
  bif (decide (s9 < s8)) then
    gd (decide (0 ≤ s9) && decide (s9 < (s7.length : Int))) (
      gd (decide ((b6.length + 1) * 8 ≤ 140737488355328)) (
        f s7 s8 (W (s9 + 1)) (b6 ++ [(((s7.getD s9.toNat []).length : Nat) : Int)])))
  else
    k0 b6
abbrev f133_L3H : Tm := ⟨[(3, .k (.hw 6)), (7, .d (.sl hRs)), (8, .d hI), (9, .d hI)], [(6, .arr 3 hI false)], [16], []⟩
abbrev f133_L3X0 : Tm := ⟨[(3, .k (.hw 6))], [(6, .arr 3 hI false)], [], []⟩
abbrev f133_L3O : List (Exit × Tm) := [(.exit 0, f133_L3X0)]
def f133_L3U {α : Type} (n : Nat) (v : f133_L3H.den) (f : f133_L3H.den → Option α) (ks : KS α f133_L3O) : Option α := f133_L3B n v.1.2.1 v.1.2.2.1 v.1.2.2.2.1 v.2.1 (fun s7 s8 s9 b6 => f (((), s7, s8, s9, ()), (b6, ()))) (fun w0 => ks.1 (((), ()), (w0, ())))
def f133_L3 {α : Type} (n m : Nat) (s7 : List (List (Bool × (List Int) × (List Int)))) (s8 : Int) (s9 : Int) (b6 : List Int) (k0 : (List Int) → Option α) : Option α := rounds (f133_L3U n) m (((), s7, s8, s9, ()), (b6, ())) (fun w => k0 w.2.1, ())
theorem f133_L3_0 {α : Type} (n : Nat) (s7 : List (List (Bool × (List Int) × (List Int)))) (s8 : Int) (s9 : Int) (b6 : List Int) (k0 : (List Int) → Option α) : f133_L3 (α := α) n 0 s7 s8 s9 b6 k0 = none := rfl
theorem f133_L3_s {α : Type} (n m : Nat) (s7 : List (List (Bool × (List Int) × (List Int)))) (s8 : Int) (s9 : Int) (b6 : List Int) (k0 : (List Int) → Option α) : f133_L3 (α := α) n (m + 1) s7 s8 s9 b6 k0 = f133_L3B n s7 s8 s9 b6 (fun s7 s8 s9 b6 => f133_L3 n m s7 s8 s9 b6 k0) k0 := rfl
def f133 (n : Nat) (a0 : List (List (Bool × (List Int) × (List Int)))) : Option Int :=
  f133_L3 n n a0 (a0.length : Int) 0 []
    (fun z_1 => (
      ob (f178 n 4096 z_1) fun r_2 =>
      some r_2))
def f133_E (n : Nat) : Ent := ⟨133, [(.sl hRs)], [hI], fun x => f133 n x⟩
def f133_D (α : Type) (n : Nat) : D3 α := { reg := [(1, ⟨0, [], [(0, { sh := some hI })]⟩), (5, ⟨0, [], [(3, { sh := some hI })]⟩), (7, ⟨0, [], [(1, { ent := some (f178_E n) })]⟩)], join := [], loop := [(3, ⟨f133_L3H, f133_L3O, rounds (f133_L3U n) n⟩)] }
theorem f133_ents (α : Type) (n : Nat) : AllS Try.prog (entsOf (f133_D α n).reg) := ⟨f178_ok n, trivial⟩
theorem f133_L3_d (α : Type) (n : Nat) : D3.OK Try.prog (tyOf Try.prog) ⟨21, []⟩ (f133_D α n) ((bodyOf Try.f133).at [1, 1, 0, 1, 0, 0]) :=
  D3.OK.mk3 (f133_ents α n) (show loopsOf ((bodyOf Try.f133).at [1, 1, 0, 1, 0, 0]) = [] by kernel_rfl) trivial
theorem f133_L3_ok (α : Type) (n : Nat) : LO.Sound (α := α) Try.prog ⟨21, []⟩ ⟨f133_L3H, f133_L3O, rounds (f133_L3U n) n⟩ (.loop ((bodyOf Try.f133).at [1, 1, 0, 1, 0, 0])) :=
  loop_ok (tyOf_ok _) prog_fol (f133_L3U n) (f133_L3_d α n) (by intro v f ks; kernel_rfl) n
theorem f133_d (α : Type) (n : Nat) : D3.OK Try.prog (tyOf Try.prog) ⟨21, []⟩ (f133_D α n) (bodyOf Try.f133) :=
  D3.OK.mk3 (f133_ents α n) (show loopsOf (bodyOf Try.f133) = [(3, (.loop ((bodyOf Try.f133).at [1, 1, 0, 1, 0, 0])))] by kernel_rfl) ⟨look_sound rfl (f133_L3_ok α n), trivial⟩
theorem f133_ok (n : Nat) : (f133_E n).Sound Try.prog :=
  fn_ok (tyOf_ok _) prog_fol (f133_D _ n) (show Try.prog.funcs[133]? = some Try.f133 by kernel_rfl) (by kernel_rfl) (show Try.f133.body = some (bodyOf Try.f133) by kernel_rfl) rfl rfl (Nat.le_of_ble_eq_true rfl) (f133_d _ n) (by intro x; kernel_rfl) 

def f110 (n : Nat) (a0 : List (Bool × (List Int) × (List Int))) : Option Bool :=
  bif (decide ((a0.length : Int) ≥ 1)) then
    bif (decide ((a0.length : Int) ≤ 4)) then
      ob (f68 n a0) fun r_1 =>
      some (r_1 == 0)
    else
      some false
  else
    some false
def f110_E (n : Nat) : Ent := ⟨110, [hRs], [.bool], fun x => f110 n x⟩
def f110_D (α : Type) (n : Nat) : D3 α := { reg := [(1, ⟨0, [], [(10, { ent := some (f68_E n) })]⟩)], join := [], loop := [] }
theorem f110_ents (α : Type) (n : Nat) : AllS Try.prog (entsOf (f110_D α n).reg) := ⟨f68_ok n, trivial⟩
theorem f110_d (α : Type) (n : Nat) : D3.OK Try.prog (tyOf Try.prog) ⟨16, []⟩ (f110_D α n) (bodyOf Try.f110) :=
  D3.OK.mk3 (f110_ents α n) (show loopsOf (bodyOf Try.f110) = [] by kernel_rfl) trivial
theorem f110_ok (n : Nat) : (f110_E n).Sound Try.prog :=
  fn_ok (tyOf_ok _) prog_fol (f110_D _ n) (show Try.prog.funcs[110]? = some Try.f110 by kernel_rfl) (by kernel_rfl) (show Try.f110.body = some (bodyOf Try.f110) by kernel_rfl) rfl rfl (Nat.le_of_ble_eq_true rfl) (f110_d _ n) (by intro x; kernel_rfl) 

def f77_L5B {α : Type} (n : Nat) (s0 : List (List (Bool × (List Int) × (List Int)))) (s13 : List (List (Bool × (List Int) × (List Int)))) (s14 : Int) (s15 : Int) (f : (List (List (Bool × (List Int) × (List Int)))) → (List (List (Bool × (List Int) × (List Int)))) → Int → Int → Option α) (k0 : Int → Option α) (k1 : (List (List (Bool × (List Int) × (List Int)))) → Option α) : Option α :=
  bif (decide (s15 < s14)) then
    gd (decide (0 ≤ s15) && decide (s15 < (s13.length : Int))) (
      ob (f110 n (s13.getD s15.toNat [])) fun r_2 =>
      bif (!r_2) then
        k0 1
      else
        f s0 s13 s14 (W (s15 + 1)))
  else
    k1 s0
abbrev f77_L5H : Tm := ⟨[(0, .d (.sl hRs)), (13, .d (.sl hRs)), (14, .d hI), (15, .d hI)], [], [], []⟩
abbrev f77_L5X0 : Tm := ⟨[(2, .d hI)], [], [], []⟩
abbrev f77_L5X1 : Tm := ⟨[(0, .d (.sl hRs))], [], [], []⟩
abbrev f77_L5O : List (Exit × Tm) := [(.ret, f77_L5X0), (.exit 0, f77_L5X1)]
def f77_L5U {α : Type} (n : Nat) (v : f77_L5H.den) (f : f77_L5H.den → Option α) (ks : KS α f77_L5O) : Option α := f77_L5B n v.1.1 v.1.2.1 v.1.2.2.1 v.1.2.2.2.1 (fun s0 s13 s14 s15 => f ((s0, s13, s14, s15, ()), ())) (fun w0 => ks.1 ((w0, ()), ())) (fun w0 => ks.2.1 ((w0, ()), ()))
def f77_L5 {α : Type} (n m : Nat) (s0 : List (List (Bool × (List Int) × (List Int)))) (s13 : List (List (Bool × (List Int) × (List Int)))) (s14 : Int) (s15 : Int) (k0 : Int → Option α) (k1 : (List (List (Bool × (List Int) × (List Int)))) → Option α) : Option α := rounds (f77_L5U n) m ((s0, s13, s14, s15, ()), ()) (fun w => k0 w.1.1, fun w => k1 w.1.1, ())
theorem f77_L5_0 {α : Type} (n : Nat) (s0 : List (List (Bool × (List Int) × (List Int)))) (s13 : List (List (Bool × (List Int) × (List Int)))) (s14 : Int) (s15 : Int) (k0 : Int → Option α) (k1 : (List (List (Bool × (List Int) × (List Int)))) → Option α) : f77_L5 (α := α) n 0 s0 s13 s14 s15 k0 k1 = none := rfl
theorem f77_L5_s {α : Type} (n m : Nat) (s0 : List (List (Bool × (List Int) × (List Int)))) (s13 : List (List (Bool × (List Int) × (List Int)))) (s14 : Int) (s15 : Int) (k0 : Int → Option α) (k1 : (List (List (Bool × (List Int) × (List Int)))) → Option α) : f77_L5 (α := α) n (m + 1) s0 s13 s14 s15 k0 k1 = f77_L5B n s0 s13 s14 s15 (fun s0 s13 s14 s15 => f77_L5 n m s0 s13 s14 s15 k0 k1) k0 k1 := rfl
def f77_L11B {α : Type} (n : Nat) (s0 : List (List (Bool × (List Int) × (List Int)))) (s23 : List (List (Bool × (List Int) × (List Int)))) (s24 : Int) (s25 : Int) (f : (List (List (Bool × (List Int) × (List Int)))) → (List (List (Bool × (List Int) × (List Int)))) → Int → Int → Option α) (k0 : Int → Option α) (k1 : Unit → Option α) : Option α :=
  bif (decide (s25 < s24)) then
    gd (decide (0 ≤ s25) && decide (s25 < (s23.length : Int))) (
      gd (decide (0 < (s0.length : Int))) (
        bif ((((s23.getD s25.toNat []).length : Nat) : Int) != (((s0.getD 0 []).length : Nat) : Int)) then
          k0 8
        else
          f s0 s23 s24 (W (s25 + 1))))
  else
    k1 ()
abbrev f77_L11H : Tm := ⟨[(0, .d (.sl hRs)), (23, .d (.sl hRs)), (24, .d hI), (25, .d hI)], [], [], []⟩
abbrev f77_L11X0 : Tm := ⟨[(2, .d hI)], [], [], []⟩
abbrev f77_L11X1 : Tm := ⟨[], [], [], []⟩
abbrev f77_L11O : List (Exit × Tm) := [(.ret, f77_L11X0), (.exit 2, f77_L11X1)]
def f77_L11U {α : Type} (n : Nat) (v : f77_L11H.den) (f : f77_L11H.den → Option α) (ks : KS α f77_L11O) : Option α := f77_L11B n v.1.1 v.1.2.1 v.1.2.2.1 v.1.2.2.2.1 (fun s0 s23 s24 s25 => f ((s0, s23, s24, s25, ()), ())) (fun w0 => ks.1 ((w0, ()), ())) (fun _ => ks.2.1 ((), ()))
def f77_L11 {α : Type} (n m : Nat) (s0 : List (List (Bool × (List Int) × (List Int)))) (s23 : List (List (Bool × (List Int) × (List Int)))) (s24 : Int) (s25 : Int) (k0 : Int → Option α) (k1 : Unit → Option α) : Option α := rounds (f77_L11U n) m ((s0, s23, s24, s25, ()), ()) (fun w => k0 w.1.1, fun w => k1 (), ())
theorem f77_L11_0 {α : Type} (n : Nat) (s0 : List (List (Bool × (List Int) × (List Int)))) (s23 : List (List (Bool × (List Int) × (List Int)))) (s24 : Int) (s25 : Int) (k0 : Int → Option α) (k1 : Unit → Option α) : f77_L11 (α := α) n 0 s0 s23 s24 s25 k0 k1 = none := rfl
theorem f77_L11_s {α : Type} (n m : Nat) (s0 : List (List (Bool × (List Int) × (List Int)))) (s23 : List (List (Bool × (List Int) × (List Int)))) (s24 : Int) (s25 : Int) (k0 : Int → Option α) (k1 : Unit → Option α) : f77_L11 (α := α) n (m + 1) s0 s23 s24 s25 k0 k1 = f77_L11B n s0 s23 s24 s25 (fun s0 s23 s24 s25 => f77_L11 n m s0 s23 s24 s25 k0 k1) k0 k1 := rfl
def f77 (n : Nat) (a0 : List (List (Bool × (List Int) × (List Int)))) : Option Int :=
  ob (f133 n a0) fun r_1 =>
  bif (r_1 != 0) then
    some r_1
  else
    f77_L5 n n a0 a0 (a0.length : Int) 0
      (fun z_3 => (
        some z_3))
      (fun z_4 => (
        f77_L11 n n z_4 z_4 (z_4.length : Int) 0
          (fun z_5 => (
            some z_5))
          (fun (_ : Unit) => (
            some 0))))
def f77_E (n : Nat) : Ent := ⟨77, [(.sl hRs)], [hI], fun x => f77 n x⟩
def f77_D (α : Type) (n : Nat) : D3 α := { reg := [(1, ⟨0, [], [(1, { ent := some (f133_E n) })]⟩), (7, ⟨0, [], [(1, { ent := some (f110_E n) })]⟩)], join := [], loop := [(5, ⟨f77_L5H, f77_L5O, rounds (f77_L5U n) n⟩), (11, ⟨f77_L11H, f77_L11O, rounds (f77_L11U n) n⟩)] }
theorem f77_ents (α : Type) (n : Nat) : AllS Try.prog (entsOf (f77_D α n).reg) := ⟨f133_ok n, f110_ok n, trivial⟩
theorem f77_L5_d (α : Type) (n : Nat) : D3.OK Try.prog (tyOf Try.prog) ⟨37, []⟩ (f77_D α n) ((bodyOf Try.f77).at [1, 1, 0, 1, 0, 0]) :=
  D3.OK.mk3 (f77_ents α n) (show loopsOf ((bodyOf Try.f77).at [1, 1, 0, 1, 0, 0]) = [] by kernel_rfl) trivial
theorem f77_L5_ok (α : Type) (n : Nat) : LO.Sound (α := α) Try.prog ⟨37, []⟩ ⟨f77_L5H, f77_L5O, rounds (f77_L5U n) n⟩ (.loop ((bodyOf Try.f77).at [1, 1, 0, 1, 0, 0])) :=
  loop_ok (tyOf_ok _) prog_fol (f77_L5U n) (f77_L5_d α n) (by intro v f ks; kernel_rfl) n
theorem f77_L11_d (α : Type) (n : Nat) : D3.OK Try.prog (tyOf Try.prog) ⟨37, []⟩ (f77_D α n) ((bodyOf Try.f77).at [1, 1, 1, 0, 1, 0, 0]) :=
  D3.OK.mk3 (f77_ents α n) (show loopsOf ((bodyOf Try.f77).at [1, 1, 1, 0, 1, 0, 0]) = [] by kernel_rfl) trivial
theorem f77_L11_ok (α : Type) (n : Nat) : LO.Sound (α := α) Try.prog ⟨37, []⟩ ⟨f77_L11H, f77_L11O, rounds (f77_L11U n) n⟩ (.loop ((bodyOf Try.f77).at [1, 1, 1, 0, 1, 0, 0])) :=
  loop_ok (tyOf_ok _) prog_fol (f77_L11U n) (f77_L11_d α n) (by intro v f ks; kernel_rfl) n
theorem f77_d (α : Type) (n : Nat) : D3.OK Try.prog (tyOf Try.prog) ⟨37, []⟩ (f77_D α n) (bodyOf Try.f77) :=
  D3.OK.mk3 (f77_ents α n) (show loopsOf (bodyOf Try.f77) = [(5, (.loop ((bodyOf Try.f77).at [1, 1, 0, 1, 0, 0]))), (11, (.loop ((bodyOf Try.f77).at [1, 1, 1, 0, 1, 0, 0])))] by kernel_rfl) ⟨look_sound rfl (f77_L5_ok α n), look_sound rfl (f77_L11_ok α n), trivial⟩
theorem f77_ok (n : Nat) : (f77_E n).Sound Try.prog :=
  fn_ok (tyOf_ok _) prog_fol (f77_D _ n) (show Try.prog.funcs[77]? = some Try.f77 by kernel_rfl) (by kernel_rfl) (show Try.f77.body = some (bodyOf Try.f77) by kernel_rfl) rfl rfl (Nat.le_of_ble_eq_true rfl) (f77_d _ n) (by intro x; kernel_rfl) 

def f30 (n : Nat) (a0 : (List (Bool × (List Int) × (List Int))) × (List (Bool × (List Int) × (List Int))) × (List (Bool × (List Int) × (List Int))) × (Bool × (List Int) × (List Int)) × Int × Int × Int) : Option Bool :=
  ob (f77 n [a0.1, a0.2.1, a0.2.2.1]) fun r_1 =>
  bif (r_1 == 0) then
    ob (f78 n a0.2.2.2.1) fun r_2 =>
    bif r_2 then
      ob (f67 n a0.2.2.2.2.1 0 6) fun r_3 =>
      bif r_3 then
        ob (f67 n a0.2.2.2.2.2.1 0 30) fun r_4 =>
        bif r_4 then
          ob (f67 n a0.2.2.2.2.2.2 0 6) fun r_5 =>
          some r_5
        else
          some false
      else
        some false
    else
      some false
  else
    some false
def f30_E (n : Nat) : Ent := ⟨30, [(.st (.pair hRs (.pair hRs (.pair hRs (.pair hR (.pair hI (.pair hI hI)))))))], [.bool], fun x => f30 n x⟩
def f30_D (α : Type) (n : Nat) : D3 α := { reg := [(1, ⟨0, [], [(6, { sh := some hRs }), (7, { ent := some (f77_E n) }), (12, { ent := some (f78_E n) }), (17, { ent := some (f67_E n) }), (22, { ent := some (f67_E n) }), (27, { ent := some (f67_E n) })]⟩)], join := [], loop := [] }
theorem f30_ents (α : Type) (n : Nat) : AllS Try.prog (entsOf (f30_D α n).reg) := ⟨f77_ok n, f78_ok n, f67_ok n, f67_ok n, f67_ok n, trivial⟩
theorem f30_d (α : Type) (n : Nat) : D3.OK Try.prog (tyOf Try.prog) ⟨32, []⟩ (f30_D α n) (bodyOf Try.f30) :=
  D3.OK.mk3 (f30_ents α n) (show loopsOf (bodyOf Try.f30) = [] by kernel_rfl) trivial
theorem f30_ok (n : Nat) : (f30_E n).Sound Try.prog :=
  fn_ok (tyOf_ok _) prog_fol (f30_D _ n) (show Try.prog.funcs[30]? = some Try.f30 by kernel_rfl) (by kernel_rfl) (show Try.f30.body = some (bodyOf Try.f30) by kernel_rfl) rfl rfl (Nat.le_of_ble_eq_true rfl) (f30_d _ n) (by intro x; kernel_rfl) 

def f31 (n : Nat) (a0 : (List (Bool × (List Int) × (List Int))) × (List (Bool × (List Int) × (List Int))) × (List (Bool × (List Int) × (List Int))) × (Bool × (List Int) × (List Int)) × Int × Int × Int) (a1 : (List (Bool × (List Int) × (List Int))) × (List (Bool × (List Int) × (List Int))) × (List (Bool × (List Int) × (List Int))) × (Bool × (List Int) × (List Int)) × Int × Int × Int) : Option Bool :=
  ob (f19 n a0.1 a1.1) fun r_1 =>
  bif (!r_1) then
    some false
  else
    ob (f19 n a0.2.1 a1.2.1) fun r_2 =>
    bif (!r_2) then
      some false
    else
      ob (f19 n a0.2.2.1 a1.2.2.1) fun r_3 =>
      bif (!r_3) then
        some false
      else
        ob (f24 n a0.2.2.2.1 a1.2.2.2.1) fun r_4 =>
        bif (!r_4) then
          some false
        else
          bif (a0.2.2.2.2.1 != a1.2.2.2.2.1) then
            some false
          else
            bif (a0.2.2.2.2.2.1 != a1.2.2.2.2.2.1) then
              some false
            else
              bif (a0.2.2.2.2.2.2 != a1.2.2.2.2.2.2) then
                some false
              else
                some true
def f31_E (n : Nat) : Ent := ⟨31, [(.st (.pair hRs (.pair hRs (.pair hRs (.pair hR (.pair hI (.pair hI hI))))))), (.st (.pair hRs (.pair hRs (.pair hRs (.pair hR (.pair hI (.pair hI hI)))))))], [.bool], fun x => f31 n x.1 x.2⟩
def f31_D (α : Type) (n : Nat) : D3 α := { reg := [(1, ⟨0, [], [(4, { ent := some (f19_E n) })]⟩), (3, ⟨0, [], [(4, { ent := some (f19_E n) })]⟩), (5, ⟨0, [], [(4, { ent := some (f19_E n) })]⟩), (7, ⟨0, [], [(4, { ent := some (f24_E n) })]⟩)], join := [], loop := [] }
theorem f31_ents (α : Type) (n : Nat) : AllS Try.prog (entsOf (f31_D α n).reg) := ⟨f19_ok n, f19_ok n, f19_ok n, f24_ok n, trivial⟩
theorem f31_d (α : Type) (n : Nat) : D3.OK Try.prog (tyOf Try.prog) ⟨44, []⟩ (f31_D α n) (bodyOf Try.f31) :=
  D3.OK.mk3 (f31_ents α n) (show loopsOf (bodyOf Try.f31) = [] by kernel_rfl) trivial
theorem f31_ok (n : Nat) : (f31_E n).Sound Try.prog :=
  fn_ok (tyOf_ok _) prog_fol (f31_D _ n) (show Try.prog.funcs[31]? = some Try.f31 by kernel_rfl) (by kernel_rfl) (show Try.f31.body = some (bodyOf Try.f31) by kernel_rfl) rfl rfl (Nat.le_of_ble_eq_true rfl) (f31_d _ n) (by intro x; kernel_rfl) 

def f5 (n : Nat) (a0 : (List (Bool × (List Int) × (List Int))) × (List (Bool × (List Int) × (List Int))) × (List (Bool × (List Int) × (List Int))) × (Bool × (List Int) × (List Int)) × Int × Int × Int) : Option Bool :=
  ob (f27 n a0 1048576) fun r_1 =>
  bif (decide (r_1 < 0)) then
    some true
  else
    ob (f29 n a0) fun r_2 =>
    ob (f28 n r_2) fun r_3 =>
    ob (f29 n a0) fun r_4 =>
    ob (f30 n r_4) fun r_5 =>
    bif (!(r_5 == r_3)) then
      some false
    else
      ob (f29 n a0) fun r_6 =>
      ob (f31 n r_4 r_6) fun r_7 =>
      bif (!r_7) then
        some false
      else
        some true
def f5_E (n : Nat) : Ent := ⟨5, [(.st (.pair hRs (.pair hRs (.pair hRs (.pair hR (.pair hI (.pair hI hI)))))))], [.bool], fun x => f5 n x⟩
def f5_D (α : Type) (n : Nat) : D3 α := { reg := [(2, ⟨0, [], [(2, { ent := some (f27_E n) })]⟩), (5, ⟨0, [], [(1, { ent := some (f29_E n) }), (2, { ent := some (f28_E n) })]⟩), (6, ⟨0, [], [(1, { ent := some (f29_E n) })]⟩), (7, ⟨0, [], [(1, { ent := some (f30_E n) })]⟩), (10, ⟨3, [], [(2, { ent := some (f29_E n) }), (3, { ent := some (f31_E n) })]⟩)], join := [], loop := [] }
theorem f5_ents (α : Type) (n : Nat) : AllS Try.prog (entsOf (f5_D α n).reg) := ⟨f27_ok n, f29_ok n, f28_ok n, f29_ok n, f30_ok n, f29_ok n, f31_ok n, trivial⟩
theorem f5_d (α : Type) (n : Nat) : D3.OK Try.prog (tyOf Try.prog) ⟨27, []⟩ (f5_D α n) (bodyOf Try.f5) :=
  D3.OK.mk3 (f5_ents α n) (show loopsOf (bodyOf Try.f5) = [] by kernel_rfl) trivial
theorem f5_ok (n : Nat) : (f5_E n).Sound Try.prog :=
  fn_ok (tyOf_ok _) prog_fol (f5_D _ n) (show Try.prog.funcs[5]? = some Try.f5 by kernel_rfl) (by kernel_rfl) (show Try.f5.body = some (bodyOf Try.f5) by kernel_rfl) rfl rfl (Nat.le_of_ble_eq_true rfl) (f5_d _ n) (by intro x; kernel_rfl) 

def f165 (n : Nat) (a0 : List (Int × Int × Int × Int)) (a1 : Int) : Option Int :=
  bif (decide ((W (a1 - (a0.length : Int))) < 0)) then
    some (-1)
  else
    some (W (a1 - (a0.length : Int)))
def f165_E (n : Nat) : Ent := ⟨165, [hNs, hI], [hI], fun x => f165 n x.1 x.2⟩
def f165_D (α : Type) (n : Nat) : D3 α := { reg := [], join := [], loop := [] }
theorem f165_ents (α : Type) (n : Nat) : AllS Try.prog (entsOf (f165_D α n).reg) := trivial
theorem f165_d (α : Type) (n : Nat) : D3.OK Try.prog (tyOf Try.prog) ⟨12, []⟩ (f165_D α n) (bodyOf Try.f165) :=
  D3.OK.mk3 (f165_ents α n) (show loopsOf (bodyOf Try.f165) = [] by kernel_rfl) trivial
theorem f165_ok (n : Nat) : (f165_E n).Sound Try.prog :=
  fn_ok (tyOf_ok _) prog_fol (f165_D _ n) (show Try.prog.funcs[165]? = some Try.f165 by kernel_rfl) (by kernel_rfl) (show Try.f165.body = some (bodyOf Try.f165) by kernel_rfl) rfl rfl (Nat.le_of_ble_eq_true rfl) (f165_d _ n) (by intro x; kernel_rfl) 

def f117 (n : Nat) (a0 : List (Int × Int × Int × Int)) (a1 : Int) : Option Int :=
  ob (f165 n a0 a1) fun r_1 =>
  bif (decide (r_1 < 0)) then
    some (-1)
  else
    some r_1
def f117_E (n : Nat) : Ent := ⟨117, [hE, hI], [hI], fun x => f117 n x.1 x.2⟩
def f117_D (α : Type) (n : Nat) : D3 α := { reg := [(1, ⟨0, [], [(3, { ent := some (f165_E n) })]⟩)], join := [], loop := [] }
theorem f117_ents (α : Type) (n : Nat) : AllS Try.prog (entsOf (f117_D α n).reg) := ⟨f165_ok n, trivial⟩
theorem f117_d (α : Type) (n : Nat) : D3.OK Try.prog (tyOf Try.prog) ⟨12, []⟩ (f117_D α n) (bodyOf Try.f117) :=
  D3.OK.mk3 (f117_ents α n) (show loopsOf (bodyOf Try.f117) = [] by kernel_rfl) trivial
theorem f117_ok (n : Nat) : (f117_E n).Sound Try.prog :=
  fn_ok (tyOf_ok _) prog_fol (f117_D _ n) (show Try.prog.funcs[117]? = some Try.f117 by kernel_rfl) (by kernel_rfl) (show Try.f117.body = some (bodyOf Try.f117) by kernel_rfl) rfl rfl (Nat.le_of_ble_eq_true rfl) (f117_d _ n) (by intro x; kernel_rfl) 

def f60 (n : Nat) (a0 : (List (Int × Int × Int × Int)) × (List (Bool × (List Int) × (List Int))) × (List (Bool × (List Int) × (List Int))) × (List (Bool × (List Int) × (List Int))) × Int × (Bool × (List Int) × (List Int)) × Int × Int) (a1 : Int) : Option Int :=
  ob (f117 n a0.1 a1) fun r_1 =>
  bif (decide (r_1 < 0)) then
    some (-1)
  else
    ob (f15 n a0.2.1 r_1) fun r_2 =>
    bif (decide (r_2 < 0)) then
      some (-1)
    else
      ob (f15 n a0.2.2.1 r_2) fun r_3 =>
      bif (decide (r_3 < 0)) then
        some (-1)
      else
        ob (f15 n a0.2.2.2.1 r_3) fun r_4 =>
        bif (decide (r_4 < 0)) then
          some (-1)
        else
          ob (f20 n a0.2.2.2.2.2.1 r_4) fun r_5 =>
          bif (decide (r_5 < 0)) then
            some (-1)
          else
            some r_5
def f60_E (n : Nat) : Ent := ⟨60, [(.st (.pair hE (.pair hRs (.pair hRs (.pair hRs (.pair hI (.pair hR (.pair hI hI)))))))), hI], [hI], fun x => f60 n x.1 x.2⟩
def f60_D (α : Type) (n : Nat) : D3 α := { reg := [(1, ⟨0, [], [(3, { ent := some (f117_E n) })]⟩), (4, ⟨0, [], [(3, { ent := some (f15_E n) })]⟩), (7, ⟨0, [], [(3, { ent := some (f15_E n) })]⟩), (10, ⟨0, [], [(3, { ent := some (f15_E n) })]⟩), (13, ⟨0, [], [(3, { ent := some (f20_E n) })]⟩)], join := [], loop := [] }
theorem f60_ents (α : Type) (n : Nat) : AllS Try.prog (entsOf (f60_D α n).reg) := ⟨f117_ok n, f15_ok n, f15_ok n, f15_ok n, f20_ok n, trivial⟩
theorem f60_d (α : Type) (n : Nat) : D3.OK Try.prog (tyOf Try.prog) ⟨36, []⟩ (f60_D α n) (bodyOf Try.f60) :=
  D3.OK.mk3 (f60_ents α n) (show loopsOf (bodyOf Try.f60) = [] by kernel_rfl) trivial
theorem f60_ok (n : Nat) : (f60_E n).Sound Try.prog :=
  fn_ok (tyOf_ok _) prog_fol (f60_D _ n) (show Try.prog.funcs[60]? = some Try.f60 by kernel_rfl) (by kernel_rfl) (show Try.f60.body = some (bodyOf Try.f60) by kernel_rfl) rfl rfl (Nat.le_of_ble_eq_true rfl) (f60_d _ n) (by intro x; kernel_rfl) 

def f191 (n : Nat) (a0 : Int × Int × Int × Int) : Option (Int × Int × Int × Int) :=
  some a0
def f191_E (n : Nat) : Ent := ⟨191, [hN], [hN], fun x => f191 n x⟩
def f191_D (α : Type) (n : Nat) : D3 α := { reg := [], join := [], loop := [] }
theorem f191_ents (α : Type) (n : Nat) : AllS Try.prog (entsOf (f191_D α n).reg) := trivial
theorem f191_d (α : Type) (n : Nat) : D3.OK Try.prog (tyOf Try.prog) ⟨17, []⟩ (f191_D α n) (bodyOf Try.f191) :=
  D3.OK.mk3 (f191_ents α n) (show loopsOf (bodyOf Try.f191) = [] by kernel_rfl) trivial
theorem f191_ok (n : Nat) : (f191_E n).Sound Try.prog :=
  fn_ok (tyOf_ok _) prog_fol (f191_D _ n) (show Try.prog.funcs[191]? = some Try.f191 by kernel_rfl) (by kernel_rfl) (show Try.f191.body = some (bodyOf Try.f191) by kernel_rfl) rfl rfl (Nat.le_of_ble_eq_true rfl) (f191_d _ n) (by intro x; kernel_rfl) 

def f171_L3B {α : Type} (n : Nat) (s0 : List (Int × Int × Int × Int)) (s4 : Int) (b7 : List (Int × Int × Int × Int)) (f : (List (Int × Int × Int × Int)) → Int → (List (Int × Int × Int × Int)) → Option α) (k0 : (List (Int × Int × Int × Int)) → Option α) : Option α :=
  bif (decide (s4 < (s0.length : Int))) then
    gd (decide (0 ≤ s4) && decide (s4 < (s0.length : Int))) (
      let x_1 := s0.getD s4.toNat (0, 0, 0, 0)
      ob (f191 n x_1) fun r_2 =>
      gd (decide (0 ≤ s4) && decide (s4 < (b7.length : Int))) (
        gd (decide (s4.toNat < b7.length)) (
          f s0 (W (s4 + 1)) (b7.set s4.toNat r_2))))
  else
    k0 b7
abbrev f171_L3H : Tm := ⟨[(0, .d hNs), (3, .k (.hw 7)), (4, .d hI)], [(7, .arr 140 hN false)], [], []⟩
abbrev f171_L3X0 : Tm := ⟨[(3, .k (.hw 7))], [(7, .arr 140 hN false)], [], []⟩
abbrev f171_L3O : List (Exit × Tm) := [(.exit 0, f171_L3X0)]
def f171_L3U {α : Type} (n : Nat) (v : f171_L3H.den) (f : f171_L3H.den → Option α) (ks : KS α f171_L3O) : Option α := f171_L3B n v.1.1 v.1.2.2.1 v.2.1 (fun s0 s4 b7 => f ((s0, (), s4, ()), (b7, ()))) (fun w0 => ks.1 (((), ()), (w0, ())))
def f171_L3 {α : Type} (n m : Nat) (s0 : List (Int × Int × Int × Int)) (s4 : Int) (b7 : List (Int × Int × Int × Int)) (k0 : (List (Int × Int × Int × Int)) → Option α) : Option α := rounds (f171_L3U n) m ((s0, (), s4, ()), (b7, ())) (fun w => k0 w.2.1, ())
theorem f171_L3_0 {α : Type} (n : Nat) (s0 : List (Int × Int × Int × Int)) (s4 : Int) (b7 : List (Int × Int × Int × Int)) (k0 : (List (Int × Int × Int × Int)) → Option α) : f171_L3 (α := α) n 0 s0 s4 b7 k0 = none := rfl
theorem f171_L3_s {α : Type} (n m : Nat) (s0 : List (Int × Int × Int × Int)) (s4 : Int) (b7 : List (Int × Int × Int × Int)) (k0 : (List (Int × Int × Int × Int)) → Option α) : f171_L3 (α := α) n (m + 1) s0 s4 b7 k0 = f171_L3B n s0 s4 b7 (fun s0 s4 b7 => f171_L3 n m s0 s4 b7 k0) k0 := rfl
def f171 (n : Nat) (a0 : List (Int × Int × Int × Int)) : Option (List (Int × Int × Int × Int)) :=
  gd (decide (0 ≤ (a0.length : Int)) && decide ((a0.length : Int) ≤ 4611686018427387904) && decide ((32 : Int) * (a0.length : Int) ≤ 281474976710656)) (
    f171_L3 n n a0 0 (List.replicate ((a0.length : Int).toNat) (0, 0, 0, 0))
      (fun z_3 => (
        some z_3)))
def f171_E (n : Nat) : Ent := ⟨171, [hNs], [hNs], fun x => f171 n x⟩
def f171_D (α : Type) (n : Nat) : D3 α := { reg := [(5, ⟨0, [], [(6, { ent := some (f191_E n) })]⟩)], join := [], loop := [(3, ⟨f171_L3H, f171_L3O, rounds (f171_L3U n) n⟩)] }
theorem f171_ents (α : Type) (n : Nat) : AllS Try.prog (entsOf (f171_D α n).reg) := ⟨f191_ok n, trivial⟩
theorem f171_L3_d (α : Type) (n : Nat) : D3.OK Try.prog (tyOf Try.prog) ⟨23, []⟩ (f171_D α n) ((bodyOf Try.f171).at [1, 1, 0, 1, 0, 0]) :=
  D3.OK.mk3 (f171_ents α n) (show loopsOf ((bodyOf Try.f171).at [1, 1, 0, 1, 0, 0]) = [] by kernel_rfl) trivial
theorem f171_L3_ok (α : Type) (n : Nat) : LO.Sound (α := α) Try.prog ⟨23, []⟩ ⟨f171_L3H, f171_L3O, rounds (f171_L3U n) n⟩ (.loop ((bodyOf Try.f171).at [1, 1, 0, 1, 0, 0])) :=
  loop_ok (tyOf_ok _) prog_fol (f171_L3U n) (f171_L3_d α n) (by intro v f ks; kernel_rfl) n
theorem f171_d (α : Type) (n : Nat) : D3.OK Try.prog (tyOf Try.prog) ⟨23, []⟩ (f171_D α n) (bodyOf Try.f171) :=
  D3.OK.mk3 (f171_ents α n) (show loopsOf (bodyOf Try.f171) = [(3, (.loop ((bodyOf Try.f171).at [1, 1, 0, 1, 0, 0])))] by kernel_rfl) ⟨look_sound rfl (f171_L3_ok α n), trivial⟩
theorem f171_ok (n : Nat) : (f171_E n).Sound Try.prog :=
  fn_ok (tyOf_ok _) prog_fol (f171_D _ n) (show Try.prog.funcs[171]? = some Try.f171 by kernel_rfl) (by kernel_rfl) (show Try.f171.body = some (bodyOf Try.f171) by kernel_rfl) rfl rfl (Nat.le_of_ble_eq_true rfl) (f171_d _ n) (by intro x; kernel_rfl) 

def f122 (n : Nat) (a0 : List (Int × Int × Int × Int)) : Option (List (Int × Int × Int × Int)) :=
  ob (f171 n a0) fun r_1 =>
  some r_1
def f122_E (n : Nat) : Ent := ⟨122, [hE], [hE], fun x => f122 n x⟩
def f122_D (α : Type) (n : Nat) : D3 α := { reg := [(2, ⟨0, [], [(2, { ent := some (f171_E n) })]⟩)], join := [], loop := [] }
theorem f122_ents (α : Type) (n : Nat) : AllS Try.prog (entsOf (f122_D α n).reg) := ⟨f171_ok n, trivial⟩
theorem f122_d (α : Type) (n : Nat) : D3.OK Try.prog (tyOf Try.prog) ⟨9, []⟩ (f122_D α n) (bodyOf Try.f122) :=
  D3.OK.mk3 (f122_ents α n) (show loopsOf (bodyOf Try.f122) = [] by kernel_rfl) trivial
theorem f122_ok (n : Nat) : (f122_E n).Sound Try.prog :=
  fn_ok (tyOf_ok _) prog_fol (f122_D _ n) (show Try.prog.funcs[122]? = some Try.f122 by kernel_rfl) (by kernel_rfl) (show Try.f122.body = some (bodyOf Try.f122) by kernel_rfl) rfl rfl (Nat.le_of_ble_eq_true rfl) (f122_d _ n) (by intro x; kernel_rfl) 

def f62 (n : Nat) (a0 : (List (Int × Int × Int × Int)) × (List (Bool × (List Int) × (List Int))) × (List (Bool × (List Int) × (List Int))) × (List (Bool × (List Int) × (List Int))) × Int × (Bool × (List Int) × (List Int)) × Int × Int) : Option ((List (Int × Int × Int × Int)) × (List (Bool × (List Int) × (List Int))) × (List (Bool × (List Int) × (List Int))) × (List (Bool × (List Int) × (List Int))) × Int × (Bool × (List Int) × (List Int)) × Int × Int) :=
  ob (f122 n a0.1) fun r_1 =>
  ob (f17 n a0.2.1) fun r_2 =>
  ob (f17 n a0.2.2.1) fun r_3 =>
  ob (f17 n a0.2.2.2.1) fun r_4 =>
  ob (f22 n a0.2.2.2.2.2.1) fun r_5 =>
  some (r_1, r_2, r_3, r_4, a0.2.2.2.2.1, r_5, a0.2.2.2.2.2.2)
def f62_E (n : Nat) : Ent := ⟨62, [(.st (.pair hE (.pair hRs (.pair hRs (.pair hRs (.pair hI (.pair hR (.pair hI hI))))))))], [(.st (.pair hE (.pair hRs (.pair hRs (.pair hRs (.pair hI (.pair hR (.pair hI hI))))))))], fun x => f62 n x⟩
def f62_D (α : Type) (n : Nat) : D3 α := { reg := [(2, ⟨0, [], [(2, { ent := some (f122_E n) })]⟩), (3, ⟨0, [], [(2, { ent := some (f17_E n) })]⟩), (4, ⟨0, [], [(2, { ent := some (f17_E n) })]⟩), (5, ⟨0, [], [(2, { ent := some (f17_E n) })]⟩), (7, ⟨0, [], [(2, { ent := some (f22_E n) })]⟩)], join := [], loop := [] }
theorem f62_ents (α : Type) (n : Nat) : AllS Try.prog (entsOf (f62_D α n).reg) := ⟨f122_ok n, f17_ok n, f17_ok n, f17_ok n, f22_ok n, trivial⟩
theorem f62_d (α : Type) (n : Nat) : D3.OK Try.prog (tyOf Try.prog) ⟨34, []⟩ (f62_D α n) (bodyOf Try.f62) :=
  D3.OK.mk3 (f62_ents α n) (show loopsOf (bodyOf Try.f62) = [] by kernel_rfl) trivial
theorem f62_ok (n : Nat) : (f62_E n).Sound Try.prog :=
  fn_ok (tyOf_ok _) prog_fol (f62_D _ n) (show Try.prog.funcs[62]? = some Try.f62 by kernel_rfl) (by kernel_rfl) (show Try.f62.body = some (bodyOf Try.f62) by kernel_rfl) rfl rfl (Nat.le_of_ble_eq_true rfl) (f62_d _ n) (by intro x; kernel_rfl) 

def f167 (n : Nat) (a0 : Int) : Option Bool :=
  ob (f65 n a0 3 6) fun r_1 =>
  some r_1
def f167_E (n : Nat) : Ent := ⟨167, [hI], [.bool], fun x => f167 n x⟩
def f167_D (α : Type) (n : Nat) : D3 α := { reg := [(1, ⟨0, [], [(1, { ent := some (f65_E n) })]⟩)], join := [], loop := [] }
theorem f167_ents (α : Type) (n : Nat) : AllS Try.prog (entsOf (f167_D α n).reg) := ⟨f65_ok n, trivial⟩
theorem f167_d (α : Type) (n : Nat) : D3.OK Try.prog (tyOf Try.prog) ⟨5, []⟩ (f167_D α n) (bodyOf Try.f167) :=
  D3.OK.mk3 (f167_ents α n) (show loopsOf (bodyOf Try.f167) = [] by kernel_rfl) trivial
theorem f167_ok (n : Nat) : (f167_E n).Sound Try.prog :=
  fn_ok (tyOf_ok _) prog_fol (f167_D _ n) (show Try.prog.funcs[167]? = some Try.f167 by kernel_rfl) (by kernel_rfl) (show Try.f167.body = some (bodyOf Try.f167) by kernel_rfl) rfl rfl (Nat.le_of_ble_eq_true rfl) (f167_d _ n) (by intro x; kernel_rfl) 

def f169 (n : Nat) (a0 : Int) : Option Bool :=
  bif (a0 == 7) then
    some true
  else
    some (a0 == 8)
def f169_E (n : Nat) : Ent := ⟨169, [hI], [.bool], fun x => f169 n x⟩
def f169_D (α : Type) (n : Nat) : D3 α := { reg := [], join := [], loop := [] }
theorem f169_ents (α : Type) (n : Nat) : AllS Try.prog (entsOf (f169_D α n).reg) := trivial
theorem f169_d (α : Type) (n : Nat) : D3.OK Try.prog (tyOf Try.prog) ⟨9, []⟩ (f169_D α n) (bodyOf Try.f169) :=
  D3.OK.mk3 (f169_ents α n) (show loopsOf (bodyOf Try.f169) = [] by kernel_rfl) trivial
theorem f169_ok (n : Nat) : (f169_E n).Sound Try.prog :=
  fn_ok (tyOf_ok _) prog_fol (f169_D _ n) (show Try.prog.funcs[169]? = some Try.f169 by kernel_rfl) (by kernel_rfl) (show Try.f169.body = some (bodyOf Try.f169) by kernel_rfl) rfl rfl (Nat.le_of_ble_eq_true rfl) (f169_d _ n) (by intro x; kernel_rfl) 

def f166 (n : Nat) (a0 : Int × Int × Int × Int) (a1 : Int) : Option Bool :=
  ob (f65 n a0.1 1 8) fun r_1 =>
  bif (!r_1) then
    some false
  else
    ob (f167 n a0.1) fun r_2 =>
    bif r_2 then
      ob (f65 n a0.2.1 0 (W (a1 - 1))) fun r_3 =>
      bif r_3 then
        ob (f65 n a0.2.2.1 (W (a0.2.1 + 1)) (W (a1 - 1))) fun r_4 =>
        bif r_4 then
          some (a0.2.2.2 == 0)
        else
          some false
      else
        some false
    else
      ob (f169 n a0.1) fun r_5 =>
      bif r_5 then
        bif (a0.2.1 == (W (a1 - 1))) then
          bif (decide (a1 > 0)) then
            bif (a0.2.2.1 == 0) then
              ob (f175 n (a0.1 == 8)) fun r_6 =>
              ob (f65 n a0.2.2.2 0 (W (8 * r_6))) fun r_7 =>
              some r_7
            else
              some false
          else
            some false
        else
          some false
      else
        bif (a0.1 == 2) then
          bif (a0.2.1 == 0) then
            bif (a0.2.2.1 == 0) then
              ob (f65 n a0.2.2.2 0 3) fun r_8 =>
              some r_8
            else
              some false
          else
            some false
        else
          bif (a0.2.1 == 0) then
            bif (a0.2.2.1 == 0) then
              ob (f65 n a0.2.2.2 0 999999999) fun r_9 =>
              some r_9
            else
              some false
          else
            some false
def f166_E (n : Nat) : Ent := ⟨166, [hN, hI], [.bool], fun x => f166 n x.1 x.2⟩
def f166_D (α : Type) (n : Nat) : D3 α := { reg := [(1, ⟨0, [], [(2, { ent := some (f65_E n) })]⟩), (3, ⟨0, [], [(2, { ent := some (f167_E n) })]⟩), (4, ⟨0, [], [(4, { ent := some (f65_E n) }), (13, { ent := some (f65_E n) })]⟩), (5, ⟨0, [], [(2, { ent := some (f169_E n) })]⟩), (6, ⟨22, [], [(20, { ent := some (f175_E n) }), (22, { ent := some (f65_E n) })]⟩), (8, ⟨0, [], [(11, { ent := some (f65_E n) })]⟩), (9, ⟨0, [], [(11, { ent := some (f65_E n) })]⟩)], join := [], loop := [] }
theorem f166_ents (α : Type) (n : Nat) : AllS Try.prog (entsOf (f166_D α n).reg) := ⟨f65_ok n, f167_ok n, f65_ok n, f65_ok n, f169_ok n, f175_ok n, f65_ok n, f65_ok n, f65_ok n, trivial⟩
theorem f166_d (α : Type) (n : Nat) : D3.OK Try.prog (tyOf Try.prog) ⟨92, []⟩ (f166_D α n) (bodyOf Try.f166) :=
  D3.OK.mk3 (f166_ents α n) (show loopsOf (bodyOf Try.f166) = [] by kernel_rfl) trivial
theorem f166_ok (n : Nat) : (f166_E n).Sound Try.prog :=
  fn_ok (tyOf_ok _) prog_fol (f166_D _ n) (show Try.prog.funcs[166]? = some Try.f166 by kernel_rfl) (by kernel_rfl) (show Try.f166.body = some (bodyOf Try.f166) by kernel_rfl) rfl rfl (Nat.le_of_ble_eq_true rfl) (f166_d _ n) (by intro x; kernel_rfl) 

def f168_L2B {α : Type} (n : Nat) (s1 : Int) (c2_0 : List (Int × Int × Int × Int)) (c5_0 : Int) (c5_1 : Int) (c5_2 : Int) (c5_3 : Int) (f : Int → (List (Int × Int × Int × Int)) → Int → Int → Int → Int → Option α) (k0 : Int → Option α) : Option α :=
  let J_5 := fun (_ : Unit) => (
    gd (decide (0 ≤ c5_1) && decide (c5_1 < (c2_0.length : Int))) (
      let x_4 := c2_0.getD c5_1.toNat (0, 0, 0, 0)
      f c5_1 c2_0 x_4.1 x_4.2.1 x_4.2.2.1 x_4.2.2.2))
  ob (f167 n c5_0) fun r_2 =>
  bif r_2 then
    J_5 ()
  else
    ob (f169 n c5_0) fun r_3 =>
    bif r_3 then
      J_5 ()
    else
      k0 s1
abbrev f168_L2H : Tm := ⟨[(1, .d hI), (2, .k (.hp 2 0 0)), (5, .k (.hp 5 0 0))], [(2, .var 81 true false [.d hNs]), (5, .var 140 true false [.d hI, .d hI, .d hI, .d hI])], [], []⟩
abbrev f168_L2X0 : Tm := ⟨[(1, .d hI)], [], [2, 5], []⟩
abbrev f168_L2O : List (Exit × Tm) := [(.exit 0, f168_L2X0)]
def f168_L2U {α : Type} (n : Nat) (v : f168_L2H.den) (f : f168_L2H.den → Option α) (ks : KS α f168_L2O) : Option α := f168_L2B n v.1.1 v.2.1.1 v.2.2.1.1 v.2.2.1.2.1 v.2.2.1.2.2.1 v.2.2.1.2.2.2.1 (fun s1 c2_0 c5_0 c5_1 c5_2 c5_3 => f ((s1, (), (), ()), ((c2_0, ()), (c5_0, c5_1, c5_2, c5_3, ()), ()))) (fun w0 => ks.1 ((w0, ()), ()))
def f168_L2 {α : Type} (n m : Nat) (s1 : Int) (c2_0 : List (Int × Int × Int × Int)) (c5_0 : Int) (c5_1 : Int) (c5_2 : Int) (c5_3 : Int) (k0 : Int → Option α) : Option α := rounds (f168_L2U n) m ((s1, (), (), ()), ((c2_0, ()), (c5_0, c5_1, c5_2, c5_3, ()), ())) (fun w => k0 w.1.1, ())
theorem f168_L2_0 {α : Type} (n : Nat) (s1 : Int) (c2_0 : List (Int × Int × Int × Int)) (c5_0 : Int) (c5_1 : Int) (c5_2 : Int) (c5_3 : Int) (k0 : Int → Option α) : f168_L2 (α := α) n 0 s1 c2_0 c5_0 c5_1 c5_2 c5_3 k0 = none := rfl
theorem f168_L2_s {α : Type} (n m : Nat) (s1 : Int) (c2_0 : List (Int × Int × Int × Int)) (c5_0 : Int) (c5_1 : Int) (c5_2 : Int) (c5_3 : Int) (k0 : Int → Option α) : f168_L2 (α := α) n (m + 1) s1 c2_0 c5_0 c5_1 c5_2 c5_3 k0 = f168_L2B n s1 c2_0 c5_0 c5_1 c5_2 c5_3 (fun s1 c2_0 c5_0 c5_1 c5_2 c5_3 => f168_L2 n m s1 c2_0 c5_0 c5_1 c5_2 c5_3 k0) k0 := rfl
abbrev f168_J3 : Tm := ⟨[(2, .k (.hp 2 0 0)), (5, .k (.hp 5 0 0))], [(2, .var 81 true false [.d hNs]), (5, .var 140 true false [.d hI, .d hI, .d hI, .d hI])], [], []⟩
def f168 (n : Nat) (a0 : List (Int × Int × Int × Int)) (a1 : Int) : Option Int :=
  gd (decide (0 ≤ a1) && decide (a1 < (a0.length : Int))) (
    let x_1 := a0.getD a1.toNat (0, 0, 0, 0)
    f168_L2 n n a1 a0 x_1.1 x_1.2.1 x_1.2.2.1 x_1.2.2.2
      (fun z_6 => (
        some z_6)))
def f168_E (n : Nat) : Ent := ⟨168, [hE, hI], [hI], fun x => f168 n x.1 x.2⟩
def f168_D (α : Type) (n : Nat) : D3 α := { reg := [(2, ⟨0, [], [(2, { ent := some (f167_E n) }), (6, { ent := some (f169_E n) })]⟩)], join := [(3, f168_J3)], loop := [(2, ⟨f168_L2H, f168_L2O, rounds (f168_L2U n) n⟩)] }
theorem f168_ents (α : Type) (n : Nat) : AllS Try.prog (entsOf (f168_D α n).reg) := ⟨f167_ok n, f169_ok n, trivial⟩
theorem f168_L2_d (α : Type) (n : Nat) : D3.OK Try.prog (tyOf Try.prog) ⟨27, []⟩ (f168_D α n) ((bodyOf Try.f168).at [1, 1, 0, 0, 0]) :=
  D3.OK.mk3 (f168_ents α n) (show loopsOf ((bodyOf Try.f168).at [1, 1, 0, 0, 0]) = [] by kernel_rfl) trivial
theorem f168_L2_ok (α : Type) (n : Nat) : LO.Sound (α := α) Try.prog ⟨27, []⟩ ⟨f168_L2H, f168_L2O, rounds (f168_L2U n) n⟩ (.loop ((bodyOf Try.f168).at [1, 1, 0, 0, 0])) :=
  loop_ok (tyOf_ok _) prog_fol (f168_L2U n) (f168_L2_d α n) (by intro v f ks; kernel_rfl) n
theorem f168_d (α : Type) (n : Nat) : D3.OK Try.prog (tyOf Try.prog) ⟨27, []⟩ (f168_D α n) (bodyOf Try.f168) :=
  D3.OK.mk3 (f168_ents α n) (show loopsOf (bodyOf Try.f168) = [(2, (.loop ((bodyOf Try.f168).at [1, 1, 0, 0, 0])))] by kernel_rfl) ⟨look_sound rfl (f168_L2_ok α n), trivial⟩
theorem f168_ok (n : Nat) : (f168_E n).Sound Try.prog :=
  fn_ok (tyOf_ok _) prog_fol (f168_D _ n) (show Try.prog.funcs[168]? = some Try.f168 by kernel_rfl) (by kernel_rfl) (show Try.f168.body = some (bodyOf Try.f168) by kernel_rfl) rfl rfl (Nat.le_of_ble_eq_true rfl) (f168_d _ n) (by intro x; kernel_rfl) 

def f118_L5B {α : Type} (n : Nat) (s4 : Int) (c1_0 : List (Int × Int × Int × Int)) (b12 : List Int) (f : Int → (List (Int × Int × Int × Int)) → (List Int) → Option α) (k0 : Bool → Option α) (k1 : (List (Int × Int × Int × Int)) → Option α) : Option α :=
  bif (decide (s4 < (c1_0.length : Int))) then
    gd (decide (0 ≤ s4) && decide (s4 < (c1_0.length : Int))) (
      let x_2 := c1_0.getD s4.toNat (0, 0, 0, 0)
      ob (f166 n x_2 s4) fun r_3 =>
      bif (!r_3) then
        k0 false
      else
        let J_10 := fun (y_6 : Int) => (
          let J_9 := fun (y_8 : Int) => (
            bif (decide (y_8 > 12)) then
              k0 false
            else
              gd (decide ((b12.length + 1) * 8 ≤ 140737488355328)) (
                f (W (s4 + 1)) c1_0 (b12 ++ [y_8])))
          ob (f169 n x_2.1) fun r_7 =>
          bif r_7 then
            gd (decide (0 ≤ x_2.2.1) && decide (x_2.2.1 < (b12.length : Int))) (
              gd (decide (x_2.2.1.toNat < b12.length)) (
                J_9 (W (1 + (b12.getD x_2.2.1.toNat 0)))))
          else
            J_9 y_6)
        ob (f167 n x_2.1) fun r_4 =>
        bif r_4 then
          bif (x_2.2.2.1 != (W (s4 - 1))) then
            k0 false
          else
            ob (f168 n c1_0 x_2.2.2.1) fun r_5 =>
            bif (r_5 != (W (x_2.2.1 + 1))) then
              k0 false
            else
              gd (decide (0 ≤ x_2.2.1) && decide (x_2.2.1 < (b12.length : Int))) (
                gd (decide (x_2.2.1.toNat < b12.length)) (
                  gd (decide (0 ≤ x_2.2.2.1) && decide (x_2.2.2.1 < (b12.length : Int))) (
                    gd (decide (x_2.2.2.1.toNat < b12.length)) (
                      J_10 (W (1 + (max (b12.getD x_2.2.1.toNat 0) (b12.getD x_2.2.2.1.toNat 0))))))))
        else
          J_10 1)
  else
    k1 c1_0
abbrev f118_L5H : Tm := ⟨[(1, .k (.hp 1 0 0)), (3, .k (.hw 12)), (4, .d hI)], [(1, .var 81 true false [.d hNs]), (12, .arr 3 hI false)], [72], []⟩
abbrev f118_L5X0 : Tm := ⟨[(2, .d .bool)], [], [1, 5, 12], []⟩
abbrev f118_L5X1 : Tm := ⟨[(1, .k (.hp 1 0 0))], [(1, .var 81 true false [.d hNs])], [12], []⟩
abbrev f118_L5O : List (Exit × Tm) := [(.ret, f118_L5X0), (.exit 0, f118_L5X1)]
def f118_L5U {α : Type} (n : Nat) (v : f118_L5H.den) (f : f118_L5H.den → Option α) (ks : KS α f118_L5O) : Option α := f118_L5B n v.1.2.2.1 v.2.1.1 v.2.2.1 (fun s4 c1_0 b12 => f (((), (), s4, ()), ((c1_0, ()), b12, ()))) (fun w0 => ks.1 ((w0, ()), ())) (fun w0 => ks.2.1 (((), ()), ((w0, ()), ())))
def f118_L5 {α : Type} (n m : Nat) (s4 : Int) (c1_0 : List (Int × Int × Int × Int)) (b12 : List Int) (k0 : Bool → Option α) (k1 : (List (Int × Int × Int × Int)) → Option α) : Option α := rounds (f118_L5U n) m (((), (), s4, ()), ((c1_0, ()), b12, ())) (fun w => k0 w.1.1, fun w => k1 w.2.1.1, ())
theorem f118_L5_0 {α : Type} (n : Nat) (s4 : Int) (c1_0 : List (Int × Int × Int × Int)) (b12 : List Int) (k0 : Bool → Option α) (k1 : (List (Int × Int × Int × Int)) → Option α) : f118_L5 (α := α) n 0 s4 c1_0 b12 k0 k1 = none := rfl
theorem f118_L5_s {α : Type} (n m : Nat) (s4 : Int) (c1_0 : List (Int × Int × Int × Int)) (b12 : List Int) (k0 : Bool → Option α) (k1 : (List (Int × Int × Int × Int)) → Option α) : f118_L5 (α := α) n (m + 1) s4 c1_0 b12 k0 k1 = f118_L5B n s4 c1_0 b12 (fun s4 c1_0 b12 => f118_L5 n m s4 c1_0 b12 k0 k1) k0 k1 := rfl
abbrev f118_J15 : Tm := ⟨[(1, .k (.hp 1 0 0)), (3, .k (.hw 12)), (4, .d hI), (5, .k (.hp 5 0 0)), (6, .d hI)], [(1, .var 81 true false [.d hNs]), (5, .var 140 true false [.d hI, .d hI, .d hI, .d hI]), (12, .arr 3 hI false)], [], []⟩
abbrev f118_J17 : Tm := ⟨[(1, .k (.hp 1 0 0)), (3, .k (.hw 12)), (4, .d hI), (6, .d hI)], [(1, .var 81 true false [.d hNs]), (12, .arr 3 hI false)], [5], []⟩
def f118 (n : Nat) (a0 : List (Int × Int × Int × Int)) : Option Bool :=
  ob (f65 n (a0.length : Int) 1 60) fun r_1 =>
  bif (!r_1) then
    some false
  else
    f118_L5 n n 0 a0 []
      (fun z_11 => (
        some z_11))
      (fun z_12 => (
        ob (f168 n z_12 (W ((z_12.length : Int) - 1))) fun r_13 =>
        some (r_13 == 0)))
def f118_E (n : Nat) : Ent := ⟨118, [hE], [.bool], fun x => f118 n x⟩
def f118_D (α : Type) (n : Nat) : D3 α := { reg := [(1, ⟨0, [], [(3, { ent := some (f65_E n) })]⟩), (3, ⟨0, [], [(0, { sh := some hI })]⟩), (8, ⟨0, [], [(2, { ent := some (f166_E n) })]⟩), (11, ⟨0, [], [(2, { ent := some (f167_E n) })]⟩), (12, ⟨13, [], [(9, { ent := some (f168_E n) })]⟩), (14, ⟨10, [], []⟩), (15, ⟨0, [], [(2, { ent := some (f169_E n) })]⟩), (19, ⟨0, [], [(2, { sh := some hI })]⟩), (20, ⟨0, [], [(5, { ent := some (f168_E n) })]⟩)], join := [(15, f118_J15), (17, f118_J17)], loop := [(5, ⟨f118_L5H, f118_L5O, rounds (f118_L5U n) n⟩)] }
theorem f118_ents (α : Type) (n : Nat) : AllS Try.prog (entsOf (f118_D α n).reg) := ⟨f65_ok n, f166_ok n, f167_ok n, f168_ok n, f169_ok n, f168_ok n, trivial⟩
theorem f118_L5_d (α : Type) (n : Nat) : D3.OK Try.prog (tyOf Try.prog) ⟨81, []⟩ (f118_D α n) ((bodyOf Try.f118).at [1, 1, 1, 0, 1, 0, 0]) :=
  D3.OK.mk3 (f118_ents α n) (show loopsOf ((bodyOf Try.f118).at [1, 1, 1, 0, 1, 0, 0]) = [] by kernel_rfl) trivial
theorem f118_L5_ok (α : Type) (n : Nat) : LO.Sound (α := α) Try.prog ⟨81, []⟩ ⟨f118_L5H, f118_L5O, rounds (f118_L5U n) n⟩ (.loop ((bodyOf Try.f118).at [1, 1, 1, 0, 1, 0, 0])) :=
  loop_ok (tyOf_ok _) prog_fol (f118_L5U n) (f118_L5_d α n) (by intro v f ks; kernel_rfl) n
theorem f118_d (α : Type) (n : Nat) : D3.OK Try.prog (tyOf Try.prog) ⟨81, []⟩ (f118_D α n) (bodyOf Try.f118) :=
  D3.OK.mk3 (f118_ents α n) (show loopsOf (bodyOf Try.f118) = [(5, (.loop ((bodyOf Try.f118).at [1, 1, 1, 0, 1, 0, 0])))] by kernel_rfl) ⟨look_sound rfl (f118_L5_ok α n), trivial⟩
theorem f118_ok (n : Nat) : (f118_E n).Sound Try.prog :=
  fn_ok (tyOf_ok _) prog_fol (f118_D _ n) (show Try.prog.funcs[118]? = some Try.f118 by kernel_rfl) (by kernel_rfl) (show Try.f118.body = some (bodyOf Try.f118) by kernel_rfl) rfl rfl (Nat.le_of_ble_eq_true rfl) (f118_d _ n) (by intro x; kernel_rfl) 

def f119_L3B {α : Type} (n : Nat) (s3 : Int) (s4 : Int) (c1_0 : List (Int × Int × Int × Int)) (f : Int → Int → (List (Int × Int × Int × Int)) → Option α) (k0 : Int → Option α) : Option α :=
  bif (decide (s4 < (c1_0.length : Int))) then
    gd (decide (0 ≤ s4) && decide (s4 < (c1_0.length : Int))) (
      let x_1 := c1_0.getD s4.toNat (0, 0, 0, 0)
      bif (x_1.1 == 2) then
        gd (decide (0 ≤ s4) && decide (s4 < (c1_0.length : Int))) (
          let x_2 := c1_0.getD s4.toNat (0, 0, 0, 0)
          f (max s3 (W (x_2.2.2.2 + 1))) (W (s4 + 1)) c1_0)
      else
        f s3 (W (s4 + 1)) c1_0)
  else
    k0 s3
abbrev f119_L3H : Tm := ⟨[(1, .k (.hp 1 0 0)), (3, .d hI), (4, .d hI)], [(1, .var 81 true false [.d hNs])], [], []⟩
abbrev f119_L3X0 : Tm := ⟨[(3, .d hI)], [], [1], []⟩
abbrev f119_L3O : List (Exit × Tm) := [(.exit 0, f119_L3X0)]
def f119_L3U {α : Type} (n : Nat) (v : f119_L3H.den) (f : f119_L3H.den → Option α) (ks : KS α f119_L3O) : Option α := f119_L3B n v.1.2.1 v.1.2.2.1 v.2.1.1 (fun s3 s4 c1_0 => f (((), s3, s4, ()), ((c1_0, ()), ()))) (fun w0 => ks.1 ((w0, ()), ()))
def f119_L3 {α : Type} (n m : Nat) (s3 : Int) (s4 : Int) (c1_0 : List (Int × Int × Int × Int)) (k0 : Int → Option α) : Option α := rounds (f119_L3U n) m (((), s3, s4, ()), ((c1_0, ()), ())) (fun w => k0 w.1.1, ())
theorem f119_L3_0 {α : Type} (n : Nat) (s3 : Int) (s4 : Int) (c1_0 : List (Int × Int × Int × Int)) (k0 : Int → Option α) : f119_L3 (α := α) n 0 s3 s4 c1_0 k0 = none := rfl
theorem f119_L3_s {α : Type} (n m : Nat) (s3 : Int) (s4 : Int) (c1_0 : List (Int × Int × Int × Int)) (k0 : Int → Option α) : f119_L3 (α := α) n (m + 1) s3 s4 c1_0 k0 = f119_L3B n s3 s4 c1_0 (fun s3 s4 c1_0 => f119_L3 n m s3 s4 c1_0 k0) k0 := rfl
def f119 (n : Nat) (a0 : List (Int × Int × Int × Int)) : Option Int :=
  f119_L3 n n 0 0 a0
    (fun z_3 => (
      some z_3))
def f119_E (n : Nat) : Ent := ⟨119, [hE], [hI], fun x => f119 n x⟩
def f119_D (α : Type) (n : Nat) : D3 α := { reg := [], join := [], loop := [(3, ⟨f119_L3H, f119_L3O, rounds (f119_L3U n) n⟩)] }
theorem f119_ents (α : Type) (n : Nat) : AllS Try.prog (entsOf (f119_D α n).reg) := trivial
theorem f119_L3_d (α : Type) (n : Nat) : D3.OK Try.prog (tyOf Try.prog) ⟨29, []⟩ (f119_D α n) ((bodyOf Try.f119).at [1, 1, 0, 1, 0, 0]) :=
  D3.OK.mk3 (f119_ents α n) (show loopsOf ((bodyOf Try.f119).at [1, 1, 0, 1, 0, 0]) = [] by kernel_rfl) trivial
theorem f119_L3_ok (α : Type) (n : Nat) : LO.Sound (α := α) Try.prog ⟨29, []⟩ ⟨f119_L3H, f119_L3O, rounds (f119_L3U n) n⟩ (.loop ((bodyOf Try.f119).at [1, 1, 0, 1, 0, 0])) :=
  loop_ok (tyOf_ok _) prog_fol (f119_L3U n) (f119_L3_d α n) (by intro v f ks; kernel_rfl) n
theorem f119_d (α : Type) (n : Nat) : D3.OK Try.prog (tyOf Try.prog) ⟨29, []⟩ (f119_D α n) (bodyOf Try.f119) :=
  D3.OK.mk3 (f119_ents α n) (show loopsOf (bodyOf Try.f119) = [(3, (.loop ((bodyOf Try.f119).at [1, 1, 0, 1, 0, 0])))] by kernel_rfl) ⟨look_sound rfl (f119_L3_ok α n), trivial⟩
theorem f119_ok (n : Nat) : (f119_E n).Sound Try.prog :=
  fn_ok (tyOf_ok _) prog_fol (f119_D _ n) (show Try.prog.funcs[119]? = some Try.f119 by kernel_rfl) (by kernel_rfl) (show Try.f119.body = some (bodyOf Try.f119) by kernel_rfl) rfl rfl (Nat.le_of_ble_eq_true rfl) (f119_d _ n) (by intro x; kernel_rfl) 

def f170 (n : Nat) (a0 : Bool × (List Int) × (List Int)) : Option Bool :=
  some ((a0.2.1.length : Int) == 0)
def f170_E (n : Nat) : Ent := ⟨170, [hR], [.bool], fun x => f170 n x⟩
def f170_D (α : Type) (n : Nat) : D3 α := { reg := [], join := [], loop := [] }
theorem f170_ents (α : Type) (n : Nat) : AllS Try.prog (entsOf (f170_D α n).reg) := trivial
theorem f170_d (α : Type) (n : Nat) : D3.OK Try.prog (tyOf Try.prog) ⟨7, []⟩ (f170_D α n) (bodyOf Try.f170) :=
  D3.OK.mk3 (f170_ents α n) (show loopsOf (bodyOf Try.f170) = [] by kernel_rfl) trivial
theorem f170_ok (n : Nat) : (f170_E n).Sound Try.prog :=
  fn_ok (tyOf_ok _) prog_fol (f170_D _ n) (show Try.prog.funcs[170]? = some Try.f170 by kernel_rfl) (by kernel_rfl) (show Try.f170.body = some (bodyOf Try.f170) by kernel_rfl) rfl rfl (Nat.le_of_ble_eq_true rfl) (f170_d _ n) (by intro x; kernel_rfl) 

def f120 (n : Nat) (a0 : Bool × (List Int) × (List Int)) : Option Int :=
  ob (f170 n a0) fun r_1 =>
  bif r_1 then
    some 0
  else
    bif a0.1 then
      some (-1)
    else
      some 1
def f120_E (n : Nat) : Ent := ⟨120, [hR], [hI], fun x => f120 n x⟩
def f120_D (α : Type) (n : Nat) : D3 α := { reg := [(1, ⟨0, [], [(1, { ent := some (f170_E n) })]⟩)], join := [], loop := [] }
theorem f120_ents (α : Type) (n : Nat) : AllS Try.prog (entsOf (f120_D α n).reg) := ⟨f170_ok n, trivial⟩
theorem f120_d (α : Type) (n : Nat) : D3.OK Try.prog (tyOf Try.prog) ⟨9, []⟩ (f120_D α n) (bodyOf Try.f120) :=
  D3.OK.mk3 (f120_ents α n) (show loopsOf (bodyOf Try.f120) = [] by kernel_rfl) trivial
theorem f120_ok (n : Nat) : (f120_E n).Sound Try.prog :=
  fn_ok (tyOf_ok _) prog_fol (f120_D _ n) (show Try.prog.funcs[120]? = some Try.f120 by kernel_rfl) (by kernel_rfl) (show Try.f120.body = some (bodyOf Try.f120) by kernel_rfl) rfl rfl (Nat.le_of_ble_eq_true rfl) (f120_d _ n) (by intro x; kernel_rfl) 

def f121 (n : Nat) (a0 : (List (Int × Int × Int × Int)) × (List (Bool × (List Int) × (List Int))) × (List (Bool × (List Int) × (List Int))) × (List (Bool × (List Int) × (List Int))) × Int × (Bool × (List Int) × (List Int)) × Int × Int) : Option Bool :=
  some (decide ((a0.2.2.1.length : Int) > 0))
def f121_E (n : Nat) : Ent := ⟨121, [(.st (.pair hE (.pair hRs (.pair hRs (.pair hRs (.pair hI (.pair hR (.pair hI hI))))))))], [.bool], fun x => f121 n x⟩
def f121_D (α : Type) (n : Nat) : D3 α := { reg := [], join := [], loop := [] }
theorem f121_ents (α : Type) (n : Nat) : AllS Try.prog (entsOf (f121_D α n).reg) := trivial
theorem f121_d (α : Type) (n : Nat) : D3.OK Try.prog (tyOf Try.prog) ⟨7, []⟩ (f121_D α n) (bodyOf Try.f121) :=
  D3.OK.mk3 (f121_ents α n) (show loopsOf (bodyOf Try.f121) = [] by kernel_rfl) trivial
theorem f121_ok (n : Nat) : (f121_E n).Sound Try.prog :=
  fn_ok (tyOf_ok _) prog_fol (f121_D _ n) (show Try.prog.funcs[121]? = some Try.f121 by kernel_rfl) (by kernel_rfl) (show Try.f121.body = some (bodyOf Try.f121) by kernel_rfl) rfl rfl (Nat.le_of_ble_eq_true rfl) (f121_d _ n) (by intro x; kernel_rfl) 

def f187 (n : Nat) (a0 : Bool × (List Int) × (List Int)) : Option (Bool × (List Int) × (List Int)) :=
  bif (!a0.1) then
    some ((decide ((a0.2.1.length : Int) > 0)), a0.2)
  else
    some (false, a0.2)
def f187_E (n : Nat) : Ent := ⟨187, [hR], [hR], fun x => f187 n x⟩
def f187_D (α : Type) (n : Nat) : D3 α := { reg := [], join := [], loop := [] }
theorem f187_ents (α : Type) (n : Nat) : AllS Try.prog (entsOf (f187_D α n).reg) := trivial
theorem f187_d (α : Type) (n : Nat) : D3.OK Try.prog (tyOf Try.prog) ⟨14, []⟩ (f187_D α n) (bodyOf Try.f187) :=
  D3.OK.mk3 (f187_ents α n) (show loopsOf (bodyOf Try.f187) = [] by kernel_rfl) trivial
theorem f187_ok (n : Nat) : (f187_E n).Sound Try.prog :=
  fn_ok (tyOf_ok _) prog_fol (f187_D _ n) (show Try.prog.funcs[187]? = some Try.f187 by kernel_rfl) (by kernel_rfl) (show Try.f187.body = some (bodyOf Try.f187) by kernel_rfl) rfl rfl (Nat.le_of_ble_eq_true rfl) (f187_d _ n) (by intro x; kernel_rfl) 

def f188_L4B {α : Type} (n : Nat) (s0 : List Int) (s1 : List Int) (s6 : Int) (s7 : Int) (b8 : List Int) (f : (List Int) → (List Int) → Int → Int → (List Int) → Option α) (k0 : (List Int) → Option α) : Option α :=
  let J_5 := fun (_ : Unit) => (
    let J_4 := fun (y_1 : Int) => (
      let J_3 := fun (y_2 : Int) => (
        gd (decide ((b8.length + 1) * 8 ≤ 140737488355328)) (
          f s0 s1 (W (Int.tdiv y_2 10000)) (W (s7 + 1)) (b8 ++ [(Int.tmod y_2 10000)])))
      bif (decide (s7 < (s1.length : Int))) then
        gd (decide (0 ≤ s7) && decide (s7 < (s1.length : Int))) (
          J_3 (W (y_1 + (s1.getD s7.toNat 0))))
      else
        J_3 y_1)
    bif (decide (s7 < (s0.length : Int))) then
      gd (decide (0 ≤ s7) && decide (s7 < (s0.length : Int))) (
        J_4 (W (s6 + (s0.getD s7.toNat 0))))
    else
      J_4 s6)
  bif (decide (s7 < (s0.length : Int))) then
    J_5 ()
  else
    bif (decide (s7 < (s1.length : Int))) then
      J_5 ()
    else
      bif (decide (s6 > 0)) then
        J_5 ()
      else
        k0 b8
abbrev f188_L4H : Tm := ⟨[(0, .d hIs), (1, .d hIs), (5, .k (.hw 8)), (6, .d hI), (7, .d hI)], [(8, .arr 3 hI false)], [48], []⟩
abbrev f188_L4X0 : Tm := ⟨[(5, .k (.hw 8))], [(8, .arr 3 hI false)], [], []⟩
abbrev f188_L4O : List (Exit × Tm) := [(.exit 0, f188_L4X0)]
def f188_L4U {α : Type} (n : Nat) (v : f188_L4H.den) (f : f188_L4H.den → Option α) (ks : KS α f188_L4O) : Option α := f188_L4B n v.1.1 v.1.2.1 v.1.2.2.2.1 v.1.2.2.2.2.1 v.2.1 (fun s0 s1 s6 s7 b8 => f ((s0, s1, (), s6, s7, ()), (b8, ()))) (fun w0 => ks.1 (((), ()), (w0, ())))
def f188_L4 {α : Type} (n m : Nat) (s0 : List Int) (s1 : List Int) (s6 : Int) (s7 : Int) (b8 : List Int) (k0 : (List Int) → Option α) : Option α := rounds (f188_L4U n) m ((s0, s1, (), s6, s7, ()), (b8, ())) (fun w => k0 w.2.1, ())
theorem f188_L4_0 {α : Type} (n : Nat) (s0 : List Int) (s1 : List Int) (s6 : Int) (s7 : Int) (b8 : List Int) (k0 : (List Int) → Option α) : f188_L4 (α := α) n 0 s0 s1 s6 s7 b8 k0 = none := rfl
theorem f188_L4_s {α : Type} (n m : Nat) (s0 : List Int) (s1 : List Int) (s6 : Int) (s7 : Int) (b8 : List Int) (k0 : (List Int) → Option α) : f188_L4 (α := α) n (m + 1) s0 s1 s6 s7 b8 k0 = f188_L4B n s0 s1 s6 s7 b8 (fun s0 s1 s6 s7 b8 => f188_L4 n m s0 s1 s6 s7 b8 k0) k0 := rfl
abbrev f188_J6 : Tm := ⟨[(0, .d hIs), (1, .d hIs), (5, .k (.hw 8)), (6, .d hI), (7, .d hI)], [(8, .arr 3 hI false)], [], []⟩
abbrev f188_J8 : Tm := ⟨[(0, .d hIs), (1, .d hIs), (5, .k (.hw 8)), (6, .d hI), (7, .d hI)], [(8, .arr 3 hI false)], [], []⟩
abbrev f188_J10 : Tm := ⟨[(0, .d hIs), (1, .d hIs), (5, .k (.hw 8)), (6, .d hI), (7, .d hI)], [(8, .arr 3 hI false)], [], []⟩
def f188 (n : Nat) (a0 : List Int) (a1 : List Int) : Option (List Int) :=
  f188_L4 n n a0 a1 0 0 []
    (fun z_6 => (
      some z_6))
def f188_E (n : Nat) : Ent := ⟨188, [hIs, hIs], [hIs], fun x => f188 n x.1 x.2⟩
def f188_D (α : Type) (n : Nat) : D3 α := { reg := [(1, ⟨0, [], [(0, { sh := some hI })]⟩), (10, ⟨0, [], [(3, { sh := some hI })]⟩)], join := [(6, f188_J6), (8, f188_J8), (10, f188_J10)], loop := [(4, ⟨f188_L4H, f188_L4O, rounds (f188_L4U n) n⟩)] }
theorem f188_ents (α : Type) (n : Nat) : AllS Try.prog (entsOf (f188_D α n).reg) := trivial
theorem f188_L4_d (α : Type) (n : Nat) : D3.OK Try.prog (tyOf Try.prog) ⟨53, []⟩ (f188_D α n) ((bodyOf Try.f188).at [1, 1, 1, 0, 1, 0, 0]) :=
  D3.OK.mk3 (f188_ents α n) (show loopsOf ((bodyOf Try.f188).at [1, 1, 1, 0, 1, 0, 0]) = [] by kernel_rfl) trivial
theorem f188_L4_ok (α : Type) (n : Nat) : LO.Sound (α := α) Try.prog ⟨53, []⟩ ⟨f188_L4H, f188_L4O, rounds (f188_L4U n) n⟩ (.loop ((bodyOf Try.f188).at [1, 1, 1, 0, 1, 0, 0])) :=
  loop_ok (tyOf_ok _) prog_fol (f188_L4U n) (f188_L4_d α n) (by intro v f ks; kernel_rfl) n
theorem f188_d (α : Type) (n : Nat) : D3.OK Try.prog (tyOf Try.prog) ⟨53, []⟩ (f188_D α n) (bodyOf Try.f188) :=
  D3.OK.mk3 (f188_ents α n) (show loopsOf (bodyOf Try.f188) = [(4, (.loop ((bodyOf Try.f188).at [1, 1, 1, 0, 1, 0, 0])))] by kernel_rfl) ⟨look_sound rfl (f188_L4_ok α n), trivial⟩
theorem f188_ok (n : Nat) : (f188_E n).Sound Try.prog :=
  fn_ok (tyOf_ok _) prog_fol (f188_D _ n) (show Try.prog.funcs[188]? = some Try.f188 by kernel_rfl) (by kernel_rfl) (show Try.f188.body = some (bodyOf Try.f188) by kernel_rfl) rfl rfl (Nat.le_of_ble_eq_true rfl) (f188_d _ n) (by intro x; kernel_rfl) 

def f146 (n : Nat) (a0 : Bool) (a1 : List Int) (a2 : List Int) : Option (Bool × (List Int) × (List Int)) :=
  ob (f128 n a1 a2) fun r_1 =>
  ob (f176 n a1 r_1) fun r_2 =>
  ob (f176 n a2 r_1) fun r_3 =>
  bif a0 then
    some ((decide ((r_2.1.length : Int) > 0)), r_2.1, r_3.1)
  else
    some (false, r_2.1, r_3.1)
def f146_E (n : Nat) : Ent := ⟨146, [.bool, hIs, hIs], [hR], fun x => f146 n x.1 x.2.1 x.2.2⟩
def f146_D (α : Type) (n : Nat) : D3 α := { reg := [(1, ⟨0, [], [(2, { ent := some (f128_E n) })]⟩), (2, ⟨0, [], [(2, { ent := some (f176_E n) })]⟩), (3, ⟨0, [], [(2, { ent := some (f176_E n) })]⟩)], join := [], loop := [] }
theorem f146_ents (α : Type) (n : Nat) : AllS Try.prog (entsOf (f146_D α n).reg) := ⟨f128_ok n, f176_ok n, f176_ok n, trivial⟩
theorem f146_d (α : Type) (n : Nat) : D3.OK Try.prog (tyOf Try.prog) ⟨36, []⟩ (f146_D α n) (bodyOf Try.f146) :=
  D3.OK.mk3 (f146_ents α n) (show loopsOf (bodyOf Try.f146) = [] by kernel_rfl) trivial
theorem f146_ok (n : Nat) : (f146_E n).Sound Try.prog :=
  fn_ok (tyOf_ok _) prog_fol (f146_D _ n) (show Try.prog.funcs[146]? = some Try.f146 by kernel_rfl) (by kernel_rfl) (show Try.f146.body = some (bodyOf Try.f146) by kernel_rfl) rfl rfl (Nat.le_of_ble_eq_true rfl) (f146_d _ n) (by intro x; kernel_rfl) 

def f157 (n : Nat) (a0 : Bool × (List Int) × (List Int)) (a1 : Bool × (List Int) × (List Int)) : Option (Bool × (List Int) × (List Int)) :=
  ob (f154 n a0.2.1 a1.2.2) fun r_1 =>
  ob (f154 n a1.2.1 a0.2.2) fun r_2 =>
  ob (f154 n a0.2.2 a1.2.2) fun r_3 =>
  bif (a0.1 == a1.1) then
    ob (f188 n r_1 r_2) fun r_4 =>
    ob (f146 n a0.1 r_4 r_3) fun r_5 =>
    some r_5
  else
    ob (f127 n r_1 r_2) fun r_6 =>
    bif (decide (r_6 ≥ 0)) then
      ob (f189 n r_1 r_2) fun r_7 =>
      ob (f146 n a0.1 r_7 r_3) fun r_8 =>
      some r_8
    else
      ob (f189 n r_2 r_1) fun r_9 =>
      ob (f146 n a1.1 r_9 r_3) fun r_10 =>
      some r_10
def f157_E (n : Nat) : Ent := ⟨157, [hR, hR], [hR], fun x => f157 n x.1 x.2⟩
def f157_D (α : Type) (n : Nat) : D3 α := { reg := [(1, ⟨0, [], [(4, { ent := some (f154_E n) })]⟩), (2, ⟨0, [], [(4, { ent := some (f154_E n) })]⟩), (3, ⟨0, [], [(4, { ent := some (f154_E n) })]⟩), (5, ⟨6, [], [(4, { ent := some (f188_E n) }), (6, { ent := some (f146_E n) })]⟩), (6, ⟨0, [], [(2, { ent := some (f127_E n) })]⟩), (7, ⟨6, [], [(4, { ent := some (f189_E n) }), (6, { ent := some (f146_E n) })]⟩), (8, ⟨6, [], [(4, { ent := some (f189_E n) }), (6, { ent := some (f146_E n) })]⟩)], join := [], loop := [] }
theorem f157_ents (α : Type) (n : Nat) : AllS Try.prog (entsOf (f157_D α n).reg) := ⟨f154_ok n, f154_ok n, f154_ok n, f188_ok n, f146_ok n, f127_ok n, f189_ok n, f146_ok n, f189_ok n, f146_ok n, trivial⟩
theorem f157_d (α : Type) (n : Nat) : D3.OK Try.prog (tyOf Try.prog) ⟨53, []⟩ (f157_D α n) (bodyOf Try.f157) :=
  D3.OK.mk3 (f157_ents α n) (show loopsOf (bodyOf Try.f157) = [] by kernel_rfl) trivial
theorem f157_ok (n : Nat) : (f157_E n).Sound Try.prog :=
  fn_ok (tyOf_ok _) prog_fol (f157_D _ n) (show Try.prog.funcs[157]? = some Try.f157 by kernel_rfl) (by kernel_rfl) (show Try.f157.body = some (bodyOf Try.f157) by kernel_rfl) rfl rfl (Nat.le_of_ble_eq_true rfl) (f157_d _ n) (by intro x; kernel_rfl) 

def f150 (n : Nat) (a0 : Bool × (List Int) × (List Int)) (a1 : Bool × (List Int) × (List Int)) : Option (Bool × (List Int) × (List Int)) :=
  ob (f187 n a1) fun r_1 =>
  ob (f157 n a0 r_1) fun r_2 =>
  some r_2
def f150_E (n : Nat) : Ent := ⟨150, [hR, hR], [hR], fun x => f150 n x.1 x.2⟩
def f150_D (α : Type) (n : Nat) : D3 α := { reg := [(1, ⟨3, [], [(2, { ent := some (f187_E n) }), (3, { ent := some (f157_E n) })]⟩)], join := [], loop := [] }
theorem f150_ents (α : Type) (n : Nat) : AllS Try.prog (entsOf (f150_D α n).reg) := ⟨f187_ok n, f157_ok n, trivial⟩
theorem f150_d (α : Type) (n : Nat) : D3.OK Try.prog (tyOf Try.prog) ⟨9, []⟩ (f150_D α n) (bodyOf Try.f150) :=
  D3.OK.mk3 (f150_ents α n) (show loopsOf (bodyOf Try.f150) = [] by kernel_rfl) trivial
theorem f150_ok (n : Nat) : (f150_E n).Sound Try.prog :=
  fn_ok (tyOf_ok _) prog_fol (f150_D _ n) (show Try.prog.funcs[150]? = some Try.f150 by kernel_rfl) (by kernel_rfl) (show Try.f150.body = some (bodyOf Try.f150) by kernel_rfl) rfl rfl (Nat.le_of_ble_eq_true rfl) (f150_d _ n) (by intro x; kernel_rfl) 

def f88 (n : Nat) (a0 : Bool × (List Int) × (List Int)) (a1 : Bool × (List Int) × (List Int)) : Option Int :=
  ob (f150 n a0 a1) fun r_1 =>
  ob (f120 n r_1) fun r_2 =>
  some r_2
def f88_E (n : Nat) : Ent := ⟨88, [hR, hR], [hI], fun x => f88 n x.1 x.2⟩
def f88_D (α : Type) (n : Nat) : D3 α := { reg := [(1, ⟨0, [], [(2, { ent := some (f150_E n) }), (3, { ent := some (f120_E n) })]⟩)], join := [], loop := [] }
theorem f88_ents (α : Type) (n : Nat) : AllS Try.prog (entsOf (f88_D α n).reg) := ⟨f150_ok n, f120_ok n, trivial⟩
theorem f88_d (α : Type) (n : Nat) : D3.OK Try.prog (tyOf Try.prog) ⟨9, []⟩ (f88_D α n) (bodyOf Try.f88) :=
  D3.OK.mk3 (f88_ents α n) (show loopsOf (bodyOf Try.f88) = [] by kernel_rfl) trivial
theorem f88_ok (n : Nat) : (f88_E n).Sound Try.prog :=
  fn_ok (tyOf_ok _) prog_fol (f88_D _ n) (show Try.prog.funcs[88]? = some Try.f88 by kernel_rfl) (by kernel_rfl) (show Try.f88.body = some (bodyOf Try.f88) by kernel_rfl) rfl rfl (Nat.le_of_ble_eq_true rfl) (f88_d _ n) (by intro x; kernel_rfl) 

def f61_L8B {α : Type} (n : Nat) (s3 : Int) (c1_0 : List (Int × Int × Int × Int)) (c1_1 : List (Bool × (List Int) × (List Int))) (c1_2 : List (Bool × (List Int) × (List Int))) (c1_3 : List (Bool × (List Int) × (List Int))) (c1_4 : Int) (c1_5 : Bool) (c1_6 : List Int) (c1_7 : List Int) (c1_8 : Int) (c1_9 : Int) (f : Int → (List (Int × Int × Int × Int)) → (List (Bool × (List Int) × (List Int))) → (List (Bool × (List Int) × (List Int))) → (List (Bool × (List Int) × (List Int))) → Int → Bool → (List Int) → (List Int) → Int → Int → Option α) (k0 : Bool → Option α) (k1 : Unit → Option α) : Option α :=
  bif (decide (s3 < (c1_2.length : Int))) then
    gd (decide (0 ≤ s3) && decide (s3 < (c1_2.length : Int))) (
      let x_12 := c1_2.getD s3.toNat (false, [], [])
      gd (decide (0 ≤ s3) && decide (s3 < (c1_1.length : Int))) (
        let x_13 := c1_1.getD s3.toNat (false, [], [])
        ob (f88 n x_12 x_13) fun r_14 =>
        bif (decide (r_14 > 0)) then
          k0 false
        else
          gd (decide (0 ≤ s3) && decide (s3 < (c1_1.length : Int))) (
            let x_15 := c1_1.getD s3.toNat (false, [], [])
            gd (decide (0 ≤ s3) && decide (s3 < (c1_3.length : Int))) (
              let x_16 := c1_3.getD s3.toNat (false, [], [])
              ob (f88 n x_15 x_16) fun r_17 =>
              bif (decide (r_17 > 0)) then
                k0 false
              else
                f (W (s3 + 1)) c1_0 c1_1 c1_2 c1_3 c1_4 c1_5 c1_6 c1_7 c1_8 c1_9))))
  else
    k1 ()
abbrev f61_L8H : Tm := ⟨[(1, .k (.hp 1 0 0)), (3, .d hI)], [(1, .var 83 true false [.d hNs, .d hRs, .d hRs, .d hRs, .d hI, .d .bool, .d hIs, .d hIs, .d hI, .d hI])], [], []⟩
abbrev f61_L8X0 : Tm := ⟨[(2, .d .bool)], [], [1], []⟩
abbrev f61_L8X1 : Tm := ⟨[], [], [1], []⟩
abbrev f61_L8O : List (Exit × Tm) := [(.ret, f61_L8X0), (.exit 0, f61_L8X1)]
def f61_L8U {α : Type} (n : Nat) (v : f61_L8H.den) (f : f61_L8H.den → Option α) (ks : KS α f61_L8O) : Option α := f61_L8B n v.1.2.1 v.2.1.1 v.2.1.2.1 v.2.1.2.2.1 v.2.1.2.2.2.1 v.2.1.2.2.2.2.1 v.2.1.2.2.2.2.2.1 v.2.1.2.2.2.2.2.2.1 v.2.1.2.2.2.2.2.2.2.1 v.2.1.2.2.2.2.2.2.2.2.1 v.2.1.2.2.2.2.2.2.2.2.2.1 (fun s3 c1_0 c1_1 c1_2 c1_3 c1_4 c1_5 c1_6 c1_7 c1_8 c1_9 => f (((), s3, ()), ((c1_0, c1_1, c1_2, c1_3, c1_4, c1_5, c1_6, c1_7, c1_8, c1_9, ()), ()))) (fun w0 => ks.1 ((w0, ()), ())) (fun _ => ks.2.1 ((), ()))
def f61_L8 {α : Type} (n m : Nat) (s3 : Int) (c1_0 : List (Int × Int × Int × Int)) (c1_1 : List (Bool × (List Int) × (List Int))) (c1_2 : List (Bool × (List Int) × (List Int))) (c1_3 : List (Bool × (List Int) × (List Int))) (c1_4 : Int) (c1_5 : Bool) (c1_6 : List Int) (c1_7 : List Int) (c1_8 : Int) (c1_9 : Int) (k0 : Bool → Option α) (k1 : Unit → Option α) : Option α := rounds (f61_L8U n) m (((), s3, ()), ((c1_0, c1_1, c1_2, c1_3, c1_4, c1_5, c1_6, c1_7, c1_8, c1_9, ()), ())) (fun w => k0 w.1.1, fun w => k1 (), ())
theorem f61_L8_0 {α : Type} (n : Nat) (s3 : Int) (c1_0 : List (Int × Int × Int × Int)) (c1_1 : List (Bool × (List Int) × (List Int))) (c1_2 : List (Bool × (List Int) × (List Int))) (c1_3 : List (Bool × (List Int) × (List Int))) (c1_4 : Int) (c1_5 : Bool) (c1_6 : List Int) (c1_7 : List Int) (c1_8 : Int) (c1_9 : Int) (k0 : Bool → Option α) (k1 : Unit → Option α) : f61_L8 (α := α) n 0 s3 c1_0 c1_1 c1_2 c1_3 c1_4 c1_5 c1_6 c1_7 c1_8 c1_9 k0 k1 = none := rfl
theorem f61_L8_s {α : Type} (n m : Nat) (s3 : Int) (c1_0 : List (Int × Int × Int × Int)) (c1_1 : List (Bool × (List Int) × (List Int))) (c1_2 : List (Bool × (List Int) × (List Int))) (c1_3 : List (Bool × (List Int) × (List Int))) (c1_4 : Int) (c1_5 : Bool) (c1_6 : List Int) (c1_7 : List Int) (c1_8 : Int) (c1_9 : Int) (k0 : Bool → Option α) (k1 : Unit → Option α) : f61_L8 (α := α) n (m + 1) s3 c1_0 c1_1 c1_2 c1_3 c1_4 c1_5 c1_6 c1_7 c1_8 c1_9 k0 k1 = f61_L8B n s3 c1_0 c1_1 c1_2 c1_3 c1_4 c1_5 c1_6 c1_7 c1_8 c1_9 (fun s3 c1_0 c1_1 c1_2 c1_3 c1_4 c1_5 c1_6 c1_7 c1_8 c1_9 => f61_L8 n m s3 c1_0 c1_1 c1_2 c1_3 c1_4 c1_5 c1_6 c1_7 c1_8 c1_9 k0 k1) k0 k1 := rfl
def f61 (n : Nat) (a0 : (List (Int × Int × Int × Int)) × (List (Bool × (List Int) × (List Int))) × (List (Bool × (List Int) × (List Int))) × (List (Bool × (List Int) × (List Int))) × Int × (Bool × (List Int) × (List Int)) × Int × Int) : Option Bool :=
  ob (f118 n a0.1) fun r_1 =>
  bif (!r_1) then
    some false
  else
    ob (f76 n a0.2.1) fun r_2 =>
    bif (!r_2) then
      some false
    else
      ob (f119 n a0.1) fun r_3 =>
      bif (decide (r_3 > (a0.2.1.length : Int))) then
        some false
      else
        ob (f65 n a0.2.2.2.2.1 1 4) fun r_4 =>
        bif (!r_4) then
          some false
        else
          ob (f66 n a0.2.2.2.2.2.1) fun r_5 =>
          bif (!r_5) then
            some false
          else
            ob (f120 n a0.2.2.2.2.2.1) fun r_6 =>
            bif (decide (r_6 < 0)) then
              some false
            else
              ob (f65 n a0.2.2.2.2.2.2.1 0 6) fun r_7 =>
              bif (!r_7) then
                some false
              else
                ob (f65 n a0.2.2.2.2.2.2.2 0 30) fun r_8 =>
                bif (!r_8) then
                  some false
                else
                  bif ((a0.2.2.1.length : Int) != (a0.2.2.2.1.length : Int)) then
                    some false
                  else
                    ob (f121 n a0) fun r_9 =>
                    bif (!r_9) then
                      some true
                    else
                      bif ((a0.2.2.1.length : Int) != (a0.2.1.length : Int)) then
                        some false
                      else
                        ob (f76 n a0.2.2.1) fun r_10 =>
                        bif (!r_10) then
                          some false
                        else
                          ob (f76 n a0.2.2.2.1) fun r_11 =>
                          bif (!r_11) then
                            some false
                          else
                            f61_L8 n n 0 a0.1 a0.2.1 a0.2.2.1 a0.2.2.2.1 a0.2.2.2.2.1 a0.2.2.2.2.2.1.1 a0.2.2.2.2.2.1.2.1 a0.2.2.2.2.2.1.2.2 a0.2.2.2.2.2.2.1 a0.2.2.2.2.2.2.2
                              (fun z_18 => (
                                some z_18))
                              (fun (_ : Unit) => (
                                some true))
def f61_E (n : Nat) : Ent := ⟨61, [(.st (.pair hE (.pair hRs (.pair hRs (.pair hRs (.pair hI (.pair hR (.pair hI hI))))))))], [.bool], fun x => f61 n x⟩
def f61_D (α : Type) (n : Nat) : D3 α := { reg := [(1, ⟨56, [], [(2, { ent := some (f118_E n) }), (7, { ent := some (f76_E n) }), (13, { ent := some (f119_E n) }), (22, { ent := some (f65_E n) }), (28, { ent := some (f66_E n) }), (34, { ent := some (f120_E n) }), (40, { ent := some (f65_E n) }), (46, { ent := some (f65_E n) })]⟩), (3, ⟨0, [], [(1, { ent := some (f121_E n) })]⟩), (5, ⟨0, [], [(10, { ent := some (f76_E n) }), (16, { ent := some (f76_E n) })]⟩), (10, ⟨23, [], [(10, { ent := some (f88_E n) }), (23, { ent := some (f88_E n) })]⟩)], join := [], loop := [(8, ⟨f61_L8H, f61_L8O, rounds (f61_L8U n) n⟩)] }
theorem f61_ents (α : Type) (n : Nat) : AllS Try.prog (entsOf (f61_D α n).reg) := ⟨f118_ok n, f76_ok n, f119_ok n, f65_ok n, f66_ok n, f120_ok n, f65_ok n, f65_ok n, f121_ok n, f76_ok n, f76_ok n, f88_ok n, f88_ok n, trivial⟩
theorem f61_L8_d (α : Type) (n : Nat) : D3.OK Try.prog (tyOf Try.prog) ⟨117, []⟩ (f61_D α n) ((bodyOf Try.f61).at [1, 1, 1, 1, 0, 1, 0, 0]) :=
  D3.OK.mk3 (f61_ents α n) (show loopsOf ((bodyOf Try.f61).at [1, 1, 1, 1, 0, 1, 0, 0]) = [] by kernel_rfl) trivial
theorem f61_L8_ok (α : Type) (n : Nat) : LO.Sound (α := α) Try.prog ⟨117, []⟩ ⟨f61_L8H, f61_L8O, rounds (f61_L8U n) n⟩ (.loop ((bodyOf Try.f61).at [1, 1, 1, 1, 0, 1, 0, 0])) :=
  loop_ok (tyOf_ok _) prog_fol (f61_L8U n) (f61_L8_d α n) (by intro v f ks; kernel_rfl) n
theorem f61_d (α : Type) (n : Nat) : D3.OK Try.prog (tyOf Try.prog) ⟨117, []⟩ (f61_D α n) (bodyOf Try.f61) :=
  D3.OK.mk3 (f61_ents α n) (show loopsOf (bodyOf Try.f61) = [(8, (.loop ((bodyOf Try.f61).at [1, 1, 1, 1, 0, 1, 0, 0])))] by kernel_rfl) ⟨look_sound rfl (f61_L8_ok α n), trivial⟩
theorem f61_ok (n : Nat) : (f61_E n).Sound Try.prog :=
  fn_ok (tyOf_ok _) prog_fol (f61_D _ n) (show Try.prog.funcs[61]? = some Try.f61 by kernel_rfl) (by kernel_rfl) (show Try.f61.body = some (bodyOf Try.f61) by kernel_rfl) rfl rfl (Nat.le_of_ble_eq_true rfl) (f61_d _ n) (by intro x; kernel_rfl) 

def f198 (n : Nat) (a0 : Int × Int × Int × Int) : Option Bool :=
  bif (a0.1 == 1) then
    ob (f67 n a0.2.2.2 0 999999999) fun r_1 =>
    some r_1
  else
    bif (a0.1 == 2) then
      ob (f67 n a0.2.2.2 0 3) fun r_2 =>
      some r_2
    else
      bif (a0.1 == 8) then
        ob (f67 n a0.2.2.2 0 8) fun r_3 =>
        some r_3
      else
        some (a0.2.2.2 == 0)
def f198_E (n : Nat) : Ent := ⟨198, [hN], [.bool], fun x => f198 n x⟩
def f198_D (α : Type) (n : Nat) : D3 α := { reg := [(3, ⟨0, [], [(2, { ent := some (f67_E n) })]⟩), (5, ⟨0, [], [(2, { ent := some (f67_E n) })]⟩), (7, ⟨0, [], [(2, { ent := some (f67_E n) })]⟩)], join := [], loop := [] }
theorem f198_ents (α : Type) (n : Nat) : AllS Try.prog (entsOf (f198_D α n).reg) := ⟨f67_ok n, f67_ok n, f67_ok n, trivial⟩
theorem f198_d (α : Type) (n : Nat) : D3.OK Try.prog (tyOf Try.prog) ⟨23, []⟩ (f198_D α n) (bodyOf Try.f198) :=
  D3.OK.mk3 (f198_ents α n) (show loopsOf (bodyOf Try.f198) = [] by kernel_rfl) trivial
theorem f198_ok (n : Nat) : (f198_E n).Sound Try.prog :=
  fn_ok (tyOf_ok _) prog_fol (f198_D _ n) (show Try.prog.funcs[198]? = some Try.f198 by kernel_rfl) (by kernel_rfl) (show Try.f198.body = some (bodyOf Try.f198) by kernel_rfl) rfl rfl (Nat.le_of_ble_eq_true rfl) (f198_d _ n) (by intro x; kernel_rfl) 

def f193 (n : Nat) (a0 : Int × Int × Int × Int) : Option Int :=
  bif (a0.1 == 3) then
    some 2
  else
    bif (a0.1 == 4) then
      some 2
    else
      bif (a0.1 == 5) then
        some 2
      else
        bif (a0.1 == 6) then
          some 2
        else
          bif (a0.1 == 7) then
            some 1
          else
            bif (a0.1 == 8) then
              some 1
            else
              some 0
def f193_E (n : Nat) : Ent := ⟨193, [hN], [hI], fun x => f193 n x⟩
def f193_D (α : Type) (n : Nat) : D3 α := { reg := [], join := [], loop := [] }
theorem f193_ents (α : Type) (n : Nat) : AllS Try.prog (entsOf (f193_D α n).reg) := trivial
theorem f193_d (α : Type) (n : Nat) : D3.OK Try.prog (tyOf Try.prog) ⟨13, []⟩ (f193_D α n) (bodyOf Try.f193) :=
  D3.OK.mk3 (f193_ents α n) (show loopsOf (bodyOf Try.f193) = [] by kernel_rfl) trivial
theorem f193_ok (n : Nat) : (f193_E n).Sound Try.prog :=
  fn_ok (tyOf_ok _) prog_fol (f193_D _ n) (show Try.prog.funcs[193]? = some Try.f193 by kernel_rfl) (by kernel_rfl) (show Try.f193.body = some (bodyOf Try.f193) by kernel_rfl) rfl rfl (Nat.le_of_ble_eq_true rfl) (f193_d _ n) (by intro x; kernel_rfl) 

def f199 (n : Nat) (a0 : Bool) (a1 : Int) (a2 : Int) : Option Bool :=
  bif a0 then
    ob (f67 n a1 0 (W (a2 - 1))) fun r_1 =>
    bif r_1 then
      some true
    else
      bif (!a0) then
        some (a1 == 0)
      else
        some false
  else
    bif (!a0) then
      some (a1 == 0)
    else
      some false
def f199_E (n : Nat) : Ent := ⟨199, [.bool, hI, (.ref hI)], [.bool], fun x => f199 n x.1 x.2.1 x.2.2⟩
def f199_D (α : Type) (n : Nat) : D3 α := { reg := [(1, ⟨0, [], [(5, { ent := some (f67_E n) })]⟩)], join := [], loop := [] }
theorem f199_ents (α : Type) (n : Nat) : AllS Try.prog (entsOf (f199_D α n).reg) := ⟨f67_ok n, trivial⟩
theorem f199_d (α : Type) (n : Nat) : D3.OK Try.prog (tyOf Try.prog) ⟨21, []⟩ (f199_D α n) (bodyOf Try.f199) :=
  D3.OK.mk3 (f199_ents α n) (show loopsOf (bodyOf Try.f199) = [] by kernel_rfl) trivial
theorem f199_ok (n : Nat) : (f199_E n).Sound Try.prog :=
  fn_ok (tyOf_ok _) prog_fol (f199_D _ n) (show Try.prog.funcs[199]? = some Try.f199 by kernel_rfl) (by kernel_rfl) (show Try.f199.body = some (bodyOf Try.f199) by kernel_rfl) rfl rfl (Nat.le_of_ble_eq_true rfl) (f199_d _ n) (by intro x; kernel_rfl) 

def f192 (n : Nat) (a0 : Int × Int × Int × Int) (a1 : Int) : Option Bool :=
  ob (f67 n a0.1 1 8) fun r_1 =>
  bif (!r_1) then
    some false
  else
    ob (f198 n a0) fun r_2 =>
    bif (!r_2) then
      some false
    else
      ob (f193 n a0) fun r_3 =>
      ob (f199 n (decide (r_3 > 0)) a0.2.1 a1) fun r_4 =>
      bif r_4 then
        ob (f193 n a0) fun r_5 =>
        ob (f199 n (decide (r_5 > 1)) a0.2.2.1 a1) fun r_6 =>
        some r_6
      else
        some false
def f192_E (n : Nat) : Ent := ⟨192, [hN, hI], [.bool], fun x => f192 n x.1 x.2⟩
def f192_D (α : Type) (n : Nat) : D3 α := { reg := [(1, ⟨0, [], [(2, { ent := some (f67_E n) }), (6, { ent := some (f198_E n) })]⟩), (3, ⟨0, [], [(0, { sh := some (.ref hI) })]⟩), (4, ⟨14, [], [(2, { ent := some (f193_E n) }), (6, { ent := some (f199_E n) }), (10, { ent := some (f193_E n) }), (14, { ent := some (f199_E n) })]⟩)], join := [], loop := [] }
theorem f192_ents (α : Type) (n : Nat) : AllS Try.prog (entsOf (f192_D α n).reg) := ⟨f67_ok n, f198_ok n, f193_ok n, f199_ok n, f193_ok n, f199_ok n, trivial⟩
theorem f192_d (α : Type) (n : Nat) : D3.OK Try.prog (tyOf Try.prog) ⟨32, []⟩ (f192_D α n) (bodyOf Try.f192) :=
  D3.OK.mk3 (f192_ents α n) (show loopsOf (bodyOf Try.f192) = [] by kernel_rfl) trivial
theorem f192_ok (n : Nat) : (f192_E n).Sound Try.prog :=
  fn_ok (tyOf_ok _) prog_fol (f192_D _ n) (show Try.prog.funcs[192]? = some Try.f192 by kernel_rfl) (by kernel_rfl) (show Try.f192.body = some (bodyOf Try.f192) by kernel_rfl) rfl rfl (Nat.le_of_ble_eq_true rfl) (f192_d _ n) (by intro x; kernel_rfl) 

def f172_L3B {α : Type} (n : Nat) (s13 : List (Int × Int × Int × Int)) (s14 : Int) (s15 : Int) (b11 : List Int) (b12 : List Int) (f : (List (Int × Int × Int × Int)) → Int → Int → (List Int) → (List Int) → Option α) (k0 : Bool → Option α) (k1 : (List Int) → (List Int) → Option α) : Option α :=
  bif (decide (s15 < s14)) then
    gd (decide (0 ≤ s15) && decide (s15 < (s13.length : Int))) (
      let x_1 := s13.getD s15.toNat (0, 0, 0, 0)
      ob (f192 n x_1 s15) fun r_2 =>
      bif (!r_2) then
        k0 false
      else
        let J_6 := fun (y_4 : Int) (y_5 : Int) => (
          gd (decide ((b11.length + 1) * 8 ≤ 140737488355328)) (
            gd (decide ((b12.length + 1) * 8 ≤ 140737488355328)) (
              f s13 s14 (W (s15 + 1)) (b11 ++ [y_4]) (b12 ++ [y_5]))))
        ob (f193 n x_1) fun r_3 =>
        bif (r_3 == 1) then
          bif (x_1.2.1 != (W (s15 - 1))) then
            k0 false
          else
            gd (decide (0 ≤ x_1.2.1) && decide (x_1.2.1 < (b11.length : Int))) (
              gd (decide (x_1.2.1.toNat < b11.length)) (
                gd (decide (0 ≤ x_1.2.1) && decide (x_1.2.1 < (b12.length : Int))) (
                  gd (decide (x_1.2.1.toNat < b12.length)) (
                    J_6 (b11.getD x_1.2.1.toNat 0) (W ((b12.getD x_1.2.1.toNat 0) + 1))))))
        else
          bif (r_3 == 2) then
            bif (x_1.2.2.1 != (W (s15 - 1))) then
              k0 false
            else
              gd (decide (0 ≤ x_1.2.2.1) && decide (x_1.2.2.1 < (b11.length : Int))) (
                gd (decide (x_1.2.2.1.toNat < b11.length)) (
                  bif (x_1.2.1 != (W ((b11.getD x_1.2.2.1.toNat 0) - 1))) then
                    k0 false
                  else
                    gd (decide (0 ≤ x_1.2.1) && decide (x_1.2.1 < (b11.length : Int))) (
                      gd (decide (x_1.2.1.toNat < b11.length)) (
                        gd (decide (0 ≤ x_1.2.1) && decide (x_1.2.1 < (b12.length : Int))) (
                          gd (decide (x_1.2.1.toNat < b12.length)) (
                            gd (decide (0 ≤ x_1.2.2.1) && decide (x_1.2.2.1 < (b12.length : Int))) (
                              gd (decide (x_1.2.2.1.toNat < b12.length)) (
                                J_6 (b11.getD x_1.2.1.toNat 0) (W ((max (b12.getD x_1.2.1.toNat 0) (b12.getD x_1.2.2.1.toNat 0)) + 1))))))))))
          else
            J_6 s15 1)
  else
    k1 b11 b12
abbrev f172_L3H : Tm := ⟨[(5, .k (.hw 11)), (6, .k (.hw 12)), (13, .d hNs), (14, .d hI), (15, .d hI)], [(11, .arr 3 hI false), (12, .arr 3 hI false)], [82, 86], []⟩
abbrev f172_L3X0 : Tm := ⟨[(2, .d .nil), (3, .d .nil), (4, .d .bool)], [], [8, 11, 12], []⟩
abbrev f172_L3X1 : Tm := ⟨[(5, .k (.hw 11)), (6, .k (.hw 12))], [(11, .arr 3 hI false), (12, .arr 3 hI false)], [], []⟩
abbrev f172_L3O : List (Exit × Tm) := [(.ret, f172_L3X0), (.exit 0, f172_L3X1)]
def f172_L3U {α : Type} (n : Nat) (v : f172_L3H.den) (f : f172_L3H.den → Option α) (ks : KS α f172_L3O) : Option α := f172_L3B n v.1.2.2.1 v.1.2.2.2.1 v.1.2.2.2.2.1 v.2.1 v.2.2.1 (fun s13 s14 s15 b11 b12 => f (((), (), s13, s14, s15, ()), (b11, b12, ()))) (fun w0 => ks.1 (((), (), w0, ()), ())) (fun w0 w1 => ks.2.1 (((), (), ()), (w0, w1, ())))
def f172_L3 {α : Type} (n m : Nat) (s13 : List (Int × Int × Int × Int)) (s14 : Int) (s15 : Int) (b11 : List Int) (b12 : List Int) (k0 : Bool → Option α) (k1 : (List Int) → (List Int) → Option α) : Option α := rounds (f172_L3U n) m (((), (), s13, s14, s15, ()), (b11, b12, ())) (fun w => k0 w.1.2.2.1, fun w => k1 w.2.1 w.2.2.1, ())
theorem f172_L3_0 {α : Type} (n : Nat) (s13 : List (Int × Int × Int × Int)) (s14 : Int) (s15 : Int) (b11 : List Int) (b12 : List Int) (k0 : Bool → Option α) (k1 : (List Int) → (List Int) → Option α) : f172_L3 (α := α) n 0 s13 s14 s15 b11 b12 k0 k1 = none := rfl
theorem f172_L3_s {α : Type} (n m : Nat) (s13 : List (Int × Int × Int × Int)) (s14 : Int) (s15 : Int) (b11 : List Int) (b12 : List Int) (k0 : Bool → Option α) (k1 : (List Int) → (List Int) → Option α) : f172_L3 (α := α) n (m + 1) s13 s14 s15 b11 b12 k0 k1 = f172_L3B n s13 s14 s15 b11 b12 (fun s13 s14 s15 b11 b12 => f172_L3 n m s13 s14 s15 b11 b12 k0 k1) k0 k1 := rfl
abbrev f172_J17 : Tm := ⟨[(5, .k (.hw 11)), (6, .k (.hw 12)), (9, .d hI), (10, .d hI), (13, .d hNs), (14, .d hI), (15, .d hI)], [(11, .arr 3 hI false), (12, .arr 3 hI false)], [8], []⟩
def f172 (n : Nat) (a0 : List (Int × Int × Int × Int)) : Option ((List Int) × (List Int) × Bool) :=
  f172_L3 n n a0 (a0.length : Int) 0 [] []
    (fun z_7 => (
      some ([], [], z_7)))
    (fun z_8 z_9 => (
      some (z_8, z_9, true)))
def f172_E (n : Nat) : Ent := ⟨172, [hNs], [hIs, hIs, .bool], fun x => f172 n x⟩
def f172_D (α : Type) (n : Nat) : D3 α := { reg := [(1, ⟨0, [], [(0, { sh := some hI }), (1, { sh := some hI })]⟩), (5, ⟨0, [], [(2, { ent := some (f192_E n) })]⟩), (8, ⟨0, [], [(1, { ent := some (f193_E n) })]⟩), (12, ⟨12, [], []⟩), (14, ⟨14, [], []⟩), (16, ⟨18, [], []⟩), (17, ⟨0, [], [(2, { sh := some hI }), (6, { sh := some hI })]⟩)], join := [(17, f172_J17)], loop := [(3, ⟨f172_L3H, f172_L3O, rounds (f172_L3U n) n⟩)] }
theorem f172_ents (α : Type) (n : Nat) : AllS Try.prog (entsOf (f172_D α n).reg) := ⟨f192_ok n, f193_ok n, trivial⟩
theorem f172_L3_d (α : Type) (n : Nat) : D3.OK Try.prog (tyOf Try.prog) ⟨91, []⟩ (f172_D α n) ((bodyOf Try.f172).at [1, 1, 0, 1, 0, 0]) :=
  D3.OK.mk3 (f172_ents α n) (show loopsOf ((bodyOf Try.f172).at [1, 1, 0, 1, 0, 0]) = [] by kernel_rfl) trivial
theorem f172_L3_ok (α : Type) (n : Nat) : LO.Sound (α := α) Try.prog ⟨91, []⟩ ⟨f172_L3H, f172_L3O, rounds (f172_L3U n) n⟩ (.loop ((bodyOf Try.f172).at [1, 1, 0, 1, 0, 0])) :=
  loop_ok (tyOf_ok _) prog_fol (f172_L3U n) (f172_L3_d α n) (by intro v f ks; kernel_rfl) n
theorem f172_d (α : Type) (n : Nat) : D3.OK Try.prog (tyOf Try.prog) ⟨91, []⟩ (f172_D α n) (bodyOf Try.f172) :=
  D3.OK.mk3 (f172_ents α n) (show loopsOf (bodyOf Try.f172) = [(3, (.loop ((bodyOf Try.f172).at [1, 1, 0, 1, 0, 0])))] by kernel_rfl) ⟨look_sound rfl (f172_L3_ok α n), trivial⟩
theorem f172_ok (n : Nat) : (f172_E n).Sound Try.prog :=
  fn_ok (tyOf_ok _) prog_fol (f172_D _ n) (show Try.prog.funcs[172]? = some Try.f172 by kernel_rfl) (by kernel_rfl) (show Try.f172.body = some (bodyOf Try.f172) by kernel_rfl) rfl rfl (Nat.le_of_ble_eq_true rfl) (f172_d _ n) (by intro x; kernel_rfl) 

def f173_L5B {α : Type} (n : Nat) (s0 : List Int) (s3 : Int) (s4 : Int) (f : (List Int) → Int → Int → Option α) (k0 : Int → Option α) : Option α :=
  bif (decide (s4 < (s0.length : Int))) then
    gd (decide (0 ≤ s4) && decide (s4 < (s0.length : Int))) (
      f s0 (max s3 (s0.getD s4.toNat 0)) (W (s4 + 1)))
  else
    k0 s3
abbrev f173_L5H : Tm := ⟨[(0, .d hIs), (3, .d hI), (4, .d hI)], [], [], []⟩
abbrev f173_L5X0 : Tm := ⟨[(3, .d hI)], [], [], []⟩
abbrev f173_L5O : List (Exit × Tm) := [(.exit 0, f173_L5X0)]
def f173_L5U {α : Type} (n : Nat) (v : f173_L5H.den) (f : f173_L5H.den → Option α) (ks : KS α f173_L5O) : Option α := f173_L5B n v.1.1 v.1.2.1 v.1.2.2.1 (fun s0 s3 s4 => f ((s0, s3, s4, ()), ())) (fun w0 => ks.1 ((w0, ()), ()))
def f173_L5 {α : Type} (n m : Nat) (s0 : List Int) (s3 : Int) (s4 : Int) (k0 : Int → Option α) : Option α := rounds (f173_L5U n) m ((s0, s3, s4, ()), ()) (fun w => k0 w.1.1, ())
theorem f173_L5_0 {α : Type} (n : Nat) (s0 : List Int) (s3 : Int) (s4 : Int) (k0 : Int → Option α) : f173_L5 (α := α) n 0 s0 s3 s4 k0 = none := rfl
theorem f173_L5_s {α : Type} (n m : Nat) (s0 : List Int) (s3 : Int) (s4 : Int) (k0 : Int → Option α) : f173_L5 (α := α) n (m + 1) s0 s3 s4 k0 = f173_L5B n s0 s3 s4 (fun s0 s3 s4 => f173_L5 n m s0 s3 s4 k0) k0 := rfl
def f173 (n : Nat) (a0 : List Int) : Option Int :=
  bif (decide ((a0.length : Int) < 1)) then
    none
  else
    gd (decide (0 < (a0.length : Int))) (
      f173_L5 n n a0 (a0.getD 0 0) 1
        (fun z_1 => (
          some z_1)))
def f173_E (n : Nat) : Ent := ⟨173, [hIs], [hI], fun x => f173 n x⟩
def f173_D (α : Type) (n : Nat) : D3 α := { reg := [], join := [], loop := [(5, ⟨f173_L5H, f173_L5O, rounds (f173_L5U n) n⟩)] }
theorem f173_ents (α : Type) (n : Nat) : AllS Try.prog (entsOf (f173_D α n).reg) := trivial
theorem f173_L5_d (α : Type) (n : Nat) : D3.OK Try.prog (tyOf Try.prog) ⟨25, []⟩ (f173_D α n) ((bodyOf Try.f173).at [1, 1, 1, 0, 1, 0, 0]) :=
  D3.OK.mk3 (f173_ents α n) (show loopsOf ((bodyOf Try.f173).at [1, 1, 1, 0, 1, 0, 0]) = [] by kernel_rfl) trivial
theorem f173_L5_ok (α : Type) (n : Nat) : LO.Sound (α := α) Try.prog ⟨25, []⟩ ⟨f173_L5H, f173_L5O, rounds (f173_L5U n) n⟩ (.loop ((bodyOf Try.f173).at [1, 1, 1, 0, 1, 0, 0])) :=
  loop_ok (tyOf_ok _) prog_fol (f173_L5U n) (f173_L5_d α n) (by intro v f ks; kernel_rfl) n
theorem f173_d (α : Type) (n : Nat) : D3.OK Try.prog (tyOf Try.prog) ⟨25, []⟩ (f173_D α n) (bodyOf Try.f173) :=
  D3.OK.mk3 (f173_ents α n) (show loopsOf (bodyOf Try.f173) = [(5, (.loop ((bodyOf Try.f173).at [1, 1, 1, 0, 1, 0, 0])))] by kernel_rfl) ⟨look_sound rfl (f173_L5_ok α n), trivial⟩
theorem f173_ok (n : Nat) : (f173_E n).Sound Try.prog :=
  fn_ok (tyOf_ok _) prog_fol (f173_D _ n) (show Try.prog.funcs[173]? = some Try.f173 by kernel_rfl) (by kernel_rfl) (show Try.f173.body = some (bodyOf Try.f173) by kernel_rfl) rfl rfl (Nat.le_of_ble_eq_true rfl) (f173_d _ n) (by intro x; kernel_rfl) 

def f123 (n : Nat) (a0 : List (Int × Int × Int × Int)) : Option Bool :=
  ob (f67 n (a0.length : Int) 1 60) fun r_1 =>
  bif (!r_1) then
    some false
  else
    ob (f172 n a0) fun r_2 =>
    bif r_2.2.2 then
      gd (decide (0 ≤ (W ((a0.length : Int) - 1))) && decide ((W ((a0.length : Int) - 1)) < (r_2.1.length : Int))) (
        bif ((r_2.1.getD ((W ((a0.length : Int) - 1)).toNat) 0) == 0) then
          ob (f173 n r_2.2.1) fun r_3 =>
          some (decide (r_3 ≤ 12))
        else
          some false)
    else
      some false
def f123_E (n : Nat) : Ent := ⟨123, [hE], [.bool], fun x => f123 n x⟩
def f123_D (α : Type) (n : Nat) : D3 α := { reg := [(2, ⟨0, [], [(1, { ent := some (f67_E n) })]⟩), (4, ⟨0, [], [(2, { ent := some (f172_E n) })]⟩), (5, ⟨0, [], [(11, { ent := some (f173_E n) })]⟩)], join := [], loop := [] }
theorem f123_ents (α : Type) (n : Nat) : AllS Try.prog (entsOf (f123_D α n).reg) := ⟨f67_ok n, f172_ok n, f173_ok n, trivial⟩
theorem f123_d (α : Type) (n : Nat) : D3.OK Try.prog (tyOf Try.prog) ⟨34, []⟩ (f123_D α n) (bodyOf Try.f123) :=
  D3.OK.mk3 (f123_ents α n) (show loopsOf (bodyOf Try.f123) = [] by kernel_rfl) trivial
theorem f123_ok (n : Nat) : (f123_E n).Sound Try.prog :=
  fn_ok (tyOf_ok _) prog_fol (f123_D _ n) (show Try.prog.funcs[123]? = some Try.f123 by kernel_rfl) (by kernel_rfl) (show Try.f123.body = some (bodyOf Try.f123) by kernel_rfl) rfl rfl (Nat.le_of_ble_eq_true rfl) (f123_d _ n) (by intro x; kernel_rfl) 

def f124_L3B {α : Type} (n : Nat) (s3 : Int) (s6 : List (Int × Int × Int × Int)) (s7 : Int) (s8 : Int) (f : Int → (List (Int × Int × Int × Int)) → Int → Int → Option α) (k0 : Int → Option α) : Option α :=
  bif (decide (s8 < s7)) then
    gd (decide (0 ≤ s8) && decide (s8 < (s6.length : Int))) (
      let x_1 := s6.getD s8.toNat (0, 0, 0, 0)
      bif (x_1.1 == 2) then
        f (max s3 (W (x_1.2.2.2 + 1))) s6 s7 (W (s8 + 1))
      else
        f s3 s6 s7 (W (s8 + 1)))
  else
    k0 s3
abbrev f124_L3H : Tm := ⟨[(3, .d hI), (6, .d hNs), (7, .d hI), (8, .d hI)], [], [5], []⟩
abbrev f124_L3X0 : Tm := ⟨[(3, .d hI)], [], [], []⟩
abbrev f124_L3O : List (Exit × Tm) := [(.exit 0, f124_L3X0)]
def f124_L3U {α : Type} (n : Nat) (v : f124_L3H.den) (f : f124_L3H.den → Option α) (ks : KS α f124_L3O) : Option α := f124_L3B n v.1.1 v.1.2.1 v.1.2.2.1 v.1.2.2.2.1 (fun s3 s6 s7 s8 => f ((s3, s6, s7, s8, ()), ())) (fun w0 => ks.1 ((w0, ()), ()))
def f124_L3 {α : Type} (n m : Nat) (s3 : Int) (s6 : List (Int × Int × Int × Int)) (s7 : Int) (s8 : Int) (k0 : Int → Option α) : Option α := rounds (f124_L3U n) m ((s3, s6, s7, s8, ()), ()) (fun w => k0 w.1.1, ())
theorem f124_L3_0 {α : Type} (n : Nat) (s3 : Int) (s6 : List (Int × Int × Int × Int)) (s7 : Int) (s8 : Int) (k0 : Int → Option α) : f124_L3 (α := α) n 0 s3 s6 s7 s8 k0 = none := rfl
theorem f124_L3_s {α : Type} (n m : Nat) (s3 : Int) (s6 : List (Int × Int × Int × Int)) (s7 : Int) (s8 : Int) (k0 : Int → Option α) : f124_L3 (α := α) n (m + 1) s3 s6 s7 s8 k0 = f124_L3B n s3 s6 s7 s8 (fun s3 s6 s7 s8 => f124_L3 n m s3 s6 s7 s8 k0) k0 := rfl
def f124 (n : Nat) (a0 : List (Int × Int × Int × Int)) : Option Int :=
  f124_L3 n n 0 a0 (a0.length : Int) 0
    (fun z_2 => (
      some z_2))
def f124_E (n : Nat) : Ent := ⟨124, [hNs], [hI], fun x => f124 n x⟩
def f124_D (α : Type) (n : Nat) : D3 α := { reg := [], join := [], loop := [(3, ⟨f124_L3H, f124_L3O, rounds (f124_L3U n) n⟩)] }
theorem f124_ents (α : Type) (n : Nat) : AllS Try.prog (entsOf (f124_D α n).reg) := trivial
theorem f124_L3_d (α : Type) (n : Nat) : D3.OK Try.prog (tyOf Try.prog) ⟨22, []⟩ (f124_D α n) ((bodyOf Try.f124).at [1, 1, 0, 1, 0, 0]) :=
  D3.OK.mk3 (f124_ents α n) (show loopsOf ((bodyOf Try.f124).at [1, 1, 0, 1, 0, 0]) = [] by kernel_rfl) trivial
theorem f124_L3_ok (α : Type) (n : Nat) : LO.Sound (α := α) Try.prog ⟨22, []⟩ ⟨f124_L3H, f124_L3O, rounds (f124_L3U n) n⟩ (.loop ((bodyOf Try.f124).at [1, 1, 0, 1, 0, 0])) :=
  loop_ok (tyOf_ok _) prog_fol (f124_L3U n) (f124_L3_d α n) (by intro v f ks; kernel_rfl) n
theorem f124_d (α : Type) (n : Nat) : D3.OK Try.prog (tyOf Try.prog) ⟨22, []⟩ (f124_D α n) (bodyOf Try.f124) :=
  D3.OK.mk3 (f124_ents α n) (show loopsOf (bodyOf Try.f124) = [(3, (.loop ((bodyOf Try.f124).at [1, 1, 0, 1, 0, 0])))] by kernel_rfl) ⟨look_sound rfl (f124_L3_ok α n), trivial⟩
theorem f124_ok (n : Nat) : (f124_E n).Sound Try.prog :=
  fn_ok (tyOf_ok _) prog_fol (f124_D _ n) (show Try.prog.funcs[124]? = some Try.f124 by kernel_rfl) (by kernel_rfl) (show Try.f124.body = some (bodyOf Try.f124) by kernel_rfl) rfl rfl (Nat.le_of_ble_eq_true rfl) (f124_d _ n) (by intro x; kernel_rfl) 

def f148 (n : Nat) (a0 : Bool × (List Int) × (List Int)) : Option Int :=
  ob (f135 n a0) fun r_1 =>
  bif r_1 then
    some 0
  else
    bif a0.1 then
      some (-1)
    else
      some 1
def f148_E (n : Nat) : Ent := ⟨148, [hR], [hI], fun x => f148 n x⟩
def f148_D (α : Type) (n : Nat) : D3 α := { reg := [(1, ⟨0, [], [(1, { ent := some (f135_E n) })]⟩)], join := [], loop := [] }
theorem f148_ents (α : Type) (n : Nat) : AllS Try.prog (entsOf (f148_D α n).reg) := ⟨f135_ok n, trivial⟩
theorem f148_d (α : Type) (n : Nat) : D3.OK Try.prog (tyOf Try.prog) ⟨9, []⟩ (f148_D α n) (bodyOf Try.f148) :=
  D3.OK.mk3 (f148_ents α n) (show loopsOf (bodyOf Try.f148) = [] by kernel_rfl) trivial
theorem f148_ok (n : Nat) : (f148_E n).Sound Try.prog :=
  fn_ok (tyOf_ok _) prog_fol (f148_D _ n) (show Try.prog.funcs[148]? = some Try.f148 by kernel_rfl) (by kernel_rfl) (show Try.f148.body = some (bodyOf Try.f148) by kernel_rfl) rfl rfl (Nat.le_of_ble_eq_true rfl) (f148_d _ n) (by intro x; kernel_rfl) 

def f149_L7B {α : Type} (n : Nat) (s1 : List Int) (s6 : Int) (s7 : Int) (s8 : Int) (s9 : Int) (s16 : List Int) (s17 : Int) (s18 : Int) (b15 : List Int) (f : (List Int) → Int → Int → Int → Int → (List Int) → Int → Int → (List Int) → Option α) (k0 : (List Int) → (List Int) → Int → Int → (List Int) → Option α) : Option α :=
  let J_3 := fun (_ : Unit) => (
    let J_2 := fun (y_1 : Int) => (
      gd (decide (0 ≤ (W (s6 + s9))) && decide ((W (s6 + s9)) < (b15.length : Int))) (
        gd (decide ((W (s6 + s9)).toNat < b15.length)) (
          gd (decide (0 ≤ (W (s6 + s9))) && decide ((W (s6 + s9)) < (b15.length : Int))) (
            gd (decide ((W (s6 + s9)).toNat < b15.length)) (
              f s1 s6 s7 (W (Int.tdiv (W (y_1 + (b15.getD ((W (s6 + s9)).toNat) 0))) 10000)) (W (s9 + 1)) s16 s17 s18 (b15.set ((W (s6 + s9)).toNat) (Int.tmod (W (y_1 + (b15.getD ((W (s6 + s9)).toNat) 0))) 10000)))))))
    bif (decide (s9 < (s1.length : Int))) then
      gd (decide (0 ≤ s9) && decide (s9 < (s1.length : Int))) (
        J_2 (W (s8 + (W (s7 * (s1.getD s9.toNat 0))))))
    else
      J_2 s8)
  bif (decide (s9 < (s1.length : Int))) then
    J_3 ()
  else
    bif (decide (s8 > 0)) then
      J_3 ()
    else
      k0 s1 s16 s17 s18 b15
abbrev f149_L7H : Tm := ⟨[(1, .d hIs), (5, .k (.hw 15)), (6, .d hI), (7, .d hI), (8, .d hI), (9, .d hI), (16, .d hIs), (17, .d hI), (18, .d hI)], [(15, .arr 3 hI false)], [], []⟩
abbrev f149_L7X0 : Tm := ⟨[(1, .d hIs), (5, .k (.hw 15)), (16, .d hIs), (17, .d hI), (18, .d hI)], [(15, .arr 3 hI false)], [], []⟩
abbrev f149_L7O : List (Exit × Tm) := [(.exit 2, f149_L7X0)]
def f149_L7U {α : Type} (n : Nat) (v : f149_L7H.den) (f : f149_L7H.den → Option α) (ks : KS α f149_L7O) : Option α := f149_L7B n v.1.1 v.1.2.2.1 v.1.2.2.2.1 v.1.2.2.2.2.1 v.1.2.2.2.2.2.1 v.1.2.2.2.2.2.2.1 v.1.2.2.2.2.2.2.2.1 v.1.2.2.2.2.2.2.2.2.1 v.2.1 (fun s1 s6 s7 s8 s9 s16 s17 s18 b15 => f ((s1, (), s6, s7, s8, s9, s16, s17, s18, ()), (b15, ()))) (fun w0 w1 w2 w3 w4 => ks.1 ((w0, (), w1, w2, w3, ()), (w4, ())))
def f149_L7 {α : Type} (n m : Nat) (s1 : List Int) (s6 : Int) (s7 : Int) (s8 : Int) (s9 : Int) (s16 : List Int) (s17 : Int) (s18 : Int) (b15 : List Int) (k0 : (List Int) → (List Int) → Int → Int → (List Int) → Option α) : Option α := rounds (f149_L7U n) m ((s1, (), s6, s7, s8, s9, s16, s17, s18, ()), (b15, ())) (fun w => k0 w.1.1 w.1.2.2.1 w.1.2.2.2.1 w.1.2.2.2.2.1 w.2.1, ())
theorem f149_L7_0 {α : Type} (n : Nat) (s1 : List Int) (s6 : Int) (s7 : Int) (s8 : Int) (s9 : Int) (s16 : List Int) (s17 : Int) (s18 : Int) (b15 : List Int) (k0 : (List Int) → (List Int) → Int → Int → (List Int) → Option α) : f149_L7 (α := α) n 0 s1 s6 s7 s8 s9 s16 s17 s18 b15 k0 = none := rfl
theorem f149_L7_s {α : Type} (n m : Nat) (s1 : List Int) (s6 : Int) (s7 : Int) (s8 : Int) (s9 : Int) (s16 : List Int) (s17 : Int) (s18 : Int) (b15 : List Int) (k0 : (List Int) → (List Int) → Int → Int → (List Int) → Option α) : f149_L7 (α := α) n (m + 1) s1 s6 s7 s8 s9 s16 s17 s18 b15 k0 = f149_L7B n s1 s6 s7 s8 s9 s16 s17 s18 b15 (fun s1 s6 s7 s8 s9 s16 s17 s18 b15 => f149_L7 n m s1 s6 s7 s8 s9 s16 s17 s18 b15 k0) k0 := rfl
def f149_L3B {α : Type} (n : Nat) (s1 : List Int) (s16 : List Int) (s17 : Int) (s18 : Int) (b15 : List Int) (f : (List Int) → (List Int) → Int → Int → (List Int) → Option α) (k0 : (List Int) → Option α) : Option α :=
  bif (decide (s18 < s17)) then
    gd (decide (0 ≤ s18) && decide (s18 < (s16.length : Int))) (
      f149_L7 n n s1 s18 (s16.getD s18.toNat 0) 0 0 s16 s17 s18 b15
        (fun z_1 z_2 z_3 z_4 z_5 => (
          f z_1 z_2 z_3 (W (z_4 + 1)) z_5)))
  else
    k0 b15
abbrev f149_L3H : Tm := ⟨[(1, .d hIs), (5, .k (.hw 15)), (16, .d hIs), (17, .d hI), (18, .d hI)], [(15, .arr 3 hI false)], [], []⟩
abbrev f149_L3X0 : Tm := ⟨[(5, .k (.hw 15))], [(15, .arr 3 hI false)], [], []⟩
abbrev f149_L3O : List (Exit × Tm) := [(.exit 0, f149_L3X0)]
def f149_L3U {α : Type} (n : Nat) (v : f149_L3H.den) (f : f149_L3H.den → Option α) (ks : KS α f149_L3O) : Option α := f149_L3B n v.1.1 v.1.2.2.1 v.1.2.2.2.1 v.1.2.2.2.2.1 v.2.1 (fun s1 s16 s17 s18 b15 => f ((s1, (), s16, s17, s18, ()), (b15, ()))) (fun w0 => ks.1 (((), ()), (w0, ())))
def f149_L3 {α : Type} (n m : Nat) (s1 : List Int) (s16 : List Int) (s17 : Int) (s18 : Int) (b15 : List Int) (k0 : (List Int) → Option α) : Option α := rounds (f149_L3U n) m ((s1, (), s16, s17, s18, ()), (b15, ())) (fun w => k0 w.2.1, ())
theorem f149_L3_0 {α : Type} (n : Nat) (s1 : List Int) (s16 : List Int) (s17 : Int) (s18 : Int) (b15 : List Int) (k0 : (List Int) → Option α) : f149_L3 (α := α) n 0 s1 s16 s17 s18 b15 k0 = none := rfl
theorem f149_L3_s {α : Type} (n m : Nat) (s1 : List Int) (s16 : List Int) (s17 : Int) (s18 : Int) (b15 : List Int) (k0 : (List Int) → Option α) : f149_L3 (α := α) n (m + 1) s1 s16 s17 s18 b15 k0 = f149_L3B n s1 s16 s17 s18 b15 (fun s1 s16 s17 s18 b15 => f149_L3 n m s1 s16 s17 s18 b15 k0) k0 := rfl
abbrev f149_J9 : Tm := ⟨[(1, .d hIs), (5, .k (.hw 15)), (6, .d hI), (7, .d hI), (8, .d hI), (9, .d hI), (16, .d hIs), (17, .d hI), (18, .d hI)], [(15, .arr 3 hI false)], [], []⟩
abbrev f149_J11 : Tm := ⟨[(1, .d hIs), (5, .k (.hw 15)), (6, .d hI), (7, .d hI), (8, .d hI), (9, .d hI), (16, .d hIs), (17, .d hI), (18, .d hI)], [(15, .arr 3 hI false)], [], []⟩
def f149 (n : Nat) (a0 : List Int) (a1 : List Int) : Option (List Int) :=
  gd (decide (0 ≤ (W ((a0.length : Int) + (a1.length : Int)))) && decide ((W ((a0.length : Int) + (a1.length : Int))) ≤ 4611686018427387904) && decide ((8 : Int) * (W ((a0.length : Int) + (a1.length : Int))) ≤ 281474976710656)) (
    f149_L3 n n a1 a0 (a0.length : Int) 0 (List.replicate ((W ((a0.length : Int) + (a1.length : Int))).toNat) 0)
      (fun z_6 => (
        ob (f186 n z_6) fun r_7 =>
        some r_7)))
def f149_E (n : Nat) : Ent := ⟨149, [hIs, hIs], [hIs], fun x => f149 n x.1 x.2⟩
def f149_D (α : Type) (n : Nat) : D3 α := { reg := [(14, ⟨0, [], [(1, { ent := some (f186_E n), fz := [(63, hIs)] })]⟩)], join := [(9, f149_J9), (11, f149_J11)], loop := [(7, ⟨f149_L7H, f149_L7O, rounds (f149_L7U n) n⟩), (3, ⟨f149_L3H, f149_L3O, rounds (f149_L3U n) n⟩)] }
theorem f149_ents (α : Type) (n : Nat) : AllS Try.prog (entsOf (f149_D α n).reg) := ⟨f186_ok n, trivial⟩
theorem f149_L7_d (α : Type) (n : Nat) : D3.OK Try.prog (tyOf Try.prog) ⟨65, []⟩ (f149_D α n) ((bodyOf Try.f149).at [1, 1, 0, 1, 0, 0, 1, 1, 0, 0, 1, 1, 1, 0, 0]) :=
  D3.OK.mk3 (f149_ents α n) (show loopsOf ((bodyOf Try.f149).at [1, 1, 0, 1, 0, 0, 1, 1, 0, 0, 1, 1, 1, 0, 0]) = [] by kernel_rfl) trivial
theorem f149_L7_ok (α : Type) (n : Nat) : LO.Sound (α := α) Try.prog ⟨65, []⟩ ⟨f149_L7H, f149_L7O, rounds (f149_L7U n) n⟩ (.loop ((bodyOf Try.f149).at [1, 1, 0, 1, 0, 0, 1, 1, 0, 0, 1, 1, 1, 0, 0])) :=
  loop_ok (tyOf_ok _) prog_fol (f149_L7U n) (f149_L7_d α n) (by intro v f ks; kernel_rfl) n
theorem f149_L3_d (α : Type) (n : Nat) : D3.OK Try.prog (tyOf Try.prog) ⟨65, []⟩ (f149_D α n) ((bodyOf Try.f149).at [1, 1, 0, 1, 0, 0]) :=
  D3.OK.mk3 (f149_ents α n) (show loopsOf ((bodyOf Try.f149).at [1, 1, 0, 1, 0, 0]) = [(7, (.loop ((bodyOf Try.f149).at [1, 1, 0, 1, 0, 0, 1, 1, 0, 0, 1, 1, 1, 0, 0])))] by kernel_rfl) ⟨look_sound rfl (f149_L7_ok α n), trivial⟩
theorem f149_L3_ok (α : Type) (n : Nat) : LO.Sound (α := α) Try.prog ⟨65, []⟩ ⟨f149_L3H, f149_L3O, rounds (f149_L3U n) n⟩ (.loop ((bodyOf Try.f149).at [1, 1, 0, 1, 0, 0])) :=
  loop_ok (tyOf_ok _) prog_fol (f149_L3U n) (f149_L3_d α n) (by intro v f ks; kernel_rfl) n
theorem f149_d (α : Type) (n : Nat) : D3.OK Try.prog (tyOf Try.prog) ⟨65, []⟩ (f149_D α n) (bodyOf Try.f149) :=
  D3.OK.mk3 (f149_ents α n) (show loopsOf (bodyOf Try.f149) = [(3, (.loop ((bodyOf Try.f149).at [1, 1, 0, 1, 0, 0])))] by kernel_rfl) ⟨look_sound rfl (f149_L3_ok α n), trivial⟩
theorem f149_ok (n : Nat) : (f149_E n).Sound Try.prog :=
  fn_ok (tyOf_ok _) prog_fol (f149_D _ n) (show Try.prog.funcs[149]? = some Try.f149 by kernel_rfl) (by kernel_rfl) (show Try.f149.body = some (bodyOf Try.f149) by kernel_rfl) rfl rfl (Nat.le_of_ble_eq_true rfl) (f149_d _ n) (by intro x; kernel_rfl) 

def f86 (n : Nat) (a0 : Bool × (List Int) × (List Int)) (a1 : Bool × (List Int) × (List Int)) : Option Int :=
  ob (f148 n a0) fun r_1 =>
  ob (f148 n a1) fun r_2 =>
  bif (r_1 != r_2) then
    ob (f148 n a0) fun r_3 =>
    ob (f148 n a1) fun r_4 =>
    some (W (r_3 - r_4))
  else
    ob (f149 n a0.2.1 a1.2.2) fun r_5 =>
    ob (f149 n a1.2.1 a0.2.2) fun r_6 =>
    ob (f136 n r_5 r_6) fun r_7 =>
    bif a0.1 then
      some (W (0 - r_7))
    else
      some r_7
def f86_E (n : Nat) : Ent := ⟨86, [hR, hR], [hI], fun x => f86 n x.1 x.2⟩
def f86_D (α : Type) (n : Nat) : D3 α := { reg := [(1, ⟨3, [], [(1, { ent := some (f148_E n) }), (3, { ent := some (f148_E n) })]⟩), (2, ⟨3, [], [(1, { ent := some (f148_E n) }), (3, { ent := some (f148_E n) })]⟩), (3, ⟨9, [], [(4, { ent := some (f149_E n) }), (9, { ent := some (f149_E n) }), (10, { ent := some (f136_E n) })]⟩)], join := [], loop := [] }
theorem f86_ents (α : Type) (n : Nat) : AllS Try.prog (entsOf (f86_D α n).reg) := ⟨f148_ok n, f148_ok n, f148_ok n, f148_ok n, f149_ok n, f149_ok n, f136_ok n, trivial⟩
theorem f86_d (α : Type) (n : Nat) : D3.OK Try.prog (tyOf Try.prog) ⟨32, []⟩ (f86_D α n) (bodyOf Try.f86) :=
  D3.OK.mk3 (f86_ents α n) (show loopsOf (bodyOf Try.f86) = [] by kernel_rfl) trivial
theorem f86_ok (n : Nat) : (f86_E n).Sound Try.prog :=
  fn_ok (tyOf_ok _) prog_fol (f86_D _ n) (show Try.prog.funcs[86]? = some Try.f86 by kernel_rfl) (by kernel_rfl) (show Try.f86.body = some (bodyOf Try.f86) by kernel_rfl) rfl rfl (Nat.le_of_ble_eq_true rfl) (f86_d _ n) (by intro x; kernel_rfl) 

def f114_L2B {α : Type} (n : Nat) (s1 : List (Bool × (List Int) × (List Int))) (s7 : List (Bool × (List Int) × (List Int))) (s8 : Int) (s9 : Int) (f : (List (Bool × (List Int) × (List Int))) → (List (Bool × (List Int) × (List Int))) → Int → Int → Option α) (k0 : Bool → Option α) (k1 : Unit → Option α) : Option α :=
  bif (decide (s9 < s8)) then
    gd (decide (0 ≤ s9) && decide (s9 < (s7.length : Int))) (
      let x_1 := s7.getD s9.toNat (false, [], [])
      gd (decide (0 ≤ s9) && decide (s9 < (s1.length : Int))) (
        let x_2 := s1.getD s9.toNat (false, [], [])
        ob (f86 n x_1 x_2) fun r_3 =>
        bif (decide (r_3 > 0)) then
          k0 false
        else
          f s1 s7 s8 (W (s9 + 1))))
  else
    k1 ()
abbrev f114_L2H : Tm := ⟨[(1, .d hRs), (7, .d hRs), (8, .d hI), (9, .d hI)], [], [6], []⟩
abbrev f114_L2X0 : Tm := ⟨[(4, .d .bool)], [], [6], []⟩
abbrev f114_L2X1 : Tm := ⟨[], [], [], []⟩
abbrev f114_L2O : List (Exit × Tm) := [(.ret, f114_L2X0), (.exit 0, f114_L2X1)]
def f114_L2U {α : Type} (n : Nat) (v : f114_L2H.den) (f : f114_L2H.den → Option α) (ks : KS α f114_L2O) : Option α := f114_L2B n v.1.1 v.1.2.1 v.1.2.2.1 v.1.2.2.2.1 (fun s1 s7 s8 s9 => f ((s1, s7, s8, s9, ()), ())) (fun w0 => ks.1 ((w0, ()), ())) (fun _ => ks.2.1 ((), ()))
def f114_L2 {α : Type} (n m : Nat) (s1 : List (Bool × (List Int) × (List Int))) (s7 : List (Bool × (List Int) × (List Int))) (s8 : Int) (s9 : Int) (k0 : Bool → Option α) (k1 : Unit → Option α) : Option α := rounds (f114_L2U n) m ((s1, s7, s8, s9, ()), ()) (fun w => k0 w.1.1, fun w => k1 (), ())
theorem f114_L2_0 {α : Type} (n : Nat) (s1 : List (Bool × (List Int) × (List Int))) (s7 : List (Bool × (List Int) × (List Int))) (s8 : Int) (s9 : Int) (k0 : Bool → Option α) (k1 : Unit → Option α) : f114_L2 (α := α) n 0 s1 s7 s8 s9 k0 k1 = none := rfl
theorem f114_L2_s {α : Type} (n m : Nat) (s1 : List (Bool × (List Int) × (List Int))) (s7 : List (Bool × (List Int) × (List Int))) (s8 : Int) (s9 : Int) (k0 : Bool → Option α) (k1 : Unit → Option α) : f114_L2 (α := α) n (m + 1) s1 s7 s8 s9 k0 k1 = f114_L2B n s1 s7 s8 s9 (fun s1 s7 s8 s9 => f114_L2 n m s1 s7 s8 s9 k0 k1) k0 k1 := rfl
def f114 (n : Nat) (a0 : List (Bool × (List Int) × (List Int))) (a1 : List (Bool × (List Int) × (List Int))) : Option Bool :=
  f114_L2 n n a1 a0 (a0.length : Int) 0
    (fun z_4 => (
      some z_4))
    (fun (_ : Unit) => (
      some true))
def f114_E (n : Nat) : Ent := ⟨114, [hRs, hRs], [.bool], fun x => f114 n x.1 x.2⟩
def f114_D (α : Type) (n : Nat) : D3 α := { reg := [(4, ⟨5, [], [(5, { ent := some (f86_E n) })]⟩)], join := [], loop := [(2, ⟨f114_L2H, f114_L2O, rounds (f114_L2U n) n⟩)] }
theorem f114_ents (α : Type) (n : Nat) : AllS Try.prog (entsOf (f114_D α n).reg) := ⟨f86_ok n, trivial⟩
theorem f114_L2_d (α : Type) (n : Nat) : D3.OK Try.prog (tyOf Try.prog) ⟨22, []⟩ (f114_D α n) ((bodyOf Try.f114).at [1, 0, 1, 0, 0]) :=
  D3.OK.mk3 (f114_ents α n) (show loopsOf ((bodyOf Try.f114).at [1, 0, 1, 0, 0]) = [] by kernel_rfl) trivial
theorem f114_L2_ok (α : Type) (n : Nat) : LO.Sound (α := α) Try.prog ⟨22, []⟩ ⟨f114_L2H, f114_L2O, rounds (f114_L2U n) n⟩ (.loop ((bodyOf Try.f114).at [1, 0, 1, 0, 0])) :=
  loop_ok (tyOf_ok _) prog_fol (f114_L2U n) (f114_L2_d α n) (by intro v f ks; kernel_rfl) n
theorem f114_d (α : Type) (n : Nat) : D3.OK Try.prog (tyOf Try.prog) ⟨22, []⟩ (f114_D α n) (bodyOf Try.f114) :=
  D3.OK.mk3 (f114_ents α n) (show loopsOf (bodyOf Try.f114) = [(2, (.loop ((bodyOf Try.f114).at [1, 0, 1, 0, 0])))] by kernel_rfl) ⟨look_sound rfl (f114_L2_ok α n), trivial⟩
theorem f114_ok (n : Nat) : (f114_E n).Sound Try.prog :=
  fn_ok (tyOf_ok _) prog_fol (f114_D _ n) (show Try.prog.funcs[114]? = some Try.f114 by kernel_rfl) (by kernel_rfl) (show Try.f114.body = some (bodyOf Try.f114) by kernel_rfl) rfl rfl (Nat.le_of_ble_eq_true rfl) (f114_d _ n) (by intro x; kernel_rfl) 

abbrev f63_J7 : Tm := ⟨[(1, .k (.hp 1 0 0))], [(1, .var 83 true false [.d hNs, .d hRs, .d hRs, .d hRs, .d hI, .d .bool, .d hIs, .d hIs, .d hI, .d hI])], [], []⟩
def f63 (n : Nat) (a0 : (List (Int × Int × Int × Int)) × (List (Bool × (List Int) × (List Int))) × (List (Bool × (List Int) × (List Int))) × (List (Bool × (List Int) × (List Int))) × Int × (Bool × (List Int) × (List Int)) × Int × Int) : Option Bool :=
  ob (f123 n a0.1) fun r_1 =>
  bif (!r_1) then
    some false
  else
    ob (f110 n a0.2.1) fun r_2 =>
    bif (!r_2) then
      some false
    else
      ob (f124 n a0.1) fun r_3 =>
      bif (decide ((a0.2.1.length : Int) < r_3)) then
        some false
      else
        ob (f67 n a0.2.2.2.2.1 1 4) fun r_4 =>
        bif (!r_4) then
          some false
        else
          ob (f78 n a0.2.2.2.2.2.1) fun r_5 =>
          bif (!r_5) then
            some false
          else
            bif a0.2.2.2.2.2.1.1 then
              some false
            else
              ob (f67 n a0.2.2.2.2.2.2.1 0 6) fun r_6 =>
              bif (!r_6) then
                some false
              else
                ob (f67 n a0.2.2.2.2.2.2.2 0 30) fun r_7 =>
                bif (!r_7) then
                  some false
                else
                  let J_11 := fun (_ : Unit) => (
                    ob (f77 n [a0.2.1, a0.2.2.1, a0.2.2.2.1]) fun r_8 =>
                    bif (r_8 == 0) then
                      ob (f114 n a0.2.2.1 a0.2.1) fun r_9 =>
                      bif r_9 then
                        ob (f114 n a0.2.1 a0.2.2.2.1) fun r_10 =>
                        some r_10
                      else
                        some false
                    else
                      some false)
                  bif ((a0.2.2.1.length : Int) == 0) then
                    bif ((a0.2.2.2.1.length : Int) == 0) then
                      some true
                    else
                      J_11 ()
                  else
                    J_11 ()
def f63_E (n : Nat) : Ent := ⟨63, [(.st (.pair hE (.pair hRs (.pair hRs (.pair hRs (.pair hI (.pair hR (.pair hI hI))))))))], [.bool], fun x => f63 n x⟩
def f63_D (α : Type) (n : Nat) : D3 α := { reg := [(1, ⟨18, [], [(2, { ent := some (f123_E n) }), (7, { ent := some (f110_E n) }), (17, { ent := some (f124_E n) }), (23, { ent := some (f67_E n) })]⟩), (3, ⟨0, [], [(2, { ent := some (f78_E n) }), (12, { ent := some (f67_E n) }), (18, { ent := some (f67_E n) })]⟩), (7, ⟨0, [], [(6, { sh := some hRs }), (7, { ent := some (f77_E n) }), (14, { ent := some (f114_E n) }), (21, { ent := some (f114_E n) })]⟩)], join := [(7, f63_J7)], loop := [] }
theorem f63_ents (α : Type) (n : Nat) : AllS Try.prog (entsOf (f63_D α n).reg) := ⟨f123_ok n, f110_ok n, f124_ok n, f67_ok n, f78_ok n, f67_ok n, f67_ok n, f77_ok n, f114_ok n, f114_ok n, trivial⟩
theorem f63_d (α : Type) (n : Nat) : D3.OK Try.prog (tyOf Try.prog) ⟨83, []⟩ (f63_D α n) (bodyOf Try.f63) :=
  D3.OK.mk3 (f63_ents α n) (show loopsOf (bodyOf Try.f63) = [] by kernel_rfl) trivial
theorem f63_ok (n : Nat) : (f63_E n).Sound Try.prog :=
  fn_ok (tyOf_ok _) prog_fol (f63_D _ n) (show Try.prog.funcs[63]? = some Try.f63 by kernel_rfl) (by kernel_rfl) (show Try.f63.body = some (bodyOf Try.f63) by kernel_rfl) rfl rfl (Nat.le_of_ble_eq_true rfl) (f63_d _ n) (by intro x; kernel_rfl) 

def f194 (n : Nat) (a0 : Int × Int × Int × Int) (a1 : Int × Int × Int × Int) : Option Bool :=
  bif (a0.1 != a1.1) then
    some false
  else
    bif (a0.2.1 != a1.2.1) then
      some false
    else
      bif (a0.2.2.1 != a1.2.2.1) then
        some false
      else
        bif (a0.2.2.2 != a1.2.2.2) then
          some false
        else
          some true
def f194_E (n : Nat) : Ent := ⟨194, [hN, hN], [.bool], fun x => f194 n x.1 x.2⟩
def f194_D (α : Type) (n : Nat) : D3 α := { reg := [], join := [], loop := [] }
theorem f194_ents (α : Type) (n : Nat) : AllS Try.prog (entsOf (f194_D α n).reg) := trivial
theorem f194_d (α : Type) (n : Nat) : D3.OK Try.prog (tyOf Try.prog) ⟨25, []⟩ (f194_D α n) (bodyOf Try.f194) :=
  D3.OK.mk3 (f194_ents α n) (show loopsOf (bodyOf Try.f194) = [] by kernel_rfl) trivial
theorem f194_ok (n : Nat) : (f194_E n).Sound Try.prog :=
  fn_ok (tyOf_ok _) prog_fol (f194_D _ n) (show Try.prog.funcs[194]? = some Try.f194 by kernel_rfl) (by kernel_rfl) (show Try.f194.body = some (bodyOf Try.f194) by kernel_rfl) rfl rfl (Nat.le_of_ble_eq_true rfl) (f194_d _ n) (by intro x; kernel_rfl) 

def f174_L4B {α : Type} (n : Nat) (s0 : List (Int × Int × Int × Int)) (s1 : List (Int × Int × Int × Int)) (s5 : Int) (f : (List (Int × Int × Int × Int)) → (List (Int × Int × Int × Int)) → Int → Option α) (k0 : Bool → Option α) (k1 : Unit → Option α) : Option α :=
  bif (decide (s5 < (s0.length : Int))) then
    gd (decide (0 ≤ s5) && decide (s5 < (s0.length : Int))) (
      let x_1 := s0.getD s5.toNat (0, 0, 0, 0)
      gd (decide (0 ≤ s5) && decide (s5 < (s1.length : Int))) (
        let x_2 := s1.getD s5.toNat (0, 0, 0, 0)
        ob (f194 n x_1 x_2) fun r_3 =>
        bif (!r_3) then
          k0 false
        else
          f s0 s1 (W (s5 + 1))))
  else
    k1 ()
abbrev f174_L4H : Tm := ⟨[(0, .d hNs), (1, .d hNs), (5, .d hI)], [], [], []⟩
abbrev f174_L4X0 : Tm := ⟨[(4, .d .bool)], [], [], []⟩
abbrev f174_L4X1 : Tm := ⟨[], [], [], []⟩
abbrev f174_L4O : List (Exit × Tm) := [(.ret, f174_L4X0), (.exit 0, f174_L4X1)]
def f174_L4U {α : Type} (n : Nat) (v : f174_L4H.den) (f : f174_L4H.den → Option α) (ks : KS α f174_L4O) : Option α := f174_L4B n v.1.1 v.1.2.1 v.1.2.2.1 (fun s0 s1 s5 => f ((s0, s1, s5, ()), ())) (fun w0 => ks.1 ((w0, ()), ())) (fun _ => ks.2.1 ((), ()))
def f174_L4 {α : Type} (n m : Nat) (s0 : List (Int × Int × Int × Int)) (s1 : List (Int × Int × Int × Int)) (s5 : Int) (k0 : Bool → Option α) (k1 : Unit → Option α) : Option α := rounds (f174_L4U n) m ((s0, s1, s5, ()), ()) (fun w => k0 w.1.1, fun w => k1 (), ())
theorem f174_L4_0 {α : Type} (n : Nat) (s0 : List (Int × Int × Int × Int)) (s1 : List (Int × Int × Int × Int)) (s5 : Int) (k0 : Bool → Option α) (k1 : Unit → Option α) : f174_L4 (α := α) n 0 s0 s1 s5 k0 k1 = none := rfl
theorem f174_L4_s {α : Type} (n m : Nat) (s0 : List (Int × Int × Int × Int)) (s1 : List (Int × Int × Int × Int)) (s5 : Int) (k0 : Bool → Option α) (k1 : Unit → Option α) : f174_L4 (α := α) n (m + 1) s0 s1 s5 k0 k1 = f174_L4B n s0 s1 s5 (fun s0 s1 s5 => f174_L4 n m s0 s1 s5 k0 k1) k0 k1 := rfl
def f174 (n : Nat) (a0 : List (Int × Int × Int × Int)) (a1 : List (Int × Int × Int × Int)) : Option Bool :=
  bif ((a0.length : Int) != (a1.length : Int)) then
    some false
  else
    f174_L4 n n a0 a1 0
      (fun z_4 => (
        some z_4))
      (fun (_ : Unit) => (
        some true))
def f174_E (n : Nat) : Ent := ⟨174, [hNs, hNs], [.bool], fun x => f174 n x.1 x.2⟩
def f174_D (α : Type) (n : Nat) : D3 α := { reg := [(6, ⟨8, [], [(8, { ent := some (f194_E n) })]⟩)], join := [], loop := [(4, ⟨f174_L4H, f174_L4O, rounds (f174_L4U n) n⟩)] }
theorem f174_ents (α : Type) (n : Nat) : AllS Try.prog (entsOf (f174_D α n).reg) := ⟨f194_ok n, trivial⟩
theorem f174_L4_d (α : Type) (n : Nat) : D3.OK Try.prog (tyOf Try.prog) ⟨27, []⟩ (f174_D α n) ((bodyOf Try.f174).at [1, 1, 0, 1, 0, 0]) :=
  D3.OK.mk3 (f174_ents α n) (show loopsOf ((bodyOf Try.f174).at [1, 1, 0, 1, 0, 0]) = [] by kernel_rfl) trivial
theorem f174_L4_ok (α : Type) (n : Nat) : LO.Sound (α := α) Try.prog ⟨27, []⟩ ⟨f174_L4H, f174_L4O, rounds (f174_L4U n) n⟩ (.loop ((bodyOf Try.f174).at [1, 1, 0, 1, 0, 0])) :=
  loop_ok (tyOf_ok _) prog_fol (f174_L4U n) (f174_L4_d α n) (by intro v f ks; kernel_rfl) n
theorem f174_d (α : Type) (n : Nat) : D3.OK Try.prog (tyOf Try.prog) ⟨27, []⟩ (f174_D α n) (bodyOf Try.f174) :=
  D3.OK.mk3 (f174_ents α n) (show loopsOf (bodyOf Try.f174) = [(4, (.loop ((bodyOf Try.f174).at [1, 1, 0, 1, 0, 0])))] by kernel_rfl) ⟨look_sound rfl (f174_L4_ok α n), trivial⟩
theorem f174_ok (n : Nat) : (f174_E n).Sound Try.prog :=
  fn_ok (tyOf_ok _) prog_fol (f174_D _ n) (show Try.prog.funcs[174]? = some Try.f174 by kernel_rfl) (by kernel_rfl) (show Try.f174.body = some (bodyOf Try.f174) by kernel_rfl) rfl rfl (Nat.le_of_ble_eq_true rfl) (f174_d _ n) (by intro x; kernel_rfl) 

def f125 (n : Nat) (a0 : List (Int × Int × Int × Int)) (a1 : List (Int × Int × Int × Int)) : Option Bool :=
  ob (f174 n a0 a1) fun r_1 =>
  bif (!r_1) then
    some false
  else
    some true
def f125_E (n : Nat) : Ent := ⟨125, [hE, hE], [.bool], fun x => f125 n x.1 x.2⟩
def f125_D (α : Type) (n : Nat) : D3 α := { reg := [(1, ⟨0, [], [(4, { ent := some (f174_E n) })]⟩)], join := [], loop := [] }
theorem f125_ents (α : Type) (n : Nat) : AllS Try.prog (entsOf (f125_D α n).reg) := ⟨f174_ok n, trivial⟩
theorem f125_d (α : Type) (n : Nat) : D3.OK Try.prog (tyOf Try.prog) ⟨11, []⟩ (f125_D α n) (bodyOf Try.f125) :=
  D3.OK.mk3 (f125_ents α n) (show loopsOf (bodyOf Try.f125) = [] by kernel_rfl) trivial
theorem f125_ok (n : Nat) : (f125_E n).Sound Try.prog :=
  fn_ok (tyOf_ok _) prog_fol (f125_D _ n) (show Try.prog.funcs[125]? = some Try.f125 by kernel_rfl) (by kernel_rfl) (show Try.f125.body = some (bodyOf Try.f125) by kernel_rfl) rfl rfl (Nat.le_of_ble_eq_true rfl) (f125_d _ n) (by intro x; kernel_rfl) 

def f64 (n : Nat) (a0 : (List (Int × Int × Int × Int)) × (List (Bool × (List Int) × (List Int))) × (List (Bool × (List Int) × (List Int))) × (List (Bool × (List Int) × (List Int))) × Int × (Bool × (List Int) × (List Int)) × Int × Int) (a1 : (List (Int × Int × Int × Int)) × (List (Bool × (List Int) × (List Int))) × (List (Bool × (List Int) × (List Int))) × (List (Bool × (List Int) × (List Int))) × Int × (Bool × (List Int) × (List Int)) × Int × Int) : Option Bool :=
  ob (f125 n a0.1 a1.1) fun r_1 =>
  bif (!r_1) then
    some false
  else
    ob (f19 n a0.2.1 a1.2.1) fun r_2 =>
    bif (!r_2) then
      some false
    else
      ob (f19 n a0.2.2.1 a1.2.2.1) fun r_3 =>
      bif (!r_3) then
        some false
      else
        ob (f19 n a0.2.2.2.1 a1.2.2.2.1) fun r_4 =>
        bif (!r_4) then
          some false
        else
          bif (a0.2.2.2.2.1 != a1.2.2.2.2.1) then
            some false
          else
            ob (f24 n a0.2.2.2.2.2.1 a1.2.2.2.2.2.1) fun r_5 =>
            bif (!r_5) then
              some false
            else
              bif (a0.2.2.2.2.2.2.1 != a1.2.2.2.2.2.2.1) then
                some false
              else
                bif (a0.2.2.2.2.2.2.2 != a1.2.2.2.2.2.2.2) then
                  some false
                else
                  some true
def f64_E (n : Nat) : Ent := ⟨64, [(.st (.pair hE (.pair hRs (.pair hRs (.pair hRs (.pair hI (.pair hR (.pair hI hI)))))))), (.st (.pair hE (.pair hRs (.pair hRs (.pair hRs (.pair hI (.pair hR (.pair hI hI))))))))], [.bool], fun x => f64 n x.1 x.2⟩
def f64_D (α : Type) (n : Nat) : D3 α := { reg := [(1, ⟨0, [], [(4, { ent := some (f125_E n) })]⟩), (3, ⟨0, [], [(4, { ent := some (f19_E n) })]⟩), (5, ⟨0, [], [(4, { ent := some (f19_E n) })]⟩), (7, ⟨0, [], [(4, { ent := some (f19_E n) })]⟩), (11, ⟨0, [], [(4, { ent := some (f24_E n) })]⟩)], join := [], loop := [] }
theorem f64_ents (α : Type) (n : Nat) : AllS Try.prog (entsOf (f64_D α n).reg) := ⟨f125_ok n, f19_ok n, f19_ok n, f19_ok n, f24_ok n, trivial⟩
theorem f64_d (α : Type) (n : Nat) : D3.OK Try.prog (tyOf Try.prog) ⟨50, []⟩ (f64_D α n) (bodyOf Try.f64) :=
  D3.OK.mk3 (f64_ents α n) (show loopsOf (bodyOf Try.f64) = [] by kernel_rfl) trivial
theorem f64_ok (n : Nat) : (f64_E n).Sound Try.prog :=
  fn_ok (tyOf_ok _) prog_fol (f64_D _ n) (show Try.prog.funcs[64]? = some Try.f64 by kernel_rfl) (by kernel_rfl) (show Try.f64.body = some (bodyOf Try.f64) by kernel_rfl) rfl rfl (Nat.le_of_ble_eq_true rfl) (f64_d _ n) (by intro x; kernel_rfl) 

def f14 (n : Nat) (a0 : (List (Int × Int × Int × Int)) × (List (Bool × (List Int) × (List Int))) × (List (Bool × (List Int) × (List Int))) × (List (Bool × (List Int) × (List Int))) × Int × (Bool × (List Int) × (List Int)) × Int × Int) : Option Bool :=
  ob (f60 n a0 1048576) fun r_1 =>
  bif (decide (r_1 < 0)) then
    some true
  else
    ob (f62 n a0) fun r_2 =>
    ob (f61 n r_2) fun r_3 =>
    ob (f62 n a0) fun r_4 =>
    ob (f63 n r_4) fun r_5 =>
    bif (!(r_5 == r_3)) then
      some false
    else
      ob (f62 n a0) fun r_6 =>
      ob (f64 n r_4 r_6) fun r_7 =>
      bif (!r_7) then
        some false
      else
        some true
def f14_E (n : Nat) : Ent := ⟨14, [(.st (.pair hE (.pair hRs (.pair hRs (.pair hRs (.pair hI (.pair hR (.pair hI hI))))))))], [.bool], fun x => f14 n x⟩
def f14_D (α : Type) (n : Nat) : D3 α := { reg := [(2, ⟨0, [], [(2, { ent := some (f60_E n) })]⟩), (5, ⟨0, [], [(1, { ent := some (f62_E n) }), (2, { ent := some (f61_E n) })]⟩), (6, ⟨0, [], [(1, { ent := some (f62_E n) })]⟩), (7, ⟨0, [], [(1, { ent := some (f63_E n) })]⟩), (10, ⟨3, [], [(2, { ent := some (f62_E n) }), (3, { ent := some (f64_E n) })]⟩)], join := [], loop := [] }
theorem f14_ents (α : Type) (n : Nat) : AllS Try.prog (entsOf (f14_D α n).reg) := ⟨f60_ok n, f62_ok n, f61_ok n, f62_ok n, f63_ok n, f62_ok n, f64_ok n, trivial⟩
theorem f14_d (α : Type) (n : Nat) : D3.OK Try.prog (tyOf Try.prog) ⟨27, []⟩ (f14_D α n) (bodyOf Try.f14) :=
  D3.OK.mk3 (f14_ents α n) (show loopsOf (bodyOf Try.f14) = [] by kernel_rfl) trivial
theorem f14_ok (n : Nat) : (f14_E n).Sound Try.prog :=
  fn_ok (tyOf_ok _) prog_fol (f14_D _ n) (show Try.prog.funcs[14]? = some Try.f14 by kernel_rfl) (by kernel_rfl) (show Try.f14.body = some (bodyOf Try.f14) by kernel_rfl) rfl rfl (Nat.le_of_ble_eq_true rfl) (f14_d _ n) (by intro x; kernel_rfl) 


end Go.Ev
