/- DERIVED. What the functions compute, and that they do. -/
import Derived.Test.YtcpdoafoahaagaaEe

set_option linter.all false
set_option linter.unusedVariables false
set_option linter.unusedSimpArgs false

namespace Go.Ev
open Go Go.Proofs Go.RowKit Go.Shelf
def f104 (n : Nat) (a0 : List (Int × Int × Int × Int)) (a1 : Int) : Option Int :=
  bif (decide ((W (a1 - (a0.length : Int))) < 0)) then
    some (-1)
  else
    some (W (a1 - (a0.length : Int)))
def f104_E (n : Nat) : Ent := ⟨104, [hNs, hI], [hI], fun x => f104 n x.1 x.2⟩
def f104_D (α : Type) (n : Nat) : D3 α := { reg := [], join := [], loop := [] }
theorem f104_ents (α : Type) (n : Nat) : AllS Try.prog (entsOf (f104_D α n).reg) := trivial
theorem f104_d (α : Type) (n : Nat) : D3.OK Try.prog (tyOf Try.prog) ⟨12, []⟩ (f104_D α n) (bodyOf Try.f104) :=
  D3.OK.mk3 (f104_ents α n) (show loopsOf (bodyOf Try.f104) = [] by kernel_rfl) trivial
theorem f104_ok (n : Nat) : (f104_E n).Sound Try.prog :=
  fn_ok (tyOf_ok _) prog_fol (f104_D _ n) (show Try.prog.funcs[104]? = some Try.f104 by kernel_rfl) (by kernel_rfl) (show Try.f104.body = some (bodyOf Try.f104) by kernel_rfl) rfl rfl (Nat.le_of_ble_eq_true rfl) (f104_d _ n) (by intro x; kernel_rfl) 


def f57 (n : Nat) (a0 : List (Int × Int × Int × Int)) (a1 : Int) : Option Int :=
  ob (f104 n a0 a1) fun r_1 =>
  bif (decide (r_1 < 0)) then
    some (-1)
  else
    some r_1
def f57_E (n : Nat) : Ent := ⟨57, [hE, hI], [hI], fun x => f57 n x.1 x.2⟩
def f57_D (α : Type) (n : Nat) : D3 α := { reg := [(1, ⟨0, [], [(3, { ent := some (f104_E n) })]⟩)], join := [], loop := [] }
theorem f57_ents (α : Type) (n : Nat) : AllS Try.prog (entsOf (f57_D α n).reg) := ⟨f104_ok n, trivial⟩
theorem f57_d (α : Type) (n : Nat) : D3.OK Try.prog (tyOf Try.prog) ⟨12, []⟩ (f57_D α n) (bodyOf Try.f57) :=
  D3.OK.mk3 (f57_ents α n) (show loopsOf (bodyOf Try.f57) = [] by kernel_rfl) trivial
theorem f57_ok (n : Nat) : (f57_E n).Sound Try.prog :=
  fn_ok (tyOf_ok _) prog_fol (f57_D _ n) (show Try.prog.funcs[57]? = some Try.f57 by kernel_rfl) (by kernel_rfl) (show Try.f57.body = some (bodyOf Try.f57) by kernel_rfl) rfl rfl (Nat.le_of_ble_eq_true rfl) (f57_d _ n) (by intro x; kernel_rfl) 


def f98 (n : Nat) (a0 : List Int) (a1 : Int) : Option Int :=
  bif (decide ((W (a1 - (a0.length : Int))) < 0)) then
    some (-1)
  else
    some (W (a1 - (a0.length : Int)))
def f98_E (n : Nat) : Ent := ⟨98, [hIs, hI], [hI], fun x => f98 n x.1 x.2⟩
def f98_D (α : Type) (n : Nat) : D3 α := { reg := [], join := [], loop := [] }
theorem f98_ents (α : Type) (n : Nat) : AllS Try.prog (entsOf (f98_D α n).reg) := trivial
theorem f98_d (α : Type) (n : Nat) : D3.OK Try.prog (tyOf Try.prog) ⟨12, []⟩ (f98_D α n) (bodyOf Try.f98) :=
  D3.OK.mk3 (f98_ents α n) (show loopsOf (bodyOf Try.f98) = [] by kernel_rfl) trivial
theorem f98_ok (n : Nat) : (f98_E n).Sound Try.prog :=
  fn_ok (tyOf_ok _) prog_fol (f98_D _ n) (show Try.prog.funcs[98]? = some Try.f98 by kernel_rfl) (by kernel_rfl) (show Try.f98.body = some (bodyOf Try.f98) by kernel_rfl) rfl rfl (Nat.le_of_ble_eq_true rfl) (f98_d _ n) (by intro x; kernel_rfl) 


def f50 (n : Nat) (a0 : Bool × (List Int) × (List Int)) (a1 : Int) : Option Int :=
  ob (f98 n a0.2.1 a1) fun r_1 =>
  bif (decide (r_1 < 0)) then
    some (-1)
  else
    ob (f98 n a0.2.2 r_1) fun r_2 =>
    bif (decide (r_2 < 0)) then
      some (-1)
    else
      some r_2
def f50_E (n : Nat) : Ent := ⟨50, [hR, hI], [hI], fun x => f50 n x.1 x.2⟩
def f50_D (α : Type) (n : Nat) : D3 α := { reg := [(1, ⟨0, [], [(3, { ent := some (f98_E n) })]⟩), (4, ⟨0, [], [(3, { ent := some (f98_E n) })]⟩)], join := [], loop := [] }
theorem f50_ents (α : Type) (n : Nat) : AllS Try.prog (entsOf (f50_D α n).reg) := ⟨f98_ok n, f98_ok n, trivial⟩
theorem f50_d (α : Type) (n : Nat) : D3.OK Try.prog (tyOf Try.prog) ⟨18, []⟩ (f50_D α n) (bodyOf Try.f50) :=
  D3.OK.mk3 (f50_ents α n) (show loopsOf (bodyOf Try.f50) = [] by kernel_rfl) trivial
theorem f50_ok (n : Nat) : (f50_E n).Sound Try.prog :=
  fn_ok (tyOf_ok _) prog_fol (f50_D _ n) (show Try.prog.funcs[50]? = some Try.f50 by kernel_rfl) (by kernel_rfl) (show Try.f50.body = some (bodyOf Try.f50) by kernel_rfl) rfl rfl (Nat.le_of_ble_eq_true rfl) (f50_d _ n) (by intro x; kernel_rfl) 


def f16_L5B {α : Type} (n : Nat) (s0 : List (Bool × (List Int) × (List Int))) (s1 : Int) (s5 : Int) (f : (List (Bool × (List Int) × (List Int))) → Int → Int → Option α) (k0 : Int → Option α) (k1 : Int → Option α) : Option α :=
  bif (decide (s5 < (s0.length : Int))) then
    gd (decide (0 ≤ s5) && decide (s5 < (s0.length : Int))) (
      let x_1 := s0.getD s5.toNat (false, [], [])
      ob (f50 n x_1 s1) fun r_2 =>
      bif (decide (r_2 < 0)) then
        k0 (-1)
      else
        f s0 r_2 (W (s5 + 1)))
  else
    k1 s1
abbrev f16_L5H : Tm := ⟨[(0, .d hRs), (1, .d hI), (5, .d hI)], [], [], []⟩
abbrev f16_L5X0 : Tm := ⟨[(4, .d hI)], [], [], []⟩
abbrev f16_L5X1 : Tm := ⟨[(1, .d hI)], [], [], []⟩
abbrev f16_L5O : List (Exit × Tm) := [(.ret, f16_L5X0), (.exit 0, f16_L5X1)]
def f16_L5U {α : Type} (n : Nat) (v : f16_L5H.den) (f : f16_L5H.den → Option α) (ks : KS α f16_L5O) : Option α := f16_L5B n v.1.1 v.1.2.1 v.1.2.2.1 (fun s0 s1 s5 => f ((s0, s1, s5, ()), ())) (fun w0 => ks.1 ((w0, ()), ())) (fun w0 => ks.2.1 ((w0, ()), ()))
def f16_L5 {α : Type} (n m : Nat) (s0 : List (Bool × (List Int) × (List Int))) (s1 : Int) (s5 : Int) (k0 : Int → Option α) (k1 : Int → Option α) : Option α := rounds (f16_L5U n) m ((s0, s1, s5, ()), ()) (fun w => k0 w.1.1, fun w => k1 w.1.1, ())
theorem f16_L5_0 {α : Type} (n : Nat) (s0 : List (Bool × (List Int) × (List Int))) (s1 : Int) (s5 : Int) (k0 : Int → Option α) (k1 : Int → Option α) : f16_L5 (α := α) n 0 s0 s1 s5 k0 k1 = none := rfl
theorem f16_L5_s {α : Type} (n m : Nat) (s0 : List (Bool × (List Int) × (List Int))) (s1 : Int) (s5 : Int) (k0 : Int → Option α) (k1 : Int → Option α) : f16_L5 (α := α) n (m + 1) s0 s1 s5 k0 k1 = f16_L5B n s0 s1 s5 (fun s0 s1 s5 => f16_L5 n m s0 s1 s5 k0 k1) k0 k1 := rfl
def f16 (n : Nat) (a0 : List (Bool × (List Int) × (List Int))) (a1 : Int) : Option Int :=
  bif (decide ((W (a1 - (a0.length : Int))) < 0)) then
    some (-1)
  else
    f16_L5 n n a0 (W (a1 - (a0.length : Int))) 0
      (fun z_3 => (
        some z_3))
      (fun z_4 => (
        some z_4))
def f16_E (n : Nat) : Ent := ⟨16, [hRs, hI], [hI], fun x => f16 n x.1 x.2⟩
def f16_D (α : Type) (n : Nat) : D3 α := { reg := [(7, ⟨0, [], [(5, { ent := some (f50_E n) })]⟩)], join := [], loop := [(5, ⟨f16_L5H, f16_L5O, rounds (f16_L5U n) n⟩)] }
theorem f16_ents (α : Type) (n : Nat) : AllS Try.prog (entsOf (f16_D α n).reg) := ⟨f50_ok n, trivial⟩
theorem f16_L5_d (α : Type) (n : Nat) : D3.OK Try.prog (tyOf Try.prog) ⟨27, []⟩ (f16_D α n) ((bodyOf Try.f16).at [1, 1, 1, 0, 1, 0, 0]) :=
  D3.OK.mk3 (f16_ents α n) (show loopsOf ((bodyOf Try.f16).at [1, 1, 1, 0, 1, 0, 0]) = [] by kernel_rfl) trivial
theorem f16_L5_ok (α : Type) (n : Nat) : LO.Sound (α := α) Try.prog ⟨27, []⟩ ⟨f16_L5H, f16_L5O, rounds (f16_L5U n) n⟩ (.loop ((bodyOf Try.f16).at [1, 1, 1, 0, 1, 0, 0])) :=
  loop_ok (tyOf_ok _) prog_fol (f16_L5U n) (f16_L5_d α n) (by intro v f ks; kernel_rfl) n
theorem f16_d (α : Type) (n : Nat) : D3.OK Try.prog (tyOf Try.prog) ⟨27, []⟩ (f16_D α n) (bodyOf Try.f16) :=
  D3.OK.mk3 (f16_ents α n) (show loopsOf (bodyOf Try.f16) = [(5, (.loop ((bodyOf Try.f16).at [1, 1, 1, 0, 1, 0, 0])))] by kernel_rfl) ⟨look_sound rfl (f16_L5_ok α n), trivial⟩
theorem f16_ok (n : Nat) : (f16_E n).Sound Try.prog :=
  fn_ok (tyOf_ok _) prog_fol (f16_D _ n) (show Try.prog.funcs[16]? = some Try.f16 by kernel_rfl) (by kernel_rfl) (show Try.f16.body = some (bodyOf Try.f16) by kernel_rfl) rfl rfl (Nat.le_of_ble_eq_true rfl) (f16_d _ n) (by intro x; kernel_rfl) 


def f25 (n : Nat) (a0 : (List (Int × Int × Int × Int)) × (List (Bool × (List Int) × (List Int))) × (List (Bool × (List Int) × (List Int))) × (List (Bool × (List Int) × (List Int))) × Int × (Bool × (List Int) × (List Int)) × Int × Int) (a1 : Int) : Option Int :=
  ob (f57 n a0.1 a1) fun r_1 =>
  bif (decide (r_1 < 0)) then
    some (-1)
  else
    ob (f16 n a0.2.1 r_1) fun r_2 =>
    bif (decide (r_2 < 0)) then
      some (-1)
    else
      ob (f16 n a0.2.2.1 r_2) fun r_3 =>
      bif (decide (r_3 < 0)) then
        some (-1)
      else
        ob (f16 n a0.2.2.2.1 r_3) fun r_4 =>
        bif (decide (r_4 < 0)) then
          some (-1)
        else
          ob (f50 n a0.2.2.2.2.2.1 r_4) fun r_5 =>
          bif (decide (r_5 < 0)) then
            some (-1)
          else
            some r_5
def f25_E (n : Nat) : Ent := ⟨25, [(.st (.pair hE (.pair hRs (.pair hRs (.pair hRs (.pair hI (.pair hR (.pair hI hI)))))))), hI], [hI], fun x => f25 n x.1 x.2⟩
def f25_D (α : Type) (n : Nat) : D3 α := { reg := [(1, ⟨0, [], [(3, { ent := some (f57_E n) })]⟩), (4, ⟨0, [], [(3, { ent := some (f16_E n) })]⟩), (7, ⟨0, [], [(3, { ent := some (f16_E n) })]⟩), (10, ⟨0, [], [(3, { ent := some (f16_E n) })]⟩), (13, ⟨0, [], [(3, { ent := some (f50_E n) })]⟩)], join := [], loop := [] }
theorem f25_ents (α : Type) (n : Nat) : AllS Try.prog (entsOf (f25_D α n).reg) := ⟨f57_ok n, f16_ok n, f16_ok n, f16_ok n, f50_ok n, trivial⟩
theorem f25_d (α : Type) (n : Nat) : D3.OK Try.prog (tyOf Try.prog) ⟨36, []⟩ (f25_D α n) (bodyOf Try.f25) :=
  D3.OK.mk3 (f25_ents α n) (show loopsOf (bodyOf Try.f25) = [] by kernel_rfl) trivial
theorem f25_ok (n : Nat) : (f25_E n).Sound Try.prog :=
  fn_ok (tyOf_ok _) prog_fol (f25_D _ n) (show Try.prog.funcs[25]? = some Try.f25 by kernel_rfl) (by kernel_rfl) (show Try.f25.body = some (bodyOf Try.f25) by kernel_rfl) rfl rfl (Nat.le_of_ble_eq_true rfl) (f25_d _ n) (by intro x; kernel_rfl) 


def f139 (n : Nat) (a0 : Int × Int × Int × Int) : Option (Int × Int × Int × Int) :=
  some a0
def f139_E (n : Nat) : Ent := ⟨139, [hN], [hN], fun x => f139 n x⟩
def f139_D (α : Type) (n : Nat) : D3 α := { reg := [], join := [], loop := [] }
theorem f139_ents (α : Type) (n : Nat) : AllS Try.prog (entsOf (f139_D α n).reg) := trivial
theorem f139_d (α : Type) (n : Nat) : D3.OK Try.prog (tyOf Try.prog) ⟨17, []⟩ (f139_D α n) (bodyOf Try.f139) :=
  D3.OK.mk3 (f139_ents α n) (show loopsOf (bodyOf Try.f139) = [] by kernel_rfl) trivial
theorem f139_ok (n : Nat) : (f139_E n).Sound Try.prog :=
  fn_ok (tyOf_ok _) prog_fol (f139_D _ n) (show Try.prog.funcs[139]? = some Try.f139 by kernel_rfl) (by kernel_rfl) (show Try.f139.body = some (bodyOf Try.f139) by kernel_rfl) rfl rfl (Nat.le_of_ble_eq_true rfl) (f139_d _ n) (by intro x; kernel_rfl) 


def f108_L3B {α : Type} (n : Nat) (s0 : List (Int × Int × Int × Int)) (s4 : Int) (b7 : List (Int × Int × Int × Int)) (f : (List (Int × Int × Int × Int)) → Int → (List (Int × Int × Int × Int)) → Option α) (k0 : (List (Int × Int × Int × Int)) → Option α) : Option α :=
  bif (decide (s4 < (s0.length : Int))) then
    gd (decide (0 ≤ s4) && decide (s4 < (s0.length : Int))) (
      let x_1 := s0.getD s4.toNat (0, 0, 0, 0)
      ob (f139 n x_1) fun r_2 =>
      gd (decide (0 ≤ s4) && decide (s4 < (b7.length : Int))) (
        gd (decide (s4.toNat < b7.length)) (
          f s0 (W (s4 + 1)) (b7.set s4.toNat r_2))))
  else
    k0 b7
abbrev f108_L3H : Tm := ⟨[(0, .d hNs), (3, .k (.hw 7)), (4, .d hI)], [(7, .arr 128 hN false)], [], []⟩
abbrev f108_L3X0 : Tm := ⟨[(3, .k (.hw 7))], [(7, .arr 128 hN false)], [], []⟩
abbrev f108_L3O : List (Exit × Tm) := [(.exit 0, f108_L3X0)]
def f108_L3U {α : Type} (n : Nat) (v : f108_L3H.den) (f : f108_L3H.den → Option α) (ks : KS α f108_L3O) : Option α := f108_L3B n v.1.1 v.1.2.2.1 v.2.1 (fun s0 s4 b7 => f ((s0, (), s4, ()), (b7, ()))) (fun w0 => ks.1 (((), ()), (w0, ())))
def f108_L3 {α : Type} (n m : Nat) (s0 : List (Int × Int × Int × Int)) (s4 : Int) (b7 : List (Int × Int × Int × Int)) (k0 : (List (Int × Int × Int × Int)) → Option α) : Option α := rounds (f108_L3U n) m ((s0, (), s4, ()), (b7, ())) (fun w => k0 w.2.1, ())
theorem f108_L3_0 {α : Type} (n : Nat) (s0 : List (Int × Int × Int × Int)) (s4 : Int) (b7 : List (Int × Int × Int × Int)) (k0 : (List (Int × Int × Int × Int)) → Option α) : f108_L3 (α := α) n 0 s0 s4 b7 k0 = none := rfl
theorem f108_L3_s {α : Type} (n m : Nat) (s0 : List (Int × Int × Int × Int)) (s4 : Int) (b7 : List (Int × Int × Int × Int)) (k0 : (List (Int × Int × Int × Int)) → Option α) : f108_L3 (α := α) n (m + 1) s0 s4 b7 k0 = f108_L3B n s0 s4 b7 (fun s0 s4 b7 => f108_L3 n m s0 s4 b7 k0) k0 := rfl
def f108 (n : Nat) (a0 : List (Int × Int × Int × Int)) : Option (List (Int × Int × Int × Int)) :=
  gd (decide (0 ≤ (a0.length : Int)) && decide ((a0.length : Int) ≤ 4611686018427387904) && decide ((32 : Int) * (a0.length : Int) ≤ 281474976710656)) (
    f108_L3 n n a0 0 (List.replicate ((a0.length : Int).toNat) (0, 0, 0, 0))
      (fun z_3 => (
        some z_3)))
def f108_E (n : Nat) : Ent := ⟨108, [hNs], [hNs], fun x => f108 n x⟩
def f108_D (α : Type) (n : Nat) : D3 α := { reg := [(5, ⟨0, [], [(6, { ent := some (f139_E n) })]⟩)], join := [], loop := [(3, ⟨f108_L3H, f108_L3O, rounds (f108_L3U n) n⟩)] }
theorem f108_ents (α : Type) (n : Nat) : AllS Try.prog (entsOf (f108_D α n).reg) := ⟨f139_ok n, trivial⟩
theorem f108_L3_d (α : Type) (n : Nat) : D3.OK Try.prog (tyOf Try.prog) ⟨23, []⟩ (f108_D α n) ((bodyOf Try.f108).at [1, 1, 0, 1, 0, 0]) :=
  D3.OK.mk3 (f108_ents α n) (show loopsOf ((bodyOf Try.f108).at [1, 1, 0, 1, 0, 0]) = [] by kernel_rfl) trivial
theorem f108_L3_ok (α : Type) (n : Nat) : LO.Sound (α := α) Try.prog ⟨23, []⟩ ⟨f108_L3H, f108_L3O, rounds (f108_L3U n) n⟩ (.loop ((bodyOf Try.f108).at [1, 1, 0, 1, 0, 0])) :=
  loop_ok (tyOf_ok _) prog_fol (f108_L3U n) (f108_L3_d α n) (by intro v f ks; kernel_rfl) n
theorem f108_d (α : Type) (n : Nat) : D3.OK Try.prog (tyOf Try.prog) ⟨23, []⟩ (f108_D α n) (bodyOf Try.f108) :=
  D3.OK.mk3 (f108_ents α n) (show loopsOf (bodyOf Try.f108) = [(3, (.loop ((bodyOf Try.f108).at [1, 1, 0, 1, 0, 0])))] by kernel_rfl) ⟨look_sound rfl (f108_L3_ok α n), trivial⟩
theorem f108_ok (n : Nat) : (f108_E n).Sound Try.prog :=
  fn_ok (tyOf_ok _) prog_fol (f108_D _ n) (show Try.prog.funcs[108]? = some Try.f108 by kernel_rfl) (by kernel_rfl) (show Try.f108.body = some (bodyOf Try.f108) by kernel_rfl) rfl rfl (Nat.le_of_ble_eq_true rfl) (f108_d _ n) (by intro x; kernel_rfl) 


def f60 (n : Nat) (a0 : List (Int × Int × Int × Int)) : Option (List (Int × Int × Int × Int)) :=
  ob (f108 n a0) fun r_1 =>
  some r_1
def f60_E (n : Nat) : Ent := ⟨60, [hE], [hE], fun x => f60 n x⟩
def f60_D (α : Type) (n : Nat) : D3 α := { reg := [(2, ⟨0, [], [(2, { ent := some (f108_E n) })]⟩)], join := [], loop := [] }
theorem f60_ents (α : Type) (n : Nat) : AllS Try.prog (entsOf (f60_D α n).reg) := ⟨f108_ok n, trivial⟩
theorem f60_d (α : Type) (n : Nat) : D3.OK Try.prog (tyOf Try.prog) ⟨9, []⟩ (f60_D α n) (bodyOf Try.f60) :=
  D3.OK.mk3 (f60_ents α n) (show loopsOf (bodyOf Try.f60) = [] by kernel_rfl) trivial
theorem f60_ok (n : Nat) : (f60_E n).Sound Try.prog :=
  fn_ok (tyOf_ok _) prog_fol (f60_D _ n) (show Try.prog.funcs[60]? = some Try.f60 by kernel_rfl) (by kernel_rfl) (show Try.f60.body = some (bodyOf Try.f60) by kernel_rfl) rfl rfl (Nat.le_of_ble_eq_true rfl) (f60_d _ n) (by intro x; kernel_rfl) 


def f99_L3B {α : Type} (n : Nat) (s0 : List Int) (s4 : Int) (b7 : List Int) (f : (List Int) → Int → (List Int) → Option α) (k0 : (List Int) → Option α) : Option α :=
  bif (decide (s4 < (s0.length : Int))) then
    gd (decide (0 ≤ s4) && decide (s4 < (s0.length : Int))) (
      gd (decide (0 ≤ s4) && decide (s4 < (b7.length : Int))) (
        gd (decide (s4.toNat < b7.length)) (
          f s0 (W (s4 + 1)) (b7.set s4.toNat (s0.getD s4.toNat 0)))))
  else
    k0 b7
abbrev f99_L3H : Tm := ⟨[(0, .d hIs), (3, .k (.hw 7)), (4, .d hI)], [(7, .arr 3 hI false)], [], []⟩
abbrev f99_L3X0 : Tm := ⟨[(3, .k (.hw 7))], [(7, .arr 3 hI false)], [], []⟩
abbrev f99_L3O : List (Exit × Tm) := [(.exit 0, f99_L3X0)]
def f99_L3U {α : Type} (n : Nat) (v : f99_L3H.den) (f : f99_L3H.den → Option α) (ks : KS α f99_L3O) : Option α := f99_L3B n v.1.1 v.1.2.2.1 v.2.1 (fun s0 s4 b7 => f ((s0, (), s4, ()), (b7, ()))) (fun w0 => ks.1 (((), ()), (w0, ())))
def f99_L3 {α : Type} (n m : Nat) (s0 : List Int) (s4 : Int) (b7 : List Int) (k0 : (List Int) → Option α) : Option α := rounds (f99_L3U n) m ((s0, (), s4, ()), (b7, ())) (fun w => k0 w.2.1, ())
theorem f99_L3_0 {α : Type} (n : Nat) (s0 : List Int) (s4 : Int) (b7 : List Int) (k0 : (List Int) → Option α) : f99_L3 (α := α) n 0 s0 s4 b7 k0 = none := rfl
theorem f99_L3_s {α : Type} (n m : Nat) (s0 : List Int) (s4 : Int) (b7 : List Int) (k0 : (List Int) → Option α) : f99_L3 (α := α) n (m + 1) s0 s4 b7 k0 = f99_L3B n s0 s4 b7 (fun s0 s4 b7 => f99_L3 n m s0 s4 b7 k0) k0 := rfl
def f99 (n : Nat) (a0 : List Int) : Option (List Int) :=
  gd (decide (0 ≤ (a0.length : Int)) && decide ((a0.length : Int) ≤ 4611686018427387904) && decide ((8 : Int) * (a0.length : Int) ≤ 281474976710656)) (
    f99_L3 n n a0 0 (List.replicate ((a0.length : Int).toNat) 0)
      (fun z_1 => (
        some z_1)))
def f99_E (n : Nat) : Ent := ⟨99, [hIs], [hIs], fun x => f99 n x⟩
def f99_D (α : Type) (n : Nat) : D3 α := { reg := [], join := [], loop := [(3, ⟨f99_L3H, f99_L3O, rounds (f99_L3U n) n⟩)] }
theorem f99_ents (α : Type) (n : Nat) : AllS Try.prog (entsOf (f99_D α n).reg) := trivial
theorem f99_L3_d (α : Type) (n : Nat) : D3.OK Try.prog (tyOf Try.prog) ⟨22, []⟩ (f99_D α n) ((bodyOf Try.f99).at [1, 1, 0, 1, 0, 0]) :=
  D3.OK.mk3 (f99_ents α n) (show loopsOf ((bodyOf Try.f99).at [1, 1, 0, 1, 0, 0]) = [] by kernel_rfl) trivial
theorem f99_L3_ok (α : Type) (n : Nat) : LO.Sound (α := α) Try.prog ⟨22, []⟩ ⟨f99_L3H, f99_L3O, rounds (f99_L3U n) n⟩ (.loop ((bodyOf Try.f99).at [1, 1, 0, 1, 0, 0])) :=
  loop_ok (tyOf_ok _) prog_fol (f99_L3U n) (f99_L3_d α n) (by intro v f ks; kernel_rfl) n
theorem f99_d (α : Type) (n : Nat) : D3.OK Try.prog (tyOf Try.prog) ⟨22, []⟩ (f99_D α n) (bodyOf Try.f99) :=
  D3.OK.mk3 (f99_ents α n) (show loopsOf (bodyOf Try.f99) = [(3, (.loop ((bodyOf Try.f99).at [1, 1, 0, 1, 0, 0])))] by kernel_rfl) ⟨look_sound rfl (f99_L3_ok α n), trivial⟩
theorem f99_ok (n : Nat) : (f99_E n).Sound Try.prog :=
  fn_ok (tyOf_ok _) prog_fol (f99_D _ n) (show Try.prog.funcs[99]? = some Try.f99 by kernel_rfl) (by kernel_rfl) (show Try.f99.body = some (bodyOf Try.f99) by kernel_rfl) rfl rfl (Nat.le_of_ble_eq_true rfl) (f99_d _ n) (by intro x; kernel_rfl) 


def f51 (n : Nat) (a0 : Bool × (List Int) × (List Int)) : Option (Bool × (List Int) × (List Int)) :=
  ob (f99 n a0.2.1) fun r_1 =>
  ob (f99 n a0.2.2) fun r_2 =>
  some (a0.1, r_1, r_2)
def f51_E (n : Nat) : Ent := ⟨51, [hR], [hR], fun x => f51 n x⟩
def f51_D (α : Type) (n : Nat) : D3 α := { reg := [(3, ⟨0, [], [(2, { ent := some (f99_E n) })]⟩), (4, ⟨0, [], [(2, { ent := some (f99_E n) })]⟩)], join := [], loop := [] }
theorem f51_ents (α : Type) (n : Nat) : AllS Try.prog (entsOf (f51_D α n).reg) := ⟨f99_ok n, f99_ok n, trivial⟩
theorem f51_d (α : Type) (n : Nat) : D3.OK Try.prog (tyOf Try.prog) ⟨16, []⟩ (f51_D α n) (bodyOf Try.f51) :=
  D3.OK.mk3 (f51_ents α n) (show loopsOf (bodyOf Try.f51) = [] by kernel_rfl) trivial
theorem f51_ok (n : Nat) : (f51_E n).Sound Try.prog :=
  fn_ok (tyOf_ok _) prog_fol (f51_D _ n) (show Try.prog.funcs[51]? = some Try.f51 by kernel_rfl) (by kernel_rfl) (show Try.f51.body = some (bodyOf Try.f51) by kernel_rfl) rfl rfl (Nat.le_of_ble_eq_true rfl) (f51_d _ n) (by intro x; kernel_rfl) 


def f17_L3B {α : Type} (n : Nat) (s0 : List (Bool × (List Int) × (List Int))) (s4 : Int) (b7 : List (Bool × (List Int) × (List Int))) (f : (List (Bool × (List Int) × (List Int))) → Int → (List (Bool × (List Int) × (List Int))) → Option α) (k0 : (List (Bool × (List Int) × (List Int))) → Option α) : Option α :=
  bif (decide (s4 < (s0.length : Int))) then
    gd (decide (0 ≤ s4) && decide (s4 < (s0.length : Int))) (
      let x_1 := s0.getD s4.toNat (false, [], [])
      ob (f51 n x_1) fun r_2 =>
      gd (decide (0 ≤ s4) && decide (s4 < (b7.length : Int))) (
        gd (decide (s4.toNat < b7.length)) (
          f s0 (W (s4 + 1)) (b7.set s4.toNat r_2))))
  else
    k0 b7
abbrev f17_L3H : Tm := ⟨[(0, .d hRs), (3, .k (.hw 7)), (4, .d hI)], [(7, .arr 31 hR false)], [], []⟩
abbrev f17_L3X0 : Tm := ⟨[(3, .k (.hw 7))], [(7, .arr 31 hR false)], [], []⟩
abbrev f17_L3O : List (Exit × Tm) := [(.exit 0, f17_L3X0)]
def f17_L3U {α : Type} (n : Nat) (v : f17_L3H.den) (f : f17_L3H.den → Option α) (ks : KS α f17_L3O) : Option α := f17_L3B n v.1.1 v.1.2.2.1 v.2.1 (fun s0 s4 b7 => f ((s0, (), s4, ()), (b7, ()))) (fun w0 => ks.1 (((), ()), (w0, ())))
def f17_L3 {α : Type} (n m : Nat) (s0 : List (Bool × (List Int) × (List Int))) (s4 : Int) (b7 : List (Bool × (List Int) × (List Int))) (k0 : (List (Bool × (List Int) × (List Int))) → Option α) : Option α := rounds (f17_L3U n) m ((s0, (), s4, ()), (b7, ())) (fun w => k0 w.2.1, ())
theorem f17_L3_0 {α : Type} (n : Nat) (s0 : List (Bool × (List Int) × (List Int))) (s4 : Int) (b7 : List (Bool × (List Int) × (List Int))) (k0 : (List (Bool × (List Int) × (List Int))) → Option α) : f17_L3 (α := α) n 0 s0 s4 b7 k0 = none := rfl
theorem f17_L3_s {α : Type} (n m : Nat) (s0 : List (Bool × (List Int) × (List Int))) (s4 : Int) (b7 : List (Bool × (List Int) × (List Int))) (k0 : (List (Bool × (List Int) × (List Int))) → Option α) : f17_L3 (α := α) n (m + 1) s0 s4 b7 k0 = f17_L3B n s0 s4 b7 (fun s0 s4 b7 => f17_L3 n m s0 s4 b7 k0) k0 := rfl
def f17 (n : Nat) (a0 : List (Bool × (List Int) × (List Int))) : Option (List (Bool × (List Int) × (List Int))) :=
  gd (decide (0 ≤ (a0.length : Int)) && decide ((a0.length : Int) ≤ 4611686018427387904) && decide ((56 : Int) * (a0.length : Int) ≤ 281474976710656)) (
    f17_L3 n n a0 0 (List.replicate ((a0.length : Int).toNat) (false, [], []))
      (fun z_3 => (
        some z_3)))
def f17_E (n : Nat) : Ent := ⟨17, [hRs], [hRs], fun x => f17 n x⟩
def f17_D (α : Type) (n : Nat) : D3 α := { reg := [(5, ⟨0, [], [(6, { ent := some (f51_E n) })]⟩)], join := [], loop := [(3, ⟨f17_L3H, f17_L3O, rounds (f17_L3U n) n⟩)] }
theorem f17_ents (α : Type) (n : Nat) : AllS Try.prog (entsOf (f17_D α n).reg) := ⟨f51_ok n, trivial⟩
theorem f17_L3_d (α : Type) (n : Nat) : D3.OK Try.prog (tyOf Try.prog) ⟨23, []⟩ (f17_D α n) ((bodyOf Try.f17).at [1, 1, 0, 1, 0, 0]) :=
  D3.OK.mk3 (f17_ents α n) (show loopsOf ((bodyOf Try.f17).at [1, 1, 0, 1, 0, 0]) = [] by kernel_rfl) trivial
theorem f17_L3_ok (α : Type) (n : Nat) : LO.Sound (α := α) Try.prog ⟨23, []⟩ ⟨f17_L3H, f17_L3O, rounds (f17_L3U n) n⟩ (.loop ((bodyOf Try.f17).at [1, 1, 0, 1, 0, 0])) :=
  loop_ok (tyOf_ok _) prog_fol (f17_L3U n) (f17_L3_d α n) (by intro v f ks; kernel_rfl) n
theorem f17_d (α : Type) (n : Nat) : D3.OK Try.prog (tyOf Try.prog) ⟨23, []⟩ (f17_D α n) (bodyOf Try.f17) :=
  D3.OK.mk3 (f17_ents α n) (show loopsOf (bodyOf Try.f17) = [(3, (.loop ((bodyOf Try.f17).at [1, 1, 0, 1, 0, 0])))] by kernel_rfl) ⟨look_sound rfl (f17_L3_ok α n), trivial⟩
theorem f17_ok (n : Nat) : (f17_E n).Sound Try.prog :=
  fn_ok (tyOf_ok _) prog_fol (f17_D _ n) (show Try.prog.funcs[17]? = some Try.f17 by kernel_rfl) (by kernel_rfl) (show Try.f17.body = some (bodyOf Try.f17) by kernel_rfl) rfl rfl (Nat.le_of_ble_eq_true rfl) (f17_d _ n) (by intro x; kernel_rfl) 


def f27 (n : Nat) (a0 : (List (Int × Int × Int × Int)) × (List (Bool × (List Int) × (List Int))) × (List (Bool × (List Int) × (List Int))) × (List (Bool × (List Int) × (List Int))) × Int × (Bool × (List Int) × (List Int)) × Int × Int) : Option ((List (Int × Int × Int × Int)) × (List (Bool × (List Int) × (List Int))) × (List (Bool × (List Int) × (List Int))) × (List (Bool × (List Int) × (List Int))) × Int × (Bool × (List Int) × (List Int)) × Int × Int) :=
  ob (f60 n a0.1) fun r_1 =>
  ob (f17 n a0.2.1) fun r_2 =>
  ob (f17 n a0.2.2.1) fun r_3 =>
  ob (f17 n a0.2.2.2.1) fun r_4 =>
  ob (f51 n a0.2.2.2.2.2.1) fun r_5 =>
  some (r_1, r_2, r_3, r_4, a0.2.2.2.2.1, r_5, a0.2.2.2.2.2.2)
def f27_E (n : Nat) : Ent := ⟨27, [(.st (.pair hE (.pair hRs (.pair hRs (.pair hRs (.pair hI (.pair hR (.pair hI hI))))))))], [(.st (.pair hE (.pair hRs (.pair hRs (.pair hRs (.pair hI (.pair hR (.pair hI hI))))))))], fun x => f27 n x⟩
def f27_D (α : Type) (n : Nat) : D3 α := { reg := [(2, ⟨0, [], [(2, { ent := some (f60_E n) })]⟩), (3, ⟨0, [], [(2, { ent := some (f17_E n) })]⟩), (4, ⟨0, [], [(2, { ent := some (f17_E n) })]⟩), (5, ⟨0, [], [(2, { ent := some (f17_E n) })]⟩), (7, ⟨0, [], [(2, { ent := some (f51_E n) })]⟩)], join := [], loop := [] }
theorem f27_ents (α : Type) (n : Nat) : AllS Try.prog (entsOf (f27_D α n).reg) := ⟨f60_ok n, f17_ok n, f17_ok n, f17_ok n, f51_ok n, trivial⟩
theorem f27_d (α : Type) (n : Nat) : D3.OK Try.prog (tyOf Try.prog) ⟨34, []⟩ (f27_D α n) (bodyOf Try.f27) :=
  D3.OK.mk3 (f27_ents α n) (show loopsOf (bodyOf Try.f27) = [] by kernel_rfl) trivial
theorem f27_ok (n : Nat) : (f27_E n).Sound Try.prog :=
  fn_ok (tyOf_ok _) prog_fol (f27_D _ n) (show Try.prog.funcs[27]? = some Try.f27 by kernel_rfl) (by kernel_rfl) (show Try.f27.body = some (bodyOf Try.f27) by kernel_rfl) rfl rfl (Nat.le_of_ble_eq_true rfl) (f27_d _ n) (by intro x; kernel_rfl) 


def f85 (n : Nat) (a0 : Int) (a1 : Int) (a2 : Int) : Option Bool :=
  bif (decide (a1 ≤ a0)) then
    some (decide (a0 ≤ a2))
  else
    some false
def f85_E (n : Nat) : Ent := ⟨85, [hI, hI, hI], [.bool], fun x => f85 n x.1 x.2.1 x.2.2⟩
def f85_D (α : Type) (n : Nat) : D3 α := { reg := [], join := [], loop := [] }
theorem f85_ents (α : Type) (n : Nat) : AllS Try.prog (entsOf (f85_D α n).reg) := trivial
theorem f85_d (α : Type) (n : Nat) : D3.OK Try.prog (tyOf Try.prog) ⟨15, []⟩ (f85_D α n) (bodyOf Try.f85) :=
  D3.OK.mk3 (f85_ents α n) (show loopsOf (bodyOf Try.f85) = [] by kernel_rfl) trivial
theorem f85_ok (n : Nat) : (f85_E n).Sound Try.prog :=
  fn_ok (tyOf_ok _) prog_fol (f85_D _ n) (show Try.prog.funcs[85]? = some Try.f85 by kernel_rfl) (by kernel_rfl) (show Try.f85.body = some (bodyOf Try.f85) by kernel_rfl) rfl rfl (Nat.le_of_ble_eq_true rfl) (f85_d _ n) (by intro x; kernel_rfl) 


def f136 (n : Nat) (a0 : Int) : Option Bool :=
  ob (f85 n a0 3 6) fun r_1 =>
  some r_1
def f136_E (n : Nat) : Ent := ⟨136, [hI], [.bool], fun x => f136 n x⟩
def f136_D (α : Type) (n : Nat) : D3 α := { reg := [(1, ⟨0, [], [(1, { ent := some (f85_E n) })]⟩)], join := [], loop := [] }
theorem f136_ents (α : Type) (n : Nat) : AllS Try.prog (entsOf (f136_D α n).reg) := ⟨f85_ok n, trivial⟩
theorem f136_d (α : Type) (n : Nat) : D3.OK Try.prog (tyOf Try.prog) ⟨5, []⟩ (f136_D α n) (bodyOf Try.f136) :=
  D3.OK.mk3 (f136_ents α n) (show loopsOf (bodyOf Try.f136) = [] by kernel_rfl) trivial
theorem f136_ok (n : Nat) : (f136_E n).Sound Try.prog :=
  fn_ok (tyOf_ok _) prog_fol (f136_D _ n) (show Try.prog.funcs[136]? = some Try.f136 by kernel_rfl) (by kernel_rfl) (show Try.f136.body = some (bodyOf Try.f136) by kernel_rfl) rfl rfl (Nat.le_of_ble_eq_true rfl) (f136_d _ n) (by intro x; kernel_rfl) 


def f138 (n : Nat) (a0 : Int) : Option Bool :=
  bif (a0 == 7) then
    some true
  else
    some (a0 == 8)
def f138_E (n : Nat) : Ent := ⟨138, [hI], [.bool], fun x => f138 n x⟩
def f138_D (α : Type) (n : Nat) : D3 α := { reg := [], join := [], loop := [] }
theorem f138_ents (α : Type) (n : Nat) : AllS Try.prog (entsOf (f138_D α n).reg) := trivial
theorem f138_d (α : Type) (n : Nat) : D3.OK Try.prog (tyOf Try.prog) ⟨9, []⟩ (f138_D α n) (bodyOf Try.f138) :=
  D3.OK.mk3 (f138_ents α n) (show loopsOf (bodyOf Try.f138) = [] by kernel_rfl) trivial
theorem f138_ok (n : Nat) : (f138_E n).Sound Try.prog :=
  fn_ok (tyOf_ok _) prog_fol (f138_D _ n) (show Try.prog.funcs[138]? = some Try.f138 by kernel_rfl) (by kernel_rfl) (show Try.f138.body = some (bodyOf Try.f138) by kernel_rfl) rfl rfl (Nat.le_of_ble_eq_true rfl) (f138_d _ n) (by intro x; kernel_rfl) 


def f147 (n : Nat) (a0 : Bool) : Option Int :=
  bif a0 then
    some 1
  else
    some 0
def f147_E (n : Nat) : Ent := ⟨147, [.bool], [hI], fun x => f147 n x⟩
def f147_D (α : Type) (n : Nat) : D3 α := { reg := [], join := [], loop := [] }
theorem f147_ents (α : Type) (n : Nat) : AllS Try.prog (entsOf (f147_D α n).reg) := trivial
theorem f147_d (α : Type) (n : Nat) : D3.OK Try.prog (tyOf Try.prog) ⟨4, []⟩ (f147_D α n) (bodyOf Try.f147) :=
  D3.OK.mk3 (f147_ents α n) (show loopsOf (bodyOf Try.f147) = [] by kernel_rfl) trivial
theorem f147_ok (n : Nat) : (f147_E n).Sound Try.prog :=
  fn_ok (tyOf_ok _) prog_fol (f147_D _ n) (show Try.prog.funcs[147]? = some Try.f147 by kernel_rfl) (by kernel_rfl) (show Try.f147.body = some (bodyOf Try.f147) by kernel_rfl) rfl rfl (Nat.le_of_ble_eq_true rfl) (f147_d _ n) (by intro x; kernel_rfl) 


def f135 (n : Nat) (a0 : Int × Int × Int × Int) (a1 : Int) : Option Bool :=
  ob (f85 n a0.1 1 8) fun r_1 =>
  bif (!r_1) then
    some false
  else
    ob (f136 n a0.1) fun r_2 =>
    bif r_2 then
      ob (f85 n a0.2.1 0 (W (a1 - 1))) fun r_3 =>
      bif r_3 then
        ob (f85 n a0.2.2.1 (W (a0.2.1 + 1)) (W (a1 - 1))) fun r_4 =>
        bif r_4 then
          some (a0.2.2.2 == 0)
        else
          some false
      else
        some false
    else
      ob (f138 n a0.1) fun r_5 =>
      bif r_5 then
        bif (a0.2.1 == (W (a1 - 1))) then
          bif (decide (a1 > 0)) then
            bif (a0.2.2.1 == 0) then
              ob (f147 n (a0.1 == 8)) fun r_6 =>
              ob (f85 n a0.2.2.2 0 (W (8 * r_6))) fun r_7 =>
              some r_7
            else
              some false
          else
            some false
        else
          some false
      else
        bif (a0.1 == 2) then
          bif (a0.2.1 == 0) then
            bif (a0.2.2.1 == 0) then
              ob (f85 n a0.2.2.2 0 3) fun r_8 =>
              some r_8
            else
              some false
          else
            some false
        else
          bif (a0.2.1 == 0) then
            bif (a0.2.2.1 == 0) then
              ob (f85 n a0.2.2.2 0 999999999) fun r_9 =>
              some r_9
            else
              some false
          else
            some false
def f135_E (n : Nat) : Ent := ⟨135, [hN, hI], [.bool], fun x => f135 n x.1 x.2⟩
def f135_D (α : Type) (n : Nat) : D3 α := { reg := [(1, ⟨0, [], [(2, { ent := some (f85_E n) })]⟩), (3, ⟨0, [], [(2, { ent := some (f136_E n) })]⟩), (4, ⟨0, [], [(4, { ent := some (f85_E n) }), (13, { ent := some (f85_E n) })]⟩), (5, ⟨0, [], [(2, { ent := some (f138_E n) })]⟩), (6, ⟨22, [], [(20, { ent := some (f147_E n) }), (22, { ent := some (f85_E n) })]⟩), (8, ⟨0, [], [(11, { ent := some (f85_E n) })]⟩), (9, ⟨0, [], [(11, { ent := some (f85_E n) })]⟩)], join := [], loop := [] }
theorem f135_ents (α : Type) (n : Nat) : AllS Try.prog (entsOf (f135_D α n).reg) := ⟨f85_ok n, f136_ok n, f85_ok n, f85_ok n, f138_ok n, f147_ok n, f85_ok n, f85_ok n, f85_ok n, trivial⟩
theorem f135_d (α : Type) (n : Nat) : D3.OK Try.prog (tyOf Try.prog) ⟨92, []⟩ (f135_D α n) (bodyOf Try.f135) :=
  D3.OK.mk3 (f135_ents α n) (show loopsOf (bodyOf Try.f135) = [] by kernel_rfl) trivial
theorem f135_ok (n : Nat) : (f135_E n).Sound Try.prog :=
  fn_ok (tyOf_ok _) prog_fol (f135_D _ n) (show Try.prog.funcs[135]? = some Try.f135 by kernel_rfl) (by kernel_rfl) (show Try.f135.body = some (bodyOf Try.f135) by kernel_rfl) rfl rfl (Nat.le_of_ble_eq_true rfl) (f135_d _ n) (by intro x; kernel_rfl) 


def f137_L2B {α : Type} (n : Nat) (s1 : Int) (c2_0 : List (Int × Int × Int × Int)) (c5_0 : Int) (c5_1 : Int) (c5_2 : Int) (c5_3 : Int) (f : Int → (List (Int × Int × Int × Int)) → Int → Int → Int → Int → Option α) (k0 : Int → Option α) : Option α :=
  let J_5 := fun (_ : Unit) => (
    gd (decide (0 ≤ c5_1) && decide (c5_1 < (c2_0.length : Int))) (
      let x_4 := c2_0.getD c5_1.toNat (0, 0, 0, 0)
      f c5_1 c2_0 x_4.1 x_4.2.1 x_4.2.2.1 x_4.2.2.2))
  ob (f136 n c5_0) fun r_2 =>
  bif r_2 then
    J_5 ()
  else
    ob (f138 n c5_0) fun r_3 =>
    bif r_3 then
      J_5 ()
    else
      k0 s1
abbrev f137_L2H : Tm := ⟨[(1, .d hI), (2, .k (.hp 2 0 0)), (5, .k (.hp 5 0 0))], [(2, .var 57 true false [.d hNs]), (5, .var 128 true false [.d hI, .d hI, .d hI, .d hI])], [], []⟩
abbrev f137_L2X0 : Tm := ⟨[(1, .d hI)], [], [2, 5], []⟩
abbrev f137_L2O : List (Exit × Tm) := [(.exit 0, f137_L2X0)]
def f137_L2U {α : Type} (n : Nat) (v : f137_L2H.den) (f : f137_L2H.den → Option α) (ks : KS α f137_L2O) : Option α := f137_L2B n v.1.1 v.2.1.1 v.2.2.1.1 v.2.2.1.2.1 v.2.2.1.2.2.1 v.2.2.1.2.2.2.1 (fun s1 c2_0 c5_0 c5_1 c5_2 c5_3 => f ((s1, (), (), ()), ((c2_0, ()), (c5_0, c5_1, c5_2, c5_3, ()), ()))) (fun w0 => ks.1 ((w0, ()), ()))
def f137_L2 {α : Type} (n m : Nat) (s1 : Int) (c2_0 : List (Int × Int × Int × Int)) (c5_0 : Int) (c5_1 : Int) (c5_2 : Int) (c5_3 : Int) (k0 : Int → Option α) : Option α := rounds (f137_L2U n) m ((s1, (), (), ()), ((c2_0, ()), (c5_0, c5_1, c5_2, c5_3, ()), ())) (fun w => k0 w.1.1, ())
theorem f137_L2_0 {α : Type} (n : Nat) (s1 : Int) (c2_0 : List (Int × Int × Int × Int)) (c5_0 : Int) (c5_1 : Int) (c5_2 : Int) (c5_3 : Int) (k0 : Int → Option α) : f137_L2 (α := α) n 0 s1 c2_0 c5_0 c5_1 c5_2 c5_3 k0 = none := rfl
theorem f137_L2_s {α : Type} (n m : Nat) (s1 : Int) (c2_0 : List (Int × Int × Int × Int)) (c5_0 : Int) (c5_1 : Int) (c5_2 : Int) (c5_3 : Int) (k0 : Int → Option α) : f137_L2 (α := α) n (m + 1) s1 c2_0 c5_0 c5_1 c5_2 c5_3 k0 = f137_L2B n s1 c2_0 c5_0 c5_1 c5_2 c5_3 (fun s1 c2_0 c5_0 c5_1 c5_2 c5_3 => f137_L2 n m s1 c2_0 c5_0 c5_1 c5_2 c5_3 k0) k0 := rfl
abbrev f137_J3 : Tm := ⟨[(2, .k (.hp 2 0 0)), (5, .k (.hp 5 0 0))], [(2, .var 57 true false [.d hNs]), (5, .var 128 true false [.d hI, .d hI, .d hI, .d hI])], [], []⟩
def f137 (n : Nat) (a0 : List (Int × Int × Int × Int)) (a1 : Int) : Option Int :=
  gd (decide (0 ≤ a1) && decide (a1 < (a0.length : Int))) (
    let x_1 := a0.getD a1.toNat (0, 0, 0, 0)
    f137_L2 n n a1 a0 x_1.1 x_1.2.1 x_1.2.2.1 x_1.2.2.2
      (fun z_6 => (
        some z_6)))
def f137_E (n : Nat) : Ent := ⟨137, [hE, hI], [hI], fun x => f137 n x.1 x.2⟩
def f137_D (α : Type) (n : Nat) : D3 α := { reg := [(2, ⟨0, [], [(2, { ent := some (f136_E n) }), (6, { ent := some (f138_E n) })]⟩)], join := [(3, f137_J3)], loop := [(2, ⟨f137_L2H, f137_L2O, rounds (f137_L2U n) n⟩)] }
theorem f137_ents (α : Type) (n : Nat) : AllS Try.prog (entsOf (f137_D α n).reg) := ⟨f136_ok n, f138_ok n, trivial⟩
theorem f137_L2_d (α : Type) (n : Nat) : D3.OK Try.prog (tyOf Try.prog) ⟨27, []⟩ (f137_D α n) ((bodyOf Try.f137).at [1, 1, 0, 0, 0]) :=
  D3.OK.mk3 (f137_ents α n) (show loopsOf ((bodyOf Try.f137).at [1, 1, 0, 0, 0]) = [] by kernel_rfl) trivial
theorem f137_L2_ok (α : Type) (n : Nat) : LO.Sound (α := α) Try.prog ⟨27, []⟩ ⟨f137_L2H, f137_L2O, rounds (f137_L2U n) n⟩ (.loop ((bodyOf Try.f137).at [1, 1, 0, 0, 0])) :=
  loop_ok (tyOf_ok _) prog_fol (f137_L2U n) (f137_L2_d α n) (by intro v f ks; kernel_rfl) n
theorem f137_d (α : Type) (n : Nat) : D3.OK Try.prog (tyOf Try.prog) ⟨27, []⟩ (f137_D α n) (bodyOf Try.f137) :=
  D3.OK.mk3 (f137_ents α n) (show loopsOf (bodyOf Try.f137) = [(2, (.loop ((bodyOf Try.f137).at [1, 1, 0, 0, 0])))] by kernel_rfl) ⟨look_sound rfl (f137_L2_ok α n), trivial⟩
theorem f137_ok (n : Nat) : (f137_E n).Sound Try.prog :=
  fn_ok (tyOf_ok _) prog_fol (f137_D _ n) (show Try.prog.funcs[137]? = some Try.f137 by kernel_rfl) (by kernel_rfl) (show Try.f137.body = some (bodyOf Try.f137) by kernel_rfl) rfl rfl (Nat.le_of_ble_eq_true rfl) (f137_d _ n) (by intro x; kernel_rfl) 


def f105_L5B {α : Type} (n : Nat) (s4 : Int) (c1_0 : List (Int × Int × Int × Int)) (b12 : List Int) (f : Int → (List (Int × Int × Int × Int)) → (List Int) → Option α) (k0 : Bool → Option α) (k1 : (List (Int × Int × Int × Int)) → Option α) : Option α :=
  bif (decide (s4 < (c1_0.length : Int))) then
    gd (decide (0 ≤ s4) && decide (s4 < (c1_0.length : Int))) (
      let x_2 := c1_0.getD s4.toNat (0, 0, 0, 0)
      ob (f135 n x_2 s4) fun r_3 =>
      bif (!r_3) then
        k0 false
      else
        let J_10 := fun (y_6 : Int) => (
          let J_9 := fun (y_8 : Int) => (
            bif (decide (y_8 > 12)) then
              k0 false
            else
              gd (decide ((b12.length + 1) * 8 ≤ 140737488355328)) (
                f (W (s4 + 1)) c1_0 (b12 ++ [y_8])))
          ob (f138 n x_2.1) fun r_7 =>
          bif r_7 then
            gd (decide (0 ≤ x_2.2.1) && decide (x_2.2.1 < (b12.length : Int))) (
              gd (decide (x_2.2.1.toNat < b12.length)) (
                J_9 (W (1 + (b12.getD x_2.2.1.toNat 0)))))
          else
            J_9 y_6)
        ob (f136 n x_2.1) fun r_4 =>
        bif r_4 then
          bif (x_2.2.2.1 != (W (s4 - 1))) then
            k0 false
          else
            ob (f137 n c1_0 x_2.2.2.1) fun r_5 =>
            bif (r_5 != (W (x_2.2.1 + 1))) then
              k0 false
            else
              gd (decide (0 ≤ x_2.2.1) && decide (x_2.2.1 < (b12.length : Int))) (
                gd (decide (x_2.2.1.toNat < b12.length)) (
                  gd (decide (0 ≤ x_2.2.2.1) && decide (x_2.2.2.1 < (b12.length : Int))) (
                    gd (decide (x_2.2.2.1.toNat < b12.length)) (
                      J_10 (W (1 + (max (b12.getD x_2.2.1.toNat 0) (b12.getD x_2.2.2.1.toNat 0))))))))
        else
          J_10 1)
  else
    k1 c1_0
abbrev f105_L5H : Tm := ⟨[(1, .k (.hp 1 0 0)), (3, .k (.hw 12)), (4, .d hI)], [(1, .var 57 true false [.d hNs]), (12, .arr 3 hI false)], [72], []⟩
abbrev f105_L5X0 : Tm := ⟨[(2, .d .bool)], [], [1, 5, 12], []⟩
abbrev f105_L5X1 : Tm := ⟨[(1, .k (.hp 1 0 0))], [(1, .var 57 true false [.d hNs])], [12], []⟩
abbrev f105_L5O : List (Exit × Tm) := [(.ret, f105_L5X0), (.exit 0, f105_L5X1)]
def f105_L5U {α : Type} (n : Nat) (v : f105_L5H.den) (f : f105_L5H.den → Option α) (ks : KS α f105_L5O) : Option α := f105_L5B n v.1.2.2.1 v.2.1.1 v.2.2.1 (fun s4 c1_0 b12 => f (((), (), s4, ()), ((c1_0, ()), b12, ()))) (fun w0 => ks.1 ((w0, ()), ())) (fun w0 => ks.2.1 (((), ()), ((w0, ()), ())))
def f105_L5 {α : Type} (n m : Nat) (s4 : Int) (c1_0 : List (Int × Int × Int × Int)) (b12 : List Int) (k0 : Bool → Option α) (k1 : (List (Int × Int × Int × Int)) → Option α) : Option α := rounds (f105_L5U n) m (((), (), s4, ()), ((c1_0, ()), b12, ())) (fun w => k0 w.1.1, fun w => k1 w.2.1.1, ())
theorem f105_L5_0 {α : Type} (n : Nat) (s4 : Int) (c1_0 : List (Int × Int × Int × Int)) (b12 : List Int) (k0 : Bool → Option α) (k1 : (List (Int × Int × Int × Int)) → Option α) : f105_L5 (α := α) n 0 s4 c1_0 b12 k0 k1 = none := rfl
theorem f105_L5_s {α : Type} (n m : Nat) (s4 : Int) (c1_0 : List (Int × Int × Int × Int)) (b12 : List Int) (k0 : Bool → Option α) (k1 : (List (Int × Int × Int × Int)) → Option α) : f105_L5 (α := α) n (m + 1) s4 c1_0 b12 k0 k1 = f105_L5B n s4 c1_0 b12 (fun s4 c1_0 b12 => f105_L5 n m s4 c1_0 b12 k0 k1) k0 k1 := rfl
abbrev f105_J15 : Tm := ⟨[(1, .k (.hp 1 0 0)), (3, .k (.hw 12)), (4, .d hI), (5, .k (.hp 5 0 0)), (6, .d hI)], [(1, .var 57 true false [.d hNs]), (5, .var 128 true false [.d hI, .d hI, .d hI, .d hI]), (12, .arr 3 hI false)], [], []⟩
abbrev f105_J17 : Tm := ⟨[(1, .k (.hp 1 0 0)), (3, .k (.hw 12)), (4, .d hI), (6, .d hI)], [(1, .var 57 true false [.d hNs]), (12, .arr 3 hI false)], [5], []⟩
def f105 (n : Nat) (a0 : List (Int × Int × Int × Int)) : Option Bool :=
  ob (f85 n (a0.length : Int) 1 60) fun r_1 =>
  bif (!r_1) then
    some false
  else
    f105_L5 n n 0 a0 []
      (fun z_11 => (
        some z_11))
      (fun z_12 => (
        ob (f137 n z_12 (W ((z_12.length : Int) - 1))) fun r_13 =>
        some (r_13 == 0)))
def f105_E (n : Nat) : Ent := ⟨105, [hE], [.bool], fun x => f105 n x⟩
def f105_D (α : Type) (n : Nat) : D3 α := { reg := [(1, ⟨0, [], [(3, { ent := some (f85_E n) })]⟩), (3, ⟨0, [], [(0, { sh := some hI })]⟩), (8, ⟨0, [], [(2, { ent := some (f135_E n) })]⟩), (11, ⟨0, [], [(2, { ent := some (f136_E n) })]⟩), (12, ⟨13, [], [(9, { ent := some (f137_E n) })]⟩), (14, ⟨10, [], []⟩), (15, ⟨0, [], [(2, { ent := some (f138_E n) })]⟩), (19, ⟨0, [], [(2, { sh := some hI })]⟩), (20, ⟨0, [], [(5, { ent := some (f137_E n) })]⟩)], join := [(15, f105_J15), (17, f105_J17)], loop := [(5, ⟨f105_L5H, f105_L5O, rounds (f105_L5U n) n⟩)] }
theorem f105_ents (α : Type) (n : Nat) : AllS Try.prog (entsOf (f105_D α n).reg) := ⟨f85_ok n, f135_ok n, f136_ok n, f137_ok n, f138_ok n, f137_ok n, trivial⟩
theorem f105_L5_d (α : Type) (n : Nat) : D3.OK Try.prog (tyOf Try.prog) ⟨81, []⟩ (f105_D α n) ((bodyOf Try.f105).at [1, 1, 1, 0, 1, 0, 0]) :=
  D3.OK.mk3 (f105_ents α n) (show loopsOf ((bodyOf Try.f105).at [1, 1, 1, 0, 1, 0, 0]) = [] by kernel_rfl) trivial
theorem f105_L5_ok (α : Type) (n : Nat) : LO.Sound (α := α) Try.prog ⟨81, []⟩ ⟨f105_L5H, f105_L5O, rounds (f105_L5U n) n⟩ (.loop ((bodyOf Try.f105).at [1, 1, 1, 0, 1, 0, 0])) :=
  loop_ok (tyOf_ok _) prog_fol (f105_L5U n) (f105_L5_d α n) (by intro v f ks; kernel_rfl) n
theorem f105_d (α : Type) (n : Nat) : D3.OK Try.prog (tyOf Try.prog) ⟨81, []⟩ (f105_D α n) (bodyOf Try.f105) :=
  D3.OK.mk3 (f105_ents α n) (show loopsOf (bodyOf Try.f105) = [(5, (.loop ((bodyOf Try.f105).at [1, 1, 1, 0, 1, 0, 0])))] by kernel_rfl) ⟨look_sound rfl (f105_L5_ok α n), trivial⟩
theorem f105_ok (n : Nat) : (f105_E n).Sound Try.prog :=
  fn_ok (tyOf_ok _) prog_fol (f105_D _ n) (show Try.prog.funcs[105]? = some Try.f105 by kernel_rfl) (by kernel_rfl) (show Try.f105.body = some (bodyOf Try.f105) by kernel_rfl) rfl rfl (Nat.le_of_ble_eq_true rfl) (f105_d _ n) (by intro x; kernel_rfl) 


def f122_L4B {α : Type} (n : Nat) (s0 : List Int) (s3 : Int) (f : (List Int) → Int → Option α) (k0 : Bool → Option α) (k1 : (List Int) → Option α) : Option α :=
  bif (decide (s3 < (s0.length : Int))) then
    gd (decide (0 ≤ s3) && decide (s3 < (s0.length : Int))) (
      ob (f85 n (s0.getD s3.toNat 0) 0 9999) fun r_1 =>
      bif (!r_1) then
        k0 false
      else
        f s0 (W (s3 + 1)))
  else
    k1 s0
abbrev f122_L4H : Tm := ⟨[(0, .d hIs), (3, .d hI)], [], [], []⟩
abbrev f122_L4X0 : Tm := ⟨[(2, .d .bool)], [], [], []⟩
abbrev f122_L4X1 : Tm := ⟨[(0, .d hIs)], [], [], []⟩
abbrev f122_L4O : List (Exit × Tm) := [(.ret, f122_L4X0), (.exit 0, f122_L4X1)]
def f122_L4U {α : Type} (n : Nat) (v : f122_L4H.den) (f : f122_L4H.den → Option α) (ks : KS α f122_L4O) : Option α := f122_L4B n v.1.1 v.1.2.1 (fun s0 s3 => f ((s0, s3, ()), ())) (fun w0 => ks.1 ((w0, ()), ())) (fun w0 => ks.2.1 ((w0, ()), ()))
def f122_L4 {α : Type} (n m : Nat) (s0 : List Int) (s3 : Int) (k0 : Bool → Option α) (k1 : (List Int) → Option α) : Option α := rounds (f122_L4U n) m ((s0, s3, ()), ()) (fun w => k0 w.1.1, fun w => k1 w.1.1, ())
theorem f122_L4_0 {α : Type} (n : Nat) (s0 : List Int) (s3 : Int) (k0 : Bool → Option α) (k1 : (List Int) → Option α) : f122_L4 (α := α) n 0 s0 s3 k0 k1 = none := rfl
theorem f122_L4_s {α : Type} (n m : Nat) (s0 : List Int) (s3 : Int) (k0 : Bool → Option α) (k1 : (List Int) → Option α) : f122_L4 (α := α) n (m + 1) s0 s3 k0 k1 = f122_L4B n s0 s3 (fun s0 s3 => f122_L4 n m s0 s3 k0 k1) k0 k1 := rfl
def f122 (n : Nat) (a0 : List Int) : Option Bool :=
  bif (decide ((a0.length : Int) > 4096)) then
    some false
  else
    f122_L4 n n a0 0
      (fun z_2 => (
        some z_2))
      (fun z_3 => (
        bif (decide ((z_3.length : Int) ≤ 40)) then
          bif ((z_3.length : Int) == 0) then
            some true
          else
            gd (decide (0 ≤ (W ((z_3.length : Int) - 1))) && decide ((W ((z_3.length : Int) - 1)) < (z_3.length : Int))) (
              some (decide ((z_3.getD ((W ((z_3.length : Int) - 1)).toNat) 0) > 0)))
        else
          some false))
def f122_E (n : Nat) : Ent := ⟨122, [hIs], [.bool], fun x => f122 n x⟩
def f122_D (α : Type) (n : Nat) : D3 α := { reg := [(6, ⟨0, [], [(4, { ent := some (f85_E n) })]⟩)], join := [], loop := [(4, ⟨f122_L4H, f122_L4O, rounds (f122_L4U n) n⟩)] }
theorem f122_ents (α : Type) (n : Nat) : AllS Try.prog (entsOf (f122_D α n).reg) := ⟨f85_ok n, trivial⟩
theorem f122_L4_d (α : Type) (n : Nat) : D3.OK Try.prog (tyOf Try.prog) ⟨36, []⟩ (f122_D α n) ((bodyOf Try.f122).at [1, 1, 0, 1, 0, 0]) :=
  D3.OK.mk3 (f122_ents α n) (show loopsOf ((bodyOf Try.f122).at [1, 1, 0, 1, 0, 0]) = [] by kernel_rfl) trivial
theorem f122_L4_ok (α : Type) (n : Nat) : LO.Sound (α := α) Try.prog ⟨36, []⟩ ⟨f122_L4H, f122_L4O, rounds (f122_L4U n) n⟩ (.loop ((bodyOf Try.f122).at [1, 1, 0, 1, 0, 0])) :=
  loop_ok (tyOf_ok _) prog_fol (f122_L4U n) (f122_L4_d α n) (by intro v f ks; kernel_rfl) n
theorem f122_d (α : Type) (n : Nat) : D3.OK Try.prog (tyOf Try.prog) ⟨36, []⟩ (f122_D α n) (bodyOf Try.f122) :=
  D3.OK.mk3 (f122_ents α n) (show loopsOf (bodyOf Try.f122) = [(4, (.loop ((bodyOf Try.f122).at [1, 1, 0, 1, 0, 0])))] by kernel_rfl) ⟨look_sound rfl (f122_L4_ok α n), trivial⟩
theorem f122_ok (n : Nat) : (f122_E n).Sound Try.prog :=
  fn_ok (tyOf_ok _) prog_fol (f122_D _ n) (show Try.prog.funcs[122]? = some Try.f122 by kernel_rfl) (by kernel_rfl) (show Try.f122.body = some (bodyOf Try.f122) by kernel_rfl) rfl rfl (Nat.le_of_ble_eq_true rfl) (f122_d _ n) (by intro x; kernel_rfl) 


def f149_L2B {α : Type} (n : Nat) (s0 : List Int) (s3 : Int) (f : (List Int) → Int → Option α) (k0 : (List Int) → Int → Option α) : Option α :=
  bif (decide (s3 > 0)) then
    gd (decide (0 ≤ (W (s3 - 1))) && decide ((W (s3 - 1)) < (s0.length : Int))) (
      bif ((s0.getD ((W (s3 - 1)).toNat) 0) == 0) then
        f s0 (W (s3 - 1))
      else
        k0 s0 s3)
  else
    k0 s0 s3
abbrev f149_L2H : Tm := ⟨[(0, .d hIs), (3, .d hI)], [], [], []⟩
abbrev f149_L2X0 : Tm := ⟨[(0, .d hIs), (3, .d hI)], [], [], []⟩
abbrev f149_L2O : List (Exit × Tm) := [(.exit 0, f149_L2X0)]
def f149_L2U {α : Type} (n : Nat) (v : f149_L2H.den) (f : f149_L2H.den → Option α) (ks : KS α f149_L2O) : Option α := f149_L2B n v.1.1 v.1.2.1 (fun s0 s3 => f ((s0, s3, ()), ())) (fun w0 w1 => ks.1 ((w0, w1, ()), ()))
def f149_L2 {α : Type} (n m : Nat) (s0 : List Int) (s3 : Int) (k0 : (List Int) → Int → Option α) : Option α := rounds (f149_L2U n) m ((s0, s3, ()), ()) (fun w => k0 w.1.1 w.1.2.1, ())
theorem f149_L2_0 {α : Type} (n : Nat) (s0 : List Int) (s3 : Int) (k0 : (List Int) → Int → Option α) : f149_L2 (α := α) n 0 s0 s3 k0 = none := rfl
theorem f149_L2_s {α : Type} (n m : Nat) (s0 : List Int) (s3 : Int) (k0 : (List Int) → Int → Option α) : f149_L2 (α := α) n (m + 1) s0 s3 k0 = f149_L2B n s0 s3 (fun s0 s3 => f149_L2 n m s0 s3 k0) k0 := rfl
def f149 (n : Nat) (a0 : List Int) : Option (List Int) :=
  f149_L2 n n a0 (a0.length : Int)
    (fun z_1 z_2 => (
      gd (decide (0 ≤ z_2) && decide (z_2 ≤ (z_1.length : Int))) (
        gd (decide ((0 + ((z_1.drop 0).take (z_2.toNat - 0)).length) * 8 ≤ 140737488355328)) (
          some ((z_1.drop 0).take (z_2.toNat - 0))))))
def f149_E (n : Nat) : Ent := ⟨149, [hIs], [hIs], fun x => f149 n x⟩
def f149_D (α : Type) (n : Nat) : D3 α := { reg := [(4, ⟨0, [], [(0, { sh := some hI })]⟩)], join := [], loop := [(2, ⟨f149_L2H, f149_L2O, rounds (f149_L2U n) n⟩)] }
theorem f149_ents (α : Type) (n : Nat) : AllS Try.prog (entsOf (f149_D α n).reg) := trivial
theorem f149_L2_d (α : Type) (n : Nat) : D3.OK Try.prog (tyOf Try.prog) ⟨23, []⟩ (f149_D α n) ((bodyOf Try.f149).at [1, 1, 0, 0, 0]) :=
  D3.OK.mk3 (f149_ents α n) (show loopsOf ((bodyOf Try.f149).at [1, 1, 0, 0, 0]) = [] by kernel_rfl) trivial
theorem f149_L2_ok (α : Type) (n : Nat) : LO.Sound (α := α) Try.prog ⟨23, []⟩ ⟨f149_L2H, f149_L2O, rounds (f149_L2U n) n⟩ (.loop ((bodyOf Try.f149).at [1, 1, 0, 0, 0])) :=
  loop_ok (tyOf_ok _) prog_fol (f149_L2U n) (f149_L2_d α n) (by intro v f ks; kernel_rfl) n
theorem f149_d (α : Type) (n : Nat) : D3.OK Try.prog (tyOf Try.prog) ⟨23, []⟩ (f149_D α n) (bodyOf Try.f149) :=
  D3.OK.mk3 (f149_ents α n) (show loopsOf (bodyOf Try.f149) = [(2, (.loop ((bodyOf Try.f149).at [1, 1, 0, 0, 0])))] by kernel_rfl) ⟨look_sound rfl (f149_L2_ok α n), trivial⟩
theorem f149_ok (n : Nat) : (f149_E n).Sound Try.prog :=
  fn_ok (tyOf_ok _) prog_fol (f149_D _ n) (show Try.prog.funcs[149]? = some Try.f149 by kernel_rfl) (by kernel_rfl) (show Try.f149.body = some (bodyOf Try.f149) by kernel_rfl) rfl rfl (Nat.le_of_ble_eq_true rfl) (f149_d _ n) (by intro x; kernel_rfl) 


def f123_L4B {α : Type} (n : Nat) (s0 : List Int) (s1 : List Int) (s5 : Int) (f : (List Int) → (List Int) → Int → Option α) (k0 : Int → Option α) (k1 : Unit → Option α) : Option α :=
  bif (decide (s5 ≥ 0)) then
    gd (decide (0 ≤ s5) && decide (s5 < (s0.length : Int))) (
      gd (decide (0 ≤ s5) && decide (s5 < (s1.length : Int))) (
        bif ((s0.getD s5.toNat 0) != (s1.getD s5.toNat 0)) then
          gd (decide (0 ≤ s5) && decide (s5 < (s0.length : Int))) (
            gd (decide (0 ≤ s5) && decide (s5 < (s1.length : Int))) (
              ob (f147 n (decide ((s0.getD s5.toNat 0) > (s1.getD s5.toNat 0)))) fun r_2 =>
              k0 (W ((W (2 * r_2)) - 1))))
        else
          f s0 s1 (W (s5 - 1))))
  else
    k1 ()
abbrev f123_L4H : Tm := ⟨[(0, .d hIs), (1, .d hIs), (5, .d hI)], [], [], []⟩
abbrev f123_L4X0 : Tm := ⟨[(4, .d hI)], [], [], []⟩
abbrev f123_L4X1 : Tm := ⟨[], [], [], []⟩
abbrev f123_L4O : List (Exit × Tm) := [(.ret, f123_L4X0), (.exit 0, f123_L4X1)]
def f123_L4U {α : Type} (n : Nat) (v : f123_L4H.den) (f : f123_L4H.den → Option α) (ks : KS α f123_L4O) : Option α := f123_L4B n v.1.1 v.1.2.1 v.1.2.2.1 (fun s0 s1 s5 => f ((s0, s1, s5, ()), ())) (fun w0 => ks.1 ((w0, ()), ())) (fun _ => ks.2.1 ((), ()))
def f123_L4 {α : Type} (n m : Nat) (s0 : List Int) (s1 : List Int) (s5 : Int) (k0 : Int → Option α) (k1 : Unit → Option α) : Option α := rounds (f123_L4U n) m ((s0, s1, s5, ()), ()) (fun w => k0 w.1.1, fun w => k1 (), ())
theorem f123_L4_0 {α : Type} (n : Nat) (s0 : List Int) (s1 : List Int) (s5 : Int) (k0 : Int → Option α) (k1 : Unit → Option α) : f123_L4 (α := α) n 0 s0 s1 s5 k0 k1 = none := rfl
theorem f123_L4_s {α : Type} (n m : Nat) (s0 : List Int) (s1 : List Int) (s5 : Int) (k0 : Int → Option α) (k1 : Unit → Option α) : f123_L4 (α := α) n (m + 1) s0 s1 s5 k0 k1 = f123_L4B n s0 s1 s5 (fun s0 s1 s5 => f123_L4 n m s0 s1 s5 k0 k1) k0 k1 := rfl
def f123 (n : Nat) (a0 : List Int) (a1 : List Int) : Option Int :=
  bif ((a0.length : Int) != (a1.length : Int)) then
    ob (f147 n (decide ((a0.length : Int) > (a1.length : Int)))) fun r_1 =>
    some (W ((W (2 * r_1)) - 1))
  else
    f123_L4 n n a0 a1 (W ((a0.length : Int) - 1))
      (fun z_3 => (
        some z_3))
      (fun (_ : Unit) => (
        some 0))
def f123_E (n : Nat) : Ent := ⟨123, [hIs, hIs], [hI], fun x => f123 n x.1 x.2⟩
def f123_D (α : Type) (n : Nat) : D3 α := { reg := [(2, ⟨0, [], [(5, { ent := some (f147_E n) })]⟩), (6, ⟨8, [], []⟩), (7, ⟨8, [], [(9, { ent := some (f147_E n) })]⟩)], join := [], loop := [(4, ⟨f123_L4H, f123_L4O, rounds (f123_L4U n) n⟩)] }
theorem f123_ents (α : Type) (n : Nat) : AllS Try.prog (entsOf (f123_D α n).reg) := ⟨f147_ok n, f147_ok n, trivial⟩
theorem f123_L4_d (α : Type) (n : Nat) : D3.OK Try.prog (tyOf Try.prog) ⟨47, []⟩ (f123_D α n) ((bodyOf Try.f123).at [1, 1, 0, 1, 0, 0]) :=
  D3.OK.mk3 (f123_ents α n) (show loopsOf ((bodyOf Try.f123).at [1, 1, 0, 1, 0, 0]) = [] by kernel_rfl) trivial
theorem f123_L4_ok (α : Type) (n : Nat) : LO.Sound (α := α) Try.prog ⟨47, []⟩ ⟨f123_L4H, f123_L4O, rounds (f123_L4U n) n⟩ (.loop ((bodyOf Try.f123).at [1, 1, 0, 1, 0, 0])) :=
  loop_ok (tyOf_ok _) prog_fol (f123_L4U n) (f123_L4_d α n) (by intro v f ks; kernel_rfl) n
theorem f123_d (α : Type) (n : Nat) : D3.OK Try.prog (tyOf Try.prog) ⟨47, []⟩ (f123_D α n) (bodyOf Try.f123) :=
  D3.OK.mk3 (f123_ents α n) (show loopsOf (bodyOf Try.f123) = [(4, (.loop ((bodyOf Try.f123).at [1, 1, 0, 1, 0, 0])))] by kernel_rfl) ⟨look_sound rfl (f123_L4_ok α n), trivial⟩
theorem f123_ok (n : Nat) : (f123_E n).Sound Try.prog :=
  fn_ok (tyOf_ok _) prog_fol (f123_D _ n) (show Try.prog.funcs[123]? = some Try.f123 by kernel_rfl) (by kernel_rfl) (show Try.f123.body = some (bodyOf Try.f123) by kernel_rfl) rfl rfl (Nat.le_of_ble_eq_true rfl) (f123_d _ n) (by intro x; kernel_rfl) 


def f111_L2B {α : Type} (n : Nat) (s0 : Int) (b4 : List Int) (f : Int → (List Int) → Option α) (k0 : (List Int) → Option α) : Option α :=
  bif (decide (s0 > 0)) then
    gd (decide ((b4.length + 1) * 8 ≤ 140737488355328)) (
      f (W (Int.tdiv s0 10000)) (b4 ++ [(Int.tmod s0 10000)]))
  else
    k0 b4
abbrev f111_L2H : Tm := ⟨[(0, .d hI), (3, .k (.hw 4))], [(4, .arr 3 hI false)], [10], []⟩
abbrev f111_L2X0 : Tm := ⟨[(3, .k (.hw 4))], [(4, .arr 3 hI false)], [], []⟩
abbrev f111_L2O : List (Exit × Tm) := [(.exit 0, f111_L2X0)]
def f111_L2U {α : Type} (n : Nat) (v : f111_L2H.den) (f : f111_L2H.den → Option α) (ks : KS α f111_L2O) : Option α := f111_L2B n v.1.1 v.2.1 (fun s0 b4 => f ((s0, (), ()), (b4, ()))) (fun w0 => ks.1 (((), ()), (w0, ())))
def f111_L2 {α : Type} (n m : Nat) (s0 : Int) (b4 : List Int) (k0 : (List Int) → Option α) : Option α := rounds (f111_L2U n) m ((s0, (), ()), (b4, ())) (fun w => k0 w.2.1, ())
theorem f111_L2_0 {α : Type} (n : Nat) (s0 : Int) (b4 : List Int) (k0 : (List Int) → Option α) : f111_L2 (α := α) n 0 s0 b4 k0 = none := rfl
theorem f111_L2_s {α : Type} (n m : Nat) (s0 : Int) (b4 : List Int) (k0 : (List Int) → Option α) : f111_L2 (α := α) n (m + 1) s0 b4 k0 = f111_L2B n s0 b4 (fun s0 b4 => f111_L2 n m s0 b4 k0) k0 := rfl
def f111 (n : Nat) (a0 : Int) : Option (List Int) :=
  f111_L2 n n a0 []
    (fun z_1 => (
      some z_1))
def f111_E (n : Nat) : Ent := ⟨111, [hI], [hIs], fun x => f111 n x⟩
def f111_D (α : Type) (n : Nat) : D3 α := { reg := [(1, ⟨0, [], [(0, { sh := some hI })]⟩), (3, ⟨0, [], [(3, { sh := some hI })]⟩)], join := [], loop := [(2, ⟨f111_L2H, f111_L2O, rounds (f111_L2U n) n⟩)] }
theorem f111_ents (α : Type) (n : Nat) : AllS Try.prog (entsOf (f111_D α n).reg) := trivial
theorem f111_L2_d (α : Type) (n : Nat) : D3.OK Try.prog (tyOf Try.prog) ⟨15, []⟩ (f111_D α n) ((bodyOf Try.f111).at [1, 1, 0, 0, 0]) :=
  D3.OK.mk3 (f111_ents α n) (show loopsOf ((bodyOf Try.f111).at [1, 1, 0, 0, 0]) = [] by kernel_rfl) trivial
theorem f111_L2_ok (α : Type) (n : Nat) : LO.Sound (α := α) Try.prog ⟨15, []⟩ ⟨f111_L2H, f111_L2O, rounds (f111_L2U n) n⟩ (.loop ((bodyOf Try.f111).at [1, 1, 0, 0, 0])) :=
  loop_ok (tyOf_ok _) prog_fol (f111_L2U n) (f111_L2_d α n) (by intro v f ks; kernel_rfl) n
theorem f111_d (α : Type) (n : Nat) : D3.OK Try.prog (tyOf Try.prog) ⟨15, []⟩ (f111_D α n) (bodyOf Try.f111) :=
  D3.OK.mk3 (f111_ents α n) (show loopsOf (bodyOf Try.f111) = [(2, (.loop ((bodyOf Try.f111).at [1, 1, 0, 0, 0])))] by kernel_rfl) ⟨look_sound rfl (f111_L2_ok α n), trivial⟩
theorem f111_ok (n : Nat) : (f111_E n).Sound Try.prog :=
  fn_ok (tyOf_ok _) prog_fol (f111_D _ n) (show Try.prog.funcs[111]? = some Try.f111 by kernel_rfl) (by kernel_rfl) (show Try.f111.body = some (bodyOf Try.f111) by kernel_rfl) rfl rfl (Nat.le_of_ble_eq_true rfl) (f111_d _ n) (by intro x; kernel_rfl) 


def f126_L7B {α : Type} (n : Nat) (s0 : List Int) (s1 : List Int) (s6 : Int) (s7 : Int) (s8 : Int) (b16 : List Int) (f : (List Int) → (List Int) → Int → Int → Int → (List Int) → Option α) (k0 : (List Int) → (List Int) → Int → (List Int) → Option α) : Option α :=
  let J_3 := fun (_ : Unit) => (
    gd (decide (0 ≤ (W (s6 + s8))) && decide ((W (s6 + s8)) < (b16.length : Int))) (
      gd (decide ((W (s6 + s8)).toNat < b16.length)) (
        let J_2 := fun (y_1 : Int) => (
          gd (decide (0 ≤ (W (s6 + s8))) && decide ((W (s6 + s8)) < (b16.length : Int))) (
            gd (decide ((W (s6 + s8)).toNat < b16.length)) (
              f s0 s1 s6 (W (Int.tdiv y_1 10000)) (W (s8 + 1)) (b16.set ((W (s6 + s8)).toNat) (Int.tmod y_1 10000)))))
        bif (decide (s8 < (s1.length : Int))) then
          gd (decide (0 ≤ s6) && decide (s6 < (s0.length : Int))) (
            gd (decide (0 ≤ s8) && decide (s8 < (s1.length : Int))) (
              J_2 (W ((W ((b16.getD ((W (s6 + s8)).toNat) 0) + s7)) + (W ((s0.getD s6.toNat 0) * (s1.getD s8.toNat 0)))))))
        else
          J_2 (W ((b16.getD ((W (s6 + s8)).toNat) 0) + s7)))))
  bif (decide (s8 < (s1.length : Int))) then
    J_3 ()
  else
    bif (decide (s7 > 0)) then
      J_3 ()
    else
      k0 s0 s1 s6 b16
abbrev f126_L7H : Tm := ⟨[(0, .d hIs), (1, .d hIs), (5, .k (.hw 16)), (6, .d hI), (7, .d hI), (8, .d hI)], [(16, .arr 3 hI false)], [], []⟩
abbrev f126_L7X0 : Tm := ⟨[(0, .d hIs), (1, .d hIs), (5, .k (.hw 16)), (6, .d hI)], [(16, .arr 3 hI false)], [], []⟩
abbrev f126_L7O : List (Exit × Tm) := [(.exit 2, f126_L7X0)]
def f126_L7U {α : Type} (n : Nat) (v : f126_L7H.den) (f : f126_L7H.den → Option α) (ks : KS α f126_L7O) : Option α := f126_L7B n v.1.1 v.1.2.1 v.1.2.2.2.1 v.1.2.2.2.2.1 v.1.2.2.2.2.2.1 v.2.1 (fun s0 s1 s6 s7 s8 b16 => f ((s0, s1, (), s6, s7, s8, ()), (b16, ()))) (fun w0 w1 w2 w3 => ks.1 ((w0, w1, (), w2, ()), (w3, ())))
def f126_L7 {α : Type} (n m : Nat) (s0 : List Int) (s1 : List Int) (s6 : Int) (s7 : Int) (s8 : Int) (b16 : List Int) (k0 : (List Int) → (List Int) → Int → (List Int) → Option α) : Option α := rounds (f126_L7U n) m ((s0, s1, (), s6, s7, s8, ()), (b16, ())) (fun w => k0 w.1.1 w.1.2.1 w.1.2.2.2.1 w.2.1, ())
theorem f126_L7_0 {α : Type} (n : Nat) (s0 : List Int) (s1 : List Int) (s6 : Int) (s7 : Int) (s8 : Int) (b16 : List Int) (k0 : (List Int) → (List Int) → Int → (List Int) → Option α) : f126_L7 (α := α) n 0 s0 s1 s6 s7 s8 b16 k0 = none := rfl
theorem f126_L7_s {α : Type} (n m : Nat) (s0 : List Int) (s1 : List Int) (s6 : Int) (s7 : Int) (s8 : Int) (b16 : List Int) (k0 : (List Int) → (List Int) → Int → (List Int) → Option α) : f126_L7 (α := α) n (m + 1) s0 s1 s6 s7 s8 b16 k0 = f126_L7B n s0 s1 s6 s7 s8 b16 (fun s0 s1 s6 s7 s8 b16 => f126_L7 n m s0 s1 s6 s7 s8 b16 k0) k0 := rfl
def f126_L3B {α : Type} (n : Nat) (s0 : List Int) (s1 : List Int) (s6 : Int) (b16 : List Int) (f : (List Int) → (List Int) → Int → (List Int) → Option α) (k0 : (List Int) → Option α) : Option α :=
  bif (decide (s6 < (s0.length : Int))) then
    f126_L7 n n s0 s1 s6 0 0 b16
      (fun z_1 z_2 z_3 z_4 => (
        f z_1 z_2 (W (z_3 + 1)) z_4))
  else
    k0 b16
abbrev f126_L3H : Tm := ⟨[(0, .d hIs), (1, .d hIs), (5, .k (.hw 16)), (6, .d hI)], [(16, .arr 3 hI false)], [], []⟩
abbrev f126_L3X0 : Tm := ⟨[(5, .k (.hw 16))], [(16, .arr 3 hI false)], [], []⟩
abbrev f126_L3O : List (Exit × Tm) := [(.exit 0, f126_L3X0)]
def f126_L3U {α : Type} (n : Nat) (v : f126_L3H.den) (f : f126_L3H.den → Option α) (ks : KS α f126_L3O) : Option α := f126_L3B n v.1.1 v.1.2.1 v.1.2.2.2.1 v.2.1 (fun s0 s1 s6 b16 => f ((s0, s1, (), s6, ()), (b16, ()))) (fun w0 => ks.1 (((), ()), (w0, ())))
def f126_L3 {α : Type} (n m : Nat) (s0 : List Int) (s1 : List Int) (s6 : Int) (b16 : List Int) (k0 : (List Int) → Option α) : Option α := rounds (f126_L3U n) m ((s0, s1, (), s6, ()), (b16, ())) (fun w => k0 w.2.1, ())
theorem f126_L3_0 {α : Type} (n : Nat) (s0 : List Int) (s1 : List Int) (s6 : Int) (b16 : List Int) (k0 : (List Int) → Option α) : f126_L3 (α := α) n 0 s0 s1 s6 b16 k0 = none := rfl
theorem f126_L3_s {α : Type} (n m : Nat) (s0 : List Int) (s1 : List Int) (s6 : Int) (b16 : List Int) (k0 : (List Int) → Option α) : f126_L3 (α := α) n (m + 1) s0 s1 s6 b16 k0 = f126_L3B n s0 s1 s6 b16 (fun s0 s1 s6 b16 => f126_L3 n m s0 s1 s6 b16 k0) k0 := rfl
abbrev f126_J9 : Tm := ⟨[(0, .d hIs), (1, .d hIs), (5, .k (.hw 16)), (6, .d hI), (7, .d hI), (8, .d hI)], [(16, .arr 3 hI false)], [], []⟩
abbrev f126_J12 : Tm := ⟨[(0, .d hIs), (1, .d hIs), (5, .k (.hw 16)), (6, .d hI), (8, .d hI), (9, .d hI)], [(16, .arr 3 hI false)], [], []⟩
def f126 (n : Nat) (a0 : List Int) (a1 : List Int) : Option (List Int) :=
  gd (decide (0 ≤ (W ((W ((a0.length : Int) + (a1.length : Int))) + 1))) && decide ((W ((W ((a0.length : Int) + (a1.length : Int))) + 1)) ≤ 4611686018427387904) && decide ((8 : Int) * (W ((W ((a0.length : Int) + (a1.length : Int))) + 1)) ≤ 281474976710656)) (
    f126_L3 n n a0 a1 0 (List.replicate ((W ((W ((a0.length : Int) + (a1.length : Int))) + 1)).toNat) 0)
      (fun z_5 => (
        ob (f149 n z_5) fun r_6 =>
        some r_6)))
def f126_E (n : Nat) : Ent := ⟨126, [hIs, hIs], [hIs], fun x => f126 n x.1 x.2⟩
def f126_D (α : Type) (n : Nat) : D3 α := { reg := [(11, ⟨10, [], []⟩), (14, ⟨0, [], [(1, { ent := some (f149_E n), fz := [(65, hIs)] })]⟩)], join := [(9, f126_J9), (12, f126_J12)], loop := [(7, ⟨f126_L7H, f126_L7O, rounds (f126_L7U n) n⟩), (3, ⟨f126_L3H, f126_L3O, rounds (f126_L3U n) n⟩)] }
theorem f126_ents (α : Type) (n : Nat) : AllS Try.prog (entsOf (f126_D α n).reg) := ⟨f149_ok n, trivial⟩
theorem f126_L7_d (α : Type) (n : Nat) : D3.OK Try.prog (tyOf Try.prog) ⟨67, []⟩ (f126_D α n) ((bodyOf Try.f126).at [1, 1, 0, 1, 0, 0, 1, 0, 0, 1, 1, 0, 0]) :=
  D3.OK.mk3 (f126_ents α n) (show loopsOf ((bodyOf Try.f126).at [1, 1, 0, 1, 0, 0, 1, 0, 0, 1, 1, 0, 0]) = [] by kernel_rfl) trivial
theorem f126_L7_ok (α : Type) (n : Nat) : LO.Sound (α := α) Try.prog ⟨67, []⟩ ⟨f126_L7H, f126_L7O, rounds (f126_L7U n) n⟩ (.loop ((bodyOf Try.f126).at [1, 1, 0, 1, 0, 0, 1, 0, 0, 1, 1, 0, 0])) :=
  loop_ok (tyOf_ok _) prog_fol (f126_L7U n) (f126_L7_d α n) (by intro v f ks; kernel_rfl) n
theorem f126_L3_d (α : Type) (n : Nat) : D3.OK Try.prog (tyOf Try.prog) ⟨67, []⟩ (f126_D α n) ((bodyOf Try.f126).at [1, 1, 0, 1, 0, 0]) :=
  D3.OK.mk3 (f126_ents α n) (show loopsOf ((bodyOf Try.f126).at [1, 1, 0, 1, 0, 0]) = [(7, (.loop ((bodyOf Try.f126).at [1, 1, 0, 1, 0, 0, 1, 0, 0, 1, 1, 0, 0])))] by kernel_rfl) ⟨look_sound rfl (f126_L7_ok α n), trivial⟩
theorem f126_L3_ok (α : Type) (n : Nat) : LO.Sound (α := α) Try.prog ⟨67, []⟩ ⟨f126_L3H, f126_L3O, rounds (f126_L3U n) n⟩ (.loop ((bodyOf Try.f126).at [1, 1, 0, 1, 0, 0])) :=
  loop_ok (tyOf_ok _) prog_fol (f126_L3U n) (f126_L3_d α n) (by intro v f ks; kernel_rfl) n
theorem f126_d (α : Type) (n : Nat) : D3.OK Try.prog (tyOf Try.prog) ⟨67, []⟩ (f126_D α n) (bodyOf Try.f126) :=
  D3.OK.mk3 (f126_ents α n) (show loopsOf (bodyOf Try.f126) = [(3, (.loop ((bodyOf Try.f126).at [1, 1, 0, 1, 0, 0])))] by kernel_rfl) ⟨look_sound rfl (f126_L3_ok α n), trivial⟩
theorem f126_ok (n : Nat) : (f126_E n).Sound Try.prog :=
  fn_ok (tyOf_ok _) prog_fol (f126_D _ n) (show Try.prog.funcs[126]? = some Try.f126 by kernel_rfl) (by kernel_rfl) (show Try.f126.body = some (bodyOf Try.f126) by kernel_rfl) rfl rfl (Nat.le_of_ble_eq_true rfl) (f126_d _ n) (by intro x; kernel_rfl) 


def f151_L4B {α : Type} (n : Nat) (s0 : List Int) (s1 : List Int) (s6 : Int) (s7 : Int) (b9 : List Int) (f : (List Int) → (List Int) → Int → Int → (List Int) → Option α) (k0 : (List Int) → Option α) : Option α :=
  bif (decide (s7 < (s0.length : Int))) then
    gd (decide (0 ≤ s7) && decide (s7 < (s0.length : Int))) (
      let J_3 := fun (y_1 : Int) => (
        ob (f147 n (decide (y_1 < 0))) fun r_2 =>
        gd (decide ((b9.length + 1) * 8 ≤ 140737488355328)) (
          f s0 s1 r_2 (W (s7 + 1)) (b9 ++ [(W (y_1 + (W (r_2 * 10000))))])))
      bif (decide (s7 < (s1.length : Int))) then
        gd (decide (0 ≤ s7) && decide (s7 < (s1.length : Int))) (
          J_3 (W ((W ((s0.getD s7.toNat 0) - s6)) - (s1.getD s7.toNat 0))))
      else
        J_3 (W ((s0.getD s7.toNat 0) - s6)))
  else
    k0 b9
abbrev f151_L4H : Tm := ⟨[(0, .d hIs), (1, .d hIs), (5, .k (.hw 9)), (6, .d hI), (7, .d hI)], [(9, .arr 3 hI false)], [40], []⟩
abbrev f151_L4X0 : Tm := ⟨[(5, .k (.hw 9))], [(9, .arr 3 hI false)], [], []⟩
abbrev f151_L4O : List (Exit × Tm) := [(.exit 0, f151_L4X0)]
def f151_L4U {α : Type} (n : Nat) (v : f151_L4H.den) (f : f151_L4H.den → Option α) (ks : KS α f151_L4O) : Option α := f151_L4B n v.1.1 v.1.2.1 v.1.2.2.2.1 v.1.2.2.2.2.1 v.2.1 (fun s0 s1 s6 s7 b9 => f ((s0, s1, (), s6, s7, ()), (b9, ()))) (fun w0 => ks.1 (((), ()), (w0, ())))
def f151_L4 {α : Type} (n m : Nat) (s0 : List Int) (s1 : List Int) (s6 : Int) (s7 : Int) (b9 : List Int) (k0 : (List Int) → Option α) : Option α := rounds (f151_L4U n) m ((s0, s1, (), s6, s7, ()), (b9, ())) (fun w => k0 w.2.1, ())
theorem f151_L4_0 {α : Type} (n : Nat) (s0 : List Int) (s1 : List Int) (s6 : Int) (s7 : Int) (b9 : List Int) (k0 : (List Int) → Option α) : f151_L4 (α := α) n 0 s0 s1 s6 s7 b9 k0 = none := rfl
theorem f151_L4_s {α : Type} (n m : Nat) (s0 : List Int) (s1 : List Int) (s6 : Int) (s7 : Int) (b9 : List Int) (k0 : (List Int) → Option α) : f151_L4 (α := α) n (m + 1) s0 s1 s6 s7 b9 k0 = f151_L4B n s0 s1 s6 s7 b9 (fun s0 s1 s6 s7 b9 => f151_L4 n m s0 s1 s6 s7 b9 k0) k0 := rfl
abbrev f151_J9 : Tm := ⟨[(0, .d hIs), (1, .d hIs), (5, .k (.hw 9)), (7, .d hI), (8, .d hI)], [(9, .arr 3 hI false)], [], []⟩
def f151 (n : Nat) (a0 : List Int) (a1 : List Int) : Option (List Int) :=
  f151_L4 n n a0 a1 0 0 []
    (fun z_4 => (
      ob (f149 n z_4) fun r_5 =>
      some r_5))
def f151_E (n : Nat) : Ent := ⟨151, [hIs, hIs], [hIs], fun x => f151 n x.1 x.2⟩
def f151_D (α : Type) (n : Nat) : D3 α := { reg := [(1, ⟨0, [], [(0, { sh := some hI })]⟩), (9, ⟨0, [], [(2, { ent := some (f147_E n) })]⟩), (10, ⟨0, [], [(5, { sh := some hI })]⟩), (11, ⟨0, [], [(1, { ent := some (f149_E n), fz := [(42, hIs)] })]⟩)], join := [(9, f151_J9)], loop := [(4, ⟨f151_L4H, f151_L4O, rounds (f151_L4U n) n⟩)] }
theorem f151_ents (α : Type) (n : Nat) : AllS Try.prog (entsOf (f151_D α n).reg) := ⟨f147_ok n, f149_ok n, trivial⟩
theorem f151_L4_d (α : Type) (n : Nat) : D3.OK Try.prog (tyOf Try.prog) ⟨44, []⟩ (f151_D α n) ((bodyOf Try.f151).at [1, 1, 1, 0, 1, 0, 0]) :=
  D3.OK.mk3 (f151_ents α n) (show loopsOf ((bodyOf Try.f151).at [1, 1, 1, 0, 1, 0, 0]) = [] by kernel_rfl) trivial
theorem f151_L4_ok (α : Type) (n : Nat) : LO.Sound (α := α) Try.prog ⟨44, []⟩ ⟨f151_L4H, f151_L4O, rounds (f151_L4U n) n⟩ (.loop ((bodyOf Try.f151).at [1, 1, 1, 0, 1, 0, 0])) :=
  loop_ok (tyOf_ok _) prog_fol (f151_L4U n) (f151_L4_d α n) (by intro v f ks; kernel_rfl) n
theorem f151_d (α : Type) (n : Nat) : D3.OK Try.prog (tyOf Try.prog) ⟨44, []⟩ (f151_D α n) (bodyOf Try.f151) :=
  D3.OK.mk3 (f151_ents α n) (show loopsOf (bodyOf Try.f151) = [(4, (.loop ((bodyOf Try.f151).at [1, 1, 1, 0, 1, 0, 0])))] by kernel_rfl) ⟨look_sound rfl (f151_L4_ok α n), trivial⟩
theorem f151_ok (n : Nat) : (f151_E n).Sound Try.prog :=
  fn_ok (tyOf_ok _) prog_fol (f151_D _ n) (show Try.prog.funcs[151]? = some Try.f151 by kernel_rfl) (by kernel_rfl) (show Try.f151.body = some (bodyOf Try.f151) by kernel_rfl) rfl rfl (Nat.le_of_ble_eq_true rfl) (f151_d _ n) (by intro x; kernel_rfl) 


def f148_L10B {α : Type} (n : Nat) (s0 : List Int) (s1 : List Int) (s7 : List Int) (s8 : Int) (s9 : Int) (s10 : Int) (b14 : List Int) (f : (List Int) → (List Int) → (List Int) → Int → Int → Int → (List Int) → Option α) (k0 : (List Int) → (List Int) → (List Int) → Int → Int → (List Int) → Option α) : Option α :=
  bif (decide ((W (s10 - s9)) > 1)) then
    ob (f111 n (W (Int.tdiv (W (s9 + s10)) 2))) fun r_3 =>
    ob (f126 n s1 r_3) fun r_4 =>
    ob (f123 n r_4 s7) fun r_5 =>
    bif (decide (r_5 ≤ 0)) then
      f s0 s1 s7 s8 (W (Int.tdiv (W (s9 + s10)) 2)) s10 b14
    else
      f s0 s1 s7 s8 s9 (W (Int.tdiv (W (s9 + s10)) 2)) b14
  else
    k0 s0 s1 s7 s8 s9 b14
abbrev f148_L10H : Tm := ⟨[(0, .d hIs), (1, .d hIs), (6, .k (.hw 14)), (7, .d hIs), (8, .d hI), (9, .d hI), (10, .d hI)], [(14, .arr 3 hI false)], [15, 27], []⟩
abbrev f148_L10X0 : Tm := ⟨[(0, .d hIs), (1, .d hIs), (6, .k (.hw 14)), (7, .d hIs), (8, .d hI), (9, .d hI)], [(14, .arr 3 hI false)], [], []⟩
abbrev f148_L10O : List (Exit × Tm) := [(.exit 2, f148_L10X0)]
def f148_L10U {α : Type} (n : Nat) (v : f148_L10H.den) (f : f148_L10H.den → Option α) (ks : KS α f148_L10O) : Option α := f148_L10B n v.1.1 v.1.2.1 v.1.2.2.2.1 v.1.2.2.2.2.1 v.1.2.2.2.2.2.1 v.1.2.2.2.2.2.2.1 v.2.1 (fun s0 s1 s7 s8 s9 s10 b14 => f ((s0, s1, (), s7, s8, s9, s10, ()), (b14, ()))) (fun w0 w1 w2 w3 w4 w5 => ks.1 ((w0, w1, (), w2, w3, w4, ()), (w5, ())))
def f148_L10 {α : Type} (n m : Nat) (s0 : List Int) (s1 : List Int) (s7 : List Int) (s8 : Int) (s9 : Int) (s10 : Int) (b14 : List Int) (k0 : (List Int) → (List Int) → (List Int) → Int → Int → (List Int) → Option α) : Option α := rounds (f148_L10U n) m ((s0, s1, (), s7, s8, s9, s10, ()), (b14, ())) (fun w => k0 w.1.1 w.1.2.1 w.1.2.2.2.1 w.1.2.2.2.2.1 w.1.2.2.2.2.2.1 w.2.1, ())
theorem f148_L10_0 {α : Type} (n : Nat) (s0 : List Int) (s1 : List Int) (s7 : List Int) (s8 : Int) (s9 : Int) (s10 : Int) (b14 : List Int) (k0 : (List Int) → (List Int) → (List Int) → Int → Int → (List Int) → Option α) : f148_L10 (α := α) n 0 s0 s1 s7 s8 s9 s10 b14 k0 = none := rfl
theorem f148_L10_s {α : Type} (n m : Nat) (s0 : List Int) (s1 : List Int) (s7 : List Int) (s8 : Int) (s9 : Int) (s10 : Int) (b14 : List Int) (k0 : (List Int) → (List Int) → (List Int) → Int → Int → (List Int) → Option α) : f148_L10 (α := α) n (m + 1) s0 s1 s7 s8 s9 s10 b14 k0 = f148_L10B n s0 s1 s7 s8 s9 s10 b14 (fun s0 s1 s7 s8 s9 s10 b14 => f148_L10 n m s0 s1 s7 s8 s9 s10 b14 k0) k0 := rfl
def f148_L4B {α : Type} (n : Nat) (s0 : List Int) (s1 : List Int) (s7 : List Int) (s8 : Int) (b14 : List Int) (f : (List Int) → (List Int) → (List Int) → Int → (List Int) → Option α) (k0 : (List Int) → (List Int) → Option α) : Option α :=
  bif (decide (s8 ≥ 0)) then
    gd (decide (0 ≤ s8) && decide (s8 < (s0.length : Int))) (
      gd (decide ((1 + s7.length) * 8 ≤ 140737488355328)) (
        ob (f149 n ([(s0.getD s8.toNat 0)] ++ s7)) fun r_1 =>
        ob (f123 n r_1 s1) fun r_2 =>
        bif (decide (r_2 < 0)) then
          f s0 s1 r_1 (W (s8 - 1)) b14
        else
          f148_L10 n n s0 s1 r_1 s8 0 10000 b14
            (fun z_3 z_4 z_5 z_6 z_7 z_8 => (
              gd (decide (0 ≤ z_6) && decide (z_6 < (z_8.length : Int))) (
                gd (decide (z_6.toNat < z_8.length)) (
                  ob (f111 n z_7) fun r_9 =>
                  ob (f126 n z_4 r_9) fun r_10 =>
                  ob (f151 n z_5 r_10) fun r_11 =>
                  f z_3 z_4 r_11 (W (z_6 - 1)) (z_8.set z_6.toNat z_7)))))))
  else
    k0 s7 b14
abbrev f148_L4H : Tm := ⟨[(0, .d hIs), (1, .d hIs), (6, .k (.hw 14)), (7, .d hIs), (8, .d hI)], [(14, .arr 3 hI false)], [15, 27], [(7, hIs)]⟩
abbrev f148_L4X0 : Tm := ⟨[(6, .k (.hw 14)), (7, .d hIs)], [(14, .arr 3 hI false)], [], []⟩
abbrev f148_L4O : List (Exit × Tm) := [(.exit 0, f148_L4X0)]
def f148_L4U {α : Type} (n : Nat) (v : f148_L4H.den) (f : f148_L4H.den → Option α) (ks : KS α f148_L4O) : Option α := f148_L4B n v.1.1 v.1.2.1 v.1.2.2.2.1 v.1.2.2.2.2.1 v.2.1 (fun s0 s1 s7 s8 b14 => f ((s0, s1, (), s7, s8, ()), (b14, ()))) (fun w0 w1 => ks.1 (((), w0, ()), (w1, ())))
def f148_L4 {α : Type} (n m : Nat) (s0 : List Int) (s1 : List Int) (s7 : List Int) (s8 : Int) (b14 : List Int) (k0 : (List Int) → (List Int) → Option α) : Option α := rounds (f148_L4U n) m ((s0, s1, (), s7, s8, ()), (b14, ())) (fun w => k0 w.1.2.1 w.2.1, ())
theorem f148_L4_0 {α : Type} (n : Nat) (s0 : List Int) (s1 : List Int) (s7 : List Int) (s8 : Int) (b14 : List Int) (k0 : (List Int) → (List Int) → Option α) : f148_L4 (α := α) n 0 s0 s1 s7 s8 b14 k0 = none := rfl
theorem f148_L4_s {α : Type} (n m : Nat) (s0 : List Int) (s1 : List Int) (s7 : List Int) (s8 : Int) (b14 : List Int) (k0 : (List Int) → (List Int) → Option α) : f148_L4 (α := α) n (m + 1) s0 s1 s7 s8 b14 k0 = f148_L4B n s0 s1 s7 s8 b14 (fun s0 s1 s7 s8 b14 => f148_L4 n m s0 s1 s7 s8 b14 k0) k0 := rfl
def f148 (n : Nat) (a0 : List Int) (a1 : List Int) : Option ((List Int) × (List Int)) :=
  gd (decide (0 ≤ (a0.length : Int)) && decide ((a0.length : Int) ≤ 4611686018427387904) && decide ((8 : Int) * (a0.length : Int) ≤ 281474976710656)) (
    f148_L4 n n a0 a1 [] (W ((a0.length : Int) - 1)) (List.replicate ((a0.length : Int).toNat) 0)
      (fun z_12 z_13 => (
        ob (f149 n z_13) fun r_14 =>
        some (r_14, z_12))))
def f148_E (n : Nat) : Ent := ⟨148, [hIs, hIs], [hIs, hIs], fun x => f148 n x.1 x.2⟩
def f148_D (α : Type) (n : Nat) : D3 α := { reg := [(2, ⟨0, [], [(0, { sh := some hI })]⟩), (6, ⟨0, [], [(4, { sh := some hI }), (7, { ent := some (f149_E n), fz := [(29, hIs)] })]⟩), (7, ⟨0, [], [(2, { ent := some (f123_E n) })]⟩), (12, ⟨0, [], [(2, { ent := some (f111_E n) }), (3, { ent := some (f126_E n) }), (5, { ent := some (f123_E n) })]⟩), (16, ⟨0, [], [(3, { ent := some (f111_E n) }), (4, { ent := some (f126_E n) }), (5, { ent := some (f151_E n) })]⟩), (17, ⟨0, [], [(1, { ent := some (f149_E n), fz := [(62, hIs)] })]⟩)], join := [], loop := [(10, ⟨f148_L10H, f148_L10O, rounds (f148_L10U n) n⟩), (4, ⟨f148_L4H, f148_L4O, rounds (f148_L4U n) n⟩)] }
theorem f148_ents (α : Type) (n : Nat) : AllS Try.prog (entsOf (f148_D α n).reg) := ⟨f149_ok n, f123_ok n, f111_ok n, f126_ok n, f123_ok n, f111_ok n, f126_ok n, f151_ok n, f149_ok n, trivial⟩
theorem f148_L10_d (α : Type) (n : Nat) : D3.OK Try.prog (tyOf Try.prog) ⟨65, []⟩ (f148_D α n) ((bodyOf Try.f148).at [1, 1, 1, 0, 1, 0, 0, 1, 0, 0, 1, 1, 1, 1, 0, 0, 0]) :=
  D3.OK.mk3 (f148_ents α n) (show loopsOf ((bodyOf Try.f148).at [1, 1, 1, 0, 1, 0, 0, 1, 0, 0, 1, 1, 1, 1, 0, 0, 0]) = [] by kernel_rfl) trivial
theorem f148_L10_ok (α : Type) (n : Nat) : LO.Sound (α := α) Try.prog ⟨65, []⟩ ⟨f148_L10H, f148_L10O, rounds (f148_L10U n) n⟩ (.loop ((bodyOf Try.f148).at [1, 1, 1, 0, 1, 0, 0, 1, 0, 0, 1, 1, 1, 1, 0, 0, 0])) :=
  loop_ok (tyOf_ok _) prog_fol (f148_L10U n) (f148_L10_d α n) (by intro v f ks; kernel_rfl) n
theorem f148_L4_d (α : Type) (n : Nat) : D3.OK Try.prog (tyOf Try.prog) ⟨65, []⟩ (f148_D α n) ((bodyOf Try.f148).at [1, 1, 1, 0, 1, 0, 0]) :=
  D3.OK.mk3 (f148_ents α n) (show loopsOf ((bodyOf Try.f148).at [1, 1, 1, 0, 1, 0, 0]) = [(10, (.loop ((bodyOf Try.f148).at [1, 1, 1, 0, 1, 0, 0, 1, 0, 0, 1, 1, 1, 1, 0, 0, 0])))] by kernel_rfl) ⟨look_sound rfl (f148_L10_ok α n), trivial⟩
theorem f148_L4_ok (α : Type) (n : Nat) : LO.Sound (α := α) Try.prog ⟨65, []⟩ ⟨f148_L4H, f148_L4O, rounds (f148_L4U n) n⟩ (.loop ((bodyOf Try.f148).at [1, 1, 1, 0, 1, 0, 0])) :=
  loop_ok (tyOf_ok _) prog_fol (f148_L4U n) (f148_L4_d α n) (by intro v f ks; kernel_rfl) n
theorem f148_d (α : Type) (n : Nat) : D3.OK Try.prog (tyOf Try.prog) ⟨65, []⟩ (f148_D α n) (bodyOf Try.f148) :=
  D3.OK.mk3 (f148_ents α n) (show loopsOf (bodyOf Try.f148) = [(4, (.loop ((bodyOf Try.f148).at [1, 1, 1, 0, 1, 0, 0])))] by kernel_rfl) ⟨look_sound rfl (f148_L4_ok α n), trivial⟩
theorem f148_ok (n : Nat) : (f148_E n).Sound Try.prog :=
  fn_ok (tyOf_ok _) prog_fol (f148_D _ n) (show Try.prog.funcs[148]? = some Try.f148 by kernel_rfl) (by kernel_rfl) (show Try.f148.body = some (bodyOf Try.f148) by kernel_rfl) rfl rfl (Nat.le_of_ble_eq_true rfl) (f148_d _ n) (by intro x; kernel_rfl) 


def f124_L1B {α : Type} (n : Nat) (s0 : List Int) (s1 : List Int) (f : (List Int) → (List Int) → Option α) (k0 : (List Int) → Option α) : Option α :=
  bif (decide ((s1.length : Int) > 0)) then
    ob (f148 n s0 s1) fun r_1 =>
    f s1 r_1.2
  else
    k0 s0
abbrev f124_L1H : Tm := ⟨[(0, .d hIs), (1, .d hIs)], [], [], []⟩
abbrev f124_L1X0 : Tm := ⟨[(0, .d hIs)], [], [], []⟩
abbrev f124_L1O : List (Exit × Tm) := [(.exit 0, f124_L1X0)]
def f124_L1U {α : Type} (n : Nat) (v : f124_L1H.den) (f : f124_L1H.den → Option α) (ks : KS α f124_L1O) : Option α := f124_L1B n v.1.1 v.1.2.1 (fun s0 s1 => f ((s0, s1, ()), ())) (fun w0 => ks.1 ((w0, ()), ()))
def f124_L1 {α : Type} (n m : Nat) (s0 : List Int) (s1 : List Int) (k0 : (List Int) → Option α) : Option α := rounds (f124_L1U n) m ((s0, s1, ()), ()) (fun w => k0 w.1.1, ())
theorem f124_L1_0 {α : Type} (n : Nat) (s0 : List Int) (s1 : List Int) (k0 : (List Int) → Option α) : f124_L1 (α := α) n 0 s0 s1 k0 = none := rfl
theorem f124_L1_s {α : Type} (n m : Nat) (s0 : List Int) (s1 : List Int) (k0 : (List Int) → Option α) : f124_L1 (α := α) n (m + 1) s0 s1 k0 = f124_L1B n s0 s1 (fun s0 s1 => f124_L1 n m s0 s1 k0) k0 := rfl
def f124 (n : Nat) (a0 : List Int) (a1 : List Int) : Option (List Int) :=
  f124_L1 n n a0 a1
    (fun z_2 => (
      gd (decide ((0 + z_2.length) * 8 ≤ 140737488355328)) (
        some z_2)))
def f124_E (n : Nat) : Ent := ⟨124, [hIs, hIs], [hIs], fun x => f124 n x.1 x.2⟩
def f124_D (α : Type) (n : Nat) : D3 α := { reg := [(2, ⟨0, [], [(2, { ent := some (f148_E n) })]⟩), (5, ⟨0, [], [(0, { sh := some hI })]⟩)], join := [], loop := [(1, ⟨f124_L1H, f124_L1O, rounds (f124_L1U n) n⟩)] }
theorem f124_ents (α : Type) (n : Nat) : AllS Try.prog (entsOf (f124_D α n).reg) := ⟨f148_ok n, trivial⟩
theorem f124_L1_d (α : Type) (n : Nat) : D3.OK Try.prog (tyOf Try.prog) ⟨21, []⟩ (f124_D α n) ((bodyOf Try.f124).at [1, 0, 0, 0]) :=
  D3.OK.mk3 (f124_ents α n) (show loopsOf ((bodyOf Try.f124).at [1, 0, 0, 0]) = [] by kernel_rfl) trivial
theorem f124_L1_ok (α : Type) (n : Nat) : LO.Sound (α := α) Try.prog ⟨21, []⟩ ⟨f124_L1H, f124_L1O, rounds (f124_L1U n) n⟩ (.loop ((bodyOf Try.f124).at [1, 0, 0, 0])) :=
  loop_ok (tyOf_ok _) prog_fol (f124_L1U n) (f124_L1_d α n) (by intro v f ks; kernel_rfl) n
theorem f124_d (α : Type) (n : Nat) : D3.OK Try.prog (tyOf Try.prog) ⟨21, []⟩ (f124_D α n) (bodyOf Try.f124) :=
  D3.OK.mk3 (f124_ents α n) (show loopsOf (bodyOf Try.f124) = [(1, (.loop ((bodyOf Try.f124).at [1, 0, 0, 0])))] by kernel_rfl) ⟨look_sound rfl (f124_L1_ok α n), trivial⟩
theorem f124_ok (n : Nat) : (f124_E n).Sound Try.prog :=
  fn_ok (tyOf_ok _) prog_fol (f124_D _ n) (show Try.prog.funcs[124]? = some Try.f124 by kernel_rfl) (by kernel_rfl) (show Try.f124.body = some (bodyOf Try.f124) by kernel_rfl) rfl rfl (Nat.le_of_ble_eq_true rfl) (f124_d _ n) (by intro x; kernel_rfl) 


abbrev f86_J3 : Tm := ⟨[(1, .k (.hp 1 0 0))], [(1, .var 31 true false [.d .bool, .d hIs, .d hIs])], [], []⟩
def f86 (n : Nat) (a0 : Bool × (List Int) × (List Int)) : Option Bool :=
  let J_5 := fun (_ : Unit) => (
    ob (f124 n a0.2.1 a0.2.2) fun r_3 =>
    ob (f123 n r_3 [1]) fun r_4 =>
    some (r_4 == 0))
  ob (f122 n a0.2.1) fun r_1 =>
  bif (!r_1) then
    some false
  else
    ob (f122 n a0.2.2) fun r_2 =>
    bif (!r_2) then
      some false
    else
      bif ((a0.2.2.length : Int) == 0) then
        some false
      else
        bif ((a0.2.1.length : Int) == 0) then
          bif a0.1 then
            some false
          else
            J_5 ()
        else
          J_5 ()
def f86_E (n : Nat) : Ent := ⟨86, [hR], [.bool], fun x => f86 n x⟩
def f86_D (α : Type) (n : Nat) : D3 α := { reg := [(1, ⟨0, [], [(2, { ent := some (f122_E n) }), (7, { ent := some (f122_E n) })]⟩), (3, ⟨0, [], [(4, { ent := some (f124_E n) }), (5, { sh := some hI }), (6, { ent := some (f123_E n) })]⟩)], join := [(3, f86_J3)], loop := [] }
theorem f86_ents (α : Type) (n : Nat) : AllS Try.prog (entsOf (f86_D α n).reg) := ⟨f122_ok n, f122_ok n, f124_ok n, f123_ok n, trivial⟩
theorem f86_d (α : Type) (n : Nat) : D3.OK Try.prog (tyOf Try.prog) ⟨37, []⟩ (f86_D α n) (bodyOf Try.f86) :=
  D3.OK.mk3 (f86_ents α n) (show loopsOf (bodyOf Try.f86) = [] by kernel_rfl) trivial
theorem f86_ok (n : Nat) : (f86_E n).Sound Try.prog :=
  fn_ok (tyOf_ok _) prog_fol (f86_D _ n) (show Try.prog.funcs[86]? = some Try.f86 by kernel_rfl) (by kernel_rfl) (show Try.f86.body = some (bodyOf Try.f86) by kernel_rfl) rfl rfl (Nat.le_of_ble_eq_true rfl) (f86_d _ n) (by intro x; kernel_rfl) 


def f106_L4B {α : Type} (n : Nat) (s0 : List (Bool × (List Int) × (List Int))) (s3 : Int) (f : (List (Bool × (List Int) × (List Int))) → Int → Option α) (k0 : Bool → Option α) (k1 : (List (Bool × (List Int) × (List Int))) → Option α) : Option α :=
  bif (decide (s3 < (s0.length : Int))) then
    gd (decide (0 ≤ s3) && decide (s3 < (s0.length : Int))) (
      let x_1 := s0.getD s3.toNat (false, [], [])
      ob (f86 n x_1) fun r_2 =>
      bif (!r_2) then
        k0 false
      else
        f s0 (W (s3 + 1)))
  else
    k1 s0
abbrev f106_L4H : Tm := ⟨[(0, .d hRs), (3, .d hI)], [], [], []⟩
abbrev f106_L4X0 : Tm := ⟨[(2, .d .bool)], [], [], []⟩
abbrev f106_L4X1 : Tm := ⟨[(0, .d hRs)], [], [], []⟩
abbrev f106_L4O : List (Exit × Tm) := [(.ret, f106_L4X0), (.exit 0, f106_L4X1)]
def f106_L4U {α : Type} (n : Nat) (v : f106_L4H.den) (f : f106_L4H.den → Option α) (ks : KS α f106_L4O) : Option α := f106_L4B n v.1.1 v.1.2.1 (fun s0 s3 => f ((s0, s3, ()), ())) (fun w0 => ks.1 ((w0, ()), ())) (fun w0 => ks.2.1 ((w0, ()), ()))
def f106_L4 {α : Type} (n m : Nat) (s0 : List (Bool × (List Int) × (List Int))) (s3 : Int) (k0 : Bool → Option α) (k1 : (List (Bool × (List Int) × (List Int))) → Option α) : Option α := rounds (f106_L4U n) m ((s0, s3, ()), ()) (fun w => k0 w.1.1, fun w => k1 w.1.1, ())
theorem f106_L4_0 {α : Type} (n : Nat) (s0 : List (Bool × (List Int) × (List Int))) (s3 : Int) (k0 : Bool → Option α) (k1 : (List (Bool × (List Int) × (List Int))) → Option α) : f106_L4 (α := α) n 0 s0 s3 k0 k1 = none := rfl
theorem f106_L4_s {α : Type} (n m : Nat) (s0 : List (Bool × (List Int) × (List Int))) (s3 : Int) (k0 : Bool → Option α) (k1 : (List (Bool × (List Int) × (List Int))) → Option α) : f106_L4 (α := α) n (m + 1) s0 s3 k0 k1 = f106_L4B n s0 s3 (fun s0 s3 => f106_L4 n m s0 s3 k0 k1) k0 k1 := rfl
def f106 (n : Nat) (a0 : List (Bool × (List Int) × (List Int))) : Option Bool :=
  bif (decide ((a0.length : Int) > 4096)) then
    some false
  else
    f106_L4 n n a0 0
      (fun z_3 => (
        some z_3))
      (fun z_4 => (
        ob (f85 n (z_4.length : Int) 1 4) fun r_5 =>
        some r_5))
def f106_E (n : Nat) : Ent := ⟨106, [hRs], [.bool], fun x => f106 n x⟩
def f106_D (α : Type) (n : Nat) : D3 α := { reg := [(6, ⟨0, [], [(4, { ent := some (f86_E n) })]⟩), (8, ⟨0, [], [(2, { ent := some (f85_E n) })]⟩)], join := [], loop := [(4, ⟨f106_L4H, f106_L4O, rounds (f106_L4U n) n⟩)] }
theorem f106_ents (α : Type) (n : Nat) : AllS Try.prog (entsOf (f106_D α n).reg) := ⟨f86_ok n, f85_ok n, trivial⟩
theorem f106_L4_d (α : Type) (n : Nat) : D3.OK Try.prog (tyOf Try.prog) ⟨22, []⟩ (f106_D α n) ((bodyOf Try.f106).at [1, 1, 0, 1, 0, 0]) :=
  D3.OK.mk3 (f106_ents α n) (show loopsOf ((bodyOf Try.f106).at [1, 1, 0, 1, 0, 0]) = [] by kernel_rfl) trivial
theorem f106_L4_ok (α : Type) (n : Nat) : LO.Sound (α := α) Try.prog ⟨22, []⟩ ⟨f106_L4H, f106_L4O, rounds (f106_L4U n) n⟩ (.loop ((bodyOf Try.f106).at [1, 1, 0, 1, 0, 0])) :=
  loop_ok (tyOf_ok _) prog_fol (f106_L4U n) (f106_L4_d α n) (by intro v f ks; kernel_rfl) n
theorem f106_d (α : Type) (n : Nat) : D3.OK Try.prog (tyOf Try.prog) ⟨22, []⟩ (f106_D α n) (bodyOf Try.f106) :=
  D3.OK.mk3 (f106_ents α n) (show loopsOf (bodyOf Try.f106) = [(4, (.loop ((bodyOf Try.f106).at [1, 1, 0, 1, 0, 0])))] by kernel_rfl) ⟨look_sound rfl (f106_L4_ok α n), trivial⟩
theorem f106_ok (n : Nat) : (f106_E n).Sound Try.prog :=
  fn_ok (tyOf_ok _) prog_fol (f106_D _ n) (show Try.prog.funcs[106]? = some Try.f106 by kernel_rfl) (by kernel_rfl) (show Try.f106.body = some (bodyOf Try.f106) by kernel_rfl) rfl rfl (Nat.le_of_ble_eq_true rfl) (f106_d _ n) (by intro x; kernel_rfl) 


def f107_L3B {α : Type} (n : Nat) (s3 : Int) (s4 : Int) (c1_0 : List (Int × Int × Int × Int)) (f : Int → Int → (List (Int × Int × Int × Int)) → Option α) (k0 : Int → Option α) : Option α :=
  bif (decide (s4 < (c1_0.length : Int))) then
    gd (decide (0 ≤ s4) && decide (s4 < (c1_0.length : Int))) (
      let x_1 := c1_0.getD s4.toNat (0, 0, 0, 0)
      bif (x_1.1 == 2) then
        gd (decide (0 ≤ s4) && decide (s4 < (c1_0.length : Int))) (
          let x_2 := c1_0.getD s4.toNat (0, 0, 0, 0)
          f (max s3 (W (x_2.2.2.2 + 1))) (W (s4 + 1)) c1_0)
      else
        f s3 (W (s4 + 1)) c1_0)
  else
    k0 s3
abbrev f107_L3H : Tm := ⟨[(1, .k (.hp 1 0 0)), (3, .d hI), (4, .d hI)], [(1, .var 57 true false [.d hNs])], [], []⟩
abbrev f107_L3X0 : Tm := ⟨[(3, .d hI)], [], [1], []⟩
abbrev f107_L3O : List (Exit × Tm) := [(.exit 0, f107_L3X0)]
def f107_L3U {α : Type} (n : Nat) (v : f107_L3H.den) (f : f107_L3H.den → Option α) (ks : KS α f107_L3O) : Option α := f107_L3B n v.1.2.1 v.1.2.2.1 v.2.1.1 (fun s3 s4 c1_0 => f (((), s3, s4, ()), ((c1_0, ()), ()))) (fun w0 => ks.1 ((w0, ()), ()))
def f107_L3 {α : Type} (n m : Nat) (s3 : Int) (s4 : Int) (c1_0 : List (Int × Int × Int × Int)) (k0 : Int → Option α) : Option α := rounds (f107_L3U n) m (((), s3, s4, ()), ((c1_0, ()), ())) (fun w => k0 w.1.1, ())
theorem f107_L3_0 {α : Type} (n : Nat) (s3 : Int) (s4 : Int) (c1_0 : List (Int × Int × Int × Int)) (k0 : Int → Option α) : f107_L3 (α := α) n 0 s3 s4 c1_0 k0 = none := rfl
theorem f107_L3_s {α : Type} (n m : Nat) (s3 : Int) (s4 : Int) (c1_0 : List (Int × Int × Int × Int)) (k0 : Int → Option α) : f107_L3 (α := α) n (m + 1) s3 s4 c1_0 k0 = f107_L3B n s3 s4 c1_0 (fun s3 s4 c1_0 => f107_L3 n m s3 s4 c1_0 k0) k0 := rfl
def f107 (n : Nat) (a0 : List (Int × Int × Int × Int)) : Option Int :=
  f107_L3 n n 0 0 a0
    (fun z_3 => (
      some z_3))
def f107_E (n : Nat) : Ent := ⟨107, [hE], [hI], fun x => f107 n x⟩
def f107_D (α : Type) (n : Nat) : D3 α := { reg := [], join := [], loop := [(3, ⟨f107_L3H, f107_L3O, rounds (f107_L3U n) n⟩)] }
theorem f107_ents (α : Type) (n : Nat) : AllS Try.prog (entsOf (f107_D α n).reg) := trivial
theorem f107_L3_d (α : Type) (n : Nat) : D3.OK Try.prog (tyOf Try.prog) ⟨29, []⟩ (f107_D α n) ((bodyOf Try.f107).at [1, 1, 0, 1, 0, 0]) :=
  D3.OK.mk3 (f107_ents α n) (show loopsOf ((bodyOf Try.f107).at [1, 1, 0, 1, 0, 0]) = [] by kernel_rfl) trivial
theorem f107_L3_ok (α : Type) (n : Nat) : LO.Sound (α := α) Try.prog ⟨29, []⟩ ⟨f107_L3H, f107_L3O, rounds (f107_L3U n) n⟩ (.loop ((bodyOf Try.f107).at [1, 1, 0, 1, 0, 0])) :=
  loop_ok (tyOf_ok _) prog_fol (f107_L3U n) (f107_L3_d α n) (by intro v f ks; kernel_rfl) n
theorem f107_d (α : Type) (n : Nat) : D3.OK Try.prog (tyOf Try.prog) ⟨29, []⟩ (f107_D α n) (bodyOf Try.f107) :=
  D3.OK.mk3 (f107_ents α n) (show loopsOf (bodyOf Try.f107) = [(3, (.loop ((bodyOf Try.f107).at [1, 1, 0, 1, 0, 0])))] by kernel_rfl) ⟨look_sound rfl (f107_L3_ok α n), trivial⟩
theorem f107_ok (n : Nat) : (f107_E n).Sound Try.prog :=
  fn_ok (tyOf_ok _) prog_fol (f107_D _ n) (show Try.prog.funcs[107]? = some Try.f107 by kernel_rfl) (by kernel_rfl) (show Try.f107.body = some (bodyOf Try.f107) by kernel_rfl) rfl rfl (Nat.le_of_ble_eq_true rfl) (f107_d _ n) (by intro x; kernel_rfl) 


def f87 (n : Nat) (a0 : Bool × (List Int) × (List Int)) : Option Bool :=
  some ((a0.2.1.length : Int) == 0)
def f87_E (n : Nat) : Ent := ⟨87, [hR], [.bool], fun x => f87 n x⟩
def f87_D (α : Type) (n : Nat) : D3 α := { reg := [], join := [], loop := [] }
theorem f87_ents (α : Type) (n : Nat) : AllS Try.prog (entsOf (f87_D α n).reg) := trivial
theorem f87_d (α : Type) (n : Nat) : D3.OK Try.prog (tyOf Try.prog) ⟨7, []⟩ (f87_D α n) (bodyOf Try.f87) :=
  D3.OK.mk3 (f87_ents α n) (show loopsOf (bodyOf Try.f87) = [] by kernel_rfl) trivial
theorem f87_ok (n : Nat) : (f87_E n).Sound Try.prog :=
  fn_ok (tyOf_ok _) prog_fol (f87_D _ n) (show Try.prog.funcs[87]? = some Try.f87 by kernel_rfl) (by kernel_rfl) (show Try.f87.body = some (bodyOf Try.f87) by kernel_rfl) rfl rfl (Nat.le_of_ble_eq_true rfl) (f87_d _ n) (by intro x; kernel_rfl) 


def f101 (n : Nat) (a0 : Bool × (List Int) × (List Int)) : Option Int :=
  ob (f87 n a0) fun r_1 =>
  bif r_1 then
    some 0
  else
    bif a0.1 then
      some (-1)
    else
      some 1
def f101_E (n : Nat) : Ent := ⟨101, [hR], [hI], fun x => f101 n x⟩
def f101_D (α : Type) (n : Nat) : D3 α := { reg := [(1, ⟨0, [], [(1, { ent := some (f87_E n) })]⟩)], join := [], loop := [] }
theorem f101_ents (α : Type) (n : Nat) : AllS Try.prog (entsOf (f101_D α n).reg) := ⟨f87_ok n, trivial⟩
theorem f101_d (α : Type) (n : Nat) : D3.OK Try.prog (tyOf Try.prog) ⟨9, []⟩ (f101_D α n) (bodyOf Try.f101) :=
  D3.OK.mk3 (f101_ents α n) (show loopsOf (bodyOf Try.f101) = [] by kernel_rfl) trivial
theorem f101_ok (n : Nat) : (f101_E n).Sound Try.prog :=
  fn_ok (tyOf_ok _) prog_fol (f101_D _ n) (show Try.prog.funcs[101]? = some Try.f101 by kernel_rfl) (by kernel_rfl) (show Try.f101.body = some (bodyOf Try.f101) by kernel_rfl) rfl rfl (Nat.le_of_ble_eq_true rfl) (f101_d _ n) (by intro x; kernel_rfl) 


def f59 (n : Nat) (a0 : (List (Int × Int × Int × Int)) × (List (Bool × (List Int) × (List Int))) × (List (Bool × (List Int) × (List Int))) × (List (Bool × (List Int) × (List Int))) × Int × (Bool × (List Int) × (List Int)) × Int × Int) : Option Bool :=
  some (decide ((a0.2.2.1.length : Int) > 0))
def f59_E (n : Nat) : Ent := ⟨59, [(.st (.pair hE (.pair hRs (.pair hRs (.pair hRs (.pair hI (.pair hR (.pair hI hI))))))))], [.bool], fun x => f59 n x⟩
def f59_D (α : Type) (n : Nat) : D3 α := { reg := [], join := [], loop := [] }
theorem f59_ents (α : Type) (n : Nat) : AllS Try.prog (entsOf (f59_D α n).reg) := trivial
theorem f59_d (α : Type) (n : Nat) : D3.OK Try.prog (tyOf Try.prog) ⟨7, []⟩ (f59_D α n) (bodyOf Try.f59) :=
  D3.OK.mk3 (f59_ents α n) (show loopsOf (bodyOf Try.f59) = [] by kernel_rfl) trivial
theorem f59_ok (n : Nat) : (f59_E n).Sound Try.prog :=
  fn_ok (tyOf_ok _) prog_fol (f59_D _ n) (show Try.prog.funcs[59]? = some Try.f59 by kernel_rfl) (by kernel_rfl) (show Try.f59.body = some (bodyOf Try.f59) by kernel_rfl) rfl rfl (Nat.le_of_ble_eq_true rfl) (f59_d _ n) (by intro x; kernel_rfl) 


def f88 (n : Nat) (a0 : Bool × (List Int) × (List Int)) : Option (Bool × (List Int) × (List Int)) :=
  bif (!a0.1) then
    some ((decide ((a0.2.1.length : Int) > 0)), a0.2)
  else
    some (false, a0.2)
def f88_E (n : Nat) : Ent := ⟨88, [hR], [hR], fun x => f88 n x⟩
def f88_D (α : Type) (n : Nat) : D3 α := { reg := [], join := [], loop := [] }
theorem f88_ents (α : Type) (n : Nat) : AllS Try.prog (entsOf (f88_D α n).reg) := trivial
theorem f88_d (α : Type) (n : Nat) : D3.OK Try.prog (tyOf Try.prog) ⟨14, []⟩ (f88_D α n) (bodyOf Try.f88) :=
  D3.OK.mk3 (f88_ents α n) (show loopsOf (bodyOf Try.f88) = [] by kernel_rfl) trivial
theorem f88_ok (n : Nat) : (f88_E n).Sound Try.prog :=
  fn_ok (tyOf_ok _) prog_fol (f88_D _ n) (show Try.prog.funcs[88]? = some Try.f88 by kernel_rfl) (by kernel_rfl) (show Try.f88.body = some (bodyOf Try.f88) by kernel_rfl) rfl rfl (Nat.le_of_ble_eq_true rfl) (f88_d _ n) (by intro x; kernel_rfl) 


def f150_L4B {α : Type} (n : Nat) (s0 : List Int) (s1 : List Int) (s6 : Int) (s7 : Int) (b8 : List Int) (f : (List Int) → (List Int) → Int → Int → (List Int) → Option α) (k0 : (List Int) → Option α) : Option α :=
  let J_5 := fun (_ : Unit) => (
    let J_4 := fun (y_1 : Int) => (
      let J_3 := fun (y_2 : Int) => (
        gd (decide ((b8.length + 1) * 8 ≤ 140737488355328)) (
          f s0 s1 (W (Int.tdiv y_2 10000)) (W (s7 + 1)) (b8 ++ [(Int.tmod y_2 10000)])))
      bif (decide (s7 < (s1.length : Int))) then
        gd (decide (0 ≤ s7) && decide (s7 < (s1.length : Int))) (
          J_3 (W (y_1 + (s1.getD s7.toNat 0))))
      else
        J_3 y_1)
    bif (decide (s7 < (s0.length : Int))) then
      gd (decide (0 ≤ s7) && decide (s7 < (s0.length : Int))) (
        J_4 (W (s6 + (s0.getD s7.toNat 0))))
    else
      J_4 s6)
  bif (decide (s7 < (s0.length : Int))) then
    J_5 ()
  else
    bif (decide (s7 < (s1.length : Int))) then
      J_5 ()
    else
      bif (decide (s6 > 0)) then
        J_5 ()
      else
        k0 b8
abbrev f150_L4H : Tm := ⟨[(0, .d hIs), (1, .d hIs), (5, .k (.hw 8)), (6, .d hI), (7, .d hI)], [(8, .arr 3 hI false)], [48], []⟩
abbrev f150_L4X0 : Tm := ⟨[(5, .k (.hw 8))], [(8, .arr 3 hI false)], [], []⟩
abbrev f150_L4O : List (Exit × Tm) := [(.exit 0, f150_L4X0)]
def f150_L4U {α : Type} (n : Nat) (v : f150_L4H.den) (f : f150_L4H.den → Option α) (ks : KS α f150_L4O) : Option α := f150_L4B n v.1.1 v.1.2.1 v.1.2.2.2.1 v.1.2.2.2.2.1 v.2.1 (fun s0 s1 s6 s7 b8 => f ((s0, s1, (), s6, s7, ()), (b8, ()))) (fun w0 => ks.1 (((), ()), (w0, ())))
def f150_L4 {α : Type} (n m : Nat) (s0 : List Int) (s1 : List Int) (s6 : Int) (s7 : Int) (b8 : List Int) (k0 : (List Int) → Option α) : Option α := rounds (f150_L4U n) m ((s0, s1, (), s6, s7, ()), (b8, ())) (fun w => k0 w.2.1, ())
theorem f150_L4_0 {α : Type} (n : Nat) (s0 : List Int) (s1 : List Int) (s6 : Int) (s7 : Int) (b8 : List Int) (k0 : (List Int) → Option α) : f150_L4 (α := α) n 0 s0 s1 s6 s7 b8 k0 = none := rfl
theorem f150_L4_s {α : Type} (n m : Nat) (s0 : List Int) (s1 : List Int) (s6 : Int) (s7 : Int) (b8 : List Int) (k0 : (List Int) → Option α) : f150_L4 (α := α) n (m + 1) s0 s1 s6 s7 b8 k0 = f150_L4B n s0 s1 s6 s7 b8 (fun s0 s1 s6 s7 b8 => f150_L4 n m s0 s1 s6 s7 b8 k0) k0 := rfl
abbrev f150_J6 : Tm := ⟨[(0, .d hIs), (1, .d hIs), (5, .k (.hw 8)), (6, .d hI), (7, .d hI)], [(8, .arr 3 hI false)], [], []⟩
abbrev f150_J8 : Tm := ⟨[(0, .d hIs), (1, .d hIs), (5, .k (.hw 8)), (6, .d hI), (7, .d hI)], [(8, .arr 3 hI false)], [], []⟩
abbrev f150_J10 : Tm := ⟨[(0, .d hIs), (1, .d hIs), (5, .k (.hw 8)), (6, .d hI), (7, .d hI)], [(8, .arr 3 hI false)], [], []⟩
def f150 (n : Nat) (a0 : List Int) (a1 : List Int) : Option (List Int) :=
  f150_L4 n n a0 a1 0 0 []
    (fun z_6 => (
      some z_6))
def f150_E (n : Nat) : Ent := ⟨150, [hIs, hIs], [hIs], fun x => f150 n x.1 x.2⟩
def f150_D (α : Type) (n : Nat) : D3 α := { reg := [(1, ⟨0, [], [(0, { sh := some hI })]⟩), (10, ⟨0, [], [(3, { sh := some hI })]⟩)], join := [(6, f150_J6), (8, f150_J8), (10, f150_J10)], loop := [(4, ⟨f150_L4H, f150_L4O, rounds (f150_L4U n) n⟩)] }
theorem f150_ents (α : Type) (n : Nat) : AllS Try.prog (entsOf (f150_D α n).reg) := trivial
theorem f150_L4_d (α : Type) (n : Nat) : D3.OK Try.prog (tyOf Try.prog) ⟨53, []⟩ (f150_D α n) ((bodyOf Try.f150).at [1, 1, 1, 0, 1, 0, 0]) :=
  D3.OK.mk3 (f150_ents α n) (show loopsOf ((bodyOf Try.f150).at [1, 1, 1, 0, 1, 0, 0]) = [] by kernel_rfl) trivial
theorem f150_L4_ok (α : Type) (n : Nat) : LO.Sound (α := α) Try.prog ⟨53, []⟩ ⟨f150_L4H, f150_L4O, rounds (f150_L4U n) n⟩ (.loop ((bodyOf Try.f150).at [1, 1, 1, 0, 1, 0, 0])) :=
  loop_ok (tyOf_ok _) prog_fol (f150_L4U n) (f150_L4_d α n) (by intro v f ks; kernel_rfl) n
theorem f150_d (α : Type) (n : Nat) : D3.OK Try.prog (tyOf Try.prog) ⟨53, []⟩ (f150_D α n) (bodyOf Try.f150) :=
  D3.OK.mk3 (f150_ents α n) (show loopsOf (bodyOf Try.f150) = [(4, (.loop ((bodyOf Try.f150).at [1, 1, 1, 0, 1, 0, 0])))] by kernel_rfl) ⟨look_sound rfl (f150_L4_ok α n), trivial⟩
theorem f150_ok (n : Nat) : (f150_E n).Sound Try.prog :=
  fn_ok (tyOf_ok _) prog_fol (f150_D _ n) (show Try.prog.funcs[150]? = some Try.f150 by kernel_rfl) (by kernel_rfl) (show Try.f150.body = some (bodyOf Try.f150) by kernel_rfl) rfl rfl (Nat.le_of_ble_eq_true rfl) (f150_d _ n) (by intro x; kernel_rfl) 


def f125 (n : Nat) (a0 : Bool) (a1 : List Int) (a2 : List Int) : Option (Bool × (List Int) × (List Int)) :=
  ob (f124 n a1 a2) fun r_1 =>
  ob (f148 n a1 r_1) fun r_2 =>
  ob (f148 n a2 r_1) fun r_3 =>
  bif a0 then
    some ((decide ((r_2.1.length : Int) > 0)), r_2.1, r_3.1)
  else
    some (false, r_2.1, r_3.1)
def f125_E (n : Nat) : Ent := ⟨125, [.bool, hIs, hIs], [hR], fun x => f125 n x.1 x.2.1 x.2.2⟩
def f125_D (α : Type) (n : Nat) : D3 α := { reg := [(1, ⟨0, [], [(2, { ent := some (f124_E n) })]⟩), (2, ⟨0, [], [(2, { ent := some (f148_E n) })]⟩), (3, ⟨0, [], [(2, { ent := some (f148_E n) })]⟩)], join := [], loop := [] }
theorem f125_ents (α : Type) (n : Nat) : AllS Try.prog (entsOf (f125_D α n).reg) := ⟨f124_ok n, f148_ok n, f148_ok n, trivial⟩
theorem f125_d (α : Type) (n : Nat) : D3.OK Try.prog (tyOf Try.prog) ⟨36, []⟩ (f125_D α n) (bodyOf Try.f125) :=
  D3.OK.mk3 (f125_ents α n) (show loopsOf (bodyOf Try.f125) = [] by kernel_rfl) trivial
theorem f125_ok (n : Nat) : (f125_E n).Sound Try.prog :=
  fn_ok (tyOf_ok _) prog_fol (f125_D _ n) (show Try.prog.funcs[125]? = some Try.f125 by kernel_rfl) (by kernel_rfl) (show Try.f125.body = some (bodyOf Try.f125) by kernel_rfl) rfl rfl (Nat.le_of_ble_eq_true rfl) (f125_d _ n) (by intro x; kernel_rfl) 


def f127 (n : Nat) (a0 : Bool × (List Int) × (List Int)) (a1 : Bool × (List Int) × (List Int)) : Option (Bool × (List Int) × (List Int)) :=
  ob (f126 n a0.2.1 a1.2.2) fun r_1 =>
  ob (f126 n a1.2.1 a0.2.2) fun r_2 =>
  ob (f126 n a0.2.2 a1.2.2) fun r_3 =>
  bif (a0.1 == a1.1) then
    ob (f150 n r_1 r_2) fun r_4 =>
    ob (f125 n a0.1 r_4 r_3) fun r_5 =>
    some r_5
  else
    ob (f123 n r_1 r_2) fun r_6 =>
    bif (decide (r_6 ≥ 0)) then
      ob (f151 n r_1 r_2) fun r_7 =>
      ob (f125 n a0.1 r_7 r_3) fun r_8 =>
      some r_8
    else
      ob (f151 n r_2 r_1) fun r_9 =>
      ob (f125 n a1.1 r_9 r_3) fun r_10 =>
      some r_10
def f127_E (n : Nat) : Ent := ⟨127, [hR, hR], [hR], fun x => f127 n x.1 x.2⟩
def f127_D (α : Type) (n : Nat) : D3 α := { reg := [(1, ⟨0, [], [(4, { ent := some (f126_E n) })]⟩), (2, ⟨0, [], [(4, { ent := some (f126_E n) })]⟩), (3, ⟨0, [], [(4, { ent := some (f126_E n) })]⟩), (5, ⟨6, [], [(4, { ent := some (f150_E n) }), (6, { ent := some (f125_E n) })]⟩), (6, ⟨0, [], [(2, { ent := some (f123_E n) })]⟩), (7, ⟨6, [], [(4, { ent := some (f151_E n) }), (6, { ent := some (f125_E n) })]⟩), (8, ⟨6, [], [(4, { ent := some (f151_E n) }), (6, { ent := some (f125_E n) })]⟩)], join := [], loop := [] }
theorem f127_ents (α : Type) (n : Nat) : AllS Try.prog (entsOf (f127_D α n).reg) := ⟨f126_ok n, f126_ok n, f126_ok n, f150_ok n, f125_ok n, f123_ok n, f151_ok n, f125_ok n, f151_ok n, f125_ok n, trivial⟩
theorem f127_d (α : Type) (n : Nat) : D3.OK Try.prog (tyOf Try.prog) ⟨53, []⟩ (f127_D α n) (bodyOf Try.f127) :=
  D3.OK.mk3 (f127_ents α n) (show loopsOf (bodyOf Try.f127) = [] by kernel_rfl) trivial
theorem f127_ok (n : Nat) : (f127_E n).Sound Try.prog :=
  fn_ok (tyOf_ok _) prog_fol (f127_D _ n) (show Try.prog.funcs[127]? = some Try.f127 by kernel_rfl) (by kernel_rfl) (show Try.f127.body = some (bodyOf Try.f127) by kernel_rfl) rfl rfl (Nat.le_of_ble_eq_true rfl) (f127_d _ n) (by intro x; kernel_rfl) 


def f91 (n : Nat) (a0 : Bool × (List Int) × (List Int)) (a1 : Bool × (List Int) × (List Int)) : Option (Bool × (List Int) × (List Int)) :=
  ob (f88 n a1) fun r_1 =>
  ob (f127 n a0 r_1) fun r_2 =>
  some r_2
def f91_E (n : Nat) : Ent := ⟨91, [hR, hR], [hR], fun x => f91 n x.1 x.2⟩
def f91_D (α : Type) (n : Nat) : D3 α := { reg := [(1, ⟨3, [], [(2, { ent := some (f88_E n) }), (3, { ent := some (f127_E n) })]⟩)], join := [], loop := [] }
theorem f91_ents (α : Type) (n : Nat) : AllS Try.prog (entsOf (f91_D α n).reg) := ⟨f88_ok n, f127_ok n, trivial⟩
theorem f91_d (α : Type) (n : Nat) : D3.OK Try.prog (tyOf Try.prog) ⟨9, []⟩ (f91_D α n) (bodyOf Try.f91) :=
  D3.OK.mk3 (f91_ents α n) (show loopsOf (bodyOf Try.f91) = [] by kernel_rfl) trivial
theorem f91_ok (n : Nat) : (f91_E n).Sound Try.prog :=
  fn_ok (tyOf_ok _) prog_fol (f91_D _ n) (show Try.prog.funcs[91]? = some Try.f91 by kernel_rfl) (by kernel_rfl) (show Try.f91.body = some (bodyOf Try.f91) by kernel_rfl) rfl rfl (Nat.le_of_ble_eq_true rfl) (f91_d _ n) (by intro x; kernel_rfl) 


def f100 (n : Nat) (a0 : Bool × (List Int) × (List Int)) (a1 : Bool × (List Int) × (List Int)) : Option Int :=
  ob (f91 n a0 a1) fun r_1 =>
  ob (f101 n r_1) fun r_2 =>
  some r_2
def f100_E (n : Nat) : Ent := ⟨100, [hR, hR], [hI], fun x => f100 n x.1 x.2⟩
def f100_D (α : Type) (n : Nat) : D3 α := { reg := [(1, ⟨0, [], [(2, { ent := some (f91_E n) }), (3, { ent := some (f101_E n) })]⟩)], join := [], loop := [] }
theorem f100_ents (α : Type) (n : Nat) : AllS Try.prog (entsOf (f100_D α n).reg) := ⟨f91_ok n, f101_ok n, trivial⟩
theorem f100_d (α : Type) (n : Nat) : D3.OK Try.prog (tyOf Try.prog) ⟨9, []⟩ (f100_D α n) (bodyOf Try.f100) :=
  D3.OK.mk3 (f100_ents α n) (show loopsOf (bodyOf Try.f100) = [] by kernel_rfl) trivial
theorem f100_ok (n : Nat) : (f100_E n).Sound Try.prog :=
  fn_ok (tyOf_ok _) prog_fol (f100_D _ n) (show Try.prog.funcs[100]? = some Try.f100 by kernel_rfl) (by kernel_rfl) (show Try.f100.body = some (bodyOf Try.f100) by kernel_rfl) rfl rfl (Nat.le_of_ble_eq_true rfl) (f100_d _ n) (by intro x; kernel_rfl) 


def f58_L8B {α : Type} (n : Nat) (s3 : Int) (c1_0 : List (Int × Int × Int × Int)) (c1_1 : List (Bool × (List Int) × (List Int))) (c1_2 : List (Bool × (List Int) × (List Int))) (c1_3 : List (Bool × (List Int) × (List Int))) (c1_4 : Int) (c1_5 : Bool) (c1_6 : List Int) (c1_7 : List Int) (c1_8 : Int) (c1_9 : Int) (f : Int → (List (Int × Int × Int × Int)) → (List (Bool × (List Int) × (List Int))) → (List (Bool × (List Int) × (List Int))) → (List (Bool × (List Int) × (List Int))) → Int → Bool → (List Int) → (List Int) → Int → Int → Option α) (k0 : Bool → Option α) (k1 : Unit → Option α) : Option α :=
  bif (decide (s3 < (c1_2.length : Int))) then
    gd (decide (0 ≤ s3) && decide (s3 < (c1_2.length : Int))) (
      let x_12 := c1_2.getD s3.toNat (false, [], [])
      gd (decide (0 ≤ s3) && decide (s3 < (c1_1.length : Int))) (
        let x_13 := c1_1.getD s3.toNat (false, [], [])
        ob (f100 n x_12 x_13) fun r_14 =>
        bif (decide (r_14 > 0)) then
          k0 false
        else
          gd (decide (0 ≤ s3) && decide (s3 < (c1_1.length : Int))) (
            let x_15 := c1_1.getD s3.toNat (false, [], [])
            gd (decide (0 ≤ s3) && decide (s3 < (c1_3.length : Int))) (
              let x_16 := c1_3.getD s3.toNat (false, [], [])
              ob (f100 n x_15 x_16) fun r_17 =>
              bif (decide (r_17 > 0)) then
                k0 false
              else
                f (W (s3 + 1)) c1_0 c1_1 c1_2 c1_3 c1_4 c1_5 c1_6 c1_7 c1_8 c1_9))))
  else
    k1 ()
abbrev f58_L8H : Tm := ⟨[(1, .k (.hp 1 0 0)), (3, .d hI)], [(1, .var 59 true false [.d hNs, .d hRs, .d hRs, .d hRs, .d hI, .d .bool, .d hIs, .d hIs, .d hI, .d hI])], [], []⟩
abbrev f58_L8X0 : Tm := ⟨[(2, .d .bool)], [], [1], []⟩
abbrev f58_L8X1 : Tm := ⟨[], [], [1], []⟩
abbrev f58_L8O : List (Exit × Tm) := [(.ret, f58_L8X0), (.exit 0, f58_L8X1)]
def f58_L8U {α : Type} (n : Nat) (v : f58_L8H.den) (f : f58_L8H.den → Option α) (ks : KS α f58_L8O) : Option α := f58_L8B n v.1.2.1 v.2.1.1 v.2.1.2.1 v.2.1.2.2.1 v.2.1.2.2.2.1 v.2.1.2.2.2.2.1 v.2.1.2.2.2.2.2.1 v.2.1.2.2.2.2.2.2.1 v.2.1.2.2.2.2.2.2.2.1 v.2.1.2.2.2.2.2.2.2.2.1 v.2.1.2.2.2.2.2.2.2.2.2.1 (fun s3 c1_0 c1_1 c1_2 c1_3 c1_4 c1_5 c1_6 c1_7 c1_8 c1_9 => f (((), s3, ()), ((c1_0, c1_1, c1_2, c1_3, c1_4, c1_5, c1_6, c1_7, c1_8, c1_9, ()), ()))) (fun w0 => ks.1 ((w0, ()), ())) (fun _ => ks.2.1 ((), ()))
def f58_L8 {α : Type} (n m : Nat) (s3 : Int) (c1_0 : List (Int × Int × Int × Int)) (c1_1 : List (Bool × (List Int) × (List Int))) (c1_2 : List (Bool × (List Int) × (List Int))) (c1_3 : List (Bool × (List Int) × (List Int))) (c1_4 : Int) (c1_5 : Bool) (c1_6 : List Int) (c1_7 : List Int) (c1_8 : Int) (c1_9 : Int) (k0 : Bool → Option α) (k1 : Unit → Option α) : Option α := rounds (f58_L8U n) m (((), s3, ()), ((c1_0, c1_1, c1_2, c1_3, c1_4, c1_5, c1_6, c1_7, c1_8, c1_9, ()), ())) (fun w => k0 w.1.1, fun w => k1 (), ())
theorem f58_L8_0 {α : Type} (n : Nat) (s3 : Int) (c1_0 : List (Int × Int × Int × Int)) (c1_1 : List (Bool × (List Int) × (List Int))) (c1_2 : List (Bool × (List Int) × (List Int))) (c1_3 : List (Bool × (List Int) × (List Int))) (c1_4 : Int) (c1_5 : Bool) (c1_6 : List Int) (c1_7 : List Int) (c1_8 : Int) (c1_9 : Int) (k0 : Bool → Option α) (k1 : Unit → Option α) : f58_L8 (α := α) n 0 s3 c1_0 c1_1 c1_2 c1_3 c1_4 c1_5 c1_6 c1_7 c1_8 c1_9 k0 k1 = none := rfl
theorem f58_L8_s {α : Type} (n m : Nat) (s3 : Int) (c1_0 : List (Int × Int × Int × Int)) (c1_1 : List (Bool × (List Int) × (List Int))) (c1_2 : List (Bool × (List Int) × (List Int))) (c1_3 : List (Bool × (List Int) × (List Int))) (c1_4 : Int) (c1_5 : Bool) (c1_6 : List Int) (c1_7 : List Int) (c1_8 : Int) (c1_9 : Int) (k0 : Bool → Option α) (k1 : Unit → Option α) : f58_L8 (α := α) n (m + 1) s3 c1_0 c1_1 c1_2 c1_3 c1_4 c1_5 c1_6 c1_7 c1_8 c1_9 k0 k1 = f58_L8B n s3 c1_0 c1_1 c1_2 c1_3 c1_4 c1_5 c1_6 c1_7 c1_8 c1_9 (fun s3 c1_0 c1_1 c1_2 c1_3 c1_4 c1_5 c1_6 c1_7 c1_8 c1_9 => f58_L8 n m s3 c1_0 c1_1 c1_2 c1_3 c1_4 c1_5 c1_6 c1_7 c1_8 c1_9 k0 k1) k0 k1 := rfl
def f58 (n : Nat) (a0 : (List (Int × Int × Int × Int)) × (List (Bool × (List Int) × (List Int))) × (List (Bool × (List Int) × (List Int))) × (List (Bool × (List Int) × (List Int))) × Int × (Bool × (List Int) × (List Int)) × Int × Int) : Option Bool :=
  ob (f105 n a0.1) fun r_1 =>
  bif (!r_1) then
    some false
  else
    ob (f106 n a0.2.1) fun r_2 =>
    bif (!r_2) then
      some false
    else
      ob (f107 n a0.1) fun r_3 =>
      bif (decide (r_3 > (a0.2.1.length : Int))) then
        some false
      else
        ob (f85 n a0.2.2.2.2.1 1 4) fun r_4 =>
        bif (!r_4) then
          some false
        else
          ob (f86 n a0.2.2.2.2.2.1) fun r_5 =>
          bif (!r_5) then
            some false
          else
            ob (f101 n a0.2.2.2.2.2.1) fun r_6 =>
            bif (decide (r_6 < 0)) then
              some false
            else
              ob (f85 n a0.2.2.2.2.2.2.1 0 6) fun r_7 =>
              bif (!r_7) then
                some false
              else
                ob (f85 n a0.2.2.2.2.2.2.2 0 30) fun r_8 =>
                bif (!r_8) then
                  some false
                else
                  bif ((a0.2.2.1.length : Int) != (a0.2.2.2.1.length : Int)) then
                    some false
                  else
                    ob (f59 n a0) fun r_9 =>
                    bif (!r_9) then
                      some true
                    else
                      bif ((a0.2.2.1.length : Int) != (a0.2.1.length : Int)) then
                        some false
                      else
                        ob (f106 n a0.2.2.1) fun r_10 =>
                        bif (!r_10) then
                          some false
                        else
                          ob (f106 n a0.2.2.2.1) fun r_11 =>
                          bif (!r_11) then
                            some false
                          else
                            f58_L8 n n 0 a0.1 a0.2.1 a0.2.2.1 a0.2.2.2.1 a0.2.2.2.2.1 a0.2.2.2.2.2.1.1 a0.2.2.2.2.2.1.2.1 a0.2.2.2.2.2.1.2.2 a0.2.2.2.2.2.2.1 a0.2.2.2.2.2.2.2
                              (fun z_18 => (
                                some z_18))
                              (fun (_ : Unit) => (
                                some true))
def f58_E (n : Nat) : Ent := ⟨58, [(.st (.pair hE (.pair hRs (.pair hRs (.pair hRs (.pair hI (.pair hR (.pair hI hI))))))))], [.bool], fun x => f58 n x⟩
def f58_D (α : Type) (n : Nat) : D3 α := { reg := [(1, ⟨56, [], [(2, { ent := some (f105_E n) }), (7, { ent := some (f106_E n) }), (13, { ent := some (f107_E n) }), (22, { ent := some (f85_E n) }), (28, { ent := some (f86_E n) }), (34, { ent := some (f101_E n) }), (40, { ent := some (f85_E n) }), (46, { ent := some (f85_E n) })]⟩), (3, ⟨0, [], [(1, { ent := some (f59_E n) })]⟩), (5, ⟨0, [], [(10, { ent := some (f106_E n) }), (16, { ent := some (f106_E n) })]⟩), (10, ⟨23, [], [(10, { ent := some (f100_E n) }), (23, { ent := some (f100_E n) })]⟩)], join := [], loop := [(8, ⟨f58_L8H, f58_L8O, rounds (f58_L8U n) n⟩)] }
theorem f58_ents (α : Type) (n : Nat) : AllS Try.prog (entsOf (f58_D α n).reg) := ⟨f105_ok n, f106_ok n, f107_ok n, f85_ok n, f86_ok n, f101_ok n, f85_ok n, f85_ok n, f59_ok n, f106_ok n, f106_ok n, f100_ok n, f100_ok n, trivial⟩
theorem f58_L8_d (α : Type) (n : Nat) : D3.OK Try.prog (tyOf Try.prog) ⟨117, []⟩ (f58_D α n) ((bodyOf Try.f58).at [1, 1, 1, 1, 0, 1, 0, 0]) :=
  D3.OK.mk3 (f58_ents α n) (show loopsOf ((bodyOf Try.f58).at [1, 1, 1, 1, 0, 1, 0, 0]) = [] by kernel_rfl) trivial
theorem f58_L8_ok (α : Type) (n : Nat) : LO.Sound (α := α) Try.prog ⟨117, []⟩ ⟨f58_L8H, f58_L8O, rounds (f58_L8U n) n⟩ (.loop ((bodyOf Try.f58).at [1, 1, 1, 1, 0, 1, 0, 0])) :=
  loop_ok (tyOf_ok _) prog_fol (f58_L8U n) (f58_L8_d α n) (by intro v f ks; kernel_rfl) n
theorem f58_d (α : Type) (n : Nat) : D3.OK Try.prog (tyOf Try.prog) ⟨117, []⟩ (f58_D α n) (bodyOf Try.f58) :=
  D3.OK.mk3 (f58_ents α n) (show loopsOf (bodyOf Try.f58) = [(8, (.loop ((bodyOf Try.f58).at [1, 1, 1, 1, 0, 1, 0, 0])))] by kernel_rfl) ⟨look_sound rfl (f58_L8_ok α n), trivial⟩
theorem f58_ok (n : Nat) : (f58_E n).Sound Try.prog :=
  fn_ok (tyOf_ok _) prog_fol (f58_D _ n) (show Try.prog.funcs[58]? = some Try.f58 by kernel_rfl) (by kernel_rfl) (show Try.f58.body = some (bodyOf Try.f58) by kernel_rfl) rfl rfl (Nat.le_of_ble_eq_true rfl) (f58_d _ n) (by intro x; kernel_rfl) 


def f26 (n : Nat) (a0 : (List (Int × Int × Int × Int)) × (List (Bool × (List Int) × (List Int))) × (List (Bool × (List Int) × (List Int))) × (List (Bool × (List Int) × (List Int))) × Int × (Bool × (List Int) × (List Int)) × Int × Int) : Option (Bool × Int) :=
  ob (f58 n a0) fun r_1 =>
  bif (!r_1) then
    some (false, 1)
  else
    ob (f59 n a0) fun r_2 =>
    some (r_2, 0)
def f26_E (n : Nat) : Ent := ⟨26, [(.st (.pair hE (.pair hRs (.pair hRs (.pair hRs (.pair hI (.pair hR (.pair hI hI))))))))], [.bool, hI], fun x => f26 n x⟩
def f26_D (α : Type) (n : Nat) : D3 α := { reg := [(1, ⟨0, [], [(1, { ent := some (f58_E n) })]⟩), (3, ⟨0, [], [(1, { ent := some (f59_E n) })]⟩)], join := [], loop := [] }
theorem f26_ents (α : Type) (n : Nat) : AllS Try.prog (entsOf (f26_D α n).reg) := ⟨f58_ok n, f59_ok n, trivial⟩
theorem f26_d (α : Type) (n : Nat) : D3.OK Try.prog (tyOf Try.prog) ⟨9, []⟩ (f26_D α n) (bodyOf Try.f26) :=
  D3.OK.mk3 (f26_ents α n) (show loopsOf (bodyOf Try.f26) = [] by kernel_rfl) trivial
theorem f26_ok (n : Nat) : (f26_E n).Sound Try.prog :=
  fn_ok (tyOf_ok _) prog_fol (f26_D _ n) (show Try.prog.funcs[26]? = some Try.f26 by kernel_rfl) (by kernel_rfl) (show Try.f26.body = some (bodyOf Try.f26) by kernel_rfl) rfl rfl (Nat.le_of_ble_eq_true rfl) (f26_d _ n) (by intro x; kernel_rfl) 


def f48 (n : Nat) (a0 : Int) (a1 : Int) (a2 : Int) : Option Bool :=
  bif (decide (a1 ≤ a0)) then
    some (decide (a0 ≤ a2))
  else
    some false
def f48_E (n : Nat) : Ent := ⟨48, [hI, hI, hI], [.bool], fun x => f48 n x.1 x.2.1 x.2.2⟩
def f48_D (α : Type) (n : Nat) : D3 α := { reg := [], join := [], loop := [] }
theorem f48_ents (α : Type) (n : Nat) : AllS Try.prog (entsOf (f48_D α n).reg) := trivial
theorem f48_d (α : Type) (n : Nat) : D3.OK Try.prog (tyOf Try.prog) ⟨15, []⟩ (f48_D α n) (bodyOf Try.f48) :=
  D3.OK.mk3 (f48_ents α n) (show loopsOf (bodyOf Try.f48) = [] by kernel_rfl) trivial
theorem f48_ok (n : Nat) : (f48_E n).Sound Try.prog :=
  fn_ok (tyOf_ok _) prog_fol (f48_D _ n) (show Try.prog.funcs[48]? = some Try.f48 by kernel_rfl) (by kernel_rfl) (show Try.f48.body = some (bodyOf Try.f48) by kernel_rfl) rfl rfl (Nat.le_of_ble_eq_true rfl) (f48_d _ n) (by intro x; kernel_rfl) 


def f161 (n : Nat) (a0 : Int × Int × Int × Int) : Option Bool :=
  bif (a0.1 == 1) then
    ob (f48 n a0.2.2.2 0 999999999) fun r_1 =>
    some r_1
  else
    bif (a0.1 == 2) then
      ob (f48 n a0.2.2.2 0 3) fun r_2 =>
      some r_2
    else
      bif (a0.1 == 8) then
        ob (f48 n a0.2.2.2 0 8) fun r_3 =>
        some r_3
      else
        some (a0.2.2.2 == 0)
def f161_E (n : Nat) : Ent := ⟨161, [hN], [.bool], fun x => f161 n x⟩
def f161_D (α : Type) (n : Nat) : D3 α := { reg := [(3, ⟨0, [], [(2, { ent := some (f48_E n) })]⟩), (5, ⟨0, [], [(2, { ent := some (f48_E n) })]⟩), (7, ⟨0, [], [(2, { ent := some (f48_E n) })]⟩)], join := [], loop := [] }
theorem f161_ents (α : Type) (n : Nat) : AllS Try.prog (entsOf (f161_D α n).reg) := ⟨f48_ok n, f48_ok n, f48_ok n, trivial⟩
theorem f161_d (α : Type) (n : Nat) : D3.OK Try.prog (tyOf Try.prog) ⟨23, []⟩ (f161_D α n) (bodyOf Try.f161) :=
  D3.OK.mk3 (f161_ents α n) (show loopsOf (bodyOf Try.f161) = [] by kernel_rfl) trivial
theorem f161_ok (n : Nat) : (f161_E n).Sound Try.prog :=
  fn_ok (tyOf_ok _) prog_fol (f161_D _ n) (show Try.prog.funcs[161]? = some Try.f161 by kernel_rfl) (by kernel_rfl) (show Try.f161.body = some (bodyOf Try.f161) by kernel_rfl) rfl rfl (Nat.le_of_ble_eq_true rfl) (f161_d _ n) (by intro x; kernel_rfl) 


def f160 (n : Nat) (a0 : Int × Int × Int × Int) : Option Int :=
  bif (a0.1 == 3) then
    some 2
  else
    bif (a0.1 == 4) then
      some 2
    else
      bif (a0.1 == 5) then
        some 2
      else
        bif (a0.1 == 6) then
          some 2
        else
          bif (a0.1 == 7) then
            some 1
          else
            bif (a0.1 == 8) then
              some 1
            else
              some 0
def f160_E (n : Nat) : Ent := ⟨160, [hN], [hI], fun x => f160 n x⟩
def f160_D (α : Type) (n : Nat) : D3 α := { reg := [], join := [], loop := [] }
theorem f160_ents (α : Type) (n : Nat) : AllS Try.prog (entsOf (f160_D α n).reg) := trivial
theorem f160_d (α : Type) (n : Nat) : D3.OK Try.prog (tyOf Try.prog) ⟨13, []⟩ (f160_D α n) (bodyOf Try.f160) :=
  D3.OK.mk3 (f160_ents α n) (show loopsOf (bodyOf Try.f160) = [] by kernel_rfl) trivial
theorem f160_ok (n : Nat) : (f160_E n).Sound Try.prog :=
  fn_ok (tyOf_ok _) prog_fol (f160_D _ n) (show Try.prog.funcs[160]? = some Try.f160 by kernel_rfl) (by kernel_rfl) (show Try.f160.body = some (bodyOf Try.f160) by kernel_rfl) rfl rfl (Nat.le_of_ble_eq_true rfl) (f160_d _ n) (by intro x; kernel_rfl) 


def f162 (n : Nat) (a0 : Bool) (a1 : Int) (a2 : Int) : Option Bool :=
  bif a0 then
    ob (f48 n a1 0 (W (a2 - 1))) fun r_1 =>
    bif r_1 then
      some true
    else
      bif (!a0) then
        some (a1 == 0)
      else
        some false
  else
    bif (!a0) then
      some (a1 == 0)
    else
      some false
def f162_E (n : Nat) : Ent := ⟨162, [.bool, hI, (.ref hI)], [.bool], fun x => f162 n x.1 x.2.1 x.2.2⟩
def f162_D (α : Type) (n : Nat) : D3 α := { reg := [(1, ⟨0, [], [(5, { ent := some (f48_E n) })]⟩)], join := [], loop := [] }
theorem f162_ents (α : Type) (n : Nat) : AllS Try.prog (entsOf (f162_D α n).reg) := ⟨f48_ok n, trivial⟩
theorem f162_d (α : Type) (n : Nat) : D3.OK Try.prog (tyOf Try.prog) ⟨21, []⟩ (f162_D α n) (bodyOf Try.f162) :=
  D3.OK.mk3 (f162_ents α n) (show loopsOf (bodyOf Try.f162) = [] by kernel_rfl) trivial
theorem f162_ok (n : Nat) : (f162_E n).Sound Try.prog :=
  fn_ok (tyOf_ok _) prog_fol (f162_D _ n) (show Try.prog.funcs[162]? = some Try.f162 by kernel_rfl) (by kernel_rfl) (show Try.f162.body = some (bodyOf Try.f162) by kernel_rfl) rfl rfl (Nat.le_of_ble_eq_true rfl) (f162_d _ n) (by intro x; kernel_rfl) 


def f159 (n : Nat) (a0 : Int × Int × Int × Int) (a1 : Int) : Option Bool :=
  ob (f48 n a0.1 1 8) fun r_1 =>
  bif (!r_1) then
    some false
  else
    ob (f161 n a0) fun r_2 =>
    bif (!r_2) then
      some false
    else
      ob (f160 n a0) fun r_3 =>
      ob (f162 n (decide (r_3 > 0)) a0.2.1 a1) fun r_4 =>
      bif r_4 then
        ob (f160 n a0) fun r_5 =>
        ob (f162 n (decide (r_5 > 1)) a0.2.2.1 a1) fun r_6 =>
        some r_6
      else
        some false
def f159_E (n : Nat) : Ent := ⟨159, [hN, hI], [.bool], fun x => f159 n x.1 x.2⟩
def f159_D (α : Type) (n : Nat) : D3 α := { reg := [(1, ⟨0, [], [(2, { ent := some (f48_E n) }), (6, { ent := some (f161_E n) })]⟩), (3, ⟨0, [], [(0, { sh := some (.ref hI) })]⟩), (4, ⟨14, [], [(2, { ent := some (f160_E n) }), (6, { ent := some (f162_E n) }), (10, { ent := some (f160_E n) }), (14, { ent := some (f162_E n) })]⟩)], join := [], loop := [] }
theorem f159_ents (α : Type) (n : Nat) : AllS Try.prog (entsOf (f159_D α n).reg) := ⟨f48_ok n, f161_ok n, f160_ok n, f162_ok n, f160_ok n, f162_ok n, trivial⟩
theorem f159_d (α : Type) (n : Nat) : D3.OK Try.prog (tyOf Try.prog) ⟨32, []⟩ (f159_D α n) (bodyOf Try.f159) :=
  D3.OK.mk3 (f159_ents α n) (show loopsOf (bodyOf Try.f159) = [] by kernel_rfl) trivial
theorem f159_ok (n : Nat) : (f159_E n).Sound Try.prog :=
  fn_ok (tyOf_ok _) prog_fol (f159_D _ n) (show Try.prog.funcs[159]? = some Try.f159 by kernel_rfl) (by kernel_rfl) (show Try.f159.body = some (bodyOf Try.f159) by kernel_rfl) rfl rfl (Nat.le_of_ble_eq_true rfl) (f159_d _ n) (by intro x; kernel_rfl) 


def f155_L3B {α : Type} (n : Nat) (s13 : List (Int × Int × Int × Int)) (s14 : Int) (s15 : Int) (b11 : List Int) (b12 : List Int) (f : (List (Int × Int × Int × Int)) → Int → Int → (List Int) → (List Int) → Option α) (k0 : Bool → Option α) (k1 : (List Int) → (List Int) → Option α) : Option α :=
  bif (decide (s15 < s14)) then
    gd (decide (0 ≤ s15) && decide (s15 < (s13.length : Int))) (
      let x_1 := s13.getD s15.toNat (0, 0, 0, 0)
      ob (f159 n x_1 s15) fun r_2 =>
      bif (!r_2) then
        k0 false
      else
        let J_6 := fun (y_4 : Int) (y_5 : Int) => (
          gd (decide ((b11.length + 1) * 8 ≤ 140737488355328)) (
            gd (decide ((b12.length + 1) * 8 ≤ 140737488355328)) (
              f s13 s14 (W (s15 + 1)) (b11 ++ [y_4]) (b12 ++ [y_5]))))
        ob (f160 n x_1) fun r_3 =>
        bif (r_3 == 1) then
          bif (x_1.2.1 != (W (s15 - 1))) then
            k0 false
          else
            gd (decide (0 ≤ x_1.2.1) && decide (x_1.2.1 < (b11.length : Int))) (
              gd (decide (x_1.2.1.toNat < b11.length)) (
                gd (decide (0 ≤ x_1.2.1) && decide (x_1.2.1 < (b12.length : Int))) (
                  gd (decide (x_1.2.1.toNat < b12.length)) (
                    J_6 (b11.getD x_1.2.1.toNat 0) (W ((b12.getD x_1.2.1.toNat 0) + 1))))))
        else
          bif (r_3 == 2) then
            bif (x_1.2.2.1 != (W (s15 - 1))) then
              k0 false
            else
              gd (decide (0 ≤ x_1.2.2.1) && decide (x_1.2.2.1 < (b11.length : Int))) (
                gd (decide (x_1.2.2.1.toNat < b11.length)) (
                  bif (x_1.2.1 != (W ((b11.getD x_1.2.2.1.toNat 0) - 1))) then
                    k0 false
                  else
                    gd (decide (0 ≤ x_1.2.1) && decide (x_1.2.1 < (b11.length : Int))) (
                      gd (decide (x_1.2.1.toNat < b11.length)) (
                        gd (decide (0 ≤ x_1.2.1) && decide (x_1.2.1 < (b12.length : Int))) (
                          gd (decide (x_1.2.1.toNat < b12.length)) (
                            gd (decide (0 ≤ x_1.2.2.1) && decide (x_1.2.2.1 < (b12.length : Int))) (
                              gd (decide (x_1.2.2.1.toNat < b12.length)) (
                                J_6 (b11.getD x_1.2.1.toNat 0) (W ((max (b12.getD x_1.2.1.toNat 0) (b12.getD x_1.2.2.1.toNat 0)) + 1))))))))))
          else
            J_6 s15 1)
  else
    k1 b11 b12
abbrev f155_L3H : Tm := ⟨[(5, .k (.hw 11)), (6, .k (.hw 12)), (13, .d hNs), (14, .d hI), (15, .d hI)], [(11, .arr 3 hI false), (12, .arr 3 hI false)], [82, 86], []⟩
abbrev f155_L3X0 : Tm := ⟨[(2, .d .nil), (3, .d .nil), (4, .d .bool)], [], [8, 11, 12], []⟩
abbrev f155_L3X1 : Tm := ⟨[(5, .k (.hw 11)), (6, .k (.hw 12))], [(11, .arr 3 hI false), (12, .arr 3 hI false)], [], []⟩
abbrev f155_L3O : List (Exit × Tm) := [(.ret, f155_L3X0), (.exit 0, f155_L3X1)]
def f155_L3U {α : Type} (n : Nat) (v : f155_L3H.den) (f : f155_L3H.den → Option α) (ks : KS α f155_L3O) : Option α := f155_L3B n v.1.2.2.1 v.1.2.2.2.1 v.1.2.2.2.2.1 v.2.1 v.2.2.1 (fun s13 s14 s15 b11 b12 => f (((), (), s13, s14, s15, ()), (b11, b12, ()))) (fun w0 => ks.1 (((), (), w0, ()), ())) (fun w0 w1 => ks.2.1 (((), (), ()), (w0, w1, ())))
def f155_L3 {α : Type} (n m : Nat) (s13 : List (Int × Int × Int × Int)) (s14 : Int) (s15 : Int) (b11 : List Int) (b12 : List Int) (k0 : Bool → Option α) (k1 : (List Int) → (List Int) → Option α) : Option α := rounds (f155_L3U n) m (((), (), s13, s14, s15, ()), (b11, b12, ())) (fun w => k0 w.1.2.2.1, fun w => k1 w.2.1 w.2.2.1, ())
theorem f155_L3_0 {α : Type} (n : Nat) (s13 : List (Int × Int × Int × Int)) (s14 : Int) (s15 : Int) (b11 : List Int) (b12 : List Int) (k0 : Bool → Option α) (k1 : (List Int) → (List Int) → Option α) : f155_L3 (α := α) n 0 s13 s14 s15 b11 b12 k0 k1 = none := rfl
theorem f155_L3_s {α : Type} (n m : Nat) (s13 : List (Int × Int × Int × Int)) (s14 : Int) (s15 : Int) (b11 : List Int) (b12 : List Int) (k0 : Bool → Option α) (k1 : (List Int) → (List Int) → Option α) : f155_L3 (α := α) n (m + 1) s13 s14 s15 b11 b12 k0 k1 = f155_L3B n s13 s14 s15 b11 b12 (fun s13 s14 s15 b11 b12 => f155_L3 n m s13 s14 s15 b11 b12 k0 k1) k0 k1 := rfl
abbrev f155_J17 : Tm := ⟨[(5, .k (.hw 11)), (6, .k (.hw 12)), (9, .d hI), (10, .d hI), (13, .d hNs), (14, .d hI), (15, .d hI)], [(11, .arr 3 hI false), (12, .arr 3 hI false)], [8], []⟩
def f155 (n : Nat) (a0 : List (Int × Int × Int × Int)) : Option ((List Int) × (List Int) × Bool) :=
  f155_L3 n n a0 (a0.length : Int) 0 [] []
    (fun z_7 => (
      some ([], [], z_7)))
    (fun z_8 z_9 => (
      some (z_8, z_9, true)))
def f155_E (n : Nat) : Ent := ⟨155, [hNs], [hIs, hIs, .bool], fun x => f155 n x⟩
def f155_D (α : Type) (n : Nat) : D3 α := { reg := [(1, ⟨0, [], [(0, { sh := some hI }), (1, { sh := some hI })]⟩), (5, ⟨0, [], [(2, { ent := some (f159_E n) })]⟩), (8, ⟨0, [], [(1, { ent := some (f160_E n) })]⟩), (12, ⟨12, [], []⟩), (14, ⟨14, [], []⟩), (16, ⟨18, [], []⟩), (17, ⟨0, [], [(2, { sh := some hI }), (6, { sh := some hI })]⟩)], join := [(17, f155_J17)], loop := [(3, ⟨f155_L3H, f155_L3O, rounds (f155_L3U n) n⟩)] }
theorem f155_ents (α : Type) (n : Nat) : AllS Try.prog (entsOf (f155_D α n).reg) := ⟨f159_ok n, f160_ok n, trivial⟩
theorem f155_L3_d (α : Type) (n : Nat) : D3.OK Try.prog (tyOf Try.prog) ⟨91, []⟩ (f155_D α n) ((bodyOf Try.f155).at [1, 1, 0, 1, 0, 0]) :=
  D3.OK.mk3 (f155_ents α n) (show loopsOf ((bodyOf Try.f155).at [1, 1, 0, 1, 0, 0]) = [] by kernel_rfl) trivial
theorem f155_L3_ok (α : Type) (n : Nat) : LO.Sound (α := α) Try.prog ⟨91, []⟩ ⟨f155_L3H, f155_L3O, rounds (f155_L3U n) n⟩ (.loop ((bodyOf Try.f155).at [1, 1, 0, 1, 0, 0])) :=
  loop_ok (tyOf_ok _) prog_fol (f155_L3U n) (f155_L3_d α n) (by intro v f ks; kernel_rfl) n
theorem f155_d (α : Type) (n : Nat) : D3.OK Try.prog (tyOf Try.prog) ⟨91, []⟩ (f155_D α n) (bodyOf Try.f155) :=
  D3.OK.mk3 (f155_ents α n) (show loopsOf (bodyOf Try.f155) = [(3, (.loop ((bodyOf Try.f155).at [1, 1, 0, 1, 0, 0])))] by kernel_rfl) ⟨look_sound rfl (f155_L3_ok α n), trivial⟩
theorem f155_ok (n : Nat) : (f155_E n).Sound Try.prog :=
  fn_ok (tyOf_ok _) prog_fol (f155_D _ n) (show Try.prog.funcs[155]? = some Try.f155 by kernel_rfl) (by kernel_rfl) (show Try.f155.body = some (bodyOf Try.f155) by kernel_rfl) rfl rfl (Nat.le_of_ble_eq_true rfl) (f155_d _ n) (by intro x; kernel_rfl) 


def f156_L5B {α : Type} (n : Nat) (s0 : List Int) (s3 : Int) (s4 : Int) (f : (List Int) → Int → Int → Option α) (k0 : Int → Option α) : Option α :=
  bif (decide (s4 < (s0.length : Int))) then
    gd (decide (0 ≤ s4) && decide (s4 < (s0.length : Int))) (
      f s0 (max s3 (s0.getD s4.toNat 0)) (W (s4 + 1)))
  else
    k0 s3
abbrev f156_L5H : Tm := ⟨[(0, .d hIs), (3, .d hI), (4, .d hI)], [], [], []⟩
abbrev f156_L5X0 : Tm := ⟨[(3, .d hI)], [], [], []⟩
abbrev f156_L5O : List (Exit × Tm) := [(.exit 0, f156_L5X0)]
def f156_L5U {α : Type} (n : Nat) (v : f156_L5H.den) (f : f156_L5H.den → Option α) (ks : KS α f156_L5O) : Option α := f156_L5B n v.1.1 v.1.2.1 v.1.2.2.1 (fun s0 s3 s4 => f ((s0, s3, s4, ()), ())) (fun w0 => ks.1 ((w0, ()), ()))
def f156_L5 {α : Type} (n m : Nat) (s0 : List Int) (s3 : Int) (s4 : Int) (k0 : Int → Option α) : Option α := rounds (f156_L5U n) m ((s0, s3, s4, ()), ()) (fun w => k0 w.1.1, ())
theorem f156_L5_0 {α : Type} (n : Nat) (s0 : List Int) (s3 : Int) (s4 : Int) (k0 : Int → Option α) : f156_L5 (α := α) n 0 s0 s3 s4 k0 = none := rfl
theorem f156_L5_s {α : Type} (n m : Nat) (s0 : List Int) (s3 : Int) (s4 : Int) (k0 : Int → Option α) : f156_L5 (α := α) n (m + 1) s0 s3 s4 k0 = f156_L5B n s0 s3 s4 (fun s0 s3 s4 => f156_L5 n m s0 s3 s4 k0) k0 := rfl
def f156 (n : Nat) (a0 : List Int) : Option Int :=
  bif (decide ((a0.length : Int) < 1)) then
    none
  else
    gd (decide (0 < (a0.length : Int))) (
      f156_L5 n n a0 (a0.getD 0 0) 1
        (fun z_1 => (
          some z_1)))
def f156_E (n : Nat) : Ent := ⟨156, [hIs], [hI], fun x => f156 n x⟩
def f156_D (α : Type) (n : Nat) : D3 α := { reg := [], join := [], loop := [(5, ⟨f156_L5H, f156_L5O, rounds (f156_L5U n) n⟩)] }
theorem f156_ents (α : Type) (n : Nat) : AllS Try.prog (entsOf (f156_D α n).reg) := trivial
theorem f156_L5_d (α : Type) (n : Nat) : D3.OK Try.prog (tyOf Try.prog) ⟨25, []⟩ (f156_D α n) ((bodyOf Try.f156).at [1, 1, 1, 0, 1, 0, 0]) :=
  D3.OK.mk3 (f156_ents α n) (show loopsOf ((bodyOf Try.f156).at [1, 1, 1, 0, 1, 0, 0]) = [] by kernel_rfl) trivial
theorem f156_L5_ok (α : Type) (n : Nat) : LO.Sound (α := α) Try.prog ⟨25, []⟩ ⟨f156_L5H, f156_L5O, rounds (f156_L5U n) n⟩ (.loop ((bodyOf Try.f156).at [1, 1, 1, 0, 1, 0, 0])) :=
  loop_ok (tyOf_ok _) prog_fol (f156_L5U n) (f156_L5_d α n) (by intro v f ks; kernel_rfl) n
theorem f156_d (α : Type) (n : Nat) : D3.OK Try.prog (tyOf Try.prog) ⟨25, []⟩ (f156_D α n) (bodyOf Try.f156) :=
  D3.OK.mk3 (f156_ents α n) (show loopsOf (bodyOf Try.f156) = [(5, (.loop ((bodyOf Try.f156).at [1, 1, 1, 0, 1, 0, 0])))] by kernel_rfl) ⟨look_sound rfl (f156_L5_ok α n), trivial⟩
theorem f156_ok (n : Nat) : (f156_E n).Sound Try.prog :=
  fn_ok (tyOf_ok _) prog_fol (f156_D _ n) (show Try.prog.funcs[156]? = some Try.f156 by kernel_rfl) (by kernel_rfl) (show Try.f156.body = some (bodyOf Try.f156) by kernel_rfl) rfl rfl (Nat.le_of_ble_eq_true rfl) (f156_d _ n) (by intro x; kernel_rfl) 


def f140 (n : Nat) (a0 : List (Int × Int × Int × Int)) : Option Bool :=
  ob (f48 n (a0.length : Int) 1 60) fun r_1 =>
  bif (!r_1) then
    some false
  else
    ob (f155 n a0) fun r_2 =>
    bif r_2.2.2 then
      gd (decide (0 ≤ (W ((a0.length : Int) - 1))) && decide ((W ((a0.length : Int) - 1)) < (r_2.1.length : Int))) (
        bif ((r_2.1.getD ((W ((a0.length : Int) - 1)).toNat) 0) == 0) then
          ob (f156 n r_2.2.1) fun r_3 =>
          some (decide (r_3 ≤ 12))
        else
          some false)
    else
      some false
def f140_E (n : Nat) : Ent := ⟨140, [hE], [.bool], fun x => f140 n x⟩
def f140_D (α : Type) (n : Nat) : D3 α := { reg := [(2, ⟨0, [], [(1, { ent := some (f48_E n) })]⟩), (4, ⟨0, [], [(2, { ent := some (f155_E n) })]⟩), (5, ⟨0, [], [(11, { ent := some (f156_E n) })]⟩)], join := [], loop := [] }
theorem f140_ents (α : Type) (n : Nat) : AllS Try.prog (entsOf (f140_D α n).reg) := ⟨f48_ok n, f155_ok n, f156_ok n, trivial⟩
theorem f140_d (α : Type) (n : Nat) : D3.OK Try.prog (tyOf Try.prog) ⟨34, []⟩ (f140_D α n) (bodyOf Try.f140) :=
  D3.OK.mk3 (f140_ents α n) (show loopsOf (bodyOf Try.f140) = [] by kernel_rfl) trivial
theorem f140_ok (n : Nat) : (f140_E n).Sound Try.prog :=
  fn_ok (tyOf_ok _) prog_fol (f140_D _ n) (show Try.prog.funcs[140]? = some Try.f140 by kernel_rfl) (by kernel_rfl) (show Try.f140.body = some (bodyOf Try.f140) by kernel_rfl) rfl rfl (Nat.le_of_ble_eq_true rfl) (f140_d _ n) (by intro x; kernel_rfl) 


def f154 (n : Nat) (a0 : Int) : Option Bool :=
  bif (decide (a0 < 0)) then
    some true
  else
    some (decide (a0 ≥ 10000))
def f154_E (n : Nat) : Ent := ⟨154, [hI], [.bool], fun x => f154 n x⟩
def f154_D (α : Type) (n : Nat) : D3 α := { reg := [], join := [], loop := [] }
theorem f154_ents (α : Type) (n : Nat) : AllS Try.prog (entsOf (f154_D α n).reg) := trivial
theorem f154_d (α : Type) (n : Nat) : D3.OK Try.prog (tyOf Try.prog) ⟨9, []⟩ (f154_D α n) (bodyOf Try.f154) :=
  D3.OK.mk3 (f154_ents α n) (show loopsOf (bodyOf Try.f154) = [] by kernel_rfl) trivial
theorem f154_ok (n : Nat) : (f154_E n).Sound Try.prog :=
  fn_ok (tyOf_ok _) prog_fol (f154_D _ n) (show Try.prog.funcs[154]? = some Try.f154 by kernel_rfl) (by kernel_rfl) (show Try.f154.body = some (bodyOf Try.f154) by kernel_rfl) rfl rfl (Nat.le_of_ble_eq_true rfl) (f154_d _ n) (by intro x; kernel_rfl) 


def f158_L2B {α : Type} (n : Nat) (s0 : List Int) (s7 : Int) (s8 : Int) (f : (List Int) → Int → Int → Option α) (k0 : Int → Option α) (k1 : Unit → Option α) : Option α :=
  bif (decide (s8 < s7)) then
    gd (decide (0 ≤ s8) && decide (s8 < (s0.length : Int))) (
      ob (f154 n (s0.getD s8.toNat 0)) fun r_1 =>
      bif r_1 then
        k0 s8
      else
        f s0 s7 (W (s8 + 1)))
  else
    k1 ()
abbrev f158_L2H : Tm := ⟨[(0, .d hIs), (1, .d (.fn 154)), (7, .d hI), (8, .d hI)], [], [], []⟩
abbrev f158_L2X0 : Tm := ⟨[(4, .d hI)], [], [], []⟩
abbrev f158_L2X1 : Tm := ⟨[], [], [], []⟩
abbrev f158_L2O : List (Exit × Tm) := [(.ret, f158_L2X0), (.exit 0, f158_L2X1)]
def f158_L2U {α : Type} (n : Nat) (v : f158_L2H.den) (f : f158_L2H.den → Option α) (ks : KS α f158_L2O) : Option α := f158_L2B n v.1.1 v.1.2.2.1 v.1.2.2.2.1 (fun s0 s7 s8 => f ((s0, (), s7, s8, ()), ())) (fun w0 => ks.1 ((w0, ()), ())) (fun _ => ks.2.1 ((), ()))
def f158_L2 {α : Type} (n m : Nat) (s0 : List Int) (s7 : Int) (s8 : Int) (k0 : Int → Option α) (k1 : Unit → Option α) : Option α := rounds (f158_L2U n) m ((s0, (), s7, s8, ()), ()) (fun w => k0 w.1.1, fun w => k1 (), ())
theorem f158_L2_0 {α : Type} (n : Nat) (s0 : List Int) (s7 : Int) (s8 : Int) (k0 : Int → Option α) (k1 : Unit → Option α) : f158_L2 (α := α) n 0 s0 s7 s8 k0 k1 = none := rfl
theorem f158_L2_s {α : Type} (n m : Nat) (s0 : List Int) (s7 : Int) (s8 : Int) (k0 : Int → Option α) (k1 : Unit → Option α) : f158_L2 (α := α) n (m + 1) s0 s7 s8 k0 k1 = f158_L2B n s0 s7 s8 (fun s0 s7 s8 => f158_L2 n m s0 s7 s8 k0 k1) k0 k1 := rfl
def f158 (n : Nat) (a0 : List Int) (a1 : Unit) : Option Int :=
  f158_L2 n n a0 (a0.length : Int) 0
    (fun z_2 => (
      some z_2))
    (fun (_ : Unit) => (
      some (-1)))
def f158_E (n : Nat) : Ent := ⟨158, [hIs, (.fn 154)], [hI], fun x => f158 n x.1 x.2⟩
def f158_D (α : Type) (n : Nat) : D3 α := { reg := [(4, ⟨0, [], [(5, { ent := some (f154_E n) })]⟩)], join := [], loop := [(2, ⟨f158_L2H, f158_L2O, rounds (f158_L2U n) n⟩)] }
theorem f158_ents (α : Type) (n : Nat) : AllS Try.prog (entsOf (f158_D α n).reg) := ⟨f154_ok n, trivial⟩
theorem f158_L2_d (α : Type) (n : Nat) : D3.OK Try.prog (tyOf Try.prog) ⟨19, []⟩ (f158_D α n) ((bodyOf Try.f158).at [1, 0, 1, 0, 0]) :=
  D3.OK.mk3 (f158_ents α n) (show loopsOf ((bodyOf Try.f158).at [1, 0, 1, 0, 0]) = [] by kernel_rfl) trivial
theorem f158_L2_ok (α : Type) (n : Nat) : LO.Sound (α := α) Try.prog ⟨19, []⟩ ⟨f158_L2H, f158_L2O, rounds (f158_L2U n) n⟩ (.loop ((bodyOf Try.f158).at [1, 0, 1, 0, 0])) :=
  loop_ok (tyOf_ok _) prog_fol (f158_L2U n) (f158_L2_d α n) (by intro v f ks; kernel_rfl) n
theorem f158_d (α : Type) (n : Nat) : D3.OK Try.prog (tyOf Try.prog) ⟨19, []⟩ (f158_D α n) (bodyOf Try.f158) :=
  D3.OK.mk3 (f158_ents α n) (show loopsOf (bodyOf Try.f158) = [(2, (.loop ((bodyOf Try.f158).at [1, 0, 1, 0, 0])))] by kernel_rfl) ⟨look_sound rfl (f158_L2_ok α n), trivial⟩
theorem f158_ok (n : Nat) : (f158_E n).Sound Try.prog :=
  fn_ok (tyOf_ok _) prog_fol (f158_D _ n) (show Try.prog.funcs[158]? = some Try.f158 by kernel_rfl) (by kernel_rfl) (show Try.f158.body = some (bodyOf Try.f158) by kernel_rfl) rfl rfl (Nat.le_of_ble_eq_true rfl) (f158_d _ n) (by intro x; kernel_rfl) 


def f153 (n : Nat) (a0 : List Int) (a1 : Unit) : Option Bool :=
  ob (f158 n a0 a1) fun r_1 =>
  some (decide (r_1 ≥ 0))
def f153_E (n : Nat) : Ent := ⟨153, [hIs, (.fn 154)], [.bool], fun x => f153 n x.1 x.2⟩
def f153_D (α : Type) (n : Nat) : D3 α := { reg := [(1, ⟨0, [], [(2, { ent := some (f158_E n) })]⟩)], join := [], loop := [] }
theorem f153_ents (α : Type) (n : Nat) : AllS Try.prog (entsOf (f153_D α n).reg) := ⟨f158_ok n, trivial⟩
theorem f153_d (α : Type) (n : Nat) : D3.OK Try.prog (tyOf Try.prog) ⟨9, []⟩ (f153_D α n) (bodyOf Try.f153) :=
  D3.OK.mk3 (f153_ents α n) (show loopsOf (bodyOf Try.f153) = [] by kernel_rfl) trivial
theorem f153_ok (n : Nat) : (f153_E n).Sound Try.prog :=
  fn_ok (tyOf_ok _) prog_fol (f153_D _ n) (show Try.prog.funcs[153]? = some Try.f153 by kernel_rfl) (by kernel_rfl) (show Try.f153.body = some (bodyOf Try.f153) by kernel_rfl) rfl rfl (Nat.le_of_ble_eq_true rfl) (f153_d _ n) (by intro x; kernel_rfl) 


def f131 (n : Nat) (a0 : List Int) : Option Bool :=
  bif (decide ((a0.length : Int) > 40)) then
    some false
  else
    bif (decide ((a0.length : Int) > 0)) then
      gd (decide (0 ≤ (W ((a0.length : Int) - 1))) && decide ((W ((a0.length : Int) - 1)) < (a0.length : Int))) (
        bif ((a0.getD ((W ((a0.length : Int) - 1)).toNat) 0) == 0) then
          some false
        else
          ob (f153 n a0 ()) fun r_1 =>
          some (!r_1))
    else
      ob (f153 n a0 ()) fun r_2 =>
      some (!r_2)
def f131_E (n : Nat) : Ent := ⟨131, [hIs], [.bool], fun x => f131 n x⟩
def f131_D (α : Type) (n : Nat) : D3 α := { reg := [(4, ⟨0, [], [(1, { ent := some (f153_E n) })]⟩)], join := [], loop := [] }
theorem f131_ents (α : Type) (n : Nat) : AllS Try.prog (entsOf (f131_D α n).reg) := ⟨f153_ok n, trivial⟩
theorem f131_d (α : Type) (n : Nat) : D3.OK Try.prog (tyOf Try.prog) ⟨23, []⟩ (f131_D α n) (bodyOf Try.f131) :=
  D3.OK.mk3 (f131_ents α n) (show loopsOf (bodyOf Try.f131) = [] by kernel_rfl) trivial
theorem f131_ok (n : Nat) : (f131_E n).Sound Try.prog :=
  fn_ok (tyOf_ok _) prog_fol (f131_D _ n) (show Try.prog.funcs[131]? = some Try.f131 by kernel_rfl) (by kernel_rfl) (show Try.f131.body = some (bodyOf Try.f131) by kernel_rfl) rfl rfl (Nat.le_of_ble_eq_true rfl) (f131_d _ n) (by intro x; kernel_rfl) 


def f80 (n : Nat) (a0 : Bool × (List Int) × (List Int)) : Option Bool :=
  some ((a0.2.1.length : Int) == 0)
def f80_E (n : Nat) : Ent := ⟨80, [hR], [.bool], fun x => f80 n x⟩
def f80_D (α : Type) (n : Nat) : D3 α := { reg := [], join := [], loop := [] }
theorem f80_ents (α : Type) (n : Nat) : AllS Try.prog (entsOf (f80_D α n).reg) := trivial
theorem f80_d (α : Type) (n : Nat) : D3.OK Try.prog (tyOf Try.prog) ⟨7, []⟩ (f80_D α n) (bodyOf Try.f80) :=
  D3.OK.mk3 (f80_ents α n) (show loopsOf (bodyOf Try.f80) = [] by kernel_rfl) trivial
theorem f80_ok (n : Nat) : (f80_E n).Sound Try.prog :=
  fn_ok (tyOf_ok _) prog_fol (f80_D _ n) (show Try.prog.funcs[80]? = some Try.f80 by kernel_rfl) (by kernel_rfl) (show Try.f80.body = some (bodyOf Try.f80) by kernel_rfl) rfl rfl (Nat.le_of_ble_eq_true rfl) (f80_d _ n) (by intro x; kernel_rfl) 


def f146 (n : Nat) (a0 : List Int) : Option (List Int) :=
  some a0
def f146_E (n : Nat) : Ent := ⟨146, [hIs], [(.clo 157 (.ref hIs))], fun x => f146 n x⟩
def f146_D (α : Type) (n : Nat) : D3 α := { reg := [(1, ⟨0, [], [(0, { sh := some (.ref hIs) })]⟩)], join := [], loop := [] }
theorem f146_ents (α : Type) (n : Nat) : AllS Try.prog (entsOf (f146_D α n).reg) := trivial
theorem f146_d (α : Type) (n : Nat) : D3.OK Try.prog (tyOf Try.prog) ⟨4, []⟩ (f146_D α n) (bodyOf Try.f146) :=
  D3.OK.mk3 (f146_ents α n) (show loopsOf (bodyOf Try.f146) = [] by kernel_rfl) trivial
theorem f146_ok (n : Nat) : (f146_E n).Sound Try.prog :=
  fn_ok (tyOf_ok _) prog_fol (f146_D _ n) (show Try.prog.funcs[146]? = some Try.f146 by kernel_rfl) (by kernel_rfl) (show Try.f146.body = some (bodyOf Try.f146) by kernel_rfl) rfl rfl (Nat.le_of_ble_eq_true rfl) (f146_d _ n) (by intro x; kernel_rfl) 


def f119_L6B {α : Type} (n : Nat) (i : Nat) (z : Int) (s18 : List Int) (c3_0 : List Int) (c4_0 : Int) (f : (List Int) → (List Int) → Int → Option α) (k0 : Int → Option α) (k1 : Int → Option α) : Option α :=
  gd (decide (0 ≤ (i : Int)) && decide ((i : Int) < (c3_0.length : Int))) (
    bif (z != (c3_0.getD ((i : Int).toNat) 0)) then
      gd (decide (0 ≤ (i : Int)) && decide ((i : Int) < (c3_0.length : Int))) (
        bif (decide (z < (c3_0.getD ((i : Int).toNat) 0))) then
          k1 (-1)
        else
          k1 1)
    else
      f s18 c3_0 c4_0)
abbrev f119_L6H : Tm := ⟨[(3, .k (.hp 3 0 0)), (4, .k (.hp 4 0 0)), (18, .d (.clo 157 (.ref hIs)))], [(3, .var 29 true false [.d hIs]), (4, .var 3 true false [.d hI])], [], []⟩
abbrev f119_L6X0 : Tm := ⟨[(4, .k (.hp 4 0 0))], [(4, .var 3 true false [.d hI])], [3], []⟩
abbrev f119_L6X1 : Tm := ⟨[(4, .k (.hp 4 0 0))], [(4, .var 3 true false [.d hI])], [3], []⟩
abbrev f119_L6O : List (Exit × Tm) := [(.normal, f119_L6X0), (.ret, f119_L6X1)]
def f119_L6Z (v : f119_L6H.den) : List Int := (fun s18 c3_0 c4_0 => s18) v.1.2.2.1 v.2.1.1 v.2.2.1.1
def f119_L6U {α : Type} (n : Nat) (i : Nat) (z : Int) (v : f119_L6H.den) (f : f119_L6H.den → Option α) (ks : KS α f119_L6O) : Option α := f119_L6B n i z v.1.2.2.1 v.2.1.1 v.2.2.1.1 (fun s18 c3_0 c4_0 => f (((), (), s18, ()), ((c3_0, ()), (c4_0, ()), ()))) (fun w0 => ks.1 (((), ()), ((w0, ()), ()))) (fun w0 => ks.2.1 (((), ()), ((w0, ()), ())))
def f119_L6N {α : Type} (v : f119_L6H.den) (ks : KS α f119_L6O) : Option α := (fun s18 c3_0 c4_0 => ks.1 (((), ()), ((c4_0, ()), ()))) v.1.2.2.1 v.2.1.1 v.2.2.1.1
def f119_L6 {α : Type} (n : Nat) (s18 : List Int) (c3_0 : List Int) (c4_0 : Int) (k0 : Int → Option α) (k1 : Int → Option α) : Option α := rangeR f119_L6Z (f119_L6U n) f119_L6N (((), (), s18, ()), ((c3_0, ()), (c4_0, ()), ())) (fun w => k0 w.2.1.1, fun w => k1 w.2.1.1, ())
def f119_L6R {α : Type} (n : Nat) (zs : List Int) (i : Nat) (s18 : List Int) (c3_0 : List Int) (c4_0 : Int) (k0 : Int → Option α) (k1 : Int → Option α) : Option α := rangeB f119_L6Z (f119_L6U n) zs i (((), (), s18, ()), ((c3_0, ()), (c4_0, ()), ())) (fun v => f119_L6N v (fun w => k0 w.2.1.1, fun w => k1 w.2.1.1, ())) (fun w => k0 w.2.1.1, fun w => k1 w.2.1.1, ())
theorem f119_L6_e {α : Type} (n : Nat) (s18 : List Int) (c3_0 : List Int) (c4_0 : Int) (k0 : Int → Option α) (k1 : Int → Option α) : f119_L6 (α := α) n s18 c3_0 c4_0 k0 k1 = gd (decide (s18.length ≤ 4611686018427387904)) (f119_L6R n s18 s18.length s18 c3_0 c4_0 k0 k1) := rfl
theorem f119_L6_0 {α : Type} (n : Nat) (zs : List Int) (s18 : List Int) (c3_0 : List Int) (c4_0 : Int) (k0 : Int → Option α) (k1 : Int → Option α) : f119_L6R (α := α) n zs 0 s18 c3_0 c4_0 k0 k1 = k0 c4_0 := rfl
theorem f119_L6_s {α : Type} (n : Nat) (zs : List Int) (i : Nat) (s18 : List Int) (c3_0 : List Int) (c4_0 : Int) (k0 : Int → Option α) (k1 : Int → Option α) : f119_L6R (α := α) n zs (i + 1) s18 c3_0 c4_0 k0 k1 = f119_L6B n i (zs.getD i 0) s18 c3_0 c4_0 (fun s18 c3_0 c4_0 => gd (decide (s18 = zs)) (f119_L6R n zs i s18 c3_0 c4_0 k0 k1)) k0 k1 := rfl
def f119 (n : Nat) (a0 : List Int) (a1 : List Int) : Option Int :=
  bif ((a0.length : Int) != (a1.length : Int)) then
    bif (decide ((a0.length : Int) < (a1.length : Int))) then
      some (-1)
    else
      some 1
  else
    ob (f146 n a0) fun r_1 =>
    f119_L6 n r_1 a1 0
      (fun z_2 => (
        some 0))
      (fun z_3 => (
        some z_3))
def f119_E (n : Nat) : Ent := ⟨119, [hIs, hIs], [hI], fun x => f119 n x.1 x.2⟩
def f119_D (α : Type) (n : Nat) : D3 α := { reg := [(5, ⟨0, [], [(1, { ent := some (f146_E n) })]⟩)], join := [], loop := [(6, ⟨f119_L6H, f119_L6O, rangeR f119_L6Z (f119_L6U n) f119_L6N⟩)] }
theorem f119_ents (α : Type) (n : Nat) : AllS Try.prog (entsOf (f119_D α n).reg) := ⟨f146_ok n, trivial⟩
theorem f119_L6A_d (α : Type) (n : Nat) : D3.OK Try.prog (tyOf Try.prog) ⟨33, []⟩ (f119_D α n) ((bodyOf Try.f119).at [1, 1, 0, 1, 0, 0]) :=
  D3.OK.mk3 (f119_ents α n) (show loopsOf ((bodyOf Try.f119).at [1, 1, 0, 1, 0, 0]) = [] by kernel_rfl) trivial
theorem f119_L6B_d (α : Type) (n : Nat) : D3.OK Try.prog (tyOf Try.prog) ⟨33, []⟩ (f119_D α n) ((bodyOf Try.f119).at [1, 1, 0, 1, 0, 1]) :=
  D3.OK.mk3 (f119_ents α n) (show loopsOf ((bodyOf Try.f119).at [1, 1, 0, 1, 0, 1]) = [] by kernel_rfl) trivial
theorem f119_L6_ok (α : Type) (n : Nat) : LO.Sound (α := α) Try.prog ⟨33, []⟩ ⟨f119_L6H, f119_L6O, rangeR f119_L6Z (f119_L6U n) f119_L6N⟩ (.rangeFunc (.tmp 18) #[19, 20] ((bodyOf Try.f119).at [1, 1, 0, 1, 0, 0]) ((bodyOf Try.f119).at [1, 1, 0, 1, 0, 1])) :=
  range_ok (tyOf_ok _) prog_fol f119_L6Z (f119_L6U n) f119_L6N back_ok rfl rfl rfl rfl (f119_L6A_d α n) (f119_L6B_d α n) (by intro v; rfl) (by intro i z v f ks; kernel_rfl) (by intro v ks; kernel_rfl)
theorem f119_d (α : Type) (n : Nat) : D3.OK Try.prog (tyOf Try.prog) ⟨33, []⟩ (f119_D α n) (bodyOf Try.f119) :=
  D3.OK.mk3 (f119_ents α n) (show loopsOf (bodyOf Try.f119) = [(6, (.rangeFunc (.tmp 18) #[19, 20] ((bodyOf Try.f119).at [1, 1, 0, 1, 0, 0]) ((bodyOf Try.f119).at [1, 1, 0, 1, 0, 1])))] by kernel_rfl) ⟨look_sound rfl (f119_L6_ok α n), trivial⟩
theorem f119_ok (n : Nat) : (f119_E n).Sound Try.prog :=
  fn_ok (tyOf_ok _) prog_fol (f119_D _ n) (show Try.prog.funcs[119]? = some Try.f119 by kernel_rfl) (by kernel_rfl) (show Try.f119.body = some (bodyOf Try.f119) by kernel_rfl) rfl rfl (Nat.le_of_ble_eq_true rfl) (f119_d _ n) (by intro x; kernel_rfl) 


def f115G (n : Nat) (a0 : List Int) : Option (List Int) :=
  gd ((!a0.isEmpty)) (
    gd (decide ((0 + a0.length) * 8 ≤ 140737488355328)) (
      some a0))
def f115G_E (n : Nat) : Ent := ⟨115, [hIs], [hIs], fun x => f115G n x⟩
def f115G_D (α : Type) (n : Nat) : D3 α := { reg := [(3, ⟨0, [], [(0, { sh := some hI })]⟩)], join := [], loop := [] }
theorem f115G_ents (α : Type) (n : Nat) : AllS Try.prog (entsOf (f115G_D α n).reg) := trivial
theorem f115G_d (α : Type) (n : Nat) : D3.OK Try.prog (tyOf Try.prog) ⟨8, []⟩ (f115G_D α n) (bodyOf Try.f115) :=
  D3.OK.mk3 (f115G_ents α n) (show loopsOf (bodyOf Try.f115) = [] by kernel_rfl) trivial
theorem f115G_ok (n : Nat) : (f115G_E n).Sound Try.prog :=
  fn_ok (tyOf_ok _) prog_fol (f115G_D _ n) (show Try.prog.funcs[115]? = some Try.f115 by kernel_rfl) (by kernel_rfl) (show Try.f115.body = some (bodyOf Try.f115) by kernel_rfl) rfl rfl (Nat.le_of_ble_eq_true rfl) (f115G_d _ n) (by intro x; kernel_rfl) 


set_option maxRecDepth 100000 in
set_option maxHeartbeats 2000000 in
theorem clone_nil (ad : Option Addr) (cap : Nat) (hc : ad = none → cap = 0) (w : World) : Calls Try.prog 115 #[.slice ad 0 cap] w fun e w' => (∃ a c, e = .returned (.slice a 0 c) ∧ (a = none → c = 0)) ∧ w.grownBy w' none := by
  refine (callsIn_wide (n := 3)).1 ?_
  refine callsIn_of_wp Try.func115 rfl trivial ?_ rfl
  simp only [Try.ntmps115, List.size_toArray, List.length_cons, List.length_nil, Nat.reduceAdd, Nat.reduceSub, Array.replicate_succ, Array.replicate_zero, List.push_toArray, List.append_toArray, List.nil_append, List.cons_append]
  have hi : ∃ i, Try.prog.info? 3 = some i := ⟨_, rfl⟩
  obtain ⟨i3, hi3⟩ := hi
  have hap : ∀ (base : Option Addr) (sCap : Nat) (a : Option Addr) (cp : Nat) (w : World), (Builtin.append_ #[29, 29] 29 #[.slice base 0 sCap, .slice a 0 cp]).run Try.prog w = .ok (.slice base 0 sCap) w := fun base sCap a cp w =>
    run_append_none w 29 29 3 i3 Try.underlying29 hi3 base 0 sCap (Nat.zero_le _) a cp
  cases ad with
  | none =>
    obtain rfl := hc rfl
    have hb : ∀ w, (binOp BinOp.eql 29 (.slice none 0 0) (.slice none 0 0)).run Try.prog w = .ok (.bool true) w := fun w => by kernel_rfl
    gi_wp2
    refine bodyPost_ret (results_tmp rfl _ _ _) rfl ?_
    exact ⟨⟨none, 0, rfl, fun _ => rfl⟩, ⟨rfl, rfl, rfl, Nat.le_refl _, fun _ _ _ => rfl⟩⟩
  | some ad =>
    have hb : ∀ w, (binOp BinOp.eql 29 (.slice (some ad) 0 cap) (.slice none 0 0)).run Try.prog w = .ok (.bool false) w := fun w => by kernel_rfl
    gi_wp2
    refine bodyPost_ret (results_tmp rfl _ _ _) rfl ?_
    exact ⟨⟨_, 0, rfl, fun _ => rfl⟩, World.grownBy_alloc w _ none⟩
def f115 (n : Nat) (a0 : List Int) : Option (List Int) := bif a0.isEmpty then some [] else f115G n a0
def f115_E (n : Nat) : Ent := ⟨115, [hIs], [hIs], fun x => f115 n x⟩
theorem f115_ok (n : Nat) : (f115_E n).Sound Try.prog := by
  intro nt x r h
  cases x with
  | cons z l => exact f115G_ok n nt (z :: l) r h
  | nil =>
    have h : some ([] : List Int) = some r := h
    obtain rfl := Option.some.inj h
    refine ⟨⟨Try.f115, by kernel_rfl, by kernel_rfl, by kernel_rfl⟩, fun w E vs hin hv => ?_⟩
    obtain ⟨hl, hget⟩ := hv
    match vs, hl with
    | [v], _ =>
      have h1 : Rv w E v (.one (.i (.sl 0 false 1 []))) := hget 0 v _ rfl rfl
      cases h1 with
      | one h1 =>
        cases h1 with
        | i h1 =>
          cases h1 with
          | sl _ _ _ _ _ _ _ hne => exact absurd rfl hne
          | nil _ _ cap a _ hn hc =>
            refine (clone_nil a cap hc w).mono ?_
            rintro e w' ⟨⟨a', c', rfl, hc'⟩, hg⟩
            exact ⟨_, E, rfl, .v (.one (.i (.nil 0 1 c' a' false (fun e => by cases e) hc'))), ⟨hg.os, hg.tape, hg.output, hg.size, fun b hb _ => hg.block b hb (by simp)⟩,
              ⟨fun b hb => Nat.lt_of_lt_of_le (hin.wf.alt b hb) hg.size, hin.wf.tag, hin.wf.inj⟩, fun _ _ => Iff.rfl, Nat.le_refl _, fun _ _ => rfl, fun t g ht h => absurd (hin.wf.tag t g h).1 (Nat.not_lt.2 ht),
              fun h b hb => (by cases hb), fun h h' b b' g g' z z' hb => (by cases hb), fun h b g z hb => (by cases hb), fun h b hb => (by cases hb)⟩




def f130_L2B {α : Type} (n : Nat) (s0 : List Int) (s3 : Int) (f : (List Int) → Int → Option α) (k0 : (List Int) → Int → Option α) : Option α :=
  bif (decide (s3 > 0)) then
    gd (decide (0 ≤ (W (s3 - 1))) && decide ((W (s3 - 1)) < (s0.length : Int))) (
      bif ((s0.getD ((W (s3 - 1)).toNat) 0) == 0) then
        f s0 (W (s3 - 1))
      else
        k0 s0 s3)
  else
    k0 s0 s3
abbrev f130_L2H : Tm := ⟨[(0, .d hIs), (3, .d hI)], [], [], []⟩
abbrev f130_L2X0 : Tm := ⟨[(0, .d hIs), (3, .d hI)], [], [], []⟩
abbrev f130_L2O : List (Exit × Tm) := [(.exit 0, f130_L2X0)]
def f130_L2U {α : Type} (n : Nat) (v : f130_L2H.den) (f : f130_L2H.den → Option α) (ks : KS α f130_L2O) : Option α := f130_L2B n v.1.1 v.1.2.1 (fun s0 s3 => f ((s0, s3, ()), ())) (fun w0 w1 => ks.1 ((w0, w1, ()), ()))
def f130_L2 {α : Type} (n m : Nat) (s0 : List Int) (s3 : Int) (k0 : (List Int) → Int → Option α) : Option α := rounds (f130_L2U n) m ((s0, s3, ()), ()) (fun w => k0 w.1.1 w.1.2.1, ())
theorem f130_L2_0 {α : Type} (n : Nat) (s0 : List Int) (s3 : Int) (k0 : (List Int) → Int → Option α) : f130_L2 (α := α) n 0 s0 s3 k0 = none := rfl
theorem f130_L2_s {α : Type} (n m : Nat) (s0 : List Int) (s3 : Int) (k0 : (List Int) → Int → Option α) : f130_L2 (α := α) n (m + 1) s0 s3 k0 = f130_L2B n s0 s3 (fun s0 s3 => f130_L2 n m s0 s3 k0) k0 := rfl
def f130 (n : Nat) (a0 : List Int) : Option (List Int) :=
  f130_L2 n n a0 (a0.length : Int)
    (fun z_1 z_2 => (
      gd (decide (0 ≤ z_2) && decide (z_2 ≤ (z_1.length : Int))) (
        some ((z_1.drop 0).take (z_2.toNat - 0)))))
def f130_E (n : Nat) : Ent := ⟨130, [hIs], [hIs], fun x => f130 n x⟩
def f130_D (α : Type) (n : Nat) : D3 α := { reg := [], join := [], loop := [(2, ⟨f130_L2H, f130_L2O, rounds (f130_L2U n) n⟩)] }
theorem f130_ents (α : Type) (n : Nat) : AllS Try.prog (entsOf (f130_D α n).reg) := trivial
theorem f130_L2_d (α : Type) (n : Nat) : D3.OK Try.prog (tyOf Try.prog) ⟨21, []⟩ (f130_D α n) ((bodyOf Try.f130).at [1, 1, 0, 0, 0]) :=
  D3.OK.mk3 (f130_ents α n) (show loopsOf ((bodyOf Try.f130).at [1, 1, 0, 0, 0]) = [] by kernel_rfl) trivial
theorem f130_L2_ok (α : Type) (n : Nat) : LO.Sound (α := α) Try.prog ⟨21, []⟩ ⟨f130_L2H, f130_L2O, rounds (f130_L2U n) n⟩ (.loop ((bodyOf Try.f130).at [1, 1, 0, 0, 0])) :=
  loop_ok (tyOf_ok _) prog_fol (f130_L2U n) (f130_L2_d α n) (by intro v f ks; kernel_rfl) n
theorem f130_d (α : Type) (n : Nat) : D3.OK Try.prog (tyOf Try.prog) ⟨21, []⟩ (f130_D α n) (bodyOf Try.f130) :=
  D3.OK.mk3 (f130_ents α n) (show loopsOf (bodyOf Try.f130) = [(2, (.loop ((bodyOf Try.f130).at [1, 1, 0, 0, 0])))] by kernel_rfl) ⟨look_sound rfl (f130_L2_ok α n), trivial⟩
theorem f130_ok (n : Nat) : (f130_E n).Sound Try.prog :=
  fn_ok (tyOf_ok _) prog_fol (f130_D _ n) (show Try.prog.funcs[130]? = some Try.f130 by kernel_rfl) (by kernel_rfl) (show Try.f130.body = some (bodyOf Try.f130) by kernel_rfl) rfl rfl (Nat.le_of_ble_eq_true rfl) (f130_d _ n) (by intro x; kernel_rfl) 


def f116_L2B {α : Type} (n : Nat) (s0 : Int) (b4 : List Int) (f : Int → (List Int) → Option α) (k0 : (List Int) → Option α) : Option α :=
  bif (decide (s0 > 0)) then
    gd (decide ((b4.length + 1) * 8 ≤ 140737488355328)) (
      f (W (Int.tdiv s0 10000)) (b4 ++ [(Int.tmod s0 10000)]))
  else
    k0 b4
abbrev f116_L2H : Tm := ⟨[(0, .d hI), (3, .k (.hw 4))], [(4, .arr 3 hI false)], [12], []⟩
abbrev f116_L2X0 : Tm := ⟨[(3, .k (.hw 4))], [(4, .arr 3 hI false)], [], []⟩
abbrev f116_L2O : List (Exit × Tm) := [(.exit 0, f116_L2X0)]
def f116_L2U {α : Type} (n : Nat) (v : f116_L2H.den) (f : f116_L2H.den → Option α) (ks : KS α f116_L2O) : Option α := f116_L2B n v.1.1 v.2.1 (fun s0 b4 => f ((s0, (), ()), (b4, ()))) (fun w0 => ks.1 (((), ()), (w0, ())))
def f116_L2 {α : Type} (n m : Nat) (s0 : Int) (b4 : List Int) (k0 : (List Int) → Option α) : Option α := rounds (f116_L2U n) m ((s0, (), ()), (b4, ())) (fun w => k0 w.2.1, ())
theorem f116_L2_0 {α : Type} (n : Nat) (s0 : Int) (b4 : List Int) (k0 : (List Int) → Option α) : f116_L2 (α := α) n 0 s0 b4 k0 = none := rfl
theorem f116_L2_s {α : Type} (n m : Nat) (s0 : Int) (b4 : List Int) (k0 : (List Int) → Option α) : f116_L2 (α := α) n (m + 1) s0 b4 k0 = f116_L2B n s0 b4 (fun s0 b4 => f116_L2 n m s0 b4 k0) k0 := rfl
def f116 (n : Nat) (a0 : Int) : Option (List Int) :=
  f116_L2 n n a0 []
    (fun z_1 => (
      some z_1))
def f116_E (n : Nat) : Ent := ⟨116, [hI], [hIs], fun x => f116 n x⟩
def f116_D (α : Type) (n : Nat) : D3 α := { reg := [(1, ⟨0, [], [(0, { sh := some hI })]⟩), (4, ⟨0, [], [(3, { sh := some hI })]⟩)], join := [], loop := [(2, ⟨f116_L2H, f116_L2O, rounds (f116_L2U n) n⟩)] }
theorem f116_ents (α : Type) (n : Nat) : AllS Try.prog (entsOf (f116_D α n).reg) := trivial
theorem f116_L2_d (α : Type) (n : Nat) : D3.OK Try.prog (tyOf Try.prog) ⟨15, []⟩ (f116_D α n) ((bodyOf Try.f116).at [1, 1, 0, 0, 0]) :=
  D3.OK.mk3 (f116_ents α n) (show loopsOf ((bodyOf Try.f116).at [1, 1, 0, 0, 0]) = [] by kernel_rfl) trivial
theorem f116_L2_ok (α : Type) (n : Nat) : LO.Sound (α := α) Try.prog ⟨15, []⟩ ⟨f116_L2H, f116_L2O, rounds (f116_L2U n) n⟩ (.loop ((bodyOf Try.f116).at [1, 1, 0, 0, 0])) :=
  loop_ok (tyOf_ok _) prog_fol (f116_L2U n) (f116_L2_d α n) (by intro v f ks; kernel_rfl) n
theorem f116_d (α : Type) (n : Nat) : D3.OK Try.prog (tyOf Try.prog) ⟨15, []⟩ (f116_D α n) (bodyOf Try.f116) :=
  D3.OK.mk3 (f116_ents α n) (show loopsOf (bodyOf Try.f116) = [(2, (.loop ((bodyOf Try.f116).at [1, 1, 0, 0, 0])))] by kernel_rfl) ⟨look_sound rfl (f116_L2_ok α n), trivial⟩
theorem f116_ok (n : Nat) : (f116_E n).Sound Try.prog :=
  fn_ok (tyOf_ok _) prog_fol (f116_D _ n) (show Try.prog.funcs[116]? = some Try.f116 by kernel_rfl) (by kernel_rfl) (show Try.f116.body = some (bodyOf Try.f116) by kernel_rfl) rfl rfl (Nat.le_of_ble_eq_true rfl) (f116_d _ n) (by intro x; kernel_rfl) 


def f115B (n : Nat) (a0 : List Int) : Option (List Int) :=
  gd ((!a0.isEmpty)) (
    gd (decide ((0 + a0.length) * 8 ≤ 140737488355328)) (
      some a0))
def f115B_E (n : Nat) : Ent3 := ⟨115, [.im hIs], [[.one (.own 3 hI)]], fun x => f115B n x⟩
def f115B_D (α : Type) (n : Nat) : D3 α := { reg := [(3, ⟨0, [], [(0, { sh := some hI })]⟩)], join := [], loop := [] }
theorem f115B_ents (α : Type) (n : Nat) : AllS Try.prog (entsOf (f115B_D α n).reg) := trivial
theorem f115B_d (α : Type) (n : Nat) : D3.OK Try.prog (tyOf Try.prog) ⟨8, []⟩ (f115B_D α n) (bodyOf Try.f115) :=
  D3.OK.mk3 (f115B_ents α n) (show loopsOf (bodyOf Try.f115) = [] by kernel_rfl) trivial
theorem f115B_ok (n : Nat) : (f115B_E n).Sound Try.prog :=
  fn_okB (tyOf_ok _) prog_fol (f115B_D _ n) (show Try.prog.funcs[115]? = some Try.f115 by kernel_rfl) (by kernel_rfl) (show Try.f115.body = some (bodyOf Try.f115) by kernel_rfl) rfl rfl (Nat.le_of_ble_eq_true rfl) (f115B_d _ n) (by intro x; kernel_rfl) 


def f152B_L6B {α : Type} (n : Nat) (s0o : Nat) (s0l : Nat) (s1 : List Int) (s5 : Int) (s7 : Int) (s8 : Int) (s50 : Int) (s51 : Int) (b1000 : List Int) (f : Nat → Nat → (List Int) → Int → Int → Int → Int → Int → (List Int) → Option α) (k0 : Nat → Nat → (List Int) → Int → Int → Int → (List Int) → Option α) : Option α :=
  bif (decide (s51 < s50)) then
    gd (decide (0 ≤ s51) && decide (s51 < (s0l : Int))) (
      gd (decide ((s0o + s51.toNat) < b1000.length)) (
        let J_4 := fun (y_1 : Int) => (
          let J_3 := fun (y_2 : Int) => (
            gd (decide (0 ≤ s51) && decide (s51 < (s0l : Int))) (
              gd (decide ((s0o + s51.toNat) < b1000.length)) (
                f s0o s0l s1 s5 s7 y_2 s50 (W (s51 + 1)) (b1000.set (s0o + s51.toNat) (W (y_1 - (W (y_2 * 10000))))))))
          bif (decide (y_1 < 0)) then
            J_3 (W (Int.tdiv (W ((W (y_1 - 10000)) + 1)) 10000))
          else
            J_3 0)
        bif (decide (s51 < s5)) then
          gd (decide (0 ≤ s51) && decide (s51 < (s1.length : Int))) (
            J_4 (W ((W ((b1000.getD (s0o + s51.toNat) 0) + s8)) - (W (s7 * (s1.getD s51.toNat 0))))))
        else
          J_4 (W ((b1000.getD (s0o + s51.toNat) 0) + s8))))
  else
    k0 s0o s0l s1 s5 s7 s8 b1000
abbrev f152B_L6H : Tm := ⟨[(0, .hs 1000), (1, .d hIs), (5, .d hI), (7, .d hI), (8, .d hI), (50, .d hI), (51, .d hI)], [(1000, .arr 3 hI false)], [], []⟩
abbrev f152B_L6X0 : Tm := ⟨[(0, .hs 1000), (1, .d hIs), (5, .d hI), (7, .d hI), (8, .d hI)], [(1000, .arr 3 hI false)], [], []⟩
abbrev f152B_L6O : List (Exit × Tm) := [(.exit 0, f152B_L6X0)]
def f152B_L6U {α : Type} (n : Nat) (v : f152B_L6H.den) (f : f152B_L6H.den → Option α) (ks : KS α f152B_L6O) : Option α := f152B_L6B n v.1.1.1 v.1.1.2 v.1.2.1 v.1.2.2.1 v.1.2.2.2.1 v.1.2.2.2.2.1 v.1.2.2.2.2.2.1 v.1.2.2.2.2.2.2.1 v.2.1 (fun s0o s0l s1 s5 s7 s8 s50 s51 b1000 => f (((s0o, s0l), s1, s5, s7, s8, s50, s51, ()), (b1000, ()))) (fun w0 w1 w2 w3 w4 w5 w6 => ks.1 (((w0, w1), w2, w3, w4, w5, ()), (w6, ())))
def f152B_L6 {α : Type} (n m : Nat) (s0o : Nat) (s0l : Nat) (s1 : List Int) (s5 : Int) (s7 : Int) (s8 : Int) (s50 : Int) (s51 : Int) (b1000 : List Int) (k0 : Nat → Nat → (List Int) → Int → Int → Int → (List Int) → Option α) : Option α := rounds (f152B_L6U n) m (((s0o, s0l), s1, s5, s7, s8, s50, s51, ()), (b1000, ())) (fun w => k0 w.1.1.1 w.1.1.2 w.1.2.1 w.1.2.2.1 w.1.2.2.2.1 w.1.2.2.2.2.1 w.2.1, ())
theorem f152B_L6_0 {α : Type} (n : Nat) (s0o : Nat) (s0l : Nat) (s1 : List Int) (s5 : Int) (s7 : Int) (s8 : Int) (s50 : Int) (s51 : Int) (b1000 : List Int) (k0 : Nat → Nat → (List Int) → Int → Int → Int → (List Int) → Option α) : f152B_L6 (α := α) n 0 s0o s0l s1 s5 s7 s8 s50 s51 b1000 k0 = none := rfl
theorem f152B_L6_s {α : Type} (n m : Nat) (s0o : Nat) (s0l : Nat) (s1 : List Int) (s5 : Int) (s7 : Int) (s8 : Int) (s50 : Int) (s51 : Int) (b1000 : List Int) (k0 : Nat → Nat → (List Int) → Int → Int → Int → (List Int) → Option α) : f152B_L6 (α := α) n (m + 1) s0o s0l s1 s5 s7 s8 s50 s51 b1000 k0 = f152B_L6B n s0o s0l s1 s5 s7 s8 s50 s51 b1000 (fun s0o s0l s1 s5 s7 s8 s50 s51 b1000 => f152B_L6 n m s0o s0l s1 s5 s7 s8 s50 s51 b1000 k0) k0 := rfl
def f152B_L20B {α : Type} (n : Nat) (s0o : Nat) (s0l : Nat) (s1 : List Int) (s5 : Int) (s7 : Int) (s8 : Int) (s11 : Int) (s90 : Int) (s91 : Int) (b1000 : List Int) (f : Nat → Nat → (List Int) → Int → Int → Int → Int → Int → Int → (List Int) → Option α) (k0 : Nat → Nat → (List Int) → Int → Int → Int → Int → (List Int) → Option α) : Option α :=
  bif (decide (s91 < s90)) then
    gd (decide (0 ≤ s91) && decide (s91 < (s0l : Int))) (
      gd (decide ((s0o + s91.toNat) < b1000.length)) (
        let J_13 := fun (y_12 : Int) => (
          gd (decide (0 ≤ s91) && decide (s91 < (s0l : Int))) (
            gd (decide ((s0o + s91.toNat) < b1000.length)) (
              f s0o s0l s1 s5 s7 s8 (W (Int.tdiv y_12 10000)) s90 (W (s91 + 1)) (b1000.set (s0o + s91.toNat) (Int.tmod y_12 10000)))))
        bif (decide (s91 < s5)) then
          gd (decide (0 ≤ s91) && decide (s91 < (s1.length : Int))) (
            J_13 (W ((W ((b1000.getD (s0o + s91.toNat) 0) + s11)) + (s1.getD s91.toNat 0))))
        else
          J_13 (W ((b1000.getD (s0o + s91.toNat) 0) + s11))))
  else
    k0 s0o s0l s1 s5 s7 s8 s11 b1000
abbrev f152B_L20H : Tm := ⟨[(0, .hs 1000), (1, .d hIs), (5, .d hI), (7, .d hI), (8, .d hI), (11, .d hI), (90, .d hI), (91, .d hI)], [(1000, .arr 3 hI false)], [], []⟩
abbrev f152B_L20X0 : Tm := ⟨[(0, .hs 1000), (1, .d hIs), (5, .d hI), (7, .d hI), (8, .d hI), (11, .d hI)], [(1000, .arr 3 hI false)], [], []⟩
abbrev f152B_L20O : List (Exit × Tm) := [(.exit 4, f152B_L20X0)]
def f152B_L20U {α : Type} (n : Nat) (v : f152B_L20H.den) (f : f152B_L20H.den → Option α) (ks : KS α f152B_L20O) : Option α := f152B_L20B n v.1.1.1 v.1.1.2 v.1.2.1 v.1.2.2.1 v.1.2.2.2.1 v.1.2.2.2.2.1 v.1.2.2.2.2.2.1 v.1.2.2.2.2.2.2.1 v.1.2.2.2.2.2.2.2.1 v.2.1 (fun s0o s0l s1 s5 s7 s8 s11 s90 s91 b1000 => f (((s0o, s0l), s1, s5, s7, s8, s11, s90, s91, ()), (b1000, ()))) (fun w0 w1 w2 w3 w4 w5 w6 w7 => ks.1 (((w0, w1), w2, w3, w4, w5, w6, ()), (w7, ())))
def f152B_L20 {α : Type} (n m : Nat) (s0o : Nat) (s0l : Nat) (s1 : List Int) (s5 : Int) (s7 : Int) (s8 : Int) (s11 : Int) (s90 : Int) (s91 : Int) (b1000 : List Int) (k0 : Nat → Nat → (List Int) → Int → Int → Int → Int → (List Int) → Option α) : Option α := rounds (f152B_L20U n) m (((s0o, s0l), s1, s5, s7, s8, s11, s90, s91, ()), (b1000, ())) (fun w => k0 w.1.1.1 w.1.1.2 w.1.2.1 w.1.2.2.1 w.1.2.2.2.1 w.1.2.2.2.2.1 w.1.2.2.2.2.2.1 w.2.1, ())
theorem f152B_L20_0 {α : Type} (n : Nat) (s0o : Nat) (s0l : Nat) (s1 : List Int) (s5 : Int) (s7 : Int) (s8 : Int) (s11 : Int) (s90 : Int) (s91 : Int) (b1000 : List Int) (k0 : Nat → Nat → (List Int) → Int → Int → Int → Int → (List Int) → Option α) : f152B_L20 (α := α) n 0 s0o s0l s1 s5 s7 s8 s11 s90 s91 b1000 k0 = none := rfl
theorem f152B_L20_s {α : Type} (n m : Nat) (s0o : Nat) (s0l : Nat) (s1 : List Int) (s5 : Int) (s7 : Int) (s8 : Int) (s11 : Int) (s90 : Int) (s91 : Int) (b1000 : List Int) (k0 : Nat → Nat → (List Int) → Int → Int → Int → Int → (List Int) → Option α) : f152B_L20 (α := α) n (m + 1) s0o s0l s1 s5 s7 s8 s11 s90 s91 b1000 k0 = f152B_L20B n s0o s0l s1 s5 s7 s8 s11 s90 s91 b1000 (fun s0o s0l s1 s5 s7 s8 s11 s90 s91 b1000 => f152B_L20 n m s0o s0l s1 s5 s7 s8 s11 s90 s91 b1000 k0) k0 := rfl
def f152B_L16B {α : Type} (n : Nat) (s0o : Nat) (s0l : Nat) (s1 : List Int) (s5 : Int) (s7 : Int) (s8 : Int) (b1000 : List Int) (f : Nat → Nat → (List Int) → Int → Int → Int → (List Int) → Option α) (k0 : Int → (List Int) → Option α) : Option α :=
  bif (decide (s8 < 0)) then
    f152B_L20 n n s0o s0l s1 s5 (W (s7 - 1)) s8 0 (s0l : Int) 0 b1000
      (fun z_12 z_13 z_14 z_15 z_16 z_17 z_18 z_19 => (
        f z_12 z_13 z_14 z_15 z_16 (W (z_17 + z_18)) z_19))
  else
    k0 s7 b1000
abbrev f152B_L16H : Tm := ⟨[(0, .hs 1000), (1, .d hIs), (5, .d hI), (7, .d hI), (8, .d hI)], [(1000, .arr 3 hI false)], [], []⟩
abbrev f152B_L16X0 : Tm := ⟨[(7, .d hI)], [(1000, .arr 3 hI false)], [], []⟩
abbrev f152B_L16O : List (Exit × Tm) := [(.exit 2, f152B_L16X0)]
def f152B_L16U {α : Type} (n : Nat) (v : f152B_L16H.den) (f : f152B_L16H.den → Option α) (ks : KS α f152B_L16O) : Option α := f152B_L16B n v.1.1.1 v.1.1.2 v.1.2.1 v.1.2.2.1 v.1.2.2.2.1 v.1.2.2.2.2.1 v.2.1 (fun s0o s0l s1 s5 s7 s8 b1000 => f (((s0o, s0l), s1, s5, s7, s8, ()), (b1000, ()))) (fun w0 w1 => ks.1 ((w0, ()), (w1, ())))
def f152B_L16 {α : Type} (n m : Nat) (s0o : Nat) (s0l : Nat) (s1 : List Int) (s5 : Int) (s7 : Int) (s8 : Int) (b1000 : List Int) (k0 : Int → (List Int) → Option α) : Option α := rounds (f152B_L16U n) m (((s0o, s0l), s1, s5, s7, s8, ()), (b1000, ())) (fun w => k0 w.1.1 w.2.1, ())
theorem f152B_L16_0 {α : Type} (n : Nat) (s0o : Nat) (s0l : Nat) (s1 : List Int) (s5 : Int) (s7 : Int) (s8 : Int) (b1000 : List Int) (k0 : Int → (List Int) → Option α) : f152B_L16 (α := α) n 0 s0o s0l s1 s5 s7 s8 b1000 k0 = none := rfl
theorem f152B_L16_s {α : Type} (n m : Nat) (s0o : Nat) (s0l : Nat) (s1 : List Int) (s5 : Int) (s7 : Int) (s8 : Int) (b1000 : List Int) (k0 : Int → (List Int) → Option α) : f152B_L16 (α := α) n (m + 1) s0o s0l s1 s5 s7 s8 b1000 k0 = f152B_L16B n s0o s0l s1 s5 s7 s8 b1000 (fun s0o s0l s1 s5 s7 s8 b1000 => f152B_L16 n m s0o s0l s1 s5 s7 s8 b1000 k0) k0 := rfl
abbrev f152B_J11 : Tm := ⟨[(0, .hs 1000), (1, .d hIs), (5, .d hI), (7, .d hI), (9, .d hI), (10, .d hI), (50, .d hI), (51, .d hI)], [(1000, .arr 3 hI false)], [], []⟩
abbrev f152B_J14 : Tm := ⟨[(0, .hs 1000), (1, .d hIs), (5, .d hI), (7, .d hI), (8, .d hI), (9, .d hI), (10, .d hI), (50, .d hI), (51, .d hI)], [(1000, .arr 3 hI false)], [], []⟩
abbrev f152B_J25 : Tm := ⟨[(0, .hs 1000), (1, .d hIs), (5, .d hI), (7, .d hI), (8, .d hI), (12, .d hI), (13, .d hI), (90, .d hI), (91, .d hI)], [(1000, .arr 3 hI false)], [], []⟩
def f152B (n : Nat) (a0 : List Int × Nat × Nat) (a1 : List Int) : Option (Int × (List Int)) :=
  gd (decide (0 ≤ (a1.length : Int)) && decide ((a1.length : Int) < (a0.2.2 : Int))) (
    gd (decide ((a0.2.1 + (a1.length : Int).toNat) < a0.1.length)) (
      gd (decide (0 ≤ (W ((a1.length : Int) - 1))) && decide ((W ((a1.length : Int) - 1)) < (a0.2.2 : Int))) (
        gd (decide ((a0.2.1 + (W ((a1.length : Int) - 1)).toNat) < a0.1.length)) (
          gd (decide (0 ≤ (W ((a1.length : Int) - 2))) && decide ((W ((a1.length : Int) - 2)) < (a0.2.2 : Int))) (
            gd (decide ((a0.2.1 + (W ((a1.length : Int) - 2)).toNat) < a0.1.length)) (
              gd (decide (0 ≤ (W ((a1.length : Int) - 1))) && decide ((W ((a1.length : Int) - 1)) < (a1.length : Int))) (
                gd (decide (0 ≤ (W ((a1.length : Int) - 2))) && decide ((W ((a1.length : Int) - 2)) < (a1.length : Int))) (
                  gd (decide ((W ((W ((a1.getD ((W ((a1.length : Int) - 1)).toNat) 0) * 10000)) + (a1.getD ((W ((a1.length : Int) - 2)).toNat) 0))) ≠ 0)) (
                    f152B_L6 n n a0.2.1 a0.2.2 a1 (a1.length : Int) (min (W (Int.tdiv (W ((W ((W ((W ((a0.1.getD (a0.2.1 + (a1.length : Int).toNat) 0) * 10000)) + (a0.1.getD (a0.2.1 + (W ((a1.length : Int) - 1)).toNat) 0))) * 10000)) + (a0.1.getD (a0.2.1 + (W ((a1.length : Int) - 2)).toNat) 0))) (W ((W ((a1.getD ((W ((a1.length : Int) - 1)).toNat) 0) * 10000)) + (a1.getD ((W ((a1.length : Int) - 2)).toNat) 0))))) 9999) 0 (a0.2.2 : Int) 0 a0.1
                      (fun z_5 z_6 z_7 z_8 z_9 z_10 z_11 => (
                        f152B_L16 n n z_5 z_6 z_7 z_8 z_9 z_10 z_11
                          (fun z_20 z_21 => (
                            some (z_20, z_21))))))))))))))
def f152B_E (n : Nat) : Ent3 := ⟨152, [.one (.win 3 hI), .im hIs], [[.im hI]], fun x => f152B n x.1 x.2⟩
def f152B_D (α : Type) (n : Nat) : D3 α := { reg := [(2, ⟨17, [], []⟩), (3, ⟨13, [], []⟩)], join := [(11, f152B_J11), (14, f152B_J14), (25, f152B_J25)], loop := [(6, ⟨f152B_L6H, f152B_L6O, rounds (f152B_L6U n) n⟩), (20, ⟨f152B_L20H, f152B_L20O, rounds (f152B_L20U n) n⟩), (16, ⟨f152B_L16H, f152B_L16O, rounds (f152B_L16U n) n⟩)] }
theorem f152B_ents (α : Type) (n : Nat) : AllS Try.prog (entsOf (f152B_D α n).reg) := trivial
theorem f152B_L6_d (α : Type) (n : Nat) : D3.OK Try.prog (tyOf Try.prog) ⟨121, []⟩ (f152B_D α n) ((bodyOf Try.f152).at [1, 1, 1, 1, 1, 0, 1, 0, 0]) :=
  D3.OK.mk3 (f152B_ents α n) (show loopsOf ((bodyOf Try.f152).at [1, 1, 1, 1, 1, 0, 1, 0, 0]) = [] by kernel_rfl) trivial
theorem f152B_L6_ok (α : Type) (n : Nat) : LO.Sound (α := α) Try.prog ⟨121, []⟩ ⟨f152B_L6H, f152B_L6O, rounds (f152B_L6U n) n⟩ (.loop ((bodyOf Try.f152).at [1, 1, 1, 1, 1, 0, 1, 0, 0])) :=
  loop_ok (tyOf_ok _) prog_fol (f152B_L6U n) (f152B_L6_d α n) (by intro v f ks; kernel_rfl) n
theorem f152B_L20_d (α : Type) (n : Nat) : D3.OK Try.prog (tyOf Try.prog) ⟨121, []⟩ (f152B_D α n) ((bodyOf Try.f152).at [1, 1, 1, 1, 1, 1, 0, 0, 0, 1, 0, 1, 1, 0, 1, 0, 0]) :=
  D3.OK.mk3 (f152B_ents α n) (show loopsOf ((bodyOf Try.f152).at [1, 1, 1, 1, 1, 1, 0, 0, 0, 1, 0, 1, 1, 0, 1, 0, 0]) = [] by kernel_rfl) trivial
theorem f152B_L20_ok (α : Type) (n : Nat) : LO.Sound (α := α) Try.prog ⟨121, []⟩ ⟨f152B_L20H, f152B_L20O, rounds (f152B_L20U n) n⟩ (.loop ((bodyOf Try.f152).at [1, 1, 1, 1, 1, 1, 0, 0, 0, 1, 0, 1, 1, 0, 1, 0, 0])) :=
  loop_ok (tyOf_ok _) prog_fol (f152B_L20U n) (f152B_L20_d α n) (by intro v f ks; kernel_rfl) n
theorem f152B_L16_d (α : Type) (n : Nat) : D3.OK Try.prog (tyOf Try.prog) ⟨121, []⟩ (f152B_D α n) ((bodyOf Try.f152).at [1, 1, 1, 1, 1, 1, 0, 0, 0]) :=
  D3.OK.mk3 (f152B_ents α n) (show loopsOf ((bodyOf Try.f152).at [1, 1, 1, 1, 1, 1, 0, 0, 0]) = [(20, (.loop ((bodyOf Try.f152).at [1, 1, 1, 1, 1, 1, 0, 0, 0, 1, 0, 1, 1, 0, 1, 0, 0])))] by kernel_rfl) ⟨look_sound rfl (f152B_L20_ok α n), trivial⟩
theorem f152B_L16_ok (α : Type) (n : Nat) : LO.Sound (α := α) Try.prog ⟨121, []⟩ ⟨f152B_L16H, f152B_L16O, rounds (f152B_L16U n) n⟩ (.loop ((bodyOf Try.f152).at [1, 1, 1, 1, 1, 1, 0, 0, 0])) :=
  loop_ok (tyOf_ok _) prog_fol (f152B_L16U n) (f152B_L16_d α n) (by intro v f ks; kernel_rfl) n
theorem f152B_d (α : Type) (n : Nat) : D3.OK Try.prog (tyOf Try.prog) ⟨121, []⟩ (f152B_D α n) (bodyOf Try.f152) :=
  D3.OK.mk3 (f152B_ents α n) (show loopsOf (bodyOf Try.f152) = [(6, (.loop ((bodyOf Try.f152).at [1, 1, 1, 1, 1, 0, 1, 0, 0]))), (16, (.loop ((bodyOf Try.f152).at [1, 1, 1, 1, 1, 1, 0, 0, 0])))] by kernel_rfl) ⟨look_sound rfl (f152B_L6_ok α n), look_sound rfl (f152B_L16_ok α n), trivial⟩
theorem f152B_ok (n : Nat) : (f152B_E n).Sound Try.prog :=
  fn_okB (tyOf_ok _) prog_fol (f152B_D _ n) (show Try.prog.funcs[152]? = some Try.f152 by kernel_rfl) (by kernel_rfl) (show Try.f152.body = some (bodyOf Try.f152) by kernel_rfl) rfl rfl (Nat.le_of_ble_eq_true rfl) (f152B_d _ n) (by intro x; kernel_rfl) 


def f129_L7B {α : Type} (n : Nat) (i : Nat) (z : Int) (s29 : List Int) (c3_0 : List Int) (c8_0 : Int) (b27 : List Int) (f : (List Int) → (List Int) → Int → (List Int) → Option α) (k0 : Int → (List Int) → Option α) : Option α :=
  gd (decide (0 < (c3_0.length : Int))) (
    gd (decide ((c3_0.getD 0 0) ≠ 0)) (
      gd (decide (0 < (c3_0.length : Int))) (
        gd (decide ((c3_0.getD 0 0) ≠ 0)) (
          gd (decide (0 ≤ (i : Int)) && decide ((i : Int) < (b27.length : Int))) (
            gd (decide ((i : Int).toNat < b27.length)) (
              f s29 c3_0 (Int.tmod (W ((W (c8_0 * 10000)) + z)) (c3_0.getD 0 0)) (b27.set ((i : Int).toNat) (W (Int.tdiv (W ((W (c8_0 * 10000)) + z)) (c3_0.getD 0 0))))))))))
abbrev f129_L7H : Tm := ⟨[(3, .k (.hp 3 0 0)), (7, .k (.hp 7 0 0)), (8, .k (.hp 8 0 0)), (29, .d (.clo 157 (.ref hIs)))], [(3, .var 29 true false [.d hIs]), (7, .var 29 false false [.k (.hw 27)]), (8, .var 3 true false [.d hI]), (27, .arr 3 hI false)], [], []⟩
abbrev f129_L7X0 : Tm := ⟨[(7, .k (.hp 7 0 0)), (8, .k (.hp 8 0 0))], [(7, .var 29 false false [.k (.hw 27)]), (8, .var 3 true false [.d hI]), (27, .arr 3 hI false)], [3], []⟩
abbrev f129_L7O : List (Exit × Tm) := [(.normal, f129_L7X0)]
def f129_L7Z (v : f129_L7H.den) : List Int := (fun s29 c3_0 c8_0 b27 => s29) v.1.2.2.2.1 v.2.1.1 v.2.2.2.1.1 v.2.2.2.2.1
def f129_L7U {α : Type} (n : Nat) (i : Nat) (z : Int) (v : f129_L7H.den) (f : f129_L7H.den → Option α) (ks : KS α f129_L7O) : Option α := f129_L7B n i z v.1.2.2.2.1 v.2.1.1 v.2.2.2.1.1 v.2.2.2.2.1 (fun s29 c3_0 c8_0 b27 => f (((), (), (), s29, ()), ((c3_0, ()), ((), ()), (c8_0, ()), b27, ()))) (fun w0 w1 => ks.1 (((), (), ()), (((), ()), (w0, ()), w1, ())))
def f129_L7N {α : Type} (v : f129_L7H.den) (ks : KS α f129_L7O) : Option α := (fun s29 c3_0 c8_0 b27 => ks.1 (((), (), ()), (((), ()), (c8_0, ()), b27, ()))) v.1.2.2.2.1 v.2.1.1 v.2.2.2.1.1 v.2.2.2.2.1
def f129_L7 {α : Type} (n : Nat) (s29 : List Int) (c3_0 : List Int) (c8_0 : Int) (b27 : List Int) (k0 : Int → (List Int) → Option α) : Option α := rangeR f129_L7Z (f129_L7U n) f129_L7N (((), (), (), s29, ()), ((c3_0, ()), ((), ()), (c8_0, ()), b27, ())) (fun w => k0 w.2.2.1.1 w.2.2.2.1, ())
def f129_L7R {α : Type} (n : Nat) (zs : List Int) (i : Nat) (s29 : List Int) (c3_0 : List Int) (c8_0 : Int) (b27 : List Int) (k0 : Int → (List Int) → Option α) : Option α := rangeB f129_L7Z (f129_L7U n) zs i (((), (), (), s29, ()), ((c3_0, ()), ((), ()), (c8_0, ()), b27, ())) (fun v => f129_L7N v (fun w => k0 w.2.2.1.1 w.2.2.2.1, ())) (fun w => k0 w.2.2.1.1 w.2.2.2.1, ())
theorem f129_L7_e {α : Type} (n : Nat) (s29 : List Int) (c3_0 : List Int) (c8_0 : Int) (b27 : List Int) (k0 : Int → (List Int) → Option α) : f129_L7 (α := α) n s29 c3_0 c8_0 b27 k0 = gd (decide (s29.length ≤ 4611686018427387904)) (f129_L7R n s29 s29.length s29 c3_0 c8_0 b27 k0) := rfl
theorem f129_L7_0 {α : Type} (n : Nat) (zs : List Int) (s29 : List Int) (c3_0 : List Int) (c8_0 : Int) (b27 : List Int) (k0 : Int → (List Int) → Option α) : f129_L7R (α := α) n zs 0 s29 c3_0 c8_0 b27 k0 = k0 c8_0 b27 := rfl
theorem f129_L7_s {α : Type} (n : Nat) (zs : List Int) (i : Nat) (s29 : List Int) (c3_0 : List Int) (c8_0 : Int) (b27 : List Int) (k0 : Int → (List Int) → Option α) : f129_L7R (α := α) n zs (i + 1) s29 c3_0 c8_0 b27 k0 = f129_L7B n i (zs.getD i 0) s29 c3_0 c8_0 b27 (fun s29 c3_0 c8_0 b27 => gd (decide (s29 = zs)) (f129_L7R n zs i s29 c3_0 c8_0 b27 k0)) k0 := rfl
def f129_L14B {α : Type} (n : Nat) (s6 : Int) (s13 : Int) (c3_0 : List Int) (b62 : List Int) (b310 : List Int) (f : Int → Int → (List Int) → (List Int) → (List Int) → Option α) (k0 : (List Int) → (List Int) → Option α) : Option α :=
  bif (decide (s13 ≥ 0)) then
    gd (decide (0 ≤ s13) && decide (s13 ≤ (W ((W (s13 + s6)) + 1))) && decide ((W ((W (s13 + s6)) + 1)) ≤ (b310.length : Int))) (
      ob (f152B n (b310, s13.toNat, ((W ((W (s13 + s6)) + 1)).toNat - s13.toNat)) c3_0) fun r_9 =>
      gd (Nat.beq r_9.2.length b310.length && true) (
        gd (decide (0 ≤ s13) && decide (s13 < (b62.length : Int))) (
          gd (decide (s13.toNat < b62.length)) (
            f s6 (W (s13 - 1)) c3_0 (b62.set s13.toNat r_9.1) r_9.2))))
  else
    k0 b62 b310
abbrev f129_L14H : Tm := ⟨[(3, .k (.hp 3 0 0)), (6, .d hI), (11, .k (.hw 310)), (12, .k (.hw 62)), (13, .d hI)], [(3, .var 29 true false [.d hIs]), (62, .arr 3 hI false), (310, .arr 3 hI false)], [55], []⟩
abbrev f129_L14X0 : Tm := ⟨[(11, .k (.hw 310)), (12, .k (.hw 62))], [(62, .arr 3 hI false), (310, .arr 3 hI false)], [3], []⟩
abbrev f129_L14O : List (Exit × Tm) := [(.exit 2, f129_L14X0)]
def f129_L14U {α : Type} (n : Nat) (v : f129_L14H.den) (f : f129_L14H.den → Option α) (ks : KS α f129_L14O) : Option α := f129_L14B n v.1.2.1 v.1.2.2.2.2.1 v.2.1.1 v.2.2.1 v.2.2.2.1 (fun s6 s13 c3_0 b62 b310 => f (((), s6, (), (), s13, ()), ((c3_0, ()), b62, b310, ()))) (fun w0 w1 => ks.1 (((), (), ()), (w0, w1, ())))
def f129_L14 {α : Type} (n m : Nat) (s6 : Int) (s13 : Int) (c3_0 : List Int) (b62 : List Int) (b310 : List Int) (k0 : (List Int) → (List Int) → Option α) : Option α := rounds (f129_L14U n) m (((), s6, (), (), s13, ()), ((c3_0, ()), b62, b310, ())) (fun w => k0 w.2.1 w.2.2.1, ())
theorem f129_L14_0 {α : Type} (n : Nat) (s6 : Int) (s13 : Int) (c3_0 : List Int) (b62 : List Int) (b310 : List Int) (k0 : (List Int) → (List Int) → Option α) : f129_L14 (α := α) n 0 s6 s13 c3_0 b62 b310 k0 = none := rfl
theorem f129_L14_s {α : Type} (n m : Nat) (s6 : Int) (s13 : Int) (c3_0 : List Int) (b62 : List Int) (b310 : List Int) (k0 : (List Int) → (List Int) → Option α) : f129_L14 (α := α) n (m + 1) s6 s13 c3_0 b62 b310 k0 = f129_L14B n s6 s13 c3_0 b62 b310 (fun s6 s13 c3_0 b62 b310 => f129_L14 n m s6 s13 c3_0 b62 b310 k0) k0 := rfl
abbrev f129_G10 : Tm := ⟨[(3, .k (.hp 3 0 0)), (7, .k (.hp 7 0 0)), (8, .k (.hp 8 0 0)), (9, .d hI), (10, .d hI), (29, .d (.clo 157 (.ref hIs))), (30, .d hI), (31, .d hI)], [(3, .var 29 true false [.d hIs]), (7, .var 29 false false [.k (.hw 27)]), (8, .var 3 true false [.d hI]), (27, .arr 3 hI false)], [], []⟩
abbrev f129_G11 : Tm := ⟨[(7, .k (.hp 7 0 0)), (8, .k (.hp 8 0 0))], [(7, .var 29 false false [.k (.hw 27)]), (8, .var 3 true false [.d hI]), (27, .arr 3 hI false)], [], []⟩
abbrev f129_G12 : Tm := ⟨[(0, .d hIs), (3, .k (.hp 3 0 0)), (6, .d hI)], [(3, .var 29 true false [.d hIs])], [], []⟩
abbrev f129_G16 : Tm := ⟨[(3, .k (.hp 3 0 0)), (6, .d hI), (11, .k (.hw 310)), (12, .k (.hw 62)), (13, .d hI)], [(3, .var 29 true false [.d hIs]), (62, .arr 3 hI false), (310, .arr 3 hI false)], [], []⟩
def f129 (n : Nat) (a0 : List Int) (a1 : List Int) : Option ((List Int) × (List Int)) :=
  ob (f119 n a0 a1) fun r_1 =>
  bif (decide (r_1 < 0)) then
    ob (f115 n a0) fun r_2 =>
    some ([], r_2)
  else
    bif ((a1.length : Int) == 1) then
      gd (decide (0 ≤ (a0.length : Int)) && decide ((a0.length : Int) ≤ 4611686018427387904) && decide ((8 : Int) * (a0.length : Int) ≤ 281474976710656)) (
        ob (f146 n a0) fun r_3 =>
        f129_L7 n r_3 a1 0 (List.replicate ((a0.length : Int).toNat) 0)
          (fun z_4 z_5 => (
            ob (f130 n z_5) fun r_6 =>
            ob (f116 n z_4) fun r_7 =>
            some (r_6, r_7))))
    else
      ob (f115B n a0) fun r_8 =>
      gd (decide ((r_8.length + 1) * 8 ≤ 140737488355328)) (
        gd (decide (0 ≤ (W ((W ((a0.length : Int) - (a1.length : Int))) + 1))) && decide ((W ((W ((a0.length : Int) - (a1.length : Int))) + 1)) ≤ 4611686018427387904) && decide ((8 : Int) * (W ((W ((a0.length : Int) - (a1.length : Int))) + 1)) ≤ 281474976710656)) (
          f129_L14 n n (a1.length : Int) (W ((a0.length : Int) - (a1.length : Int))) a1 (List.replicate ((W ((W ((a0.length : Int) - (a1.length : Int))) + 1)).toNat) 0) (r_8 ++ [0])
            (fun z_10 z_11 => (
              ob (f130 n z_10) fun r_12 =>
              ob (f130 n z_11) fun r_13 =>
              some (r_12, r_13)))))
def f129_E (n : Nat) : Ent := ⟨129, [hIs, hIs], [hIs, hIs], fun x => f129 n x.1 x.2⟩
def f129_D (α : Type) (n : Nat) : D3 α := { reg := [(1, ⟨0, [], [(2, { ent := some (f119_E n) })]⟩), (2, ⟨0, [], [(0, { sh := some hI }), (2, { ent := some (f115_E n) })]⟩), (6, ⟨0, [], [(1, { ent := some (f146_E n) })]⟩), (11, ⟨0, [], [(1, { ent := some (f130_E n), fz := [(49, hIs)] }), (3, { ent := some (f116_E n) })]⟩), (12, ⟨0, [], [(1, { entB := some (f115B_E n), hb := 310 }), (2, { sh := some hI })]⟩), (16, ⟨0, [], [(10, { entB := some (f152B_E n), hb := 320 })]⟩), (17, ⟨0, [], [(1, { ent := some (f130_E n), fz := [(83, hIs)] }), (3, { ent := some (f130_E n), fz := [(85, hIs)] })]⟩)], join := [], loop := [(7, ⟨f129_L7H, f129_L7O, rangeR f129_L7Z (f129_L7U n) f129_L7N⟩), (14, ⟨f129_L14H, f129_L14O, rounds (f129_L14U n) n⟩)], any := [(10, f129_G10), (11, f129_G11), (12, f129_G12), (16, f129_G16)] }
theorem f129_A10 (n : Nat) : FamAll (tyOf Try.prog) ⟨87, []⟩ [] f129_G10 (regOps ((bodyOf Try.f129).at [1, 1, 1, 0, 1, 0, 1, 0, 1, 0, 1, 0, 1])) := by
  refine ⟨by kernel_rfl, fun w q hq => ?_⟩
  have e : WT [] (swapIdx (regOps ((bodyOf Try.f129).at [1, 1, 1, 0, 1, 0, 1, 0, 1, 0, 1, 0, 1])).toList) q = (q = []) := by kernel_rfl
  rw [e] at hq
  obtain rfl := hq
  exact FamEq.mk (by kernel_rfl)
theorem f129_A11 (n : Nat) : FamAll (tyOf Try.prog) ⟨87, []⟩ [(1, { ent := some (f130_E n), fz := [(49, hIs)] }), (3, { ent := some (f116_E n) })] f129_G11 (regOps ((bodyOf Try.f129).at [1, 1, 1, 0, 1, 0, 1, 1, 0])) := by
  refine ⟨by kernel_rfl, fun w q hq => ?_⟩
  have e : WT [(1, { ent := some (f130_E n), fz := [(49, hIs)] }), (3, { ent := some (f116_E n) })] (swapIdx (regOps ((bodyOf Try.f129).at [1, 1, 1, 0, 1, 0, 1, 1, 0])).toList) q = (∃ (y0 : HL (f130_E n).rs) (q0 : List (Nat × RV)), q = (1, .sv (resSV (f130_E n).rs y0)) :: q0 ∧ ∃ (y1 : HL (f116_E n).rs) (q1 : List (Nat × RV)), q0 = (3, .sv (resSV (f116_E n).rs y1)) :: q1 ∧ q1 = []) := by kernel_rfl
  rw [e] at hq
  obtain ⟨y0, q0, rfl, y1, q1, rfl, rfl⟩ := hq
  exact FamEq.mk (by kernel_rfl)
theorem f129_A12 (n : Nat) : FamAll (tyOf Try.prog) ⟨87, []⟩ [(1, { entB := some (f115B_E n), hb := 310 }), (2, { sh := some hI })] f129_G12 (regOps ((bodyOf Try.f129).at [1, 1, 1, 1, 0])) := by
  refine ⟨by kernel_rfl, fun w q hq => ?_⟩
  have e : WT [(1, { entB := some (f115B_E n), hb := 310 }), (2, { sh := some hI })] (swapIdx (regOps ((bodyOf Try.f129).at [1, 1, 1, 1, 0])).toList) q = (∃ (y0 : HF (ownsP 1000 (f115B_E n).ts) (f115B_E n).forms) (q0 : List (Nat × RV)), q = (1, .bx (f115B_E n) y0) :: q0 ∧ q0 = []) := by kernel_rfl
  rw [e] at hq
  obtain ⟨y0, q0, rfl, rfl⟩ := hq
  exact FamEq.mk (by kernel_rfl)
theorem f129_A16 (n : Nat) : FamAll (tyOf Try.prog) ⟨87, []⟩ [(10, { entB := some (f152B_E n), hb := 320 })] f129_G16 (regOps ((bodyOf Try.f129).at [1, 1, 1, 1, 1, 0, 1, 0, 0, 1, 0, 0])) := by
  refine ⟨by kernel_rfl, fun w q hq => ?_⟩
  have e : WT [(10, { entB := some (f152B_E n), hb := 320 })] (swapIdx (regOps ((bodyOf Try.f129).at [1, 1, 1, 1, 1, 0, 1, 0, 0, 1, 0, 0])).toList) q = (∃ (y0 : HF (ownsP 1000 (f152B_E n).ts) (f152B_E n).forms) (q0 : List (Nat × RV)), q = (10, .bx (f152B_E n) y0) :: q0 ∧ q0 = []) := by kernel_rfl
  rw [e] at hq
  obtain ⟨y0, q0, rfl, rfl⟩ := hq
  exact FamEq.mk (by kernel_rfl)
theorem f129_ents (α : Type) (n : Nat) : AllS Try.prog (entsOf (f129_D α n).reg) := ⟨f119_ok n, f115_ok n, f146_ok n, f130_ok n, f116_ok n, f115B_ok n, f152B_ok n, f130_ok n, f130_ok n, trivial⟩
theorem f129_L7A_d (α : Type) (n : Nat) : D3.OK Try.prog (tyOf Try.prog) ⟨87, []⟩ (f129_D α n) ((bodyOf Try.f129).at [1, 1, 1, 0, 1, 0, 1, 0, 1, 0, 0]) :=
  D3.OK.mk3a (f129_ents α n) (show loopsOf ((bodyOf Try.f129).at [1, 1, 1, 0, 1, 0, 1, 0, 1, 0, 0]) = [] by kernel_rfl) trivial (show anysOf ((bodyOf Try.f129).at [1, 1, 1, 0, 1, 0, 1, 0, 1, 0, 0]) = [] by kernel_rfl) trivial
theorem f129_L7B_d (α : Type) (n : Nat) : D3.OK Try.prog (tyOf Try.prog) ⟨87, []⟩ (f129_D α n) ((bodyOf Try.f129).at [1, 1, 1, 0, 1, 0, 1, 0, 1, 0, 1]) :=
  D3.OK.mk3a (f129_ents α n) (show loopsOf ((bodyOf Try.f129).at [1, 1, 1, 0, 1, 0, 1, 0, 1, 0, 1]) = [] by kernel_rfl) trivial (show anysOf ((bodyOf Try.f129).at [1, 1, 1, 0, 1, 0, 1, 0, 1, 0, 1]) = [(10, regOps ((bodyOf Try.f129).at [1, 1, 1, 0, 1, 0, 1, 0, 1, 0, 1, 0, 1]))] by kernel_rfl) ⟨fun X h => by cases h; exact f129_A10 n, trivial⟩
theorem f129_L7_ok (α : Type) (n : Nat) : LO.Sound (α := α) Try.prog ⟨87, []⟩ ⟨f129_L7H, f129_L7O, rangeR f129_L7Z (f129_L7U n) f129_L7N⟩ (.rangeFunc (.tmp 29) #[30, 31] ((bodyOf Try.f129).at [1, 1, 1, 0, 1, 0, 1, 0, 1, 0, 0]) ((bodyOf Try.f129).at [1, 1, 1, 0, 1, 0, 1, 0, 1, 0, 1])) :=
  range_ok (tyOf_ok _) prog_fol f129_L7Z (f129_L7U n) f129_L7N back_ok rfl rfl rfl rfl (f129_L7A_d α n) (f129_L7B_d α n) (by intro v; rfl) (by intro i z v f ks; kernel_rfl) (by intro v ks; kernel_rfl)
theorem f129_L14_d (α : Type) (n : Nat) : D3.OK Try.prog (tyOf Try.prog) ⟨87, []⟩ (f129_D α n) ((bodyOf Try.f129).at [1, 1, 1, 1, 1, 0, 1, 0, 0]) :=
  D3.OK.mk3a (f129_ents α n) (show loopsOf ((bodyOf Try.f129).at [1, 1, 1, 1, 1, 0, 1, 0, 0]) = [] by kernel_rfl) trivial (show anysOf ((bodyOf Try.f129).at [1, 1, 1, 1, 1, 0, 1, 0, 0]) = [(16, regOps ((bodyOf Try.f129).at [1, 1, 1, 1, 1, 0, 1, 0, 0, 1, 0, 0]))] by kernel_rfl) ⟨fun X h => by cases h; exact f129_A16 n, trivial⟩
theorem f129_L14_ok (α : Type) (n : Nat) : LO.Sound (α := α) Try.prog ⟨87, []⟩ ⟨f129_L14H, f129_L14O, rounds (f129_L14U n) n⟩ (.loop ((bodyOf Try.f129).at [1, 1, 1, 1, 1, 0, 1, 0, 0])) :=
  loop_ok (tyOf_ok _) prog_fol (f129_L14U n) (f129_L14_d α n) (by intro v f ks; kernel_rfl) n
theorem f129_d (α : Type) (n : Nat) : D3.OK Try.prog (tyOf Try.prog) ⟨87, []⟩ (f129_D α n) (bodyOf Try.f129) :=
  D3.OK.mk3a (f129_ents α n) (show loopsOf (bodyOf Try.f129) = [(7, (.rangeFunc (.tmp 29) #[30, 31] ((bodyOf Try.f129).at [1, 1, 1, 0, 1, 0, 1, 0, 1, 0, 0]) ((bodyOf Try.f129).at [1, 1, 1, 0, 1, 0, 1, 0, 1, 0, 1]))), (14, (.loop ((bodyOf Try.f129).at [1, 1, 1, 1, 1, 0, 1, 0, 0])))] by kernel_rfl) ⟨look_sound rfl (f129_L7_ok α n), look_sound rfl (f129_L14_ok α n), trivial⟩ (show anysOf (bodyOf Try.f129) = [(11, regOps ((bodyOf Try.f129).at [1, 1, 1, 0, 1, 0, 1, 1, 0])), (12, regOps ((bodyOf Try.f129).at [1, 1, 1, 1, 0]))] by kernel_rfl) ⟨fun X h => by cases h; exact f129_A11 n, fun X h => by cases h; exact f129_A12 n, trivial⟩
theorem f129_ok (n : Nat) : (f129_E n).Sound Try.prog :=
  fn_ok (tyOf_ok _) prog_fol (f129_D _ n) (show Try.prog.funcs[129]? = some Try.f129 by kernel_rfl) (by kernel_rfl) (show Try.f129.body = some (bodyOf Try.f129) by kernel_rfl) rfl rfl (Nat.le_of_ble_eq_true rfl) (f129_d _ n) (by intro x; kernel_rfl) 


def f128_L1B {α : Type} (n : Nat) (s0 : List Int) (s1 : List Int) (f : (List Int) → (List Int) → Option α) (k0 : (List Int) → Option α) : Option α :=
  bif (decide ((s1.length : Int) > 0)) then
    ob (f129 n s0 s1) fun r_1 =>
    f s1 r_1.2
  else
    k0 s0
abbrev f128_L1H : Tm := ⟨[(0, .d hIs), (1, .d hIs)], [], [], []⟩
abbrev f128_L1X0 : Tm := ⟨[(0, .d hIs)], [], [], []⟩
abbrev f128_L1O : List (Exit × Tm) := [(.exit 0, f128_L1X0)]
def f128_L1U {α : Type} (n : Nat) (v : f128_L1H.den) (f : f128_L1H.den → Option α) (ks : KS α f128_L1O) : Option α := f128_L1B n v.1.1 v.1.2.1 (fun s0 s1 => f ((s0, s1, ()), ())) (fun w0 => ks.1 ((w0, ()), ()))
def f128_L1 {α : Type} (n m : Nat) (s0 : List Int) (s1 : List Int) (k0 : (List Int) → Option α) : Option α := rounds (f128_L1U n) m ((s0, s1, ()), ()) (fun w => k0 w.1.1, ())
theorem f128_L1_0 {α : Type} (n : Nat) (s0 : List Int) (s1 : List Int) (k0 : (List Int) → Option α) : f128_L1 (α := α) n 0 s0 s1 k0 = none := rfl
theorem f128_L1_s {α : Type} (n m : Nat) (s0 : List Int) (s1 : List Int) (k0 : (List Int) → Option α) : f128_L1 (α := α) n (m + 1) s0 s1 k0 = f128_L1B n s0 s1 (fun s0 s1 => f128_L1 n m s0 s1 k0) k0 := rfl
def f128 (n : Nat) (a0 : List Int) (a1 : List Int) : Option (List Int) :=
  f128_L1 n n a0 a1
    (fun z_2 => (
      some z_2))
def f128_E (n : Nat) : Ent := ⟨128, [hIs, hIs], [hIs], fun x => f128 n x.1 x.2⟩
def f128_D (α : Type) (n : Nat) : D3 α := { reg := [(2, ⟨0, [], [(2, { ent := some (f129_E n) })]⟩)], join := [], loop := [(1, ⟨f128_L1H, f128_L1O, rounds (f128_L1U n) n⟩)] }
theorem f128_ents (α : Type) (n : Nat) : AllS Try.prog (entsOf (f128_D α n).reg) := ⟨f129_ok n, trivial⟩
theorem f128_L1_d (α : Type) (n : Nat) : D3.OK Try.prog (tyOf Try.prog) ⟨19, []⟩ (f128_D α n) ((bodyOf Try.f128).at [1, 0, 0, 0]) :=
  D3.OK.mk3 (f128_ents α n) (show loopsOf ((bodyOf Try.f128).at [1, 0, 0, 0]) = [] by kernel_rfl) trivial
theorem f128_L1_ok (α : Type) (n : Nat) : LO.Sound (α := α) Try.prog ⟨19, []⟩ ⟨f128_L1H, f128_L1O, rounds (f128_L1U n) n⟩ (.loop ((bodyOf Try.f128).at [1, 0, 0, 0])) :=
  loop_ok (tyOf_ok _) prog_fol (f128_L1U n) (f128_L1_d α n) (by intro v f ks; kernel_rfl) n
theorem f128_d (α : Type) (n : Nat) : D3.OK Try.prog (tyOf Try.prog) ⟨19, []⟩ (f128_D α n) (bodyOf Try.f128) :=
  D3.OK.mk3 (f128_ents α n) (show loopsOf (bodyOf Try.f128) = [(1, (.loop ((bodyOf Try.f128).at [1, 0, 0, 0])))] by kernel_rfl) ⟨look_sound rfl (f128_L1_ok α n), trivial⟩
theorem f128_ok (n : Nat) : (f128_E n).Sound Try.prog :=
  fn_ok (tyOf_ok _) prog_fol (f128_D _ n) (show Try.prog.funcs[128]? = some Try.f128 by kernel_rfl) (by kernel_rfl) (show Try.f128.body = some (bodyOf Try.f128) by kernel_rfl) rfl rfl (Nat.le_of_ble_eq_true rfl) (f128_d _ n) (by intro x; kernel_rfl) 


def f117 (n : Nat)  : Option (List Int) :=
  some [1]
def f117_E (n : Nat) : Ent := ⟨117, [], [hIs], fun _ => f117 n⟩
def f117_D (α : Type) (n : Nat) : D3 α := { reg := [(1, ⟨0, [], [(0, { sh := some hI })]⟩)], join := [], loop := [] }
theorem f117_ents (α : Type) (n : Nat) : AllS Try.prog (entsOf (f117_D α n).reg) := trivial
theorem f117_d (α : Type) (n : Nat) : D3.OK Try.prog (tyOf Try.prog) ⟨2, []⟩ (f117_D α n) (bodyOf Try.f117) :=
  D3.OK.mk3 (f117_ents α n) (show loopsOf (bodyOf Try.f117) = [] by kernel_rfl) trivial
theorem f117_ok (n : Nat) : (f117_E n).Sound Try.prog :=
  fn_ok (tyOf_ok _) prog_fol (f117_D _ n) (show Try.prog.funcs[117]? = some Try.f117 by kernel_rfl) (by kernel_rfl) (show Try.f117.body = some (bodyOf Try.f117) by kernel_rfl) rfl rfl (Nat.le_of_ble_eq_true rfl) (f117_d _ n) (by intro x; kernel_rfl) 


abbrev f97_J3 : Tm := ⟨[(1, .k (.hp 1 0 0))], [(1, .var 31 true false [.d .bool, .d hIs, .d hIs])], [], []⟩
def f97 (n : Nat) (a0 : Bool × (List Int) × (List Int)) : Option Bool :=
  let J_7 := fun (_ : Unit) => (
    ob (f128 n a0.2.1 a0.2.2) fun r_4 =>
    ob (f117 n) fun r_5 =>
    ob (f119 n r_4 r_5) fun r_6 =>
    some (r_6 == 0))
  ob (f131 n a0.2.1) fun r_1 =>
  bif (!r_1) then
    some false
  else
    ob (f131 n a0.2.2) fun r_2 =>
    bif (!r_2) then
      some false
    else
      bif ((a0.2.2.length : Int) == 0) then
        some false
      else
        bif a0.1 then
          ob (f80 n a0) fun r_3 =>
          bif r_3 then
            some false
          else
            J_7 ()
        else
          J_7 ()
def f97_E (n : Nat) : Ent := ⟨97, [hR], [.bool], fun x => f97 n x⟩
def f97_D (α : Type) (n : Nat) : D3 α := { reg := [(1, ⟨0, [], [(2, { ent := some (f131_E n) }), (7, { ent := some (f131_E n) }), (21, { ent := some (f80_E n) })]⟩), (3, ⟨0, [], [(4, { ent := some (f128_E n) }), (5, { ent := some (f117_E n) }), (6, { ent := some (f119_E n) })]⟩)], join := [(3, f97_J3)], loop := [] }
theorem f97_ents (α : Type) (n : Nat) : AllS Try.prog (entsOf (f97_D α n).reg) := ⟨f131_ok n, f131_ok n, f80_ok n, f128_ok n, f117_ok n, f119_ok n, trivial⟩
theorem f97_d (α : Type) (n : Nat) : D3.OK Try.prog (tyOf Try.prog) ⟨35, []⟩ (f97_D α n) (bodyOf Try.f97) :=
  D3.OK.mk3 (f97_ents α n) (show loopsOf (bodyOf Try.f97) = [] by kernel_rfl) trivial
theorem f97_ok (n : Nat) : (f97_E n).Sound Try.prog :=
  fn_ok (tyOf_ok _) prog_fol (f97_D _ n) (show Try.prog.funcs[97]? = some Try.f97 by kernel_rfl) (by kernel_rfl) (show Try.f97.body = some (bodyOf Try.f97) by kernel_rfl) rfl rfl (Nat.le_of_ble_eq_true rfl) (f97_d _ n) (by intro x; kernel_rfl) 


def f96 (n : Nat) (a0 : Bool × (List Int) × (List Int)) : Option Bool :=
  ob (f97 n a0) fun r_1 =>
  some (!r_1)
def f96_E (n : Nat) : Ent := ⟨96, [hR], [.bool], fun x => f96 n x⟩
def f96_D (α : Type) (n : Nat) : D3 α := { reg := [(1, ⟨0, [], [(1, { ent := some (f97_E n) })]⟩)], join := [], loop := [] }
theorem f96_ents (α : Type) (n : Nat) : AllS Try.prog (entsOf (f96_D α n).reg) := ⟨f97_ok n, trivial⟩
theorem f96_d (α : Type) (n : Nat) : D3.OK Try.prog (tyOf Try.prog) ⟨6, []⟩ (f96_D α n) (bodyOf Try.f96) :=
  D3.OK.mk3 (f96_ents α n) (show loopsOf (bodyOf Try.f96) = [] by kernel_rfl) trivial
theorem f96_ok (n : Nat) : (f96_E n).Sound Try.prog :=
  fn_ok (tyOf_ok _) prog_fol (f96_D _ n) (show Try.prog.funcs[96]? = some Try.f96 by kernel_rfl) (by kernel_rfl) (show Try.f96.body = some (bodyOf Try.f96) by kernel_rfl) rfl rfl (Nat.le_of_ble_eq_true rfl) (f96_d _ n) (by intro x; kernel_rfl) 


def f114_L2B {α : Type} (n : Nat) (s0 : List (Bool × (List Int) × (List Int))) (s7 : Int) (s8 : Int) (f : (List (Bool × (List Int) × (List Int))) → Int → Int → Option α) (k0 : Int → Option α) (k1 : Unit → Option α) : Option α :=
  bif (decide (s8 < s7)) then
    gd (decide (0 ≤ s8) && decide (s8 < (s0.length : Int))) (
      let x_1 := s0.getD s8.toNat (false, [], [])
      ob (f96 n x_1) fun r_2 =>
      bif r_2 then
        k0 s8
      else
        f s0 s7 (W (s8 + 1)))
  else
    k1 ()
abbrev f114_L2H : Tm := ⟨[(0, .d hRs), (1, .d (.fn 96)), (7, .d hI), (8, .d hI)], [], [], []⟩
abbrev f114_L2X0 : Tm := ⟨[(4, .d hI)], [], [], []⟩
abbrev f114_L2X1 : Tm := ⟨[], [], [], []⟩
abbrev f114_L2O : List (Exit × Tm) := [(.ret, f114_L2X0), (.exit 0, f114_L2X1)]
def f114_L2U {α : Type} (n : Nat) (v : f114_L2H.den) (f : f114_L2H.den → Option α) (ks : KS α f114_L2O) : Option α := f114_L2B n v.1.1 v.1.2.2.1 v.1.2.2.2.1 (fun s0 s7 s8 => f ((s0, (), s7, s8, ()), ())) (fun w0 => ks.1 ((w0, ()), ())) (fun _ => ks.2.1 ((), ()))
def f114_L2 {α : Type} (n m : Nat) (s0 : List (Bool × (List Int) × (List Int))) (s7 : Int) (s8 : Int) (k0 : Int → Option α) (k1 : Unit → Option α) : Option α := rounds (f114_L2U n) m ((s0, (), s7, s8, ()), ()) (fun w => k0 w.1.1, fun w => k1 (), ())
theorem f114_L2_0 {α : Type} (n : Nat) (s0 : List (Bool × (List Int) × (List Int))) (s7 : Int) (s8 : Int) (k0 : Int → Option α) (k1 : Unit → Option α) : f114_L2 (α := α) n 0 s0 s7 s8 k0 k1 = none := rfl
theorem f114_L2_s {α : Type} (n m : Nat) (s0 : List (Bool × (List Int) × (List Int))) (s7 : Int) (s8 : Int) (k0 : Int → Option α) (k1 : Unit → Option α) : f114_L2 (α := α) n (m + 1) s0 s7 s8 k0 k1 = f114_L2B n s0 s7 s8 (fun s0 s7 s8 => f114_L2 n m s0 s7 s8 k0 k1) k0 k1 := rfl
def f114 (n : Nat) (a0 : List (Bool × (List Int) × (List Int))) (a1 : Unit) : Option Int :=
  f114_L2 n n a0 (a0.length : Int) 0
    (fun z_3 => (
      some z_3))
    (fun (_ : Unit) => (
      some (-1)))
def f114_E (n : Nat) : Ent := ⟨114, [hRs, (.fn 96)], [hI], fun x => f114 n x.1 x.2⟩
def f114_D (α : Type) (n : Nat) : D3 α := { reg := [(4, ⟨0, [], [(5, { ent := some (f96_E n) })]⟩)], join := [], loop := [(2, ⟨f114_L2H, f114_L2O, rounds (f114_L2U n) n⟩)] }
theorem f114_ents (α : Type) (n : Nat) : AllS Try.prog (entsOf (f114_D α n).reg) := ⟨f96_ok n, trivial⟩
theorem f114_L2_d (α : Type) (n : Nat) : D3.OK Try.prog (tyOf Try.prog) ⟨19, []⟩ (f114_D α n) ((bodyOf Try.f114).at [1, 0, 1, 0, 0]) :=
  D3.OK.mk3 (f114_ents α n) (show loopsOf ((bodyOf Try.f114).at [1, 0, 1, 0, 0]) = [] by kernel_rfl) trivial
theorem f114_L2_ok (α : Type) (n : Nat) : LO.Sound (α := α) Try.prog ⟨19, []⟩ ⟨f114_L2H, f114_L2O, rounds (f114_L2U n) n⟩ (.loop ((bodyOf Try.f114).at [1, 0, 1, 0, 0])) :=
  loop_ok (tyOf_ok _) prog_fol (f114_L2U n) (f114_L2_d α n) (by intro v f ks; kernel_rfl) n
theorem f114_d (α : Type) (n : Nat) : D3.OK Try.prog (tyOf Try.prog) ⟨19, []⟩ (f114_D α n) (bodyOf Try.f114) :=
  D3.OK.mk3 (f114_ents α n) (show loopsOf (bodyOf Try.f114) = [(2, (.loop ((bodyOf Try.f114).at [1, 0, 1, 0, 0])))] by kernel_rfl) ⟨look_sound rfl (f114_L2_ok α n), trivial⟩
theorem f114_ok (n : Nat) : (f114_E n).Sound Try.prog :=
  fn_ok (tyOf_ok _) prog_fol (f114_D _ n) (show Try.prog.funcs[114]? = some Try.f114 by kernel_rfl) (by kernel_rfl) (show Try.f114.body = some (bodyOf Try.f114) by kernel_rfl) rfl rfl (Nat.le_of_ble_eq_true rfl) (f114_d _ n) (by intro x; kernel_rfl) 


def f72 (n : Nat) (a0 : List (Bool × (List Int) × (List Int))) (a1 : Unit) : Option Bool :=
  ob (f114 n a0 a1) fun r_1 =>
  some (decide (r_1 ≥ 0))
def f72_E (n : Nat) : Ent := ⟨72, [hRs, (.fn 96)], [.bool], fun x => f72 n x.1 x.2⟩
def f72_D (α : Type) (n : Nat) : D3 α := { reg := [(1, ⟨0, [], [(2, { ent := some (f114_E n) })]⟩)], join := [], loop := [] }
theorem f72_ents (α : Type) (n : Nat) : AllS Try.prog (entsOf (f72_D α n).reg) := ⟨f114_ok n, trivial⟩
theorem f72_d (α : Type) (n : Nat) : D3.OK Try.prog (tyOf Try.prog) ⟨9, []⟩ (f72_D α n) (bodyOf Try.f72) :=
  D3.OK.mk3 (f72_ents α n) (show loopsOf (bodyOf Try.f72) = [] by kernel_rfl) trivial
theorem f72_ok (n : Nat) : (f72_E n).Sound Try.prog :=
  fn_ok (tyOf_ok _) prog_fol (f72_D _ n) (show Try.prog.funcs[72]? = some Try.f72 by kernel_rfl) (by kernel_rfl) (show Try.f72.body = some (bodyOf Try.f72) by kernel_rfl) rfl rfl (Nat.le_of_ble_eq_true rfl) (f72_d _ n) (by intro x; kernel_rfl) 


def f68 (n : Nat) (a0 : Bool) (a1 : Int) : Option Int :=
  bif a0 then
    some 0
  else
    some a1
def f68_E (n : Nat) : Ent := ⟨68, [.bool, hI], [hI], fun x => f68 n x.1 x.2⟩
def f68_D (α : Type) (n : Nat) : D3 α := { reg := [], join := [], loop := [] }
theorem f68_ents (α : Type) (n : Nat) : AllS Try.prog (entsOf (f68_D α n).reg) := trivial
theorem f68_d (α : Type) (n : Nat) : D3.OK Try.prog (tyOf Try.prog) ⟨7, []⟩ (f68_D α n) (bodyOf Try.f68) :=
  D3.OK.mk3 (f68_ents α n) (show loopsOf (bodyOf Try.f68) = [] by kernel_rfl) trivial
theorem f68_ok (n : Nat) : (f68_E n).Sound Try.prog :=
  fn_ok (tyOf_ok _) prog_fol (f68_D _ n) (show Try.prog.funcs[68]? = some Try.f68 by kernel_rfl) (by kernel_rfl) (show Try.f68.body = some (bodyOf Try.f68) by kernel_rfl) rfl rfl (Nat.le_of_ble_eq_true rfl) (f68_d _ n) (by intro x; kernel_rfl) 


def f49 (n : Nat) (a0 : List (Bool × (List Int) × (List Int))) : Option Int :=
  ob (f72 n a0 ()) fun r_1 =>
  ob (f68 n (!r_1) 1) fun r_2 =>
  some r_2
def f49_E (n : Nat) : Ent := ⟨49, [hRs], [hI], fun x => f49 n x⟩
def f49_D (α : Type) (n : Nat) : D3 α := { reg := [(1, ⟨0, [], [(1, { ent := some (f72_E n) }), (3, { ent := some (f68_E n) })]⟩)], join := [], loop := [] }
theorem f49_ents (α : Type) (n : Nat) : AllS Try.prog (entsOf (f49_D α n).reg) := ⟨f72_ok n, f68_ok n, trivial⟩
theorem f49_d (α : Type) (n : Nat) : D3.OK Try.prog (tyOf Try.prog) ⟨7, []⟩ (f49_D α n) (bodyOf Try.f49) :=
  D3.OK.mk3 (f49_ents α n) (show loopsOf (bodyOf Try.f49) = [] by kernel_rfl) trivial
theorem f49_ok (n : Nat) : (f49_E n).Sound Try.prog :=
  fn_ok (tyOf_ok _) prog_fol (f49_D _ n) (show Try.prog.funcs[49]? = some Try.f49 by kernel_rfl) (by kernel_rfl) (show Try.f49.body = some (bodyOf Try.f49) by kernel_rfl) rfl rfl (Nat.le_of_ble_eq_true rfl) (f49_d _ n) (by intro x; kernel_rfl) 


def f141 (n : Nat) (a0 : List (Bool × (List Int) × (List Int))) : Option Bool :=
  bif (decide ((a0.length : Int) ≥ 1)) then
    bif (decide ((a0.length : Int) ≤ 4)) then
      ob (f49 n a0) fun r_1 =>
      some (r_1 == 0)
    else
      some false
  else
    some false
def f141_E (n : Nat) : Ent := ⟨141, [hRs], [.bool], fun x => f141 n x⟩
def f141_D (α : Type) (n : Nat) : D3 α := { reg := [(1, ⟨0, [], [(10, { ent := some (f49_E n) })]⟩)], join := [], loop := [] }
theorem f141_ents (α : Type) (n : Nat) : AllS Try.prog (entsOf (f141_D α n).reg) := ⟨f49_ok n, trivial⟩
theorem f141_d (α : Type) (n : Nat) : D3.OK Try.prog (tyOf Try.prog) ⟨16, []⟩ (f141_D α n) (bodyOf Try.f141) :=
  D3.OK.mk3 (f141_ents α n) (show loopsOf (bodyOf Try.f141) = [] by kernel_rfl) trivial
theorem f141_ok (n : Nat) : (f141_E n).Sound Try.prog :=
  fn_ok (tyOf_ok _) prog_fol (f141_D _ n) (show Try.prog.funcs[141]? = some Try.f141 by kernel_rfl) (by kernel_rfl) (show Try.f141.body = some (bodyOf Try.f141) by kernel_rfl) rfl rfl (Nat.le_of_ble_eq_true rfl) (f141_d _ n) (by intro x; kernel_rfl) 


def f142_L3B {α : Type} (n : Nat) (s3 : Int) (s6 : List (Int × Int × Int × Int)) (s7 : Int) (s8 : Int) (f : Int → (List (Int × Int × Int × Int)) → Int → Int → Option α) (k0 : Int → Option α) : Option α :=
  bif (decide (s8 < s7)) then
    gd (decide (0 ≤ s8) && decide (s8 < (s6.length : Int))) (
      let x_1 := s6.getD s8.toNat (0, 0, 0, 0)
      bif (x_1.1 == 2) then
        f (max s3 (W (x_1.2.2.2 + 1))) s6 s7 (W (s8 + 1))
      else
        f s3 s6 s7 (W (s8 + 1)))
  else
    k0 s3
abbrev f142_L3H : Tm := ⟨[(3, .d hI), (6, .d hNs), (7, .d hI), (8, .d hI)], [], [5], []⟩
abbrev f142_L3X0 : Tm := ⟨[(3, .d hI)], [], [], []⟩
abbrev f142_L3O : List (Exit × Tm) := [(.exit 0, f142_L3X0)]
def f142_L3U {α : Type} (n : Nat) (v : f142_L3H.den) (f : f142_L3H.den → Option α) (ks : KS α f142_L3O) : Option α := f142_L3B n v.1.1 v.1.2.1 v.1.2.2.1 v.1.2.2.2.1 (fun s3 s6 s7 s8 => f ((s3, s6, s7, s8, ()), ())) (fun w0 => ks.1 ((w0, ()), ()))
def f142_L3 {α : Type} (n m : Nat) (s3 : Int) (s6 : List (Int × Int × Int × Int)) (s7 : Int) (s8 : Int) (k0 : Int → Option α) : Option α := rounds (f142_L3U n) m ((s3, s6, s7, s8, ()), ()) (fun w => k0 w.1.1, ())
theorem f142_L3_0 {α : Type} (n : Nat) (s3 : Int) (s6 : List (Int × Int × Int × Int)) (s7 : Int) (s8 : Int) (k0 : Int → Option α) : f142_L3 (α := α) n 0 s3 s6 s7 s8 k0 = none := rfl
theorem f142_L3_s {α : Type} (n m : Nat) (s3 : Int) (s6 : List (Int × Int × Int × Int)) (s7 : Int) (s8 : Int) (k0 : Int → Option α) : f142_L3 (α := α) n (m + 1) s3 s6 s7 s8 k0 = f142_L3B n s3 s6 s7 s8 (fun s3 s6 s7 s8 => f142_L3 n m s3 s6 s7 s8 k0) k0 := rfl
def f142 (n : Nat) (a0 : List (Int × Int × Int × Int)) : Option Int :=
  f142_L3 n n 0 a0 (a0.length : Int) 0
    (fun z_2 => (
      some z_2))
def f142_E (n : Nat) : Ent := ⟨142, [hNs], [hI], fun x => f142 n x⟩
def f142_D (α : Type) (n : Nat) : D3 α := { reg := [], join := [], loop := [(3, ⟨f142_L3H, f142_L3O, rounds (f142_L3U n) n⟩)] }
theorem f142_ents (α : Type) (n : Nat) : AllS Try.prog (entsOf (f142_D α n).reg) := trivial
theorem f142_L3_d (α : Type) (n : Nat) : D3.OK Try.prog (tyOf Try.prog) ⟨22, []⟩ (f142_D α n) ((bodyOf Try.f142).at [1, 1, 0, 1, 0, 0]) :=
  D3.OK.mk3 (f142_ents α n) (show loopsOf ((bodyOf Try.f142).at [1, 1, 0, 1, 0, 0]) = [] by kernel_rfl) trivial
theorem f142_L3_ok (α : Type) (n : Nat) : LO.Sound (α := α) Try.prog ⟨22, []⟩ ⟨f142_L3H, f142_L3O, rounds (f142_L3U n) n⟩ (.loop ((bodyOf Try.f142).at [1, 1, 0, 1, 0, 0])) :=
  loop_ok (tyOf_ok _) prog_fol (f142_L3U n) (f142_L3_d α n) (by intro v f ks; kernel_rfl) n
theorem f142_d (α : Type) (n : Nat) : D3.OK Try.prog (tyOf Try.prog) ⟨22, []⟩ (f142_D α n) (bodyOf Try.f142) :=
  D3.OK.mk3 (f142_ents α n) (show loopsOf (bodyOf Try.f142) = [(3, (.loop ((bodyOf Try.f142).at [1, 1, 0, 1, 0, 0])))] by kernel_rfl) ⟨look_sound rfl (f142_L3_ok α n), trivial⟩
theorem f142_ok (n : Nat) : (f142_E n).Sound Try.prog :=
  fn_ok (tyOf_ok _) prog_fol (f142_D _ n) (show Try.prog.funcs[142]? = some Try.f142 by kernel_rfl) (by kernel_rfl) (show Try.f142.body = some (bodyOf Try.f142) by kernel_rfl) rfl rfl (Nat.le_of_ble_eq_true rfl) (f142_d _ n) (by intro x; kernel_rfl) 


def f113_L2B {α : Type} (n : Nat) (s0 : Int) (s7 : List Int) (s8 : Int) (s9 : Int) (f : Int → (List Int) → Int → Int → Option α) (k0 : Int → Option α) (k1 : Unit → Option α) : Option α :=
  bif (decide (s9 < s8)) then
    gd (decide (0 ≤ s9) && decide (s9 < (s7.length : Int))) (
      bif (decide ((s7.getD s9.toNat 0) > s0)) then
        k0 2
      else
        f s0 s7 s8 (W (s9 + 1)))
  else
    k1 ()
abbrev f113_L2H : Tm := ⟨[(0, .d hI), (7, .d hIs), (8, .d hI), (9, .d hI)], [], [], []⟩
abbrev f113_L2X0 : Tm := ⟨[(4, .d hI)], [], [], []⟩
abbrev f113_L2X1 : Tm := ⟨[], [], [], []⟩
abbrev f113_L2O : List (Exit × Tm) := [(.ret, f113_L2X0), (.exit 0, f113_L2X1)]
def f113_L2U {α : Type} (n : Nat) (v : f113_L2H.den) (f : f113_L2H.den → Option α) (ks : KS α f113_L2O) : Option α := f113_L2B n v.1.1 v.1.2.1 v.1.2.2.1 v.1.2.2.2.1 (fun s0 s7 s8 s9 => f ((s0, s7, s8, s9, ()), ())) (fun w0 => ks.1 ((w0, ()), ())) (fun _ => ks.2.1 ((), ()))
def f113_L2 {α : Type} (n m : Nat) (s0 : Int) (s7 : List Int) (s8 : Int) (s9 : Int) (k0 : Int → Option α) (k1 : Unit → Option α) : Option α := rounds (f113_L2U n) m ((s0, s7, s8, s9, ()), ()) (fun w => k0 w.1.1, fun w => k1 (), ())
theorem f113_L2_0 {α : Type} (n : Nat) (s0 : Int) (s7 : List Int) (s8 : Int) (s9 : Int) (k0 : Int → Option α) (k1 : Unit → Option α) : f113_L2 (α := α) n 0 s0 s7 s8 s9 k0 k1 = none := rfl
theorem f113_L2_s {α : Type} (n m : Nat) (s0 : Int) (s7 : List Int) (s8 : Int) (s9 : Int) (k0 : Int → Option α) (k1 : Unit → Option α) : f113_L2 (α := α) n (m + 1) s0 s7 s8 s9 k0 k1 = f113_L2B n s0 s7 s8 s9 (fun s0 s7 s8 s9 => f113_L2 n m s0 s7 s8 s9 k0 k1) k0 k1 := rfl
def f113 (n : Nat) (a0 : Int) (a1 : List Int) : Option Int :=
  f113_L2 n n a0 a1 (a1.length : Int) 0
    (fun z_1 => (
      some z_1))
    (fun (_ : Unit) => (
      some 0))
def f113_E (n : Nat) : Ent := ⟨113, [hI, hIs], [hI], fun x => f113 n x.1 x.2⟩
def f113_D (α : Type) (n : Nat) : D3 α := { reg := [], join := [], loop := [(2, ⟨f113_L2H, f113_L2O, rounds (f113_L2U n) n⟩)] }
theorem f113_ents (α : Type) (n : Nat) : AllS Try.prog (entsOf (f113_D α n).reg) := trivial
theorem f113_L2_d (α : Type) (n : Nat) : D3.OK Try.prog (tyOf Try.prog) ⟨17, []⟩ (f113_D α n) ((bodyOf Try.f113).at [1, 0, 1, 0, 0]) :=
  D3.OK.mk3 (f113_ents α n) (show loopsOf ((bodyOf Try.f113).at [1, 0, 1, 0, 0]) = [] by kernel_rfl) trivial
theorem f113_L2_ok (α : Type) (n : Nat) : LO.Sound (α := α) Try.prog ⟨17, []⟩ ⟨f113_L2H, f113_L2O, rounds (f113_L2U n) n⟩ (.loop ((bodyOf Try.f113).at [1, 0, 1, 0, 0])) :=
  loop_ok (tyOf_ok _) prog_fol (f113_L2U n) (f113_L2_d α n) (by intro v f ks; kernel_rfl) n
theorem f113_d (α : Type) (n : Nat) : D3.OK Try.prog (tyOf Try.prog) ⟨17, []⟩ (f113_D α n) (bodyOf Try.f113) :=
  D3.OK.mk3 (f113_ents α n) (show loopsOf (bodyOf Try.f113) = [(2, (.loop ((bodyOf Try.f113).at [1, 0, 1, 0, 0])))] by kernel_rfl) ⟨look_sound rfl (f113_L2_ok α n), trivial⟩
theorem f113_ok (n : Nat) : (f113_E n).Sound Try.prog :=
  fn_ok (tyOf_ok _) prog_fol (f113_D _ n) (show Try.prog.funcs[113]? = some Try.f113 by kernel_rfl) (by kernel_rfl) (show Try.f113.body = some (bodyOf Try.f113) by kernel_rfl) rfl rfl (Nat.le_of_ble_eq_true rfl) (f113_d _ n) (by intro x; kernel_rfl) 


def f67_L3B {α : Type} (n : Nat) (s7 : List (List (Bool × (List Int) × (List Int)))) (s8 : Int) (s9 : Int) (b6 : List Int) (f : (List (List (Bool × (List Int) × (List Int)))) → Int → Int → (List Int) → Option α) (k0 : (List Int) → Option α) : Option α :=
  bif (decide (s9 < s8)) then
    gd (decide (0 ≤ s9) && decide (s9 < (s7.length : Int))) (
      gd (decide ((b6.length + 1) * 8 ≤ 140737488355328)) (
        f s7 s8 (W (s9 + 1)) (b6 ++ [(((s7.getD s9.toNat []).length : Nat) : Int)])))
  else
    k0 b6
abbrev f67_L3H : Tm := ⟨[(3, .k (.hw 6)), (7, .d (.sl hRs)), (8, .d hI), (9, .d hI)], [(6, .arr 3 hI false)], [16], []⟩
abbrev f67_L3X0 : Tm := ⟨[(3, .k (.hw 6))], [(6, .arr 3 hI false)], [], []⟩
abbrev f67_L3O : List (Exit × Tm) := [(.exit 0, f67_L3X0)]
def f67_L3U {α : Type} (n : Nat) (v : f67_L3H.den) (f : f67_L3H.den → Option α) (ks : KS α f67_L3O) : Option α := f67_L3B n v.1.2.1 v.1.2.2.1 v.1.2.2.2.1 v.2.1 (fun s7 s8 s9 b6 => f (((), s7, s8, s9, ()), (b6, ()))) (fun w0 => ks.1 (((), ()), (w0, ())))
def f67_L3 {α : Type} (n m : Nat) (s7 : List (List (Bool × (List Int) × (List Int)))) (s8 : Int) (s9 : Int) (b6 : List Int) (k0 : (List Int) → Option α) : Option α := rounds (f67_L3U n) m (((), s7, s8, s9, ()), (b6, ())) (fun w => k0 w.2.1, ())
theorem f67_L3_0 {α : Type} (n : Nat) (s7 : List (List (Bool × (List Int) × (List Int)))) (s8 : Int) (s9 : Int) (b6 : List Int) (k0 : (List Int) → Option α) : f67_L3 (α := α) n 0 s7 s8 s9 b6 k0 = none := rfl
theorem f67_L3_s {α : Type} (n m : Nat) (s7 : List (List (Bool × (List Int) × (List Int)))) (s8 : Int) (s9 : Int) (b6 : List Int) (k0 : (List Int) → Option α) : f67_L3 (α := α) n (m + 1) s7 s8 s9 b6 k0 = f67_L3B n s7 s8 s9 b6 (fun s7 s8 s9 b6 => f67_L3 n m s7 s8 s9 b6 k0) k0 := rfl
def f67 (n : Nat) (a0 : List (List (Bool × (List Int) × (List Int)))) : Option Int :=
  f67_L3 n n a0 (a0.length : Int) 0 []
    (fun z_1 => (
      ob (f113 n 4096 z_1) fun r_2 =>
      some r_2))
def f67_E (n : Nat) : Ent := ⟨67, [(.sl hRs)], [hI], fun x => f67 n x⟩
def f67_D (α : Type) (n : Nat) : D3 α := { reg := [(1, ⟨0, [], [(0, { sh := some hI })]⟩), (5, ⟨0, [], [(3, { sh := some hI })]⟩), (7, ⟨0, [], [(1, { ent := some (f113_E n) })]⟩)], join := [], loop := [(3, ⟨f67_L3H, f67_L3O, rounds (f67_L3U n) n⟩)] }
theorem f67_ents (α : Type) (n : Nat) : AllS Try.prog (entsOf (f67_D α n).reg) := ⟨f113_ok n, trivial⟩
theorem f67_L3_d (α : Type) (n : Nat) : D3.OK Try.prog (tyOf Try.prog) ⟨21, []⟩ (f67_D α n) ((bodyOf Try.f67).at [1, 1, 0, 1, 0, 0]) :=
  D3.OK.mk3 (f67_ents α n) (show loopsOf ((bodyOf Try.f67).at [1, 1, 0, 1, 0, 0]) = [] by kernel_rfl) trivial
theorem f67_L3_ok (α : Type) (n : Nat) : LO.Sound (α := α) Try.prog ⟨21, []⟩ ⟨f67_L3H, f67_L3O, rounds (f67_L3U n) n⟩ (.loop ((bodyOf Try.f67).at [1, 1, 0, 1, 0, 0])) :=
  loop_ok (tyOf_ok _) prog_fol (f67_L3U n) (f67_L3_d α n) (by intro v f ks; kernel_rfl) n
theorem f67_d (α : Type) (n : Nat) : D3.OK Try.prog (tyOf Try.prog) ⟨21, []⟩ (f67_D α n) (bodyOf Try.f67) :=
  D3.OK.mk3 (f67_ents α n) (show loopsOf (bodyOf Try.f67) = [(3, (.loop ((bodyOf Try.f67).at [1, 1, 0, 1, 0, 0])))] by kernel_rfl) ⟨look_sound rfl (f67_L3_ok α n), trivial⟩
theorem f67_ok (n : Nat) : (f67_E n).Sound Try.prog :=
  fn_ok (tyOf_ok _) prog_fol (f67_D _ n) (show Try.prog.funcs[67]? = some Try.f67 by kernel_rfl) (by kernel_rfl) (show Try.f67.body = some (bodyOf Try.f67) by kernel_rfl) rfl rfl (Nat.le_of_ble_eq_true rfl) (f67_d _ n) (by intro x; kernel_rfl) 


def f143_L5B {α : Type} (n : Nat) (s0 : List (List (Bool × (List Int) × (List Int)))) (s13 : List (List (Bool × (List Int) × (List Int)))) (s14 : Int) (s15 : Int) (f : (List (List (Bool × (List Int) × (List Int)))) → (List (List (Bool × (List Int) × (List Int)))) → Int → Int → Option α) (k0 : Int → Option α) (k1 : (List (List (Bool × (List Int) × (List Int)))) → Option α) : Option α :=
  bif (decide (s15 < s14)) then
    gd (decide (0 ≤ s15) && decide (s15 < (s13.length : Int))) (
      ob (f141 n (s13.getD s15.toNat [])) fun r_2 =>
      bif (!r_2) then
        k0 1
      else
        f s0 s13 s14 (W (s15 + 1)))
  else
    k1 s0
abbrev f143_L5H : Tm := ⟨[(0, .d (.sl hRs)), (13, .d (.sl hRs)), (14, .d hI), (15, .d hI)], [], [], []⟩
abbrev f143_L5X0 : Tm := ⟨[(2, .d hI)], [], [], []⟩
abbrev f143_L5X1 : Tm := ⟨[(0, .d (.sl hRs))], [], [], []⟩
abbrev f143_L5O : List (Exit × Tm) := [(.ret, f143_L5X0), (.exit 0, f143_L5X1)]
def f143_L5U {α : Type} (n : Nat) (v : f143_L5H.den) (f : f143_L5H.den → Option α) (ks : KS α f143_L5O) : Option α := f143_L5B n v.1.1 v.1.2.1 v.1.2.2.1 v.1.2.2.2.1 (fun s0 s13 s14 s15 => f ((s0, s13, s14, s15, ()), ())) (fun w0 => ks.1 ((w0, ()), ())) (fun w0 => ks.2.1 ((w0, ()), ()))
def f143_L5 {α : Type} (n m : Nat) (s0 : List (List (Bool × (List Int) × (List Int)))) (s13 : List (List (Bool × (List Int) × (List Int)))) (s14 : Int) (s15 : Int) (k0 : Int → Option α) (k1 : (List (List (Bool × (List Int) × (List Int)))) → Option α) : Option α := rounds (f143_L5U n) m ((s0, s13, s14, s15, ()), ()) (fun w => k0 w.1.1, fun w => k1 w.1.1, ())
theorem f143_L5_0 {α : Type} (n : Nat) (s0 : List (List (Bool × (List Int) × (List Int)))) (s13 : List (List (Bool × (List Int) × (List Int)))) (s14 : Int) (s15 : Int) (k0 : Int → Option α) (k1 : (List (List (Bool × (List Int) × (List Int)))) → Option α) : f143_L5 (α := α) n 0 s0 s13 s14 s15 k0 k1 = none := rfl
theorem f143_L5_s {α : Type} (n m : Nat) (s0 : List (List (Bool × (List Int) × (List Int)))) (s13 : List (List (Bool × (List Int) × (List Int)))) (s14 : Int) (s15 : Int) (k0 : Int → Option α) (k1 : (List (List (Bool × (List Int) × (List Int)))) → Option α) : f143_L5 (α := α) n (m + 1) s0 s13 s14 s15 k0 k1 = f143_L5B n s0 s13 s14 s15 (fun s0 s13 s14 s15 => f143_L5 n m s0 s13 s14 s15 k0 k1) k0 k1 := rfl
def f143_L11B {α : Type} (n : Nat) (s0 : List (List (Bool × (List Int) × (List Int)))) (s23 : List (List (Bool × (List Int) × (List Int)))) (s24 : Int) (s25 : Int) (f : (List (List (Bool × (List Int) × (List Int)))) → (List (List (Bool × (List Int) × (List Int)))) → Int → Int → Option α) (k0 : Int → Option α) (k1 : Unit → Option α) : Option α :=
  bif (decide (s25 < s24)) then
    gd (decide (0 ≤ s25) && decide (s25 < (s23.length : Int))) (
      gd (decide (0 < (s0.length : Int))) (
        bif ((((s23.getD s25.toNat []).length : Nat) : Int) != (((s0.getD 0 []).length : Nat) : Int)) then
          k0 8
        else
          f s0 s23 s24 (W (s25 + 1))))
  else
    k1 ()
abbrev f143_L11H : Tm := ⟨[(0, .d (.sl hRs)), (23, .d (.sl hRs)), (24, .d hI), (25, .d hI)], [], [], []⟩
abbrev f143_L11X0 : Tm := ⟨[(2, .d hI)], [], [], []⟩
abbrev f143_L11X1 : Tm := ⟨[], [], [], []⟩
abbrev f143_L11O : List (Exit × Tm) := [(.ret, f143_L11X0), (.exit 2, f143_L11X1)]
def f143_L11U {α : Type} (n : Nat) (v : f143_L11H.den) (f : f143_L11H.den → Option α) (ks : KS α f143_L11O) : Option α := f143_L11B n v.1.1 v.1.2.1 v.1.2.2.1 v.1.2.2.2.1 (fun s0 s23 s24 s25 => f ((s0, s23, s24, s25, ()), ())) (fun w0 => ks.1 ((w0, ()), ())) (fun _ => ks.2.1 ((), ()))
def f143_L11 {α : Type} (n m : Nat) (s0 : List (List (Bool × (List Int) × (List Int)))) (s23 : List (List (Bool × (List Int) × (List Int)))) (s24 : Int) (s25 : Int) (k0 : Int → Option α) (k1 : Unit → Option α) : Option α := rounds (f143_L11U n) m ((s0, s23, s24, s25, ()), ()) (fun w => k0 w.1.1, fun w => k1 (), ())
theorem f143_L11_0 {α : Type} (n : Nat) (s0 : List (List (Bool × (List Int) × (List Int)))) (s23 : List (List (Bool × (List Int) × (List Int)))) (s24 : Int) (s25 : Int) (k0 : Int → Option α) (k1 : Unit → Option α) : f143_L11 (α := α) n 0 s0 s23 s24 s25 k0 k1 = none := rfl
theorem f143_L11_s {α : Type} (n m : Nat) (s0 : List (List (Bool × (List Int) × (List Int)))) (s23 : List (List (Bool × (List Int) × (List Int)))) (s24 : Int) (s25 : Int) (k0 : Int → Option α) (k1 : Unit → Option α) : f143_L11 (α := α) n (m + 1) s0 s23 s24 s25 k0 k1 = f143_L11B n s0 s23 s24 s25 (fun s0 s23 s24 s25 => f143_L11 n m s0 s23 s24 s25 k0 k1) k0 k1 := rfl
def f143 (n : Nat) (a0 : List (List (Bool × (List Int) × (List Int)))) : Option Int :=
  ob (f67 n a0) fun r_1 =>
  bif (r_1 != 0) then
    some r_1
  else
    f143_L5 n n a0 a0 (a0.length : Int) 0
      (fun z_3 => (
        some z_3))
      (fun z_4 => (
        f143_L11 n n z_4 z_4 (z_4.length : Int) 0
          (fun z_5 => (
            some z_5))
          (fun (_ : Unit) => (
            some 0))))
def f143_E (n : Nat) : Ent := ⟨143, [(.sl hRs)], [hI], fun x => f143 n x⟩
def f143_D (α : Type) (n : Nat) : D3 α := { reg := [(1, ⟨0, [], [(1, { ent := some (f67_E n) })]⟩), (7, ⟨0, [], [(1, { ent := some (f141_E n) })]⟩)], join := [], loop := [(5, ⟨f143_L5H, f143_L5O, rounds (f143_L5U n) n⟩), (11, ⟨f143_L11H, f143_L11O, rounds (f143_L11U n) n⟩)] }
theorem f143_ents (α : Type) (n : Nat) : AllS Try.prog (entsOf (f143_D α n).reg) := ⟨f67_ok n, f141_ok n, trivial⟩
theorem f143_L5_d (α : Type) (n : Nat) : D3.OK Try.prog (tyOf Try.prog) ⟨37, []⟩ (f143_D α n) ((bodyOf Try.f143).at [1, 1, 0, 1, 0, 0]) :=
  D3.OK.mk3 (f143_ents α n) (show loopsOf ((bodyOf Try.f143).at [1, 1, 0, 1, 0, 0]) = [] by kernel_rfl) trivial
theorem f143_L5_ok (α : Type) (n : Nat) : LO.Sound (α := α) Try.prog ⟨37, []⟩ ⟨f143_L5H, f143_L5O, rounds (f143_L5U n) n⟩ (.loop ((bodyOf Try.f143).at [1, 1, 0, 1, 0, 0])) :=
  loop_ok (tyOf_ok _) prog_fol (f143_L5U n) (f143_L5_d α n) (by intro v f ks; kernel_rfl) n
theorem f143_L11_d (α : Type) (n : Nat) : D3.OK Try.prog (tyOf Try.prog) ⟨37, []⟩ (f143_D α n) ((bodyOf Try.f143).at [1, 1, 1, 0, 1, 0, 0]) :=
  D3.OK.mk3 (f143_ents α n) (show loopsOf ((bodyOf Try.f143).at [1, 1, 1, 0, 1, 0, 0]) = [] by kernel_rfl) trivial
theorem f143_L11_ok (α : Type) (n : Nat) : LO.Sound (α := α) Try.prog ⟨37, []⟩ ⟨f143_L11H, f143_L11O, rounds (f143_L11U n) n⟩ (.loop ((bodyOf Try.f143).at [1, 1, 1, 0, 1, 0, 0])) :=
  loop_ok (tyOf_ok _) prog_fol (f143_L11U n) (f143_L11_d α n) (by intro v f ks; kernel_rfl) n
theorem f143_d (α : Type) (n : Nat) : D3.OK Try.prog (tyOf Try.prog) ⟨37, []⟩ (f143_D α n) (bodyOf Try.f143) :=
  D3.OK.mk3 (f143_ents α n) (show loopsOf (bodyOf Try.f143) = [(5, (.loop ((bodyOf Try.f143).at [1, 1, 0, 1, 0, 0]))), (11, (.loop ((bodyOf Try.f143).at [1, 1, 1, 0, 1, 0, 0])))] by kernel_rfl) ⟨look_sound rfl (f143_L5_ok α n), look_sound rfl (f143_L11_ok α n), trivial⟩
theorem f143_ok (n : Nat) : (f143_E n).Sound Try.prog :=
  fn_ok (tyOf_ok _) prog_fol (f143_D _ n) (show Try.prog.funcs[143]? = some Try.f143 by kernel_rfl) (by kernel_rfl) (show Try.f143.body = some (bodyOf Try.f143) by kernel_rfl) rfl rfl (Nat.le_of_ble_eq_true rfl) (f143_d _ n) (by intro x; kernel_rfl) 


def f103 (n : Nat) (a0 : Bool × (List Int) × (List Int)) : Option Int :=
  ob (f80 n a0) fun r_1 =>
  bif r_1 then
    some 0
  else
    bif a0.1 then
      some (-1)
    else
      some 1
def f103_E (n : Nat) : Ent := ⟨103, [hR], [hI], fun x => f103 n x⟩
def f103_D (α : Type) (n : Nat) : D3 α := { reg := [(1, ⟨0, [], [(1, { ent := some (f80_E n) })]⟩)], join := [], loop := [] }
theorem f103_ents (α : Type) (n : Nat) : AllS Try.prog (entsOf (f103_D α n).reg) := ⟨f80_ok n, trivial⟩
theorem f103_d (α : Type) (n : Nat) : D3.OK Try.prog (tyOf Try.prog) ⟨9, []⟩ (f103_D α n) (bodyOf Try.f103) :=
  D3.OK.mk3 (f103_ents α n) (show loopsOf (bodyOf Try.f103) = [] by kernel_rfl) trivial
theorem f103_ok (n : Nat) : (f103_E n).Sound Try.prog :=
  fn_ok (tyOf_ok _) prog_fol (f103_D _ n) (show Try.prog.funcs[103]? = some Try.f103 by kernel_rfl) (by kernel_rfl) (show Try.f103.body = some (bodyOf Try.f103) by kernel_rfl) rfl rfl (Nat.le_of_ble_eq_true rfl) (f103_d _ n) (by intro x; kernel_rfl) 


def f95_L7B {α : Type} (n : Nat) (s1 : List Int) (s6 : Int) (s7 : Int) (s8 : Int) (s9 : Int) (s16 : List Int) (s17 : Int) (s18 : Int) (b15 : List Int) (f : (List Int) → Int → Int → Int → Int → (List Int) → Int → Int → (List Int) → Option α) (k0 : (List Int) → (List Int) → Int → Int → (List Int) → Option α) : Option α :=
  let J_3 := fun (_ : Unit) => (
    let J_2 := fun (y_1 : Int) => (
      gd (decide (0 ≤ (W (s6 + s9))) && decide ((W (s6 + s9)) < (b15.length : Int))) (
        gd (decide ((W (s6 + s9)).toNat < b15.length)) (
          gd (decide (0 ≤ (W (s6 + s9))) && decide ((W (s6 + s9)) < (b15.length : Int))) (
            gd (decide ((W (s6 + s9)).toNat < b15.length)) (
              f s1 s6 s7 (W (Int.tdiv (W (y_1 + (b15.getD ((W (s6 + s9)).toNat) 0))) 10000)) (W (s9 + 1)) s16 s17 s18 (b15.set ((W (s6 + s9)).toNat) (Int.tmod (W (y_1 + (b15.getD ((W (s6 + s9)).toNat) 0))) 10000)))))))
    bif (decide (s9 < (s1.length : Int))) then
      gd (decide (0 ≤ s9) && decide (s9 < (s1.length : Int))) (
        J_2 (W (s8 + (W (s7 * (s1.getD s9.toNat 0))))))
    else
      J_2 s8)
  bif (decide (s9 < (s1.length : Int))) then
    J_3 ()
  else
    bif (decide (s8 > 0)) then
      J_3 ()
    else
      k0 s1 s16 s17 s18 b15
abbrev f95_L7H : Tm := ⟨[(1, .d hIs), (5, .k (.hw 15)), (6, .d hI), (7, .d hI), (8, .d hI), (9, .d hI), (16, .d hIs), (17, .d hI), (18, .d hI)], [(15, .arr 3 hI false)], [], []⟩
abbrev f95_L7X0 : Tm := ⟨[(1, .d hIs), (5, .k (.hw 15)), (16, .d hIs), (17, .d hI), (18, .d hI)], [(15, .arr 3 hI false)], [], []⟩
abbrev f95_L7O : List (Exit × Tm) := [(.exit 2, f95_L7X0)]
def f95_L7U {α : Type} (n : Nat) (v : f95_L7H.den) (f : f95_L7H.den → Option α) (ks : KS α f95_L7O) : Option α := f95_L7B n v.1.1 v.1.2.2.1 v.1.2.2.2.1 v.1.2.2.2.2.1 v.1.2.2.2.2.2.1 v.1.2.2.2.2.2.2.1 v.1.2.2.2.2.2.2.2.1 v.1.2.2.2.2.2.2.2.2.1 v.2.1 (fun s1 s6 s7 s8 s9 s16 s17 s18 b15 => f ((s1, (), s6, s7, s8, s9, s16, s17, s18, ()), (b15, ()))) (fun w0 w1 w2 w3 w4 => ks.1 ((w0, (), w1, w2, w3, ()), (w4, ())))
def f95_L7 {α : Type} (n m : Nat) (s1 : List Int) (s6 : Int) (s7 : Int) (s8 : Int) (s9 : Int) (s16 : List Int) (s17 : Int) (s18 : Int) (b15 : List Int) (k0 : (List Int) → (List Int) → Int → Int → (List Int) → Option α) : Option α := rounds (f95_L7U n) m ((s1, (), s6, s7, s8, s9, s16, s17, s18, ()), (b15, ())) (fun w => k0 w.1.1 w.1.2.2.1 w.1.2.2.2.1 w.1.2.2.2.2.1 w.2.1, ())
theorem f95_L7_0 {α : Type} (n : Nat) (s1 : List Int) (s6 : Int) (s7 : Int) (s8 : Int) (s9 : Int) (s16 : List Int) (s17 : Int) (s18 : Int) (b15 : List Int) (k0 : (List Int) → (List Int) → Int → Int → (List Int) → Option α) : f95_L7 (α := α) n 0 s1 s6 s7 s8 s9 s16 s17 s18 b15 k0 = none := rfl
theorem f95_L7_s {α : Type} (n m : Nat) (s1 : List Int) (s6 : Int) (s7 : Int) (s8 : Int) (s9 : Int) (s16 : List Int) (s17 : Int) (s18 : Int) (b15 : List Int) (k0 : (List Int) → (List Int) → Int → Int → (List Int) → Option α) : f95_L7 (α := α) n (m + 1) s1 s6 s7 s8 s9 s16 s17 s18 b15 k0 = f95_L7B n s1 s6 s7 s8 s9 s16 s17 s18 b15 (fun s1 s6 s7 s8 s9 s16 s17 s18 b15 => f95_L7 n m s1 s6 s7 s8 s9 s16 s17 s18 b15 k0) k0 := rfl
def f95_L3B {α : Type} (n : Nat) (s1 : List Int) (s16 : List Int) (s17 : Int) (s18 : Int) (b15 : List Int) (f : (List Int) → (List Int) → Int → Int → (List Int) → Option α) (k0 : (List Int) → Option α) : Option α :=
  bif (decide (s18 < s17)) then
    gd (decide (0 ≤ s18) && decide (s18 < (s16.length : Int))) (
      f95_L7 n n s1 s18 (s16.getD s18.toNat 0) 0 0 s16 s17 s18 b15
        (fun z_1 z_2 z_3 z_4 z_5 => (
          f z_1 z_2 z_3 (W (z_4 + 1)) z_5)))
  else
    k0 b15
abbrev f95_L3H : Tm := ⟨[(1, .d hIs), (5, .k (.hw 15)), (16, .d hIs), (17, .d hI), (18, .d hI)], [(15, .arr 3 hI false)], [], []⟩
abbrev f95_L3X0 : Tm := ⟨[(5, .k (.hw 15))], [(15, .arr 3 hI false)], [], []⟩
abbrev f95_L3O : List (Exit × Tm) := [(.exit 0, f95_L3X0)]
def f95_L3U {α : Type} (n : Nat) (v : f95_L3H.den) (f : f95_L3H.den → Option α) (ks : KS α f95_L3O) : Option α := f95_L3B n v.1.1 v.1.2.2.1 v.1.2.2.2.1 v.1.2.2.2.2.1 v.2.1 (fun s1 s16 s17 s18 b15 => f ((s1, (), s16, s17, s18, ()), (b15, ()))) (fun w0 => ks.1 (((), ()), (w0, ())))
def f95_L3 {α : Type} (n m : Nat) (s1 : List Int) (s16 : List Int) (s17 : Int) (s18 : Int) (b15 : List Int) (k0 : (List Int) → Option α) : Option α := rounds (f95_L3U n) m ((s1, (), s16, s17, s18, ()), (b15, ())) (fun w => k0 w.2.1, ())
theorem f95_L3_0 {α : Type} (n : Nat) (s1 : List Int) (s16 : List Int) (s17 : Int) (s18 : Int) (b15 : List Int) (k0 : (List Int) → Option α) : f95_L3 (α := α) n 0 s1 s16 s17 s18 b15 k0 = none := rfl
theorem f95_L3_s {α : Type} (n m : Nat) (s1 : List Int) (s16 : List Int) (s17 : Int) (s18 : Int) (b15 : List Int) (k0 : (List Int) → Option α) : f95_L3 (α := α) n (m + 1) s1 s16 s17 s18 b15 k0 = f95_L3B n s1 s16 s17 s18 b15 (fun s1 s16 s17 s18 b15 => f95_L3 n m s1 s16 s17 s18 b15 k0) k0 := rfl
abbrev f95_J9 : Tm := ⟨[(1, .d hIs), (5, .k (.hw 15)), (6, .d hI), (7, .d hI), (8, .d hI), (9, .d hI), (16, .d hIs), (17, .d hI), (18, .d hI)], [(15, .arr 3 hI false)], [], []⟩
abbrev f95_J11 : Tm := ⟨[(1, .d hIs), (5, .k (.hw 15)), (6, .d hI), (7, .d hI), (8, .d hI), (9, .d hI), (16, .d hIs), (17, .d hI), (18, .d hI)], [(15, .arr 3 hI false)], [], []⟩
def f95 (n : Nat) (a0 : List Int) (a1 : List Int) : Option (List Int) :=
  gd (decide (0 ≤ (W ((a0.length : Int) + (a1.length : Int)))) && decide ((W ((a0.length : Int) + (a1.length : Int))) ≤ 4611686018427387904) && decide ((8 : Int) * (W ((a0.length : Int) + (a1.length : Int))) ≤ 281474976710656)) (
    f95_L3 n n a1 a0 (a0.length : Int) 0 (List.replicate ((W ((a0.length : Int) + (a1.length : Int))).toNat) 0)
      (fun z_6 => (
        ob (f130 n z_6) fun r_7 =>
        some r_7)))
def f95_E (n : Nat) : Ent := ⟨95, [hIs, hIs], [hIs], fun x => f95 n x.1 x.2⟩
def f95_D (α : Type) (n : Nat) : D3 α := { reg := [(14, ⟨0, [], [(1, { ent := some (f130_E n), fz := [(63, hIs)] })]⟩)], join := [(9, f95_J9), (11, f95_J11)], loop := [(7, ⟨f95_L7H, f95_L7O, rounds (f95_L7U n) n⟩), (3, ⟨f95_L3H, f95_L3O, rounds (f95_L3U n) n⟩)] }
theorem f95_ents (α : Type) (n : Nat) : AllS Try.prog (entsOf (f95_D α n).reg) := ⟨f130_ok n, trivial⟩
theorem f95_L7_d (α : Type) (n : Nat) : D3.OK Try.prog (tyOf Try.prog) ⟨65, []⟩ (f95_D α n) ((bodyOf Try.f95).at [1, 1, 0, 1, 0, 0, 1, 1, 0, 0, 1, 1, 1, 0, 0]) :=
  D3.OK.mk3 (f95_ents α n) (show loopsOf ((bodyOf Try.f95).at [1, 1, 0, 1, 0, 0, 1, 1, 0, 0, 1, 1, 1, 0, 0]) = [] by kernel_rfl) trivial
theorem f95_L7_ok (α : Type) (n : Nat) : LO.Sound (α := α) Try.prog ⟨65, []⟩ ⟨f95_L7H, f95_L7O, rounds (f95_L7U n) n⟩ (.loop ((bodyOf Try.f95).at [1, 1, 0, 1, 0, 0, 1, 1, 0, 0, 1, 1, 1, 0, 0])) :=
  loop_ok (tyOf_ok _) prog_fol (f95_L7U n) (f95_L7_d α n) (by intro v f ks; kernel_rfl) n
theorem f95_L3_d (α : Type) (n : Nat) : D3.OK Try.prog (tyOf Try.prog) ⟨65, []⟩ (f95_D α n) ((bodyOf Try.f95).at [1, 1, 0, 1, 0, 0]) :=
  D3.OK.mk3 (f95_ents α n) (show loopsOf ((bodyOf Try.f95).at [1, 1, 0, 1, 0, 0]) = [(7, (.loop ((bodyOf Try.f95).at [1, 1, 0, 1, 0, 0, 1, 1, 0, 0, 1, 1, 1, 0, 0])))] by kernel_rfl) ⟨look_sound rfl (f95_L7_ok α n), trivial⟩
theorem f95_L3_ok (α : Type) (n : Nat) : LO.Sound (α := α) Try.prog ⟨65, []⟩ ⟨f95_L3H, f95_L3O, rounds (f95_L3U n) n⟩ (.loop ((bodyOf Try.f95).at [1, 1, 0, 1, 0, 0])) :=
  loop_ok (tyOf_ok _) prog_fol (f95_L3U n) (f95_L3_d α n) (by intro v f ks; kernel_rfl) n
theorem f95_d (α : Type) (n : Nat) : D3.OK Try.prog (tyOf Try.prog) ⟨65, []⟩ (f95_D α n) (bodyOf Try.f95) :=
  D3.OK.mk3 (f95_ents α n) (show loopsOf (bodyOf Try.f95) = [(3, (.loop ((bodyOf Try.f95).at [1, 1, 0, 1, 0, 0])))] by kernel_rfl) ⟨look_sound rfl (f95_L3_ok α n), trivial⟩
theorem f95_ok (n : Nat) : (f95_E n).Sound Try.prog :=
  fn_ok (tyOf_ok _) prog_fol (f95_D _ n) (show Try.prog.funcs[95]? = some Try.f95 by kernel_rfl) (by kernel_rfl) (show Try.f95.body = some (bodyOf Try.f95) by kernel_rfl) rfl rfl (Nat.le_of_ble_eq_true rfl) (f95_d _ n) (by intro x; kernel_rfl) 


def f134 (n : Nat) (a0 : Bool × (List Int) × (List Int)) (a1 : Bool × (List Int) × (List Int)) : Option Int :=
  ob (f103 n a0) fun r_1 =>
  ob (f103 n a1) fun r_2 =>
  bif (r_1 != r_2) then
    ob (f103 n a0) fun r_3 =>
    ob (f103 n a1) fun r_4 =>
    some (W (r_3 - r_4))
  else
    ob (f95 n a0.2.1 a1.2.2) fun r_5 =>
    ob (f95 n a1.2.1 a0.2.2) fun r_6 =>
    ob (f119 n r_5 r_6) fun r_7 =>
    bif a0.1 then
      some (W (0 - r_7))
    else
      some r_7
def f134_E (n : Nat) : Ent := ⟨134, [hR, hR], [hI], fun x => f134 n x.1 x.2⟩
def f134_D (α : Type) (n : Nat) : D3 α := { reg := [(1, ⟨3, [], [(1, { ent := some (f103_E n) }), (3, { ent := some (f103_E n) })]⟩), (2, ⟨3, [], [(1, { ent := some (f103_E n) }), (3, { ent := some (f103_E n) })]⟩), (3, ⟨9, [], [(4, { ent := some (f95_E n) }), (9, { ent := some (f95_E n) }), (10, { ent := some (f119_E n) })]⟩)], join := [], loop := [] }
theorem f134_ents (α : Type) (n : Nat) : AllS Try.prog (entsOf (f134_D α n).reg) := ⟨f103_ok n, f103_ok n, f103_ok n, f103_ok n, f95_ok n, f95_ok n, f119_ok n, trivial⟩
theorem f134_d (α : Type) (n : Nat) : D3.OK Try.prog (tyOf Try.prog) ⟨32, []⟩ (f134_D α n) (bodyOf Try.f134) :=
  D3.OK.mk3 (f134_ents α n) (show loopsOf (bodyOf Try.f134) = [] by kernel_rfl) trivial
theorem f134_ok (n : Nat) : (f134_E n).Sound Try.prog :=
  fn_ok (tyOf_ok _) prog_fol (f134_D _ n) (show Try.prog.funcs[134]? = some Try.f134 by kernel_rfl) (by kernel_rfl) (show Try.f134.body = some (bodyOf Try.f134) by kernel_rfl) rfl rfl (Nat.le_of_ble_eq_true rfl) (f134_d _ n) (by intro x; kernel_rfl) 


def f144_L2B {α : Type} (n : Nat) (s1 : List (Bool × (List Int) × (List Int))) (s7 : List (Bool × (List Int) × (List Int))) (s8 : Int) (s9 : Int) (f : (List (Bool × (List Int) × (List Int))) → (List (Bool × (List Int) × (List Int))) → Int → Int → Option α) (k0 : Bool → Option α) (k1 : Unit → Option α) : Option α :=
  bif (decide (s9 < s8)) then
    gd (decide (0 ≤ s9) && decide (s9 < (s7.length : Int))) (
      let x_1 := s7.getD s9.toNat (false, [], [])
      gd (decide (0 ≤ s9) && decide (s9 < (s1.length : Int))) (
        let x_2 := s1.getD s9.toNat (false, [], [])
        ob (f134 n x_1 x_2) fun r_3 =>
        bif (decide (r_3 > 0)) then
          k0 false
        else
          f s1 s7 s8 (W (s9 + 1))))
  else
    k1 ()
abbrev f144_L2H : Tm := ⟨[(1, .d hRs), (7, .d hRs), (8, .d hI), (9, .d hI)], [], [6], []⟩
abbrev f144_L2X0 : Tm := ⟨[(4, .d .bool)], [], [6], []⟩
abbrev f144_L2X1 : Tm := ⟨[], [], [], []⟩
abbrev f144_L2O : List (Exit × Tm) := [(.ret, f144_L2X0), (.exit 0, f144_L2X1)]
def f144_L2U {α : Type} (n : Nat) (v : f144_L2H.den) (f : f144_L2H.den → Option α) (ks : KS α f144_L2O) : Option α := f144_L2B n v.1.1 v.1.2.1 v.1.2.2.1 v.1.2.2.2.1 (fun s1 s7 s8 s9 => f ((s1, s7, s8, s9, ()), ())) (fun w0 => ks.1 ((w0, ()), ())) (fun _ => ks.2.1 ((), ()))
def f144_L2 {α : Type} (n m : Nat) (s1 : List (Bool × (List Int) × (List Int))) (s7 : List (Bool × (List Int) × (List Int))) (s8 : Int) (s9 : Int) (k0 : Bool → Option α) (k1 : Unit → Option α) : Option α := rounds (f144_L2U n) m ((s1, s7, s8, s9, ()), ()) (fun w => k0 w.1.1, fun w => k1 (), ())
theorem f144_L2_0 {α : Type} (n : Nat) (s1 : List (Bool × (List Int) × (List Int))) (s7 : List (Bool × (List Int) × (List Int))) (s8 : Int) (s9 : Int) (k0 : Bool → Option α) (k1 : Unit → Option α) : f144_L2 (α := α) n 0 s1 s7 s8 s9 k0 k1 = none := rfl
theorem f144_L2_s {α : Type} (n m : Nat) (s1 : List (Bool × (List Int) × (List Int))) (s7 : List (Bool × (List Int) × (List Int))) (s8 : Int) (s9 : Int) (k0 : Bool → Option α) (k1 : Unit → Option α) : f144_L2 (α := α) n (m + 1) s1 s7 s8 s9 k0 k1 = f144_L2B n s1 s7 s8 s9 (fun s1 s7 s8 s9 => f144_L2 n m s1 s7 s8 s9 k0 k1) k0 k1 := rfl
def f144 (n : Nat) (a0 : List (Bool × (List Int) × (List Int))) (a1 : List (Bool × (List Int) × (List Int))) : Option Bool :=
  f144_L2 n n a1 a0 (a0.length : Int) 0
    (fun z_4 => (
      some z_4))
    (fun (_ : Unit) => (
      some true))
def f144_E (n : Nat) : Ent := ⟨144, [hRs, hRs], [.bool], fun x => f144 n x.1 x.2⟩
def f144_D (α : Type) (n : Nat) : D3 α := { reg := [(4, ⟨5, [], [(5, { ent := some (f134_E n) })]⟩)], join := [], loop := [(2, ⟨f144_L2H, f144_L2O, rounds (f144_L2U n) n⟩)] }
theorem f144_ents (α : Type) (n : Nat) : AllS Try.prog (entsOf (f144_D α n).reg) := ⟨f134_ok n, trivial⟩
theorem f144_L2_d (α : Type) (n : Nat) : D3.OK Try.prog (tyOf Try.prog) ⟨22, []⟩ (f144_D α n) ((bodyOf Try.f144).at [1, 0, 1, 0, 0]) :=
  D3.OK.mk3 (f144_ents α n) (show loopsOf ((bodyOf Try.f144).at [1, 0, 1, 0, 0]) = [] by kernel_rfl) trivial
theorem f144_L2_ok (α : Type) (n : Nat) : LO.Sound (α := α) Try.prog ⟨22, []⟩ ⟨f144_L2H, f144_L2O, rounds (f144_L2U n) n⟩ (.loop ((bodyOf Try.f144).at [1, 0, 1, 0, 0])) :=
  loop_ok (tyOf_ok _) prog_fol (f144_L2U n) (f144_L2_d α n) (by intro v f ks; kernel_rfl) n
theorem f144_d (α : Type) (n : Nat) : D3.OK Try.prog (tyOf Try.prog) ⟨22, []⟩ (f144_D α n) (bodyOf Try.f144) :=
  D3.OK.mk3 (f144_ents α n) (show loopsOf (bodyOf Try.f144) = [(2, (.loop ((bodyOf Try.f144).at [1, 0, 1, 0, 0])))] by kernel_rfl) ⟨look_sound rfl (f144_L2_ok α n), trivial⟩
theorem f144_ok (n : Nat) : (f144_E n).Sound Try.prog :=
  fn_ok (tyOf_ok _) prog_fol (f144_D _ n) (show Try.prog.funcs[144]? = some Try.f144 by kernel_rfl) (by kernel_rfl) (show Try.f144.body = some (bodyOf Try.f144) by kernel_rfl) rfl rfl (Nat.le_of_ble_eq_true rfl) (f144_d _ n) (by intro x; kernel_rfl) 


abbrev f109_J7 : Tm := ⟨[(1, .k (.hp 1 0 0))], [(1, .var 59 true false [.d hNs, .d hRs, .d hRs, .d hRs, .d hI, .d .bool, .d hIs, .d hIs, .d hI, .d hI])], [], []⟩
def f109 (n : Nat) (a0 : (List (Int × Int × Int × Int)) × (List (Bool × (List Int) × (List Int))) × (List (Bool × (List Int) × (List Int))) × (List (Bool × (List Int) × (List Int))) × Int × (Bool × (List Int) × (List Int)) × Int × Int) : Option Bool :=
  ob (f140 n a0.1) fun r_1 =>
  bif (!r_1) then
    some false
  else
    ob (f141 n a0.2.1) fun r_2 =>
    bif (!r_2) then
      some false
    else
      ob (f142 n a0.1) fun r_3 =>
      bif (decide ((a0.2.1.length : Int) < r_3)) then
        some false
      else
        ob (f48 n a0.2.2.2.2.1 1 4) fun r_4 =>
        bif (!r_4) then
          some false
        else
          ob (f97 n a0.2.2.2.2.2.1) fun r_5 =>
          bif (!r_5) then
            some false
          else
            bif a0.2.2.2.2.2.1.1 then
              some false
            else
              ob (f48 n a0.2.2.2.2.2.2.1 0 6) fun r_6 =>
              bif (!r_6) then
                some false
              else
                ob (f48 n a0.2.2.2.2.2.2.2 0 30) fun r_7 =>
                bif (!r_7) then
                  some false
                else
                  let J_11 := fun (_ : Unit) => (
                    ob (f143 n [a0.2.1, a0.2.2.1, a0.2.2.2.1]) fun r_8 =>
                    bif (r_8 == 0) then
                      ob (f144 n a0.2.2.1 a0.2.1) fun r_9 =>
                      bif r_9 then
                        ob (f144 n a0.2.1 a0.2.2.2.1) fun r_10 =>
                        some r_10
                      else
                        some false
                    else
                      some false)
                  bif ((a0.2.2.1.length : Int) == 0) then
                    bif ((a0.2.2.2.1.length : Int) == 0) then
                      some true
                    else
                      J_11 ()
                  else
                    J_11 ()
def f109_E (n : Nat) : Ent := ⟨109, [(.st (.pair hE (.pair hRs (.pair hRs (.pair hRs (.pair hI (.pair hR (.pair hI hI))))))))], [.bool], fun x => f109 n x⟩
def f109_D (α : Type) (n : Nat) : D3 α := { reg := [(1, ⟨18, [], [(2, { ent := some (f140_E n) }), (7, { ent := some (f141_E n) }), (17, { ent := some (f142_E n) }), (23, { ent := some (f48_E n) })]⟩), (3, ⟨0, [], [(2, { ent := some (f97_E n) }), (12, { ent := some (f48_E n) }), (18, { ent := some (f48_E n) })]⟩), (7, ⟨0, [], [(6, { sh := some hRs }), (7, { ent := some (f143_E n) }), (14, { ent := some (f144_E n) }), (21, { ent := some (f144_E n) })]⟩)], join := [(7, f109_J7)], loop := [] }
theorem f109_ents (α : Type) (n : Nat) : AllS Try.prog (entsOf (f109_D α n).reg) := ⟨f140_ok n, f141_ok n, f142_ok n, f48_ok n, f97_ok n, f48_ok n, f48_ok n, f143_ok n, f144_ok n, f144_ok n, trivial⟩
theorem f109_d (α : Type) (n : Nat) : D3.OK Try.prog (tyOf Try.prog) ⟨83, []⟩ (f109_D α n) (bodyOf Try.f109) :=
  D3.OK.mk3 (f109_ents α n) (show loopsOf (bodyOf Try.f109) = [] by kernel_rfl) trivial
theorem f109_ok (n : Nat) : (f109_E n).Sound Try.prog :=
  fn_ok (tyOf_ok _) prog_fol (f109_D _ n) (show Try.prog.funcs[109]? = some Try.f109 by kernel_rfl) (by kernel_rfl) (show Try.f109.body = some (bodyOf Try.f109) by kernel_rfl) rfl rfl (Nat.le_of_ble_eq_true rfl) (f109_d _ n) (by intro x; kernel_rfl) 


def f61 (n : Nat) (a0 : (List (Int × Int × Int × Int)) × (List (Bool × (List Int) × (List Int))) × (List (Bool × (List Int) × (List Int))) × (List (Bool × (List Int) × (List Int))) × Int × (Bool × (List Int) × (List Int)) × Int × Int) : Option Int :=
  ob (f109 n a0) fun r_1 =>
  ob (f68 n r_1 1) fun r_2 =>
  some r_2
def f61_E (n : Nat) : Ent := ⟨61, [(.st (.pair hE (.pair hRs (.pair hRs (.pair hRs (.pair hI (.pair hR (.pair hI hI))))))))], [hI], fun x => f61 n x⟩
def f61_D (α : Type) (n : Nat) : D3 α := { reg := [(1, ⟨0, [], [(1, { ent := some (f109_E n) }), (2, { ent := some (f68_E n) })]⟩)], join := [], loop := [] }
theorem f61_ents (α : Type) (n : Nat) : AllS Try.prog (entsOf (f61_D α n).reg) := ⟨f109_ok n, f68_ok n, trivial⟩
theorem f61_d (α : Type) (n : Nat) : D3.OK Try.prog (tyOf Try.prog) ⟨6, []⟩ (f61_D α n) (bodyOf Try.f61) :=
  D3.OK.mk3 (f61_ents α n) (show loopsOf (bodyOf Try.f61) = [] by kernel_rfl) trivial
theorem f61_ok (n : Nat) : (f61_E n).Sound Try.prog :=
  fn_ok (tyOf_ok _) prog_fol (f61_D _ n) (show Try.prog.funcs[61]? = some Try.f61 by kernel_rfl) (by kernel_rfl) (show Try.f61.body = some (bodyOf Try.f61) by kernel_rfl) rfl rfl (Nat.le_of_ble_eq_true rfl) (f61_d _ n) (by intro x; kernel_rfl) 


def f62 (n : Nat) (a0 : (List (Int × Int × Int × Int)) × (List (Bool × (List Int) × (List Int))) × (List (Bool × (List Int) × (List Int))) × (List (Bool × (List Int) × (List Int))) × Int × (Bool × (List Int) × (List Int)) × Int × Int) : Option Bool :=
  some (decide ((a0.2.2.1.length : Int) > 0))
def f62_E (n : Nat) : Ent := ⟨62, [(.st (.pair hE (.pair hRs (.pair hRs (.pair hRs (.pair hI (.pair hR (.pair hI hI))))))))], [.bool], fun x => f62 n x⟩
def f62_D (α : Type) (n : Nat) : D3 α := { reg := [], join := [], loop := [] }
theorem f62_ents (α : Type) (n : Nat) : AllS Try.prog (entsOf (f62_D α n).reg) := trivial
theorem f62_d (α : Type) (n : Nat) : D3.OK Try.prog (tyOf Try.prog) ⟨7, []⟩ (f62_D α n) (bodyOf Try.f62) :=
  D3.OK.mk3 (f62_ents α n) (show loopsOf (bodyOf Try.f62) = [] by kernel_rfl) trivial
theorem f62_ok (n : Nat) : (f62_E n).Sound Try.prog :=
  fn_ok (tyOf_ok _) prog_fol (f62_D _ n) (show Try.prog.funcs[62]? = some Try.f62 by kernel_rfl) (by kernel_rfl) (show Try.f62.body = some (bodyOf Try.f62) by kernel_rfl) rfl rfl (Nat.le_of_ble_eq_true rfl) (f62_d _ n) (by intro x; kernel_rfl) 


def f28 (n : Nat) (a0 : (List (Int × Int × Int × Int)) × (List (Bool × (List Int) × (List Int))) × (List (Bool × (List Int) × (List Int))) × (List (Bool × (List Int) × (List Int))) × Int × (Bool × (List Int) × (List Int)) × Int × Int) : Option (Bool × Int) :=
  ob (f61 n a0) fun r_1 =>
  bif (r_1 != 0) then
    some (false, r_1)
  else
    ob (f62 n a0) fun r_2 =>
    some (r_2, 0)
def f28_E (n : Nat) : Ent := ⟨28, [(.st (.pair hE (.pair hRs (.pair hRs (.pair hRs (.pair hI (.pair hR (.pair hI hI))))))))], [.bool, hI], fun x => f28 n x⟩
def f28_D (α : Type) (n : Nat) : D3 α := { reg := [(1, ⟨0, [], [(1, { ent := some (f61_E n) })]⟩), (4, ⟨0, [], [(1, { ent := some (f62_E n) })]⟩)], join := [], loop := [] }
theorem f28_ents (α : Type) (n : Nat) : AllS Try.prog (entsOf (f28_D α n).reg) := ⟨f61_ok n, f62_ok n, trivial⟩
theorem f28_d (α : Type) (n : Nat) : D3.OK Try.prog (tyOf Try.prog) ⟨12, []⟩ (f28_D α n) (bodyOf Try.f28) :=
  D3.OK.mk3 (f28_ents α n) (show loopsOf (bodyOf Try.f28) = [] by kernel_rfl) trivial
theorem f28_ok (n : Nat) : (f28_E n).Sound Try.prog :=
  fn_ok (tyOf_ok _) prog_fol (f28_D _ n) (show Try.prog.funcs[28]? = some Try.f28 by kernel_rfl) (by kernel_rfl) (show Try.f28.body = some (bodyOf Try.f28) by kernel_rfl) rfl rfl (Nat.le_of_ble_eq_true rfl) (f28_d _ n) (by intro x; kernel_rfl) 


def f145 (n : Nat) (a0 : Int × Int × Int × Int) (a1 : Int × Int × Int × Int) : Option Bool :=
  bif (a0.1 != a1.1) then
    some false
  else
    bif (a0.2.1 != a1.2.1) then
      some false
    else
      bif (a0.2.2.1 != a1.2.2.1) then
        some false
      else
        bif (a0.2.2.2 != a1.2.2.2) then
          some false
        else
          some true
def f145_E (n : Nat) : Ent := ⟨145, [hN, hN], [.bool], fun x => f145 n x.1 x.2⟩
def f145_D (α : Type) (n : Nat) : D3 α := { reg := [], join := [], loop := [] }
theorem f145_ents (α : Type) (n : Nat) : AllS Try.prog (entsOf (f145_D α n).reg) := trivial
theorem f145_d (α : Type) (n : Nat) : D3.OK Try.prog (tyOf Try.prog) ⟨25, []⟩ (f145_D α n) (bodyOf Try.f145) :=
  D3.OK.mk3 (f145_ents α n) (show loopsOf (bodyOf Try.f145) = [] by kernel_rfl) trivial
theorem f145_ok (n : Nat) : (f145_E n).Sound Try.prog :=
  fn_ok (tyOf_ok _) prog_fol (f145_D _ n) (show Try.prog.funcs[145]? = some Try.f145 by kernel_rfl) (by kernel_rfl) (show Try.f145.body = some (bodyOf Try.f145) by kernel_rfl) rfl rfl (Nat.le_of_ble_eq_true rfl) (f145_d _ n) (by intro x; kernel_rfl) 


def f110_L4B {α : Type} (n : Nat) (s0 : List (Int × Int × Int × Int)) (s1 : List (Int × Int × Int × Int)) (s5 : Int) (f : (List (Int × Int × Int × Int)) → (List (Int × Int × Int × Int)) → Int → Option α) (k0 : Bool → Option α) (k1 : Unit → Option α) : Option α :=
  bif (decide (s5 < (s0.length : Int))) then
    gd (decide (0 ≤ s5) && decide (s5 < (s0.length : Int))) (
      let x_1 := s0.getD s5.toNat (0, 0, 0, 0)
      gd (decide (0 ≤ s5) && decide (s5 < (s1.length : Int))) (
        let x_2 := s1.getD s5.toNat (0, 0, 0, 0)
        ob (f145 n x_1 x_2) fun r_3 =>
        bif (!r_3) then
          k0 false
        else
          f s0 s1 (W (s5 + 1))))
  else
    k1 ()
abbrev f110_L4H : Tm := ⟨[(0, .d hNs), (1, .d hNs), (5, .d hI)], [], [], []⟩
abbrev f110_L4X0 : Tm := ⟨[(4, .d .bool)], [], [], []⟩
abbrev f110_L4X1 : Tm := ⟨[], [], [], []⟩
abbrev f110_L4O : List (Exit × Tm) := [(.ret, f110_L4X0), (.exit 0, f110_L4X1)]
def f110_L4U {α : Type} (n : Nat) (v : f110_L4H.den) (f : f110_L4H.den → Option α) (ks : KS α f110_L4O) : Option α := f110_L4B n v.1.1 v.1.2.1 v.1.2.2.1 (fun s0 s1 s5 => f ((s0, s1, s5, ()), ())) (fun w0 => ks.1 ((w0, ()), ())) (fun _ => ks.2.1 ((), ()))
def f110_L4 {α : Type} (n m : Nat) (s0 : List (Int × Int × Int × Int)) (s1 : List (Int × Int × Int × Int)) (s5 : Int) (k0 : Bool → Option α) (k1 : Unit → Option α) : Option α := rounds (f110_L4U n) m ((s0, s1, s5, ()), ()) (fun w => k0 w.1.1, fun w => k1 (), ())
theorem f110_L4_0 {α : Type} (n : Nat) (s0 : List (Int × Int × Int × Int)) (s1 : List (Int × Int × Int × Int)) (s5 : Int) (k0 : Bool → Option α) (k1 : Unit → Option α) : f110_L4 (α := α) n 0 s0 s1 s5 k0 k1 = none := rfl
theorem f110_L4_s {α : Type} (n m : Nat) (s0 : List (Int × Int × Int × Int)) (s1 : List (Int × Int × Int × Int)) (s5 : Int) (k0 : Bool → Option α) (k1 : Unit → Option α) : f110_L4 (α := α) n (m + 1) s0 s1 s5 k0 k1 = f110_L4B n s0 s1 s5 (fun s0 s1 s5 => f110_L4 n m s0 s1 s5 k0 k1) k0 k1 := rfl
def f110 (n : Nat) (a0 : List (Int × Int × Int × Int)) (a1 : List (Int × Int × Int × Int)) : Option Bool :=
  bif ((a0.length : Int) != (a1.length : Int)) then
    some false
  else
    f110_L4 n n a0 a1 0
      (fun z_4 => (
        some z_4))
      (fun (_ : Unit) => (
        some true))
def f110_E (n : Nat) : Ent := ⟨110, [hNs, hNs], [.bool], fun x => f110 n x.1 x.2⟩
def f110_D (α : Type) (n : Nat) : D3 α := { reg := [(6, ⟨8, [], [(8, { ent := some (f145_E n) })]⟩)], join := [], loop := [(4, ⟨f110_L4H, f110_L4O, rounds (f110_L4U n) n⟩)] }
theorem f110_ents (α : Type) (n : Nat) : AllS Try.prog (entsOf (f110_D α n).reg) := ⟨f145_ok n, trivial⟩
theorem f110_L4_d (α : Type) (n : Nat) : D3.OK Try.prog (tyOf Try.prog) ⟨27, []⟩ (f110_D α n) ((bodyOf Try.f110).at [1, 1, 0, 1, 0, 0]) :=
  D3.OK.mk3 (f110_ents α n) (show loopsOf ((bodyOf Try.f110).at [1, 1, 0, 1, 0, 0]) = [] by kernel_rfl) trivial
theorem f110_L4_ok (α : Type) (n : Nat) : LO.Sound (α := α) Try.prog ⟨27, []⟩ ⟨f110_L4H, f110_L4O, rounds (f110_L4U n) n⟩ (.loop ((bodyOf Try.f110).at [1, 1, 0, 1, 0, 0])) :=
  loop_ok (tyOf_ok _) prog_fol (f110_L4U n) (f110_L4_d α n) (by intro v f ks; kernel_rfl) n
theorem f110_d (α : Type) (n : Nat) : D3.OK Try.prog (tyOf Try.prog) ⟨27, []⟩ (f110_D α n) (bodyOf Try.f110) :=
  D3.OK.mk3 (f110_ents α n) (show loopsOf (bodyOf Try.f110) = [(4, (.loop ((bodyOf Try.f110).at [1, 1, 0, 1, 0, 0])))] by kernel_rfl) ⟨look_sound rfl (f110_L4_ok α n), trivial⟩
theorem f110_ok (n : Nat) : (f110_E n).Sound Try.prog :=
  fn_ok (tyOf_ok _) prog_fol (f110_D _ n) (show Try.prog.funcs[110]? = some Try.f110 by kernel_rfl) (by kernel_rfl) (show Try.f110.body = some (bodyOf Try.f110) by kernel_rfl) rfl rfl (Nat.le_of_ble_eq_true rfl) (f110_d _ n) (by intro x; kernel_rfl) 


def f63 (n : Nat) (a0 : List (Int × Int × Int × Int)) (a1 : List (Int × Int × Int × Int)) : Option Bool :=
  ob (f110 n a0 a1) fun r_1 =>
  bif (!r_1) then
    some false
  else
    some true
def f63_E (n : Nat) : Ent := ⟨63, [hE, hE], [.bool], fun x => f63 n x.1 x.2⟩
def f63_D (α : Type) (n : Nat) : D3 α := { reg := [(1, ⟨0, [], [(4, { ent := some (f110_E n) })]⟩)], join := [], loop := [] }
theorem f63_ents (α : Type) (n : Nat) : AllS Try.prog (entsOf (f63_D α n).reg) := ⟨f110_ok n, trivial⟩
theorem f63_d (α : Type) (n : Nat) : D3.OK Try.prog (tyOf Try.prog) ⟨11, []⟩ (f63_D α n) (bodyOf Try.f63) :=
  D3.OK.mk3 (f63_ents α n) (show loopsOf (bodyOf Try.f63) = [] by kernel_rfl) trivial
theorem f63_ok (n : Nat) : (f63_E n).Sound Try.prog :=
  fn_ok (tyOf_ok _) prog_fol (f63_D _ n) (show Try.prog.funcs[63]? = some Try.f63 by kernel_rfl) (by kernel_rfl) (show Try.f63.body = some (bodyOf Try.f63) by kernel_rfl) rfl rfl (Nat.le_of_ble_eq_true rfl) (f63_d _ n) (by intro x; kernel_rfl) 


def f52_L4B {α : Type} (n : Nat) (s0 : List Int) (s1 : List Int) (s5 : Int) (f : (List Int) → (List Int) → Int → Option α) (k0 : Bool → Option α) (k1 : Unit → Option α) : Option α :=
  bif (decide (s5 < (s0.length : Int))) then
    gd (decide (0 ≤ s5) && decide (s5 < (s0.length : Int))) (
      gd (decide (0 ≤ s5) && decide (s5 < (s1.length : Int))) (
        bif ((s0.getD s5.toNat 0) != (s1.getD s5.toNat 0)) then
          k0 false
        else
          f s0 s1 (W (s5 + 1))))
  else
    k1 ()
abbrev f52_L4H : Tm := ⟨[(0, .d hIs), (1, .d hIs), (5, .d hI)], [], [], []⟩
abbrev f52_L4X0 : Tm := ⟨[(4, .d .bool)], [], [], []⟩
abbrev f52_L4X1 : Tm := ⟨[], [], [], []⟩
abbrev f52_L4O : List (Exit × Tm) := [(.ret, f52_L4X0), (.exit 0, f52_L4X1)]
def f52_L4U {α : Type} (n : Nat) (v : f52_L4H.den) (f : f52_L4H.den → Option α) (ks : KS α f52_L4O) : Option α := f52_L4B n v.1.1 v.1.2.1 v.1.2.2.1 (fun s0 s1 s5 => f ((s0, s1, s5, ()), ())) (fun w0 => ks.1 ((w0, ()), ())) (fun _ => ks.2.1 ((), ()))
def f52_L4 {α : Type} (n m : Nat) (s0 : List Int) (s1 : List Int) (s5 : Int) (k0 : Bool → Option α) (k1 : Unit → Option α) : Option α := rounds (f52_L4U n) m ((s0, s1, s5, ()), ()) (fun w => k0 w.1.1, fun w => k1 (), ())
theorem f52_L4_0 {α : Type} (n : Nat) (s0 : List Int) (s1 : List Int) (s5 : Int) (k0 : Bool → Option α) (k1 : Unit → Option α) : f52_L4 (α := α) n 0 s0 s1 s5 k0 k1 = none := rfl
theorem f52_L4_s {α : Type} (n m : Nat) (s0 : List Int) (s1 : List Int) (s5 : Int) (k0 : Bool → Option α) (k1 : Unit → Option α) : f52_L4 (α := α) n (m + 1) s0 s1 s5 k0 k1 = f52_L4B n s0 s1 s5 (fun s0 s1 s5 => f52_L4 n m s0 s1 s5 k0 k1) k0 k1 := rfl
def f52 (n : Nat) (a0 : List Int) (a1 : List Int) : Option Bool :=
  bif ((a0.length : Int) != (a1.length : Int)) then
    some false
  else
    f52_L4 n n a0 a1 0
      (fun z_1 => (
        some z_1))
      (fun (_ : Unit) => (
        some true))
def f52_E (n : Nat) : Ent := ⟨52, [hIs, hIs], [.bool], fun x => f52 n x.1 x.2⟩
def f52_D (α : Type) (n : Nat) : D3 α := { reg := [(6, ⟨8, [], []⟩)], join := [], loop := [(4, ⟨f52_L4H, f52_L4O, rounds (f52_L4U n) n⟩)] }
theorem f52_ents (α : Type) (n : Nat) : AllS Try.prog (entsOf (f52_D α n).reg) := trivial
theorem f52_L4_d (α : Type) (n : Nat) : D3.OK Try.prog (tyOf Try.prog) ⟨26, []⟩ (f52_D α n) ((bodyOf Try.f52).at [1, 1, 0, 1, 0, 0]) :=
  D3.OK.mk3 (f52_ents α n) (show loopsOf ((bodyOf Try.f52).at [1, 1, 0, 1, 0, 0]) = [] by kernel_rfl) trivial
theorem f52_L4_ok (α : Type) (n : Nat) : LO.Sound (α := α) Try.prog ⟨26, []⟩ ⟨f52_L4H, f52_L4O, rounds (f52_L4U n) n⟩ (.loop ((bodyOf Try.f52).at [1, 1, 0, 1, 0, 0])) :=
  loop_ok (tyOf_ok _) prog_fol (f52_L4U n) (f52_L4_d α n) (by intro v f ks; kernel_rfl) n
theorem f52_d (α : Type) (n : Nat) : D3.OK Try.prog (tyOf Try.prog) ⟨26, []⟩ (f52_D α n) (bodyOf Try.f52) :=
  D3.OK.mk3 (f52_ents α n) (show loopsOf (bodyOf Try.f52) = [(4, (.loop ((bodyOf Try.f52).at [1, 1, 0, 1, 0, 0])))] by kernel_rfl) ⟨look_sound rfl (f52_L4_ok α n), trivial⟩
theorem f52_ok (n : Nat) : (f52_E n).Sound Try.prog :=
  fn_ok (tyOf_ok _) prog_fol (f52_D _ n) (show Try.prog.funcs[52]? = some Try.f52 by kernel_rfl) (by kernel_rfl) (show Try.f52.body = some (bodyOf Try.f52) by kernel_rfl) rfl rfl (Nat.le_of_ble_eq_true rfl) (f52_d _ n) (by intro x; kernel_rfl) 


def f18 (n : Nat) (a0 : Bool × (List Int) × (List Int)) (a1 : Bool × (List Int) × (List Int)) : Option Bool :=
  bif (!(a0.1 == a1.1)) then
    some false
  else
    ob (f52 n a0.2.1 a1.2.1) fun r_1 =>
    bif (!r_1) then
      some false
    else
      ob (f52 n a0.2.2 a1.2.2) fun r_2 =>
      bif (!r_2) then
        some false
      else
        some true
def f18_E (n : Nat) : Ent := ⟨18, [hR, hR], [.bool], fun x => f18 n x.1 x.2⟩
def f18_D (α : Type) (n : Nat) : D3 α := { reg := [(3, ⟨0, [], [(4, { ent := some (f52_E n) })]⟩), (5, ⟨0, [], [(4, { ent := some (f52_E n) })]⟩)], join := [], loop := [] }
theorem f18_ents (α : Type) (n : Nat) : AllS Try.prog (entsOf (f18_D α n).reg) := ⟨f52_ok n, f52_ok n, trivial⟩
theorem f18_d (α : Type) (n : Nat) : D3.OK Try.prog (tyOf Try.prog) ⟨22, []⟩ (f18_D α n) (bodyOf Try.f18) :=
  D3.OK.mk3 (f18_ents α n) (show loopsOf (bodyOf Try.f18) = [] by kernel_rfl) trivial
theorem f18_ok (n : Nat) : (f18_E n).Sound Try.prog :=
  fn_ok (tyOf_ok _) prog_fol (f18_D _ n) (show Try.prog.funcs[18]? = some Try.f18 by kernel_rfl) (by kernel_rfl) (show Try.f18.body = some (bodyOf Try.f18) by kernel_rfl) rfl rfl (Nat.le_of_ble_eq_true rfl) (f18_d _ n) (by intro x; kernel_rfl) 


def f19_L4B {α : Type} (n : Nat) (s0 : List (Bool × (List Int) × (List Int))) (s1 : List (Bool × (List Int) × (List Int))) (s5 : Int) (f : (List (Bool × (List Int) × (List Int))) → (List (Bool × (List Int) × (List Int))) → Int → Option α) (k0 : Bool → Option α) (k1 : Unit → Option α) : Option α :=
  bif (decide (s5 < (s0.length : Int))) then
    gd (decide (0 ≤ s5) && decide (s5 < (s0.length : Int))) (
      let x_1 := s0.getD s5.toNat (false, [], [])
      gd (decide (0 ≤ s5) && decide (s5 < (s1.length : Int))) (
        let x_2 := s1.getD s5.toNat (false, [], [])
        ob (f18 n x_1 x_2) fun r_3 =>
        bif (!r_3) then
          k0 false
        else
          f s0 s1 (W (s5 + 1))))
  else
    k1 ()
abbrev f19_L4H : Tm := ⟨[(0, .d hRs), (1, .d hRs), (5, .d hI)], [], [], []⟩
abbrev f19_L4X0 : Tm := ⟨[(4, .d .bool)], [], [], []⟩
abbrev f19_L4X1 : Tm := ⟨[], [], [], []⟩
abbrev f19_L4O : List (Exit × Tm) := [(.ret, f19_L4X0), (.exit 0, f19_L4X1)]
def f19_L4U {α : Type} (n : Nat) (v : f19_L4H.den) (f : f19_L4H.den → Option α) (ks : KS α f19_L4O) : Option α := f19_L4B n v.1.1 v.1.2.1 v.1.2.2.1 (fun s0 s1 s5 => f ((s0, s1, s5, ()), ())) (fun w0 => ks.1 ((w0, ()), ())) (fun _ => ks.2.1 ((), ()))
def f19_L4 {α : Type} (n m : Nat) (s0 : List (Bool × (List Int) × (List Int))) (s1 : List (Bool × (List Int) × (List Int))) (s5 : Int) (k0 : Bool → Option α) (k1 : Unit → Option α) : Option α := rounds (f19_L4U n) m ((s0, s1, s5, ()), ()) (fun w => k0 w.1.1, fun w => k1 (), ())
theorem f19_L4_0 {α : Type} (n : Nat) (s0 : List (Bool × (List Int) × (List Int))) (s1 : List (Bool × (List Int) × (List Int))) (s5 : Int) (k0 : Bool → Option α) (k1 : Unit → Option α) : f19_L4 (α := α) n 0 s0 s1 s5 k0 k1 = none := rfl
theorem f19_L4_s {α : Type} (n m : Nat) (s0 : List (Bool × (List Int) × (List Int))) (s1 : List (Bool × (List Int) × (List Int))) (s5 : Int) (k0 : Bool → Option α) (k1 : Unit → Option α) : f19_L4 (α := α) n (m + 1) s0 s1 s5 k0 k1 = f19_L4B n s0 s1 s5 (fun s0 s1 s5 => f19_L4 n m s0 s1 s5 k0 k1) k0 k1 := rfl
def f19 (n : Nat) (a0 : List (Bool × (List Int) × (List Int))) (a1 : List (Bool × (List Int) × (List Int))) : Option Bool :=
  bif ((a0.length : Int) != (a1.length : Int)) then
    some false
  else
    f19_L4 n n a0 a1 0
      (fun z_4 => (
        some z_4))
      (fun (_ : Unit) => (
        some true))
def f19_E (n : Nat) : Ent := ⟨19, [hRs, hRs], [.bool], fun x => f19 n x.1 x.2⟩
def f19_D (α : Type) (n : Nat) : D3 α := { reg := [(6, ⟨8, [], [(8, { ent := some (f18_E n) })]⟩)], join := [], loop := [(4, ⟨f19_L4H, f19_L4O, rounds (f19_L4U n) n⟩)] }
theorem f19_ents (α : Type) (n : Nat) : AllS Try.prog (entsOf (f19_D α n).reg) := ⟨f18_ok n, trivial⟩
theorem f19_L4_d (α : Type) (n : Nat) : D3.OK Try.prog (tyOf Try.prog) ⟨27, []⟩ (f19_D α n) ((bodyOf Try.f19).at [1, 1, 0, 1, 0, 0]) :=
  D3.OK.mk3 (f19_ents α n) (show loopsOf ((bodyOf Try.f19).at [1, 1, 0, 1, 0, 0]) = [] by kernel_rfl) trivial
theorem f19_L4_ok (α : Type) (n : Nat) : LO.Sound (α := α) Try.prog ⟨27, []⟩ ⟨f19_L4H, f19_L4O, rounds (f19_L4U n) n⟩ (.loop ((bodyOf Try.f19).at [1, 1, 0, 1, 0, 0])) :=
  loop_ok (tyOf_ok _) prog_fol (f19_L4U n) (f19_L4_d α n) (by intro v f ks; kernel_rfl) n
theorem f19_d (α : Type) (n : Nat) : D3.OK Try.prog (tyOf Try.prog) ⟨27, []⟩ (f19_D α n) (bodyOf Try.f19) :=
  D3.OK.mk3 (f19_ents α n) (show loopsOf (bodyOf Try.f19) = [(4, (.loop ((bodyOf Try.f19).at [1, 1, 0, 1, 0, 0])))] by kernel_rfl) ⟨look_sound rfl (f19_L4_ok α n), trivial⟩
theorem f19_ok (n : Nat) : (f19_E n).Sound Try.prog :=
  fn_ok (tyOf_ok _) prog_fol (f19_D _ n) (show Try.prog.funcs[19]? = some Try.f19 by kernel_rfl) (by kernel_rfl) (show Try.f19.body = some (bodyOf Try.f19) by kernel_rfl) rfl rfl (Nat.le_of_ble_eq_true rfl) (f19_d _ n) (by intro x; kernel_rfl) 


def f29 (n : Nat) (a0 : (List (Int × Int × Int × Int)) × (List (Bool × (List Int) × (List Int))) × (List (Bool × (List Int) × (List Int))) × (List (Bool × (List Int) × (List Int))) × Int × (Bool × (List Int) × (List Int)) × Int × Int) (a1 : (List (Int × Int × Int × Int)) × (List (Bool × (List Int) × (List Int))) × (List (Bool × (List Int) × (List Int))) × (List (Bool × (List Int) × (List Int))) × Int × (Bool × (List Int) × (List Int)) × Int × Int) : Option Bool :=
  ob (f63 n a0.1 a1.1) fun r_1 =>
  bif (!r_1) then
    some false
  else
    ob (f19 n a0.2.1 a1.2.1) fun r_2 =>
    bif (!r_2) then
      some false
    else
      ob (f19 n a0.2.2.1 a1.2.2.1) fun r_3 =>
      bif (!r_3) then
        some false
      else
        ob (f19 n a0.2.2.2.1 a1.2.2.2.1) fun r_4 =>
        bif (!r_4) then
          some false
        else
          bif (a0.2.2.2.2.1 != a1.2.2.2.2.1) then
            some false
          else
            ob (f18 n a0.2.2.2.2.2.1 a1.2.2.2.2.2.1) fun r_5 =>
            bif (!r_5) then
              some false
            else
              bif (a0.2.2.2.2.2.2.1 != a1.2.2.2.2.2.2.1) then
                some false
              else
                bif (a0.2.2.2.2.2.2.2 != a1.2.2.2.2.2.2.2) then
                  some false
                else
                  some true
def f29_E (n : Nat) : Ent := ⟨29, [(.st (.pair hE (.pair hRs (.pair hRs (.pair hRs (.pair hI (.pair hR (.pair hI hI)))))))), (.st (.pair hE (.pair hRs (.pair hRs (.pair hRs (.pair hI (.pair hR (.pair hI hI))))))))], [.bool], fun x => f29 n x.1 x.2⟩
def f29_D (α : Type) (n : Nat) : D3 α := { reg := [(1, ⟨0, [], [(4, { ent := some (f63_E n) })]⟩), (3, ⟨0, [], [(4, { ent := some (f19_E n) })]⟩), (5, ⟨0, [], [(4, { ent := some (f19_E n) })]⟩), (7, ⟨0, [], [(4, { ent := some (f19_E n) })]⟩), (11, ⟨0, [], [(4, { ent := some (f18_E n) })]⟩)], join := [], loop := [] }
theorem f29_ents (α : Type) (n : Nat) : AllS Try.prog (entsOf (f29_D α n).reg) := ⟨f63_ok n, f19_ok n, f19_ok n, f19_ok n, f18_ok n, trivial⟩
theorem f29_d (α : Type) (n : Nat) : D3.OK Try.prog (tyOf Try.prog) ⟨50, []⟩ (f29_D α n) (bodyOf Try.f29) :=
  D3.OK.mk3 (f29_ents α n) (show loopsOf (bodyOf Try.f29) = [] by kernel_rfl) trivial
theorem f29_ok (n : Nat) : (f29_E n).Sound Try.prog :=
  fn_ok (tyOf_ok _) prog_fol (f29_D _ n) (show Try.prog.funcs[29]? = some Try.f29 by kernel_rfl) (by kernel_rfl) (show Try.f29.body = some (bodyOf Try.f29) by kernel_rfl) rfl rfl (Nat.le_of_ble_eq_true rfl) (f29_d _ n) (by intro x; kernel_rfl) 


def f6 (n : Nat) (a0 : (List (Int × Int × Int × Int)) × (List (Bool × (List Int) × (List Int))) × (List (Bool × (List Int) × (List Int))) × (List (Bool × (List Int) × (List Int))) × Int × (Bool × (List Int) × (List Int)) × Int × Int) : Option Bool :=
  ob (f25 n a0 1048576) fun r_1 =>
  bif (decide (r_1 < 0)) then
    some true
  else
    ob (f27 n a0) fun r_2 =>
    ob (f26 n r_2) fun r_3 =>
    ob (f27 n a0) fun r_4 =>
    ob (f28 n r_4) fun r_5 =>
    bif (!(r_5.1 == r_3.1)) then
      some false
    else
      bif (r_5.2 != r_3.2) then
        some false
      else
        ob (f27 n a0) fun r_6 =>
        ob (f29 n r_4 r_6) fun r_7 =>
        bif (!r_7) then
          some false
        else
          some true
def f6_E (n : Nat) : Ent := ⟨6, [(.st (.pair hE (.pair hRs (.pair hRs (.pair hRs (.pair hI (.pair hR (.pair hI hI))))))))], [.bool], fun x => f6 n x⟩
def f6_D (α : Type) (n : Nat) : D3 α := { reg := [(2, ⟨0, [], [(2, { ent := some (f25_E n) })]⟩), (5, ⟨0, [], [(1, { ent := some (f27_E n) }), (2, { ent := some (f26_E n) })]⟩), (6, ⟨0, [], [(1, { ent := some (f27_E n) })]⟩), (7, ⟨0, [], [(1, { ent := some (f28_E n) })]⟩), (10, ⟨3, [], [(2, { ent := some (f27_E n) }), (3, { ent := some (f29_E n) })]⟩)], join := [], loop := [] }
theorem f6_ents (α : Type) (n : Nat) : AllS Try.prog (entsOf (f6_D α n).reg) := ⟨f25_ok n, f27_ok n, f26_ok n, f27_ok n, f28_ok n, f27_ok n, f29_ok n, trivial⟩
theorem f6_d (α : Type) (n : Nat) : D3.OK Try.prog (tyOf Try.prog) ⟨40, []⟩ (f6_D α n) (bodyOf Try.f6) :=
  D3.OK.mk3 (f6_ents α n) (show loopsOf (bodyOf Try.f6) = [] by kernel_rfl) trivial
theorem f6_ok (n : Nat) : (f6_E n).Sound Try.prog :=
  fn_ok (tyOf_ok _) prog_fol (f6_D _ n) (show Try.prog.funcs[6]? = some Try.f6 by kernel_rfl) (by kernel_rfl) (show Try.f6.body = some (bodyOf Try.f6) by kernel_rfl) rfl rfl (Nat.le_of_ble_eq_true rfl) (f6_d _ n) (by intro x; kernel_rfl) 




end Go.Ev
