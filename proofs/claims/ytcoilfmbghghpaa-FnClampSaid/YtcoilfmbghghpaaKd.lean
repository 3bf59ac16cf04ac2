/- DERIVED. What the functions compute, and that they do. -/
import Derived.Test.YtcoilfmbghghpaaKc

set_option linter.all false
set_option linter.unusedVariables false
set_option linter.unusedSimpArgs false

namespace Go.Ev
open Go Go.Proofs Go.RowKit Go.Shelf
def f158 (n : Nat) (a0 : Int) (a1 : Bool × (List Int) × (List Int)) (a2 : List (Bool × (List Int) × (List Int))) (a3 : List (Bool × (List Int) × (List Int))) : Option (Bool × (List Int) × (List Int)) :=
  gd (decide (0 ≤ a0) && decide (a0 < (a2.length : Int))) (
    let x_1 := a2.getD a0.toNat (false, [], [])
    ob (f91 n a1 x_1) fun r_2 =>
    gd (decide (0 ≤ a0) && decide (a0 < (a3.length : Int))) (
      let x_3 := a3.getD a0.toNat (false, [], [])
      ob (f90 n r_2 x_3) fun r_4 =>
      some r_4))
def f158_E (n : Nat) : Ent := ⟨158, [hI, (.ref hR), (.ref hRs), (.ref hRs)], [hR], fun x => f158 n x.1 x.2.1 x.2.2.1 x.2.2.2⟩
def f158_D (α : Type) (n : Nat) : D3 α := { reg := [(1, ⟨10, [], [(5, { ent := some (f91_E n) }), (10, { ent := some (f90_E n) })]⟩)], join := [], loop := [] }
theorem f158_ents (α : Type) (n : Nat) : AllS Try.prog (entsOf (f158_D α n).reg) := ⟨f91_ok n, f90_ok n, trivial⟩
theorem f158_d (α : Type) (n : Nat) : D3.OK Try.prog (tyOf Try.prog) ⟨17, []⟩ (f158_D α n) (bodyOf Try.f158) :=
  D3.OK.mk3 (f158_ents α n) (show loopsOf (bodyOf Try.f158) = [] by kernel_rfl) trivial
theorem f158_ok (n : Nat) : (f158_E n).Sound Try.prog :=
  fn_ok (tyOf_ok _) prog_fol (f158_D _ n) (show Try.prog.funcs[158]? = some Try.f158 by kernel_rfl) (by kernel_rfl) (show Try.f158.body = some (bodyOf Try.f158) by kernel_rfl) rfl rfl (Nat.le_of_ble_eq_true rfl) (f158_d _ n) (by intro x; kernel_rfl) 


def f72 (n : Nat) (a0 : Bool × (List Int) × (List Int)) : Option (Bool × (List Int) × (List Int)) :=
  ob (f132 n a0.2.1) fun r_1 =>
  ob (f132 n a0.2.2) fun r_2 =>
  some (a0.1, r_1, r_2)
def f72_E (n : Nat) : Ent := ⟨72, [hR], [hR], fun x => f72 n x⟩
def f72_D (α : Type) (n : Nat) : D3 α := { reg := [(1, ⟨8, [], [(4, { ent := some (f132_E n) }), (7, { ent := some (f132_E n) })]⟩)], join := [], loop := [] }
theorem f72_ents (α : Type) (n : Nat) : AllS Try.prog (entsOf (f72_D α n).reg) := ⟨f132_ok n, f132_ok n, trivial⟩
theorem f72_d (α : Type) (n : Nat) : D3.OK Try.prog (tyOf Try.prog) ⟨12, []⟩ (f72_D α n) (bodyOf Try.f72) :=
  D3.OK.mk3 (f72_ents α n) (show loopsOf (bodyOf Try.f72) = [] by kernel_rfl) trivial
theorem f72_ok (n : Nat) : (f72_E n).Sound Try.prog :=
  fn_ok (tyOf_ok _) prog_fol (f72_D _ n) (show Try.prog.funcs[72]? = some Try.f72 by kernel_rfl) (by kernel_rfl) (show Try.f72.body = some (bodyOf Try.f72) by kernel_rfl) rfl rfl (Nat.le_of_ble_eq_true rfl) (f72_d _ n) (by intro x; kernel_rfl) 


def f97_L3B {α : Type} (n : Nat) (s1 : (Bool × (List Int) × (List Int)) × (List (Bool × (List Int) × (List Int))) × (List (Bool × (List Int) × (List Int)))) (s8 : Int) (s9 : Int) (b7 : List (Bool × (List Int) × (List Int))) (f : ((Bool × (List Int) × (List Int)) × (List (Bool × (List Int) × (List Int))) × (List (Bool × (List Int) × (List Int)))) → Int → Int → (List (Bool × (List Int) × (List Int))) → Option α) (k0 : (List (Bool × (List Int) × (List Int))) → Option α) : Option α :=
  bif (decide (s9 < s8)) then
    ob (f158 n s9 s1.1 s1.2.1 s1.2.2) fun r_1 =>
    ob (f72 n r_1) fun r_2 =>
    gd (decide ((b7.length + 1) * 56 ≤ 140737488355328)) (
      f s1 s8 (W (s9 + 1)) (b7 ++ [r_2]))
  else
    k0 b7
abbrev f97_L3H : Tm := ⟨[(1, .d (.clo 158 (.pair (.ref hR) (.pair (.ref hRs) (.ref hRs))))), (5, .k (.hw 7)), (8, .d hI), (9, .d hI)], [(7, .arr 33 hR false)], [17], []⟩
abbrev f97_L3X0 : Tm := ⟨[(5, .k (.hw 7))], [(7, .arr 33 hR false)], [], []⟩
abbrev f97_L3O : List (Exit × Tm) := [(.exit 0, f97_L3X0)]
def f97_L3U {α : Type} (n : Nat) (v : f97_L3H.den) (f : f97_L3H.den → Option α) (ks : KS α f97_L3O) : Option α := f97_L3B n v.1.1 v.1.2.2.1 v.1.2.2.2.1 v.2.1 (fun s1 s8 s9 b7 => f ((s1, (), s8, s9, ()), (b7, ()))) (fun w0 => ks.1 (((), ()), (w0, ())))
def f97_L3 {α : Type} (n m : Nat) (s1 : (Bool × (List Int) × (List Int)) × (List (Bool × (List Int) × (List Int))) × (List (Bool × (List Int) × (List Int)))) (s8 : Int) (s9 : Int) (b7 : List (Bool × (List Int) × (List Int))) (k0 : (List (Bool × (List Int) × (List Int))) → Option α) : Option α := rounds (f97_L3U n) m ((s1, (), s8, s9, ()), (b7, ())) (fun w => k0 w.2.1, ())
theorem f97_L3_0 {α : Type} (n : Nat) (s1 : (Bool × (List Int) × (List Int)) × (List (Bool × (List Int) × (List Int))) × (List (Bool × (List Int) × (List Int)))) (s8 : Int) (s9 : Int) (b7 : List (Bool × (List Int) × (List Int))) (k0 : (List (Bool × (List Int) × (List Int))) → Option α) : f97_L3 (α := α) n 0 s1 s8 s9 b7 k0 = none := rfl
theorem f97_L3_s {α : Type} (n m : Nat) (s1 : (Bool × (List Int) × (List Int)) × (List (Bool × (List Int) × (List Int))) × (List (Bool × (List Int) × (List Int)))) (s8 : Int) (s9 : Int) (b7 : List (Bool × (List Int) × (List Int))) (k0 : (List (Bool × (List Int) × (List Int))) → Option α) : f97_L3 (α := α) n (m + 1) s1 s8 s9 b7 k0 = f97_L3B n s1 s8 s9 b7 (fun s1 s8 s9 b7 => f97_L3 n m s1 s8 s9 b7 k0) k0 := rfl
def f97 (n : Nat) (a0 : Int) (a1 : (Bool × (List Int) × (List Int)) × (List (Bool × (List Int) × (List Int))) × (List (Bool × (List Int) × (List Int)))) : Option (List (Bool × (List Int) × (List Int))) :=
  f97_L3 n n a1 a0 0 []
    (fun z_3 => (
      some z_3))
def f97_E (n : Nat) : Ent := ⟨97, [hI, (.clo 158 (.pair (.ref hR) (.pair (.ref hRs) (.ref hRs))))], [hRs], fun x => f97 n x.1 x.2⟩
def f97_D (α : Type) (n : Nat) : D3 α := { reg := [(1, ⟨0, [], [(0, { sh := some hR })]⟩), (5, ⟨0, [], [(3, { ent := some (f158_E n) }), (4, { ent := some (f72_E n) }), (5, { sh := some hR })]⟩)], join := [], loop := [(3, ⟨f97_L3H, f97_L3O, rounds (f97_L3U n) n⟩)] }
theorem f97_ents (α : Type) (n : Nat) : AllS Try.prog (entsOf (f97_D α n).reg) := ⟨f158_ok n, f72_ok n, trivial⟩
theorem f97_L3_d (α : Type) (n : Nat) : D3.OK Try.prog (tyOf Try.prog) ⟨21, []⟩ (f97_D α n) ((bodyOf Try.f97).at [1, 1, 0, 1, 0, 0]) :=
  D3.OK.mk3 (f97_ents α n) (show loopsOf ((bodyOf Try.f97).at [1, 1, 0, 1, 0, 0]) = [] by kernel_rfl) trivial
theorem f97_L3_ok (α : Type) (n : Nat) : LO.Sound (α := α) Try.prog ⟨21, []⟩ ⟨f97_L3H, f97_L3O, rounds (f97_L3U n) n⟩ (.loop ((bodyOf Try.f97).at [1, 1, 0, 1, 0, 0])) :=
  loop_ok (tyOf_ok _) prog_fol (f97_L3U n) (f97_L3_d α n) (by intro v f ks; kernel_rfl) n
theorem f97_d (α : Type) (n : Nat) : D3.OK Try.prog (tyOf Try.prog) ⟨21, []⟩ (f97_D α n) (bodyOf Try.f97) :=
  D3.OK.mk3 (f97_ents α n) (show loopsOf (bodyOf Try.f97) = [(3, (.loop ((bodyOf Try.f97).at [1, 1, 0, 1, 0, 0])))] by kernel_rfl) ⟨look_sound rfl (f97_L3_ok α n), trivial⟩
theorem f97_ok (n : Nat) : (f97_E n).Sound Try.prog :=
  fn_ok (tyOf_ok _) prog_fol (f97_D _ n) (show Try.prog.funcs[97]? = some Try.f97 by kernel_rfl) (by kernel_rfl) (show Try.f97.body = some (bodyOf Try.f97) by kernel_rfl) rfl rfl (Nat.le_of_ble_eq_true rfl) (f97_d _ n) (by intro x; kernel_rfl) 


def f100 (n : Nat) (a0 : Bool × (List Int) × (List Int)) (a1 : List (Bool × (List Int) × (List Int))) (a2 : List (Bool × (List Int) × (List Int))) : Option (List (Bool × (List Int) × (List Int))) :=
  ob (f97 n (a1.length : Int) (a0, a1, a2)) fun r_1 =>
  some r_1
def f100_E (n : Nat) : Ent := ⟨100, [hR, hRs, hRs], [hRs], fun x => f100 n x.1 x.2.1 x.2.2⟩
def f100_D (α : Type) (n : Nat) : D3 α := { reg := [(1, ⟨0, [], [(2, { sh := some (.pair (.ref hR) (.pair (.ref hRs) (.ref hRs))) }), (3, { ent := some (f97_E n) })]⟩)], join := [], loop := [] }
theorem f100_ents (α : Type) (n : Nat) : AllS Try.prog (entsOf (f100_D α n).reg) := ⟨f97_ok n, trivial⟩
theorem f100_d (α : Type) (n : Nat) : D3.OK Try.prog (tyOf Try.prog) ⟨11, []⟩ (f100_D α n) (bodyOf Try.f100) :=
  D3.OK.mk3 (f100_ents α n) (show loopsOf (bodyOf Try.f100) = [] by kernel_rfl) trivial
theorem f100_ok (n : Nat) : (f100_E n).Sound Try.prog :=
  fn_ok (tyOf_ok _) prog_fol (f100_D _ n) (show Try.prog.funcs[100]? = some Try.f100 by kernel_rfl) (by kernel_rfl) (show Try.f100.body = some (bodyOf Try.f100) by kernel_rfl) rfl rfl (Nat.le_of_ble_eq_true rfl) (f100_d _ n) (by intro x; kernel_rfl) 


def f156 (n : Nat) (a0 : Bool × (List Int) × (List Int)) : Option Bool :=
  bif (decide ((a0.2.1.length : Int) ≤ 40)) then
    some (decide ((a0.2.2.length : Int) ≤ 40))
  else
    some false
def f156_E (n : Nat) : Ent := ⟨156, [hR], [.bool], fun x => f156 n x⟩
def f156_D (α : Type) (n : Nat) : D3 α := { reg := [], join := [], loop := [] }
theorem f156_ents (α : Type) (n : Nat) : AllS Try.prog (entsOf (f156_D α n).reg) := trivial
theorem f156_d (α : Type) (n : Nat) : D3.OK Try.prog (tyOf Try.prog) ⟨13, []⟩ (f156_D α n) (bodyOf Try.f156) :=
  D3.OK.mk3 (f156_ents α n) (show loopsOf (bodyOf Try.f156) = [] by kernel_rfl) trivial
theorem f156_ok (n : Nat) : (f156_E n).Sound Try.prog :=
  fn_ok (tyOf_ok _) prog_fol (f156_D _ n) (show Try.prog.funcs[156]? = some Try.f156 by kernel_rfl) (by kernel_rfl) (show Try.f156.body = some (bodyOf Try.f156) by kernel_rfl) rfl rfl (Nat.le_of_ble_eq_true rfl) (f156_d _ n) (by intro x; kernel_rfl) 


def f155 (n : Nat) (a0 : Bool × (List Int) × (List Int)) : Option Bool :=
  ob (f156 n a0) fun r_1 =>
  some (!r_1)
def f155_E (n : Nat) : Ent := ⟨155, [hR], [.bool], fun x => f155 n x⟩
def f155_D (α : Type) (n : Nat) : D3 α := { reg := [(1, ⟨0, [], [(1, { ent := some (f156_E n) })]⟩)], join := [], loop := [] }
theorem f155_ents (α : Type) (n : Nat) : AllS Try.prog (entsOf (f155_D α n).reg) := ⟨f156_ok n, trivial⟩
theorem f155_d (α : Type) (n : Nat) : D3.OK Try.prog (tyOf Try.prog) ⟨6, []⟩ (f155_D α n) (bodyOf Try.f155) :=
  D3.OK.mk3 (f155_ents α n) (show loopsOf (bodyOf Try.f155) = [] by kernel_rfl) trivial
theorem f155_ok (n : Nat) : (f155_E n).Sound Try.prog :=
  fn_ok (tyOf_ok _) prog_fol (f155_D _ n) (show Try.prog.funcs[155]? = some Try.f155 by kernel_rfl) (by kernel_rfl) (show Try.f155.body = some (bodyOf Try.f155) by kernel_rfl) rfl rfl (Nat.le_of_ble_eq_true rfl) (f155_d _ n) (by intro x; kernel_rfl) 


def f177b_L2B {α : Type} (n : Nat) (s0 : List (Bool × (List Int) × (List Int))) (s7 : Int) (s8 : Int) (f : (List (Bool × (List Int) × (List Int))) → Int → Int → Option α) (k0 : Int → Option α) (k1 : Unit → Option α) : Option α :=
  bif (decide (s8 < s7)) then
    gd (decide (0 ≤ s8) && decide (s8 < (s0.length : Int))) (
      let x_1 := s0.getD s8.toNat (false, [], [])
      ob (f155 n x_1) fun r_2 =>
      bif r_2 then
        k0 s8
      else
        f s0 s7 (W (s8 + 1)))
  else
    k1 ()
abbrev f177b_L2H : Tm := ⟨[(0, .d hRs), (1, .d (.fn 155)), (7, .d hI), (8, .d hI)], [], [], []⟩
abbrev f177b_L2X0 : Tm := ⟨[(4, .d hI)], [], [], []⟩
abbrev f177b_L2X1 : Tm := ⟨[], [], [], []⟩
abbrev f177b_L2O : List (Exit × Tm) := [(.ret, f177b_L2X0), (.exit 0, f177b_L2X1)]
def f177b_L2U {α : Type} (n : Nat) (v : f177b_L2H.den) (f : f177b_L2H.den → Option α) (ks : KS α f177b_L2O) : Option α := f177b_L2B n v.1.1 v.1.2.2.1 v.1.2.2.2.1 (fun s0 s7 s8 => f ((s0, (), s7, s8, ()), ())) (fun w0 => ks.1 ((w0, ()), ())) (fun _ => ks.2.1 ((), ()))
def f177b_L2 {α : Type} (n m : Nat) (s0 : List (Bool × (List Int) × (List Int))) (s7 : Int) (s8 : Int) (k0 : Int → Option α) (k1 : Unit → Option α) : Option α := rounds (f177b_L2U n) m ((s0, (), s7, s8, ()), ()) (fun w => k0 w.1.1, fun w => k1 (), ())
theorem f177b_L2_0 {α : Type} (n : Nat) (s0 : List (Bool × (List Int) × (List Int))) (s7 : Int) (s8 : Int) (k0 : Int → Option α) (k1 : Unit → Option α) : f177b_L2 (α := α) n 0 s0 s7 s8 k0 k1 = none := rfl
theorem f177b_L2_s {α : Type} (n m : Nat) (s0 : List (Bool × (List Int) × (List Int))) (s7 : Int) (s8 : Int) (k0 : Int → Option α) (k1 : Unit → Option α) : f177b_L2 (α := α) n (m + 1) s0 s7 s8 k0 k1 = f177b_L2B n s0 s7 s8 (fun s0 s7 s8 => f177b_L2 n m s0 s7 s8 k0 k1) k0 k1 := rfl
def f177b (n : Nat) (a0 : List (Bool × (List Int) × (List Int))) (a1 : Unit) : Option Int :=
  f177b_L2 n n a0 (a0.length : Int) 0
    (fun z_3 => (
      some z_3))
    (fun (_ : Unit) => (
      some (-1)))
def f177b_E (n : Nat) : Ent := ⟨177, [hRs, (.fn 155)], [hI], fun x => f177b n x.1 x.2⟩
def f177b_D (α : Type) (n : Nat) : D3 α := { reg := [(4, ⟨0, [], [(5, { ent := some (f155_E n) })]⟩)], join := [], loop := [(2, ⟨f177b_L2H, f177b_L2O, rounds (f177b_L2U n) n⟩)] }
theorem f177b_ents (α : Type) (n : Nat) : AllS Try.prog (entsOf (f177b_D α n).reg) := ⟨f155_ok n, trivial⟩
theorem f177b_L2_d (α : Type) (n : Nat) : D3.OK Try.prog (tyOf Try.prog) ⟨19, []⟩ (f177b_D α n) ((bodyOf Try.f177).at [1, 0, 1, 0, 0]) :=
  D3.OK.mk3 (f177b_ents α n) (show loopsOf ((bodyOf Try.f177).at [1, 0, 1, 0, 0]) = [] by kernel_rfl) trivial
theorem f177b_L2_ok (α : Type) (n : Nat) : LO.Sound (α := α) Try.prog ⟨19, []⟩ ⟨f177b_L2H, f177b_L2O, rounds (f177b_L2U n) n⟩ (.loop ((bodyOf Try.f177).at [1, 0, 1, 0, 0])) :=
  loop_ok (tyOf_ok _) prog_fol (f177b_L2U n) (f177b_L2_d α n) (by intro v f ks; kernel_rfl) n
theorem f177b_d (α : Type) (n : Nat) : D3.OK Try.prog (tyOf Try.prog) ⟨19, []⟩ (f177b_D α n) (bodyOf Try.f177) :=
  D3.OK.mk3 (f177b_ents α n) (show loopsOf (bodyOf Try.f177) = [(2, (.loop ((bodyOf Try.f177).at [1, 0, 1, 0, 0])))] by kernel_rfl) ⟨look_sound rfl (f177b_L2_ok α n), trivial⟩
theorem f177b_ok (n : Nat) : (f177b_E n).Sound Try.prog :=
  fn_ok (tyOf_ok _) prog_fol (f177b_D _ n) (show Try.prog.funcs[177]? = some Try.f177 by kernel_rfl) (by kernel_rfl) (show Try.f177.body = some (bodyOf Try.f177) by kernel_rfl) rfl rfl (Nat.le_of_ble_eq_true rfl) (f177b_d _ n) (by intro x; kernel_rfl) 


def f130b (n : Nat) (a0 : List (Bool × (List Int) × (List Int))) (a1 : Unit) : Option Bool :=
  ob (f177b n a0 a1) fun r_1 =>
  some (decide (r_1 ≥ 0))
def f130b_E (n : Nat) : Ent := ⟨130, [hRs, (.fn 155)], [.bool], fun x => f130b n x.1 x.2⟩
def f130b_D (α : Type) (n : Nat) : D3 α := { reg := [(1, ⟨0, [], [(2, { ent := some (f177b_E n) })]⟩)], join := [], loop := [] }
theorem f130b_ents (α : Type) (n : Nat) : AllS Try.prog (entsOf (f130b_D α n).reg) := ⟨f177b_ok n, trivial⟩
theorem f130b_d (α : Type) (n : Nat) : D3.OK Try.prog (tyOf Try.prog) ⟨9, []⟩ (f130b_D α n) (bodyOf Try.f130) :=
  D3.OK.mk3 (f130b_ents α n) (show loopsOf (bodyOf Try.f130) = [] by kernel_rfl) trivial
theorem f130b_ok (n : Nat) : (f130b_E n).Sound Try.prog :=
  fn_ok (tyOf_ok _) prog_fol (f130b_D _ n) (show Try.prog.funcs[130]? = some Try.f130 by kernel_rfl) (by kernel_rfl) (show Try.f130.body = some (bodyOf Try.f130) by kernel_rfl) rfl rfl (Nat.le_of_ble_eq_true rfl) (f130b_d _ n) (by intro x; kernel_rfl) 


def f96 (n : Nat) (a0 : List (Bool × (List Int) × (List Int))) : Option ((List (Bool × (List Int) × (List Int))) × Int) :=
  ob (f130b n a0 ()) fun r_1 =>
  bif r_1 then
    some ([], 7)
  else
    some (a0, 0)
def f96_E (n : Nat) : Ent := ⟨96, [hRs], [hRs, hI], fun x => f96 n x⟩
def f96_D (α : Type) (n : Nat) : D3 α := { reg := [(1, ⟨0, [], [(1, { ent := some (f130b_E n) })]⟩)], join := [], loop := [] }
theorem f96_ents (α : Type) (n : Nat) : AllS Try.prog (entsOf (f96_D α n).reg) := ⟨f130b_ok n, trivial⟩
theorem f96_d (α : Type) (n : Nat) : D3.OK Try.prog (tyOf Try.prog) ⟨7, []⟩ (f96_D α n) (bodyOf Try.f96) :=
  D3.OK.mk3 (f96_ents α n) (show loopsOf (bodyOf Try.f96) = [] by kernel_rfl) trivial
theorem f96_ok (n : Nat) : (f96_E n).Sound Try.prog :=
  fn_ok (tyOf_ok _) prog_fol (f96_D _ n) (show Try.prog.funcs[96]? = some Try.f96 by kernel_rfl) (by kernel_rfl) (show Try.f96.body = some (bodyOf Try.f96) by kernel_rfl) rfl rfl (Nat.le_of_ble_eq_true rfl) (f96_d _ n) (by intro x; kernel_rfl) 


abbrev f46_G1 : Tm := ⟨[(1, .d hRs), (2, .d hRs), (3, .k (.hp 3 0 0))], [(3, .var 33 true false [.d .bool, .d hIs, .d hIs])], [], []⟩
def f46 (n : Nat) (a0 : Bool × (List Int) × (List Int)) (a1 : List (Bool × (List Int) × (List Int))) (a2 : List (Bool × (List Int) × (List Int))) : Option ((List (Bool × (List Int) × (List Int))) × Int) :=
  ob (f77 n [a1, a2]) fun r_1 =>
  ob (f68 n [a0]) fun r_2 =>
  ob (f95 n [r_1, r_2]) fun r_3 =>
  bif (r_3 != 0) then
    some ([], r_3)
  else
    ob (f100 n a0 a1 a2) fun r_4 =>
    ob (f96 n r_4) fun r_5 =>
    some (r_5.1, r_5.2)
def f46_E (n : Nat) : Ent := ⟨46, [hR, hRs, hRs], [hRs, hI], fun x => f46 n x.1 x.2.1 x.2.2⟩
def f46_D (α : Type) (n : Nat) : D3 α := { reg := [(1, ⟨0, [], [(2, { sh := some hRs }), (3, { ent := some (f77_E n) }), (5, { sh := some hR }), (6, { ent := some (f68_E n) }), (7, { sh := some hI }), (8, { ent := some (f95_E n) })]⟩), (4, ⟨0, [], [(3, { ent := some (f100_E n) }), (4, { ent := some (f96_E n) })]⟩)], join := [], loop := [], any := [(1, f46_G1)] }
set_option maxHeartbeats 8000000 in
theorem f46_A1 (n : Nat) : FamAll (tyOf Try.prog) ⟨28, []⟩ [(2, { sh := some hRs }), (3, { ent := some (f77_E n) }), (5, { sh := some hR }), (6, { ent := some (f68_E n) }), (7, { sh := some hI }), (8, { ent := some (f95_E n) })] f46_G1 (regOps ((bodyOf Try.f46).at [1, 0, 0])) := by
  refine ⟨by kernel_rfl, fun w q hq => ?_⟩
  have e : WT [(2, { sh := some hRs }), (3, { ent := some (f77_E n) }), (5, { sh := some hR }), (6, { ent := some (f68_E n) }), (7, { sh := some hI }), (8, { ent := some (f95_E n) })] (swapIdx (regOps ((bodyOf Try.f46).at [1, 0, 0])).toList) q = (∃ (y0 : HL (f77_E n).rs) (q0 : List (Nat × RV)), q = (3, .sv (resSV (f77_E n).rs y0)) :: q0 ∧ ∃ (y1 : HL (f68_E n).rs) (q1 : List (Nat × RV)), q0 = (6, .sv (resSV (f68_E n).rs y1)) :: q1 ∧ ∃ (y2 : HL (f95_E n).rs) (q2 : List (Nat × RV)), q1 = (8, .sv (resSV (f95_E n).rs y2)) :: q2 ∧ q2 = []) := by kernel_rfl
  rw [e] at hq
  obtain ⟨y0, q0, rfl, y1, q1, rfl, y2, q2, rfl, rfl⟩ := hq
  exact FamEq.mk (by kernel_rfl)
theorem f46_ents (α : Type) (n : Nat) : AllS Try.prog (entsOf (f46_D α n).reg) := ⟨f77_ok n, f68_ok n, f95_ok n, f100_ok n, f96_ok n, trivial⟩
theorem f46_d (α : Type) (n : Nat) : D3.OK Try.prog (tyOf Try.prog) ⟨28, []⟩ (f46_D α n) (bodyOf Try.f46) :=
  D3.OK.mk3a (f46_ents α n) (show loopsOf (bodyOf Try.f46) = [] by kernel_rfl) trivial (show anysOf (bodyOf Try.f46) = [(1, regOps ((bodyOf Try.f46).at [1, 0, 0]))] by kernel_rfl) ⟨fun X h => (by cases h; exact f46_A1 n), trivial⟩
theorem f46_ok (n : Nat) : (f46_E n).Sound Try.prog :=
  fn_ok (tyOf_ok _) prog_fol (f46_D _ n) (show Try.prog.funcs[46]? = some Try.f46 by kernel_rfl) (by kernel_rfl) (show Try.f46.body = some (bodyOf Try.f46) by kernel_rfl) rfl rfl (Nat.le_of_ble_eq_true rfl) (f46_d _ n) (by intro x; kernel_rfl) 


def f126_L4B {α : Type} (n : Nat) (s0 : List Int) (s3 : Int) (f : (List Int) → Int → Option α) (k0 : Bool → Option α) (k1 : (List Int) → Option α) : Option α :=
  bif (decide (s3 < (s0.length : Int))) then
    gd (decide (0 ≤ s3) && decide (s3 < (s0.length : Int))) (
      ob (f65 n (s0.getD s3.toNat 0) 0 9999) fun r_1 =>
      bif (!r_1) then
        k0 false
      else
        f s0 (W (s3 + 1)))
  else
    k1 s0
abbrev f126_L4H : Tm := ⟨[(0, .d hIs), (3, .d hI)], [], [], []⟩
abbrev f126_L4X0 : Tm := ⟨[(2, .d .bool)], [], [], []⟩
abbrev f126_L4X1 : Tm := ⟨[(0, .d hIs)], [], [], []⟩
abbrev f126_L4O : List (Exit × Tm) := [(.ret, f126_L4X0), (.exit 0, f126_L4X1)]
def f126_L4U {α : Type} (n : Nat) (v : f126_L4H.den) (f : f126_L4H.den → Option α) (ks : KS α f126_L4O) : Option α := f126_L4B n v.1.1 v.1.2.1 (fun s0 s3 => f ((s0, s3, ()), ())) (fun w0 => ks.1 ((w0, ()), ())) (fun w0 => ks.2.1 ((w0, ()), ()))
def f126_L4 {α : Type} (n m : Nat) (s0 : List Int) (s3 : Int) (k0 : Bool → Option α) (k1 : (List Int) → Option α) : Option α := rounds (f126_L4U n) m ((s0, s3, ()), ()) (fun w => k0 w.1.1, fun w => k1 w.1.1, ())
theorem f126_L4_0 {α : Type} (n : Nat) (s0 : List Int) (s3 : Int) (k0 : Bool → Option α) (k1 : (List Int) → Option α) : f126_L4 (α := α) n 0 s0 s3 k0 k1 = none := rfl
theorem f126_L4_s {α : Type} (n m : Nat) (s0 : List Int) (s3 : Int) (k0 : Bool → Option α) (k1 : (List Int) → Option α) : f126_L4 (α := α) n (m + 1) s0 s3 k0 k1 = f126_L4B n s0 s3 (fun s0 s3 => f126_L4 n m s0 s3 k0 k1) k0 k1 := rfl
def f126 (n : Nat) (a0 : List Int) : Option Bool :=
  bif (decide ((a0.length : Int) > 4096)) then
    some false
  else
    f126_L4 n n a0 0
      (fun z_2 => (
        some z_2))
      (fun z_3 => (
        bif (decide ((z_3.length : Int) ≤ 40)) then
          bif ((z_3.length : Int) == 0) then
            some true
          else
            gd (decide (0 ≤ (W ((z_3.length : Int) - 1))) && decide ((W ((z_3.length : Int) - 1)) < (z_3.length : Int))) (
              some (decide ((z_3.getD ((W ((z_3.length : Int) - 1)).toNat) 0) > 0)))
        else
          some false))
def f126_E (n : Nat) : Ent := ⟨126, [hIs], [.bool], fun x => f126 n x⟩
def f126_D (α : Type) (n : Nat) : D3 α := { reg := [(6, ⟨0, [], [(4, { ent := some (f65_E n) })]⟩)], join := [], loop := [(4, ⟨f126_L4H, f126_L4O, rounds (f126_L4U n) n⟩)] }
theorem f126_ents (α : Type) (n : Nat) : AllS Try.prog (entsOf (f126_D α n).reg) := ⟨f65_ok n, trivial⟩
theorem f126_L4_d (α : Type) (n : Nat) : D3.OK Try.prog (tyOf Try.prog) ⟨36, []⟩ (f126_D α n) ((bodyOf Try.f126).at [1, 1, 0, 1, 0, 0]) :=
  D3.OK.mk3 (f126_ents α n) (show loopsOf ((bodyOf Try.f126).at [1, 1, 0, 1, 0, 0]) = [] by kernel_rfl) trivial
theorem f126_L4_ok (α : Type) (n : Nat) : LO.Sound (α := α) Try.prog ⟨36, []⟩ ⟨f126_L4H, f126_L4O, rounds (f126_L4U n) n⟩ (.loop ((bodyOf Try.f126).at [1, 1, 0, 1, 0, 0])) :=
  loop_ok (tyOf_ok _) prog_fol (f126_L4U n) (f126_L4_d α n) (by intro v f ks; kernel_rfl) n
theorem f126_d (α : Type) (n : Nat) : D3.OK Try.prog (tyOf Try.prog) ⟨36, []⟩ (f126_D α n) (bodyOf Try.f126) :=
  D3.OK.mk3 (f126_ents α n) (show loopsOf (bodyOf Try.f126) = [(4, (.loop ((bodyOf Try.f126).at [1, 1, 0, 1, 0, 0])))] by kernel_rfl) ⟨look_sound rfl (f126_L4_ok α n), trivial⟩
theorem f126_ok (n : Nat) : (f126_E n).Sound Try.prog :=
  fn_ok (tyOf_ok _) prog_fol (f126_D _ n) (show Try.prog.funcs[126]? = some Try.f126 by kernel_rfl) (by kernel_rfl) (show Try.f126.body = some (bodyOf Try.f126) by kernel_rfl) rfl rfl (Nat.le_of_ble_eq_true rfl) (f126_d _ n) (by intro x; kernel_rfl) 


abbrev f66_J3 : Tm := ⟨[(1, .k (.hp 1 0 0))], [(1, .var 33 true false [.d .bool, .d hIs, .d hIs])], [], []⟩
def f66 (n : Nat) (a0 : Bool × (List Int) × (List Int)) : Option Bool :=
  let J_5 := fun (_ : Unit) => (
    ob (f128 n a0.2.1 a0.2.2) fun r_3 =>
    ob (f127 n r_3 [1]) fun r_4 =>
    some (r_4 == 0))
  ob (f126 n a0.2.1) fun r_1 =>
  bif (!r_1) then
    some false
  else
    ob (f126 n a0.2.2) fun r_2 =>
    bif (!r_2) then
      some false
    else
      bif ((a0.2.2.length : Int) == 0) then
        some false
      else
        bif ((a0.2.1.length : Int) == 0) then
          bif a0.1 then
            some false
          else
            J_5 ()
        else
          J_5 ()
def f66_E (n : Nat) : Ent := ⟨66, [hR], [.bool], fun x => f66 n x⟩
def f66_D (α : Type) (n : Nat) : D3 α := { reg := [(1, ⟨0, [], [(2, { ent := some (f126_E n) }), (7, { ent := some (f126_E n) })]⟩), (3, ⟨0, [], [(4, { ent := some (f128_E n) }), (5, { sh := some hI }), (6, { ent := some (f127_E n) })]⟩)], join := [(3, f66_J3)], loop := [] }
theorem f66_ents (α : Type) (n : Nat) : AllS Try.prog (entsOf (f66_D α n).reg) := ⟨f126_ok n, f126_ok n, f128_ok n, f127_ok n, trivial⟩
theorem f66_d (α : Type) (n : Nat) : D3.OK Try.prog (tyOf Try.prog) ⟨37, []⟩ (f66_D α n) (bodyOf Try.f66) :=
  D3.OK.mk3 (f66_ents α n) (show loopsOf (bodyOf Try.f66) = [] by kernel_rfl) trivial
theorem f66_ok (n : Nat) : (f66_E n).Sound Try.prog :=
  fn_ok (tyOf_ok _) prog_fol (f66_D _ n) (show Try.prog.funcs[66]? = some Try.f66 by kernel_rfl) (by kernel_rfl) (show Try.f66.body = some (bodyOf Try.f66) by kernel_rfl) rfl rfl (Nat.le_of_ble_eq_true rfl) (f66_d _ n) (by intro x; kernel_rfl) 


def f76_L4B {α : Type} (n : Nat) (s0 : List (Bool × (List Int) × (List Int))) (s3 : Int) (f : (List (Bool × (List Int) × (List Int))) → Int → Option α) (k0 : Bool → Option α) (k1 : (List (Bool × (List Int) × (List Int))) → Option α) : Option α :=
  bif (decide (s3 < (s0.length : Int))) then
    gd (decide (0 ≤ s3) && decide (s3 < (s0.length : Int))) (
      let x_1 := s0.getD s3.toNat (false, [], [])
      ob (f66 n x_1) fun r_2 =>
      bif (!r_2) then
        k0 false
      else
        f s0 (W (s3 + 1)))
  else
    k1 s0
abbrev f76_L4H : Tm := ⟨[(0, .d hRs), (3, .d hI)], [], [], []⟩
abbrev f76_L4X0 : Tm := ⟨[(2, .d .bool)], [], [], []⟩
abbrev f76_L4X1 : Tm := ⟨[(0, .d hRs)], [], [], []⟩
abbrev f76_L4O : List (Exit × Tm) := [(.ret, f76_L4X0), (.exit 0, f76_L4X1)]
def f76_L4U {α : Type} (n : Nat) (v : f76_L4H.den) (f : f76_L4H.den → Option α) (ks : KS α f76_L4O) : Option α := f76_L4B n v.1.1 v.1.2.1 (fun s0 s3 => f ((s0, s3, ()), ())) (fun w0 => ks.1 ((w0, ()), ())) (fun w0 => ks.2.1 ((w0, ()), ()))
def f76_L4 {α : Type} (n m : Nat) (s0 : List (Bool × (List Int) × (List Int))) (s3 : Int) (k0 : Bool → Option α) (k1 : (List (Bool × (List Int) × (List Int))) → Option α) : Option α := rounds (f76_L4U n) m ((s0, s3, ()), ()) (fun w => k0 w.1.1, fun w => k1 w.1.1, ())
theorem f76_L4_0 {α : Type} (n : Nat) (s0 : List (Bool × (List Int) × (List Int))) (s3 : Int) (k0 : Bool → Option α) (k1 : (List (Bool × (List Int) × (List Int))) → Option α) : f76_L4 (α := α) n 0 s0 s3 k0 k1 = none := rfl
theorem f76_L4_s {α : Type} (n m : Nat) (s0 : List (Bool × (List Int) × (List Int))) (s3 : Int) (k0 : Bool → Option α) (k1 : (List (Bool × (List Int) × (List Int))) → Option α) : f76_L4 (α := α) n (m + 1) s0 s3 k0 k1 = f76_L4B n s0 s3 (fun s0 s3 => f76_L4 n m s0 s3 k0 k1) k0 k1 := rfl
def f76 (n : Nat) (a0 : List (Bool × (List Int) × (List Int))) : Option Bool :=
  bif (decide ((a0.length : Int) > 4096)) then
    some false
  else
    f76_L4 n n a0 0
      (fun z_3 => (
        some z_3))
      (fun z_4 => (
        ob (f65 n (z_4.length : Int) 1 4) fun r_5 =>
        some r_5))
def f76_E (n : Nat) : Ent := ⟨76, [hRs], [.bool], fun x => f76 n x⟩
def f76_D (α : Type) (n : Nat) : D3 α := { reg := [(6, ⟨0, [], [(4, { ent := some (f66_E n) })]⟩), (8, ⟨0, [], [(2, { ent := some (f65_E n) })]⟩)], join := [], loop := [(4, ⟨f76_L4H, f76_L4O, rounds (f76_L4U n) n⟩)] }
theorem f76_ents (α : Type) (n : Nat) : AllS Try.prog (entsOf (f76_D α n).reg) := ⟨f66_ok n, f65_ok n, trivial⟩
theorem f76_L4_d (α : Type) (n : Nat) : D3.OK Try.prog (tyOf Try.prog) ⟨22, []⟩ (f76_D α n) ((bodyOf Try.f76).at [1, 1, 0, 1, 0, 0]) :=
  D3.OK.mk3 (f76_ents α n) (show loopsOf ((bodyOf Try.f76).at [1, 1, 0, 1, 0, 0]) = [] by kernel_rfl) trivial
theorem f76_L4_ok (α : Type) (n : Nat) : LO.Sound (α := α) Try.prog ⟨22, []⟩ ⟨f76_L4H, f76_L4O, rounds (f76_L4U n) n⟩ (.loop ((bodyOf Try.f76).at [1, 1, 0, 1, 0, 0])) :=
  loop_ok (tyOf_ok _) prog_fol (f76_L4U n) (f76_L4_d α n) (by intro v f ks; kernel_rfl) n
theorem f76_d (α : Type) (n : Nat) : D3.OK Try.prog (tyOf Try.prog) ⟨22, []⟩ (f76_D α n) (bodyOf Try.f76) :=
  D3.OK.mk3 (f76_ents α n) (show loopsOf (bodyOf Try.f76) = [(4, (.loop ((bodyOf Try.f76).at [1, 1, 0, 1, 0, 0])))] by kernel_rfl) ⟨look_sound rfl (f76_L4_ok α n), trivial⟩
theorem f76_ok (n : Nat) : (f76_E n).Sound Try.prog :=
  fn_ok (tyOf_ok _) prog_fol (f76_D _ n) (show Try.prog.funcs[76]? = some Try.f76 by kernel_rfl) (by kernel_rfl) (show Try.f76.body = some (bodyOf Try.f76) by kernel_rfl) rfl rfl (Nat.le_of_ble_eq_true rfl) (f76_d _ n) (by intro x; kernel_rfl) 


abbrev f93_J2 : Tm := ⟨[(0, .d hRs), (1, .d hRs), (5, .d .bool)], [], [], []⟩
abbrev f93_J4 : Tm := ⟨[(0, .d hRs), (1, .d hRs), (14, .d .bool)], [], [], []⟩
def f93 (n : Nat) (a0 : List (Bool × (List Int) × (List Int))) (a1 : List (Bool × (List Int) × (List Int))) : Option Int :=
  let J_6 := fun (y_1 : Bool) => (
    bif y_1 then
      some 2
    else
      let J_5 := fun (y_4 : Bool) => (
        bif y_4 then
          some 1
        else
          bif ((a0.length : Int) != (a1.length : Int)) then
            some 8
          else
            some 0)
      ob (f76 n a0) fun r_2 =>
      bif (!r_2) then
        J_5 true
      else
        ob (f76 n a1) fun r_3 =>
        J_5 (!r_3))
  bif (decide ((a0.length : Int) > 4096)) then
    J_6 true
  else
    J_6 (decide ((a1.length : Int) > 4096))
def f93_E (n : Nat) : Ent := ⟨93, [hRs, hRs], [hI], fun x => f93 n x.1 x.2⟩
def f93_D (α : Type) (n : Nat) : D3 α := { reg := [(3, ⟨0, [], [(1, { ent := some (f76_E n) }), (5, { ent := some (f76_E n) })]⟩)], join := [(2, f93_J2), (4, f93_J4)], loop := [] }
theorem f93_ents (α : Type) (n : Nat) : AllS Try.prog (entsOf (f93_D α n).reg) := ⟨f76_ok n, f76_ok n, trivial⟩
theorem f93_d (α : Type) (n : Nat) : D3.OK Try.prog (tyOf Try.prog) ⟨29, []⟩ (f93_D α n) (bodyOf Try.f93) :=
  D3.OK.mk3 (f93_ents α n) (show loopsOf (bodyOf Try.f93) = [] by kernel_rfl) trivial
theorem f93_ok (n : Nat) : (f93_E n).Sound Try.prog :=
  fn_ok (tyOf_ok _) prog_fol (f93_D _ n) (show Try.prog.funcs[93]? = some Try.f93 by kernel_rfl) (by kernel_rfl) (show Try.f93.body = some (bodyOf Try.f93) by kernel_rfl) rfl rfl (Nat.le_of_ble_eq_true rfl) (f93_d _ n) (by intro x; kernel_rfl) 


def f94 (n : Nat) (a0 : Bool × (List Int) × (List Int)) (a1 : Bool × (List Int) × (List Int)) : Option (Bool × (List Int) × (List Int)) :=
  ob (f154 n a0.2.1 a1.2.1) fun r_1 =>
  ob (f154 n a0.2.2 a1.2.2) fun r_2 =>
  ob (f146 n (!(a0.1 == a1.1)) r_1 r_2) fun r_3 =>
  some r_3
def f94_E (n : Nat) : Ent := ⟨94, [hR, hR], [hR], fun x => f94 n x.1 x.2⟩
def f94_D (α : Type) (n : Nat) : D3 α := { reg := [(1, ⟨15, [], [(9, { ent := some (f154_E n) }), (14, { ent := some (f154_E n) }), (15, { ent := some (f146_E n) })]⟩)], join := [], loop := [] }
theorem f94_ents (α : Type) (n : Nat) : AllS Try.prog (entsOf (f94_D α n).reg) := ⟨f154_ok n, f154_ok n, f146_ok n, trivial⟩
theorem f94_d (α : Type) (n : Nat) : D3.OK Try.prog (tyOf Try.prog) ⟨21, []⟩ (f94_D α n) (bodyOf Try.f94) :=
  D3.OK.mk3 (f94_ents α n) (show loopsOf (bodyOf Try.f94) = [] by kernel_rfl) trivial
theorem f94_ok (n : Nat) : (f94_E n).Sound Try.prog :=
  fn_ok (tyOf_ok _) prog_fol (f94_D _ n) (show Try.prog.funcs[94]? = some Try.f94 by kernel_rfl) (by kernel_rfl) (show Try.f94.body = some (bodyOf Try.f94) by kernel_rfl) rfl rfl (Nat.le_of_ble_eq_true rfl) (f94_d _ n) (by intro x; kernel_rfl) 


def f188_L4B {α : Type} (n : Nat) (s0 : List Int) (s1 : List Int) (s6 : Int) (s7 : Int) (b8 : List Int) (f : (List Int) → (List Int) → Int → Int → (List Int) → Option α) (k0 : (List Int) → Option α) : Option α :=
  let J_5 := fun (_ : Unit) => (
    let J_4 := fun (y_1 : Int) => (
      let J_3 := fun (y_2 : Int) => (
        gd (decide ((b8.length + 1) * 8 ≤ 140737488355328)) (
          f s0 s1 (W (Int.tdiv y_2 10000)) (W (s7 + 1)) (b8 ++ [(Int.tmod y_2 10000)])))
      bif (decide (s7 < (s1.length : Int))) then
        gd (decide (0 ≤ s7) && decide (s7 < (s1.length : Int))) (
          J_3 (W (y_1 + (s1.getD s7.toNat 0))))
      else
        J_3 y_1)
    bif (decide (s7 < (s0.length : Int))) then
      gd (decide (0 ≤ s7) && decide (s7 < (s0.length : Int))) (
        J_4 (W (s6 + (s0.getD s7.toNat 0))))
    else
      J_4 s6)
  bif (decide (s7 < (s0.length : Int))) then
    J_5 ()
  else
    bif (decide (s7 < (s1.length : Int))) then
      J_5 ()
    else
      bif (decide (s6 > 0)) then
        J_5 ()
      else
        k0 b8
abbrev f188_L4H : Tm := ⟨[(0, .d hIs), (1, .d hIs), (5, .k (.hw 8)), (6, .d hI), (7, .d hI)], [(8, .arr 3 hI false)], [48], []⟩
abbrev f188_L4X0 : Tm := ⟨[(5, .k (.hw 8))], [(8, .arr 3 hI false)], [], []⟩
abbrev f188_L4O : List (Exit × Tm) := [(.exit 0, f188_L4X0)]
def f188_L4U {α : Type} (n : Nat) (v : f188_L4H.den) (f : f188_L4H.den → Option α) (ks : KS α f188_L4O) : Option α := f188_L4B n v.1.1 v.1.2.1 v.1.2.2.2.1 v.1.2.2.2.2.1 v.2.1 (fun s0 s1 s6 s7 b8 => f ((s0, s1, (), s6, s7, ()), (b8, ()))) (fun w0 => ks.1 (((), ()), (w0, ())))
def f188_L4 {α : Type} (n m : Nat) (s0 : List Int) (s1 : List Int) (s6 : Int) (s7 : Int) (b8 : List Int) (k0 : (List Int) → Option α) : Option α := rounds (f188_L4U n) m ((s0, s1, (), s6, s7, ()), (b8, ())) (fun w => k0 w.2.1, ())
theorem f188_L4_0 {α : Type} (n : Nat) (s0 : List Int) (s1 : List Int) (s6 : Int) (s7 : Int) (b8 : List Int) (k0 : (List Int) → Option α) : f188_L4 (α := α) n 0 s0 s1 s6 s7 b8 k0 = none := rfl
theorem f188_L4_s {α : Type} (n m : Nat) (s0 : List Int) (s1 : List Int) (s6 : Int) (s7 : Int) (b8 : List Int) (k0 : (List Int) → Option α) : f188_L4 (α := α) n (m + 1) s0 s1 s6 s7 b8 k0 = f188_L4B n s0 s1 s6 s7 b8 (fun s0 s1 s6 s7 b8 => f188_L4 n m s0 s1 s6 s7 b8 k0) k0 := rfl
abbrev f188_J6 : Tm := ⟨[(0, .d hIs), (1, .d hIs), (5, .k (.hw 8)), (6, .d hI), (7, .d hI)], [(8, .arr 3 hI false)], [], []⟩
abbrev f188_J8 : Tm := ⟨[(0, .d hIs), (1, .d hIs), (5, .k (.hw 8)), (6, .d hI), (7, .d hI)], [(8, .arr 3 hI false)], [], []⟩
abbrev f188_J10 : Tm := ⟨[(0, .d hIs), (1, .d hIs), (5, .k (.hw 8)), (6, .d hI), (7, .d hI)], [(8, .arr 3 hI false)], [], []⟩
def f188 (n : Nat) (a0 : List Int) (a1 : List Int) : Option (List Int) :=
  f188_L4 n n a0 a1 0 0 []
    (fun z_6 => (
      some z_6))
def f188_E (n : Nat) : Ent := ⟨188, [hIs, hIs], [hIs], fun x => f188 n x.1 x.2⟩
def f188_D (α : Type) (n : Nat) : D3 α := { reg := [(1, ⟨0, [], [(0, { sh := some hI })]⟩), (10, ⟨0, [], [(3, { sh := some hI })]⟩)], join := [(6, f188_J6), (8, f188_J8), (10, f188_J10)], loop := [(4, ⟨f188_L4H, f188_L4O, rounds (f188_L4U n) n⟩)] }
theorem f188_ents (α : Type) (n : Nat) : AllS Try.prog (entsOf (f188_D α n).reg) := trivial
theorem f188_L4_d (α : Type) (n : Nat) : D3.OK Try.prog (tyOf Try.prog) ⟨53, []⟩ (f188_D α n) ((bodyOf Try.f188).at [1, 1, 1, 0, 1, 0, 0]) :=
  D3.OK.mk3 (f188_ents α n) (show loopsOf ((bodyOf Try.f188).at [1, 1, 1, 0, 1, 0, 0]) = [] by kernel_rfl) trivial
theorem f188_L4_ok (α : Type) (n : Nat) : LO.Sound (α := α) Try.prog ⟨53, []⟩ ⟨f188_L4H, f188_L4O, rounds (f188_L4U n) n⟩ (.loop ((bodyOf Try.f188).at [1, 1, 1, 0, 1, 0, 0])) :=
  loop_ok (tyOf_ok _) prog_fol (f188_L4U n) (f188_L4_d α n) (by intro v f ks; kernel_rfl) n
theorem f188_d (α : Type) (n : Nat) : D3.OK Try.prog (tyOf Try.prog) ⟨53, []⟩ (f188_D α n) (bodyOf Try.f188) :=
  D3.OK.mk3 (f188_ents α n) (show loopsOf (bodyOf Try.f188) = [(4, (.loop ((bodyOf Try.f188).at [1, 1, 1, 0, 1, 0, 0])))] by kernel_rfl) ⟨look_sound rfl (f188_L4_ok α n), trivial⟩
theorem f188_ok (n : Nat) : (f188_E n).Sound Try.prog :=
  fn_ok (tyOf_ok _) prog_fol (f188_D _ n) (show Try.prog.funcs[188]? = some Try.f188 by kernel_rfl) (by kernel_rfl) (show Try.f188.body = some (bodyOf Try.f188) by kernel_rfl) rfl rfl (Nat.le_of_ble_eq_true rfl) (f188_d _ n) (by intro x; kernel_rfl) 


def f157 (n : Nat) (a0 : Bool × (List Int) × (List Int)) (a1 : Bool × (List Int) × (List Int)) : Option (Bool × (List Int) × (List Int)) :=
  ob (f154 n a0.2.1 a1.2.2) fun r_1 =>
  ob (f154 n a1.2.1 a0.2.2) fun r_2 =>
  ob (f154 n a0.2.2 a1.2.2) fun r_3 =>
  bif (a0.1 == a1.1) then
    ob (f188 n r_1 r_2) fun r_4 =>
    ob (f146 n a0.1 r_4 r_3) fun r_5 =>
    some r_5
  else
    ob (f127 n r_1 r_2) fun r_6 =>
    bif (decide (r_6 ≥ 0)) then
      ob (f189 n r_1 r_2) fun r_7 =>
      ob (f146 n a0.1 r_7 r_3) fun r_8 =>
      some r_8
    else
      ob (f189 n r_2 r_1) fun r_9 =>
      ob (f146 n a1.1 r_9 r_3) fun r_10 =>
      some r_10
def f157_E (n : Nat) : Ent := ⟨157, [hR, hR], [hR], fun x => f157 n x.1 x.2⟩
def f157_D (α : Type) (n : Nat) : D3 α := { reg := [(1, ⟨0, [], [(4, { ent := some (f154_E n) })]⟩), (2, ⟨0, [], [(4, { ent := some (f154_E n) })]⟩), (3, ⟨0, [], [(4, { ent := some (f154_E n) })]⟩), (5, ⟨6, [], [(4, { ent := some (f188_E n) }), (6, { ent := some (f146_E n) })]⟩), (6, ⟨0, [], [(2, { ent := some (f127_E n) })]⟩), (7, ⟨6, [], [(4, { ent := some (f189_E n) }), (6, { ent := some (f146_E n) })]⟩), (8, ⟨6, [], [(4, { ent := some (f189_E n) }), (6, { ent := some (f146_E n) })]⟩)], join := [], loop := [] }
theorem f157_ents (α : Type) (n : Nat) : AllS Try.prog (entsOf (f157_D α n).reg) := ⟨f154_ok n, f154_ok n, f154_ok n, f188_ok n, f146_ok n, f127_ok n, f189_ok n, f146_ok n, f189_ok n, f146_ok n, trivial⟩
theorem f157_d (α : Type) (n : Nat) : D3.OK Try.prog (tyOf Try.prog) ⟨53, []⟩ (f157_D α n) (bodyOf Try.f157) :=
  D3.OK.mk3 (f157_ents α n) (show loopsOf (bodyOf Try.f157) = [] by kernel_rfl) trivial
theorem f157_ok (n : Nat) : (f157_E n).Sound Try.prog :=
  fn_ok (tyOf_ok _) prog_fol (f157_D _ n) (show Try.prog.funcs[157]? = some Try.f157 by kernel_rfl) (by kernel_rfl) (show Try.f157.body = some (bodyOf Try.f157) by kernel_rfl) rfl rfl (Nat.le_of_ble_eq_true rfl) (f157_d _ n) (by intro x; kernel_rfl) 


def f99_L3B {α : Type} (n : Nat) (s1 : List (Bool × (List Int) × (List Int))) (s2 : List (Bool × (List Int) × (List Int))) (s8 : Int) (c3_0 : Bool) (c3_1 : List Int) (c3_2 : List Int) (b9 : List (Bool × (List Int) × (List Int))) (f : (List (Bool × (List Int) × (List Int))) → (List (Bool × (List Int) × (List Int))) → Int → Bool → (List Int) → (List Int) → (List (Bool × (List Int) × (List Int))) → Option α) (k0 : (List (Bool × (List Int) × (List Int))) → Option α) : Option α :=
  bif (decide (s8 < (s1.length : Int))) then
    gd (decide (0 ≤ s8) && decide (s8 < (s1.length : Int))) (
      let x_1 := s1.getD s8.toNat (false, [], [])
      ob (f94 n (c3_0, c3_1, c3_2) x_1) fun r_2 =>
      gd (decide (0 ≤ s8) && decide (s8 < (s2.length : Int))) (
        let x_3 := s2.getD s8.toNat (false, [], [])
        ob (f157 n r_2 x_3) fun r_4 =>
        gd (decide ((b9.length + 1) * 56 ≤ 140737488355328)) (
          f s1 s2 (W (s8 + 1)) c3_0 c3_1 c3_2 (b9 ++ [r_4]))))
  else
    k0 b9
abbrev f99_L3H : Tm := ⟨[(1, .d hRs), (2, .d hRs), (3, .k (.hp 3 0 0)), (7, .k (.hw 9)), (8, .d hI)], [(3, .var 33 true false [.d .bool, .d hIs, .d hIs]), (9, .arr 33 hR false)], [28], []⟩
abbrev f99_L3X0 : Tm := ⟨[(7, .k (.hw 9))], [(9, .arr 33 hR false)], [3], []⟩
abbrev f99_L3O : List (Exit × Tm) := [(.exit 0, f99_L3X0)]
def f99_L3U {α : Type} (n : Nat) (v : f99_L3H.den) (f : f99_L3H.den → Option α) (ks : KS α f99_L3O) : Option α := f99_L3B n v.1.1 v.1.2.1 v.1.2.2.2.2.1 v.2.1.1 v.2.1.2.1 v.2.1.2.2.1 v.2.2.1 (fun s1 s2 s8 c3_0 c3_1 c3_2 b9 => f ((s1, s2, (), (), s8, ()), ((c3_0, c3_1, c3_2, ()), b9, ()))) (fun w0 => ks.1 (((), ()), (w0, ())))
def f99_L3 {α : Type} (n m : Nat) (s1 : List (Bool × (List Int) × (List Int))) (s2 : List (Bool × (List Int) × (List Int))) (s8 : Int) (c3_0 : Bool) (c3_1 : List Int) (c3_2 : List Int) (b9 : List (Bool × (List Int) × (List Int))) (k0 : (List (Bool × (List Int) × (List Int))) → Option α) : Option α := rounds (f99_L3U n) m ((s1, s2, (), (), s8, ()), ((c3_0, c3_1, c3_2, ()), b9, ())) (fun w => k0 w.2.1, ())
theorem f99_L3_0 {α : Type} (n : Nat) (s1 : List (Bool × (List Int) × (List Int))) (s2 : List (Bool × (List Int) × (List Int))) (s8 : Int) (c3_0 : Bool) (c3_1 : List Int) (c3_2 : List Int) (b9 : List (Bool × (List Int) × (List Int))) (k0 : (List (Bool × (List Int) × (List Int))) → Option α) : f99_L3 (α := α) n 0 s1 s2 s8 c3_0 c3_1 c3_2 b9 k0 = none := rfl
theorem f99_L3_s {α : Type} (n m : Nat) (s1 : List (Bool × (List Int) × (List Int))) (s2 : List (Bool × (List Int) × (List Int))) (s8 : Int) (c3_0 : Bool) (c3_1 : List Int) (c3_2 : List Int) (b9 : List (Bool × (List Int) × (List Int))) (k0 : (List (Bool × (List Int) × (List Int))) → Option α) : f99_L3 (α := α) n (m + 1) s1 s2 s8 c3_0 c3_1 c3_2 b9 k0 = f99_L3B n s1 s2 s8 c3_0 c3_1 c3_2 b9 (fun s1 s2 s8 c3_0 c3_1 c3_2 b9 => f99_L3 n m s1 s2 s8 c3_0 c3_1 c3_2 b9 k0) k0 := rfl
abbrev f99_G5 : Tm := ⟨[(1, .d hRs), (2, .d hRs), (3, .k (.hp 3 0 0)), (7, .k (.hw 9)), (8, .d hI)], [(3, .var 33 true false [.d .bool, .d hIs, .d hIs]), (9, .arr 33 hR false)], [], []⟩
def f99 (n : Nat) (a0 : Bool × (List Int) × (List Int)) (a1 : List (Bool × (List Int) × (List Int))) (a2 : List (Bool × (List Int) × (List Int))) : Option (List (Bool × (List Int) × (List Int))) :=
  f99_L3 n n a1 a2 0 a0.1 a0.2.1 a0.2.2 []
    (fun z_5 => (
      some z_5))
def f99_E (n : Nat) : Ent := ⟨99, [hR, hRs, hRs], [hRs], fun x => f99 n x.1 x.2.1 x.2.2⟩
def f99_D (α : Type) (n : Nat) : D3 α := { reg := [(1, ⟨0, [], [(0, { sh := some hR })]⟩), (5, ⟨0, [], [(6, { ent := some (f94_E n) }), (11, { ent := some (f157_E n) }), (12, { sh := some hR })]⟩)], join := [], loop := [(3, ⟨f99_L3H, f99_L3O, rounds (f99_L3U n) n⟩)], any := [(5, f99_G5)] }
set_option maxHeartbeats 8000000 in
theorem f99_A5 (n : Nat) : FamAll (tyOf Try.prog) ⟨31, []⟩ [(6, { ent := some (f94_E n) }), (11, { ent := some (f157_E n) }), (12, { sh := some hR })] f99_G5 (regOps ((bodyOf Try.f99).at [1, 1, 0, 1, 0, 0, 1, 0, 0])) := by
  refine ⟨by kernel_rfl, fun w q hq => ?_⟩
  have e : WT [(6, { ent := some (f94_E n) }), (11, { ent := some (f157_E n) }), (12, { sh := some hR })] (swapIdx (regOps ((bodyOf Try.f99).at [1, 1, 0, 1, 0, 0, 1, 0, 0])).toList) q = (∃ (y0 : HL (f94_E n).rs) (q0 : List (Nat × RV)), q = (6, .sv (resSV (f94_E n).rs y0)) :: q0 ∧ ∃ (y1 : HL (f157_E n).rs) (q1 : List (Nat × RV)), q0 = (11, .sv (resSV (f157_E n).rs y1)) :: q1 ∧ q1 = []) := by kernel_rfl
  rw [e] at hq
  obtain ⟨y0, q0, rfl, y1, q1, rfl, rfl⟩ := hq
  exact FamEq.mk (by kernel_rfl)
theorem f99_ents (α : Type) (n : Nat) : AllS Try.prog (entsOf (f99_D α n).reg) := ⟨f94_ok n, f157_ok n, trivial⟩
theorem f99_L3_d (α : Type) (n : Nat) : D3.OK Try.prog (tyOf Try.prog) ⟨31, []⟩ (f99_D α n) ((bodyOf Try.f99).at [1, 1, 0, 1, 0, 0]) :=
  D3.OK.mk3a (f99_ents α n) (show loopsOf ((bodyOf Try.f99).at [1, 1, 0, 1, 0, 0]) = [] by kernel_rfl) trivial (show anysOf ((bodyOf Try.f99).at [1, 1, 0, 1, 0, 0]) = [(5, regOps ((bodyOf Try.f99).at [1, 1, 0, 1, 0, 0, 1, 0, 0]))] by kernel_rfl) ⟨fun X h => (by cases h; exact f99_A5 n), trivial⟩
theorem f99_L3_ok (α : Type) (n : Nat) : LO.Sound (α := α) Try.prog ⟨31, []⟩ ⟨f99_L3H, f99_L3O, rounds (f99_L3U n) n⟩ (.loop ((bodyOf Try.f99).at [1, 1, 0, 1, 0, 0])) :=
  loop_ok (tyOf_ok _) prog_fol (f99_L3U n) (f99_L3_d α n) (by intro v f ks; kernel_rfl) n
theorem f99_d (α : Type) (n : Nat) : D3.OK Try.prog (tyOf Try.prog) ⟨31, []⟩ (f99_D α n) (bodyOf Try.f99) :=
  D3.OK.mk3a (f99_ents α n) (show loopsOf (bodyOf Try.f99) = [(3, (.loop ((bodyOf Try.f99).at [1, 1, 0, 1, 0, 0])))] by kernel_rfl) ⟨look_sound rfl (f99_L3_ok α n), trivial⟩ (show anysOf (bodyOf Try.f99) = [] by kernel_rfl) trivial
theorem f99_ok (n : Nat) : (f99_E n).Sound Try.prog :=
  fn_ok (tyOf_ok _) prog_fol (f99_D _ n) (show Try.prog.funcs[99]? = some Try.f99 by kernel_rfl) (by kernel_rfl) (show Try.f99.body = some (bodyOf Try.f99) by kernel_rfl) rfl rfl (Nat.le_of_ble_eq_true rfl) (f99_d _ n) (by intro x; kernel_rfl) 


def f139 (n : Nat) (a0 : Bool × (List Int) × (List Int)) : Option Bool :=
  bif (decide ((a0.2.1.length : Int) ≤ 40)) then
    some (decide ((a0.2.2.length : Int) ≤ 40))
  else
    some false
def f139_E (n : Nat) : Ent := ⟨139, [hR], [.bool], fun x => f139 n x⟩
def f139_D (α : Type) (n : Nat) : D3 α := { reg := [], join := [], loop := [] }
theorem f139_ents (α : Type) (n : Nat) : AllS Try.prog (entsOf (f139_D α n).reg) := trivial
theorem f139_d (α : Type) (n : Nat) : D3.OK Try.prog (tyOf Try.prog) ⟨13, []⟩ (f139_D α n) (bodyOf Try.f139) :=
  D3.OK.mk3 (f139_ents α n) (show loopsOf (bodyOf Try.f139) = [] by kernel_rfl) trivial
theorem f139_ok (n : Nat) : (f139_E n).Sound Try.prog :=
  fn_ok (tyOf_ok _) prog_fol (f139_D _ n) (show Try.prog.funcs[139]? = some Try.f139 by kernel_rfl) (by kernel_rfl) (show Try.f139.body = some (bodyOf Try.f139) by kernel_rfl) rfl rfl (Nat.le_of_ble_eq_true rfl) (f139_d _ n) (by intro x; kernel_rfl) 


abbrev f70_G1 : Tm := ⟨[(1, .k (.hp 1 0 0)), (2, .k (.hp 2 0 0))], [(1, .var 33 true false [.d .bool, .d hIs, .d hIs]), (2, .var 33 true false [.d .bool, .d .nil, .d .nil])], [], []⟩
def f70 (n : Nat) (a0 : Bool × (List Int) × (List Int)) : Option (Bool × (List Int) × (List Int)) :=
  gd (decide ((0 + a0.2.1.length) * 8 ≤ 140737488355328)) (
    gd (decide ((0 + a0.2.2.length) * 8 ≤ 140737488355328)) (
      some a0))
def f70_E (n : Nat) : Ent := ⟨70, [hR], [hR], fun x => f70 n x⟩
def f70_D (α : Type) (n : Nat) : D3 α := { reg := [(1, ⟨0, [], [(2, { sh := some hI }), (6, { sh := some hI })]⟩)], join := [], loop := [], any := [(1, f70_G1)] }
set_option maxHeartbeats 8000000 in
theorem f70_A1 (n : Nat) : FamAll (tyOf Try.prog) ⟨14, []⟩ [(2, { sh := some hI }), (6, { sh := some hI })] f70_G1 (regOps ((bodyOf Try.f70).at [1, 0])) := by
  refine ⟨by kernel_rfl, fun w q hq => ?_⟩
  have e : WT [(2, { sh := some hI }), (6, { sh := some hI })] (swapIdx (regOps ((bodyOf Try.f70).at [1, 0])).toList) q = (q = []) := by kernel_rfl
  rw [e] at hq
  obtain rfl := hq
  exact FamEq.mk (by kernel_rfl)
theorem f70_ents (α : Type) (n : Nat) : AllS Try.prog (entsOf (f70_D α n).reg) := trivial
theorem f70_d (α : Type) (n : Nat) : D3.OK Try.prog (tyOf Try.prog) ⟨14, []⟩ (f70_D α n) (bodyOf Try.f70) :=
  D3.OK.mk3a (f70_ents α n) (show loopsOf (bodyOf Try.f70) = [] by kernel_rfl) trivial (show anysOf (bodyOf Try.f70) = [(1, regOps ((bodyOf Try.f70).at [1, 0]))] by kernel_rfl) ⟨fun X h => (by cases h; exact f70_A1 n), trivial⟩
theorem f70_ok (n : Nat) : (f70_E n).Sound Try.prog :=
  fn_ok (tyOf_ok _) prog_fol (f70_D _ n) (show Try.prog.funcs[70]? = some Try.f70 by kernel_rfl) (by kernel_rfl) (show Try.f70.body = some (bodyOf Try.f70) by kernel_rfl) rfl rfl (Nat.le_of_ble_eq_true rfl) (f70_d _ n) (by intro x; kernel_rfl) 


def f79_L3B {α : Type} (n : Nat) (s0 : List (Bool × (List Int) × (List Int))) (s5 : Int) (b6 : List (Bool × (List Int) × (List Int))) (f : (List (Bool × (List Int) × (List Int))) → Int → (List (Bool × (List Int) × (List Int))) → Option α) (k0 : Int → (List (Bool × (List Int) × (List Int))) → Option α) (k1 : (List (Bool × (List Int) × (List Int))) → Option α) : Option α :=
  bif (decide (s5 < (s0.length : Int))) then
    gd (decide (0 ≤ s5) && decide (s5 < (s0.length : Int))) (
      let x_1 := s0.getD s5.toNat (false, [], [])
      ob (f139 n x_1) fun r_2 =>
      bif (!r_2) then
        k0 7 []
      else
        gd (decide (0 ≤ s5) && decide (s5 < (s0.length : Int))) (
          let x_3 := s0.getD s5.toNat (false, [], [])
          ob (f70 n x_3) fun r_4 =>
          gd (decide ((b6.length + 1) * 56 ≤ 140737488355328)) (
            f s0 (W (s5 + 1)) (b6 ++ [r_4]))))
  else
    k1 b6
abbrev f79_L3H : Tm := ⟨[(0, .d hRs), (4, .k (.hw 6)), (5, .d hI)], [(6, .arr 33 hR false)], [26], []⟩
abbrev f79_L3X0 : Tm := ⟨[(2, .k (.hw 19)), (3, .d hI)], [(19, .arr 33 hR false)], [6], []⟩
abbrev f79_L3X1 : Tm := ⟨[(4, .k (.hw 6))], [(6, .arr 33 hR false)], [], []⟩
abbrev f79_L3O : List (Exit × Tm) := [(.ret, f79_L3X0), (.exit 0, f79_L3X1)]
def f79_L3U {α : Type} (n : Nat) (v : f79_L3H.den) (f : f79_L3H.den → Option α) (ks : KS α f79_L3O) : Option α := f79_L3B n v.1.1 v.1.2.2.1 v.2.1 (fun s0 s5 b6 => f ((s0, (), s5, ()), (b6, ()))) (fun w0 w1 => ks.1 (((), w0, ()), (w1, ()))) (fun w0 => ks.2.1 (((), ()), (w0, ())))
def f79_L3 {α : Type} (n m : Nat) (s0 : List (Bool × (List Int) × (List Int))) (s5 : Int) (b6 : List (Bool × (List Int) × (List Int))) (k0 : Int → (List (Bool × (List Int) × (List Int))) → Option α) (k1 : (List (Bool × (List Int) × (List Int))) → Option α) : Option α := rounds (f79_L3U n) m ((s0, (), s5, ()), (b6, ())) (fun w => k0 w.1.2.1 w.2.1, fun w => k1 w.2.1, ())
theorem f79_L3_0 {α : Type} (n : Nat) (s0 : List (Bool × (List Int) × (List Int))) (s5 : Int) (b6 : List (Bool × (List Int) × (List Int))) (k0 : Int → (List (Bool × (List Int) × (List Int))) → Option α) (k1 : (List (Bool × (List Int) × (List Int))) → Option α) : f79_L3 (α := α) n 0 s0 s5 b6 k0 k1 = none := rfl
theorem f79_L3_s {α : Type} (n m : Nat) (s0 : List (Bool × (List Int) × (List Int))) (s5 : Int) (b6 : List (Bool × (List Int) × (List Int))) (k0 : Int → (List (Bool × (List Int) × (List Int))) → Option α) (k1 : (List (Bool × (List Int) × (List Int))) → Option α) : f79_L3 (α := α) n (m + 1) s0 s5 b6 k0 k1 = f79_L3B n s0 s5 b6 (fun s0 s5 b6 => f79_L3 n m s0 s5 b6 k0 k1) k0 k1 := rfl
def f79 (n : Nat) (a0 : List (Bool × (List Int) × (List Int))) : Option ((List (Bool × (List Int) × (List Int))) × Int) :=
  f79_L3 n n a0 0 []
    (fun z_5 z_6 => (
      some (z_6, z_5)))
    (fun z_7 => (
      some (z_7, 0)))
def f79_E (n : Nat) : Ent := ⟨79, [hRs], [hRs, hI], fun x => f79 n x⟩
def f79_D (α : Type) (n : Nat) : D3 α := { reg := [(1, ⟨0, [], [(0, { sh := some hR })]⟩), (5, ⟨0, [], [(4, { ent := some (f139_E n) })]⟩), (6, ⟨0, [], [(0, { sh := some hR })]⟩), (7, ⟨0, [], [(5, { ent := some (f70_E n) }), (6, { sh := some hR })]⟩)], join := [], loop := [(3, ⟨f79_L3H, f79_L3O, rounds (f79_L3U n) n⟩)] }
theorem f79_ents (α : Type) (n : Nat) : AllS Try.prog (entsOf (f79_D α n).reg) := ⟨f139_ok n, f70_ok n, trivial⟩
theorem f79_L3_d (α : Type) (n : Nat) : D3.OK Try.prog (tyOf Try.prog) ⟨29, []⟩ (f79_D α n) ((bodyOf Try.f79).at [1, 1, 0, 1, 0, 0]) :=
  D3.OK.mk3 (f79_ents α n) (show loopsOf ((bodyOf Try.f79).at [1, 1, 0, 1, 0, 0]) = [] by kernel_rfl) trivial
theorem f79_L3_ok (α : Type) (n : Nat) : LO.Sound (α := α) Try.prog ⟨29, []⟩ ⟨f79_L3H, f79_L3O, rounds (f79_L3U n) n⟩ (.loop ((bodyOf Try.f79).at [1, 1, 0, 1, 0, 0])) :=
  loop_ok (tyOf_ok _) prog_fol (f79_L3U n) (f79_L3_d α n) (by intro v f ks; kernel_rfl) n
theorem f79_d (α : Type) (n : Nat) : D3.OK Try.prog (tyOf Try.prog) ⟨29, []⟩ (f79_D α n) (bodyOf Try.f79) :=
  D3.OK.mk3 (f79_ents α n) (show loopsOf (bodyOf Try.f79) = [(3, (.loop ((bodyOf Try.f79).at [1, 1, 0, 1, 0, 0])))] by kernel_rfl) ⟨look_sound rfl (f79_L3_ok α n), trivial⟩
theorem f79_ok (n : Nat) : (f79_E n).Sound Try.prog :=
  fn_ok (tyOf_ok _) prog_fol (f79_D _ n) (show Try.prog.funcs[79]? = some Try.f79 by kernel_rfl) (by kernel_rfl) (show Try.f79.body = some (bodyOf Try.f79) by kernel_rfl) rfl rfl (Nat.le_of_ble_eq_true rfl) (f79_d _ n) (by intro x; kernel_rfl) 


def f45 (n : Nat) (a0 : Bool × (List Int) × (List Int)) (a1 : List (Bool × (List Int) × (List Int))) (a2 : List (Bool × (List Int) × (List Int))) : Option ((List (Bool × (List Int) × (List Int))) × Int) :=
  bif (decide ((a1.length : Int) > 4096)) then
    some ([], 2)
  else
    bif (decide ((a2.length : Int) > 4096)) then
      some ([], 2)
    else
      ob (f93 n a1 a2) fun r_1 =>
      bif (r_1 != 0) then
        some ([], r_1)
      else
        ob (f66 n a0) fun r_2 =>
        bif (!r_2) then
          some ([], 1)
        else
          ob (f99 n a0 a1 a2) fun r_3 =>
          ob (f79 n r_3) fun r_4 =>
          some (r_4.1, r_4.2)
def f45_E (n : Nat) : Ent := ⟨45, [hR, hRs, hRs], [hRs, hI], fun x => f45 n x.1 x.2.1 x.2.2⟩
def f45_D (α : Type) (n : Nat) : D3 α := { reg := [(2, ⟨0, [], [(0, { sh := some hR })]⟩), (3, ⟨0, [], [(2, { ent := some (f93_E n) })]⟩), (5, ⟨0, [], [(0, { sh := some hR })]⟩), (6, ⟨0, [], [(1, { ent := some (f66_E n) })]⟩), (7, ⟨0, [], [(0, { sh := some hR })]⟩), (8, ⟨0, [], [(3, { ent := some (f99_E n) }), (4, { ent := some (f79_E n) })]⟩)], join := [], loop := [] }
theorem f45_ents (α : Type) (n : Nat) : AllS Try.prog (entsOf (f45_D α n).reg) := ⟨f93_ok n, f66_ok n, f99_ok n, f79_ok n, trivial⟩
theorem f45_d (α : Type) (n : Nat) : D3.OK Try.prog (tyOf Try.prog) ⟨36, []⟩ (f45_D α n) (bodyOf Try.f45) :=
  D3.OK.mk3 (f45_ents α n) (show loopsOf (bodyOf Try.f45) = [] by kernel_rfl) trivial
theorem f45_ok (n : Nat) : (f45_E n).Sound Try.prog :=
  fn_ok (tyOf_ok _) prog_fol (f45_D _ n) (show Try.prog.funcs[45]? = some Try.f45 by kernel_rfl) (by kernel_rfl) (show Try.f45.body = some (bodyOf Try.f45) by kernel_rfl) rfl rfl (Nat.le_of_ble_eq_true rfl) (f45_d _ n) (by intro x; kernel_rfl) 


def f112 (n : Nat) (a0 : Int) : Option (Bool × (List Int) × (List Int)) :=
  bif (decide (a0 < 0)) then
    ob (f163 n (W (0 - a0))) fun r_1 =>
    ob (f138 n) fun r_2 =>
    some (true, r_1, r_2)
  else
    ob (f163 n a0) fun r_3 =>
    ob (f138 n) fun r_4 =>
    some (false, r_3, r_4)
def f112_E (n : Nat) : Ent := ⟨112, [hI], [hR], fun x => f112 n x⟩
def f112_D (α : Type) (n : Nat) : D3 α := { reg := [(2, ⟨0, [], [(2, { ent := some (f163_E n) }), (3, { ent := some (f138_E n) })]⟩), (3, ⟨0, [], [(1, { ent := some (f163_E n) }), (2, { ent := some (f138_E n) })]⟩)], join := [], loop := [] }
theorem f112_ents (α : Type) (n : Nat) : AllS Try.prog (entsOf (f112_D α n).reg) := ⟨f163_ok n, f138_ok n, f163_ok n, f138_ok n, trivial⟩
theorem f112_d (α : Type) (n : Nat) : D3.OK Try.prog (tyOf Try.prog) ⟨14, []⟩ (f112_D α n) (bodyOf Try.f112) :=
  D3.OK.mk3 (f112_ents α n) (show loopsOf (bodyOf Try.f112) = [] by kernel_rfl) trivial
theorem f112_ok (n : Nat) : (f112_E n).Sound Try.prog :=
  fn_ok (tyOf_ok _) prog_fol (f112_D _ n) (show Try.prog.funcs[112]? = some Try.f112 by kernel_rfl) (by kernel_rfl) (show Try.f112.body = some (bodyOf Try.f112) by kernel_rfl) rfl rfl (Nat.le_of_ble_eq_true rfl) (f112_d _ n) (by intro x; kernel_rfl) 


def f103_L3B {α : Type} (n : Nat) (s1 : List (Bool × (List Int) × (List Int))) (s9 : List (Bool × (List Int) × (List Int))) (s10 : Int) (s11 : Int) (c4_0 : Bool) (c5_0 : Bool) (c5_1 : List Int) (c5_2 : List Int) (f : (List (Bool × (List Int) × (List Int))) → (List (Bool × (List Int) × (List Int))) → Int → Int → Bool → Bool → (List Int) → (List Int) → Option α) (k0 : Bool → Bool → (List Int) → (List Int) → Option α) : Option α :=
  bif (decide (s11 < s10)) then
    gd (decide (0 ≤ s11) && decide (s11 < (s9.length : Int))) (
      let x_2 := s9.getD s11.toNat (false, [], [])
      gd (decide (0 ≤ s11) && decide (s11 < (s1.length : Int))) (
        let x_3 := s1.getD s11.toNat (false, [], [])
        ob (f91 n x_2 x_3) fun r_4 =>
        ob (f90 n (c5_0, c5_1, c5_2) r_4) fun r_5 =>
        f s1 s9 s10 (W (s11 + 1)) c4_0 r_5.1 r_5.2.1 r_5.2.2))
  else
    k0 c4_0 c5_0 c5_1 c5_2
abbrev f103_L3H : Tm := ⟨[(1, .d hRs), (4, .k (.hp 4 0 0)), (5, .k (.hp 5 0 0)), (9, .d hRs), (10, .d hI), (11, .d hI)], [(4, .var 33 true false [.d .bool, .d .nil, .d .nil]), (5, .var 33 true false [.d .bool, .d hIs, .d hIs])], [7], []⟩
abbrev f103_L3X0 : Tm := ⟨[(4, .k (.hp 4 0 0)), (5, .k (.hp 5 0 0))], [(4, .var 33 true false [.d .bool, .d .nil, .d .nil]), (5, .var 33 true false [.d .bool, .d hIs, .d hIs])], [], []⟩
abbrev f103_L3O : List (Exit × Tm) := [(.exit 0, f103_L3X0)]
def f103_L3U {α : Type} (n : Nat) (v : f103_L3H.den) (f : f103_L3H.den → Option α) (ks : KS α f103_L3O) : Option α := f103_L3B n v.1.1 v.1.2.2.2.1 v.1.2.2.2.2.1 v.1.2.2.2.2.2.1 v.2.1.1 v.2.2.1.1 v.2.2.1.2.1 v.2.2.1.2.2.1 (fun s1 s9 s10 s11 c4_0 c5_0 c5_1 c5_2 => f ((s1, (), (), s9, s10, s11, ()), ((c4_0, (), (), ()), (c5_0, c5_1, c5_2, ()), ()))) (fun w0 w1 w2 w3 => ks.1 (((), (), ()), ((w0, (), (), ()), (w1, w2, w3, ()), ())))
def f103_L3 {α : Type} (n m : Nat) (s1 : List (Bool × (List Int) × (List Int))) (s9 : List (Bool × (List Int) × (List Int))) (s10 : Int) (s11 : Int) (c4_0 : Bool) (c5_0 : Bool) (c5_1 : List Int) (c5_2 : List Int) (k0 : Bool → Bool → (List Int) → (List Int) → Option α) : Option α := rounds (f103_L3U n) m ((s1, (), (), s9, s10, s11, ()), ((c4_0, (), (), ()), (c5_0, c5_1, c5_2, ()), ())) (fun w => k0 w.2.1.1 w.2.2.1.1 w.2.2.1.2.1 w.2.2.1.2.2.1, ())
theorem f103_L3_0 {α : Type} (n : Nat) (s1 : List (Bool × (List Int) × (List Int))) (s9 : List (Bool × (List Int) × (List Int))) (s10 : Int) (s11 : Int) (c4_0 : Bool) (c5_0 : Bool) (c5_1 : List Int) (c5_2 : List Int) (k0 : Bool → Bool → (List Int) → (List Int) → Option α) : f103_L3 (α := α) n 0 s1 s9 s10 s11 c4_0 c5_0 c5_1 c5_2 k0 = none := rfl
theorem f103_L3_s {α : Type} (n m : Nat) (s1 : List (Bool × (List Int) × (List Int))) (s9 : List (Bool × (List Int) × (List Int))) (s10 : Int) (s11 : Int) (c4_0 : Bool) (c5_0 : Bool) (c5_1 : List Int) (c5_2 : List Int) (k0 : Bool → Bool → (List Int) → (List Int) → Option α) : f103_L3 (α := α) n (m + 1) s1 s9 s10 s11 c4_0 c5_0 c5_1 c5_2 k0 = f103_L3B n s1 s9 s10 s11 c4_0 c5_0 c5_1 c5_2 (fun s1 s9 s10 s11 c4_0 c5_0 c5_1 c5_2 => f103_L3 n m s1 s9 s10 s11 c4_0 c5_0 c5_1 c5_2 k0) k0 := rfl
def f103 (n : Nat) (a0 : List (Bool × (List Int) × (List Int))) (a1 : List (Bool × (List Int) × (List Int))) : Option (Bool × (List Int) × (List Int)) :=
  ob (f112 n 0) fun r_1 =>
  f103_L3 n n a1 a0 (a0.length : Int) 0 false r_1.1 r_1.2.1 r_1.2.2
    (fun z_6 z_7 z_8 z_9 => (
      some (z_7, z_8, z_9)))
def f103_E (n : Nat) : Ent := ⟨103, [hRs, hRs], [hR], fun x => f103 n x.1 x.2⟩
def f103_D (α : Type) (n : Nat) : D3 α := { reg := [(1, ⟨0, [], [(0, { ent := some (f112_E n) })]⟩), (5, ⟨7, [], [(6, { ent := some (f91_E n) }), (7, { ent := some (f90_E n) })]⟩)], join := [], loop := [(3, ⟨f103_L3H, f103_L3O, rounds (f103_L3U n) n⟩)] }
theorem f103_ents (α : Type) (n : Nat) : AllS Try.prog (entsOf (f103_D α n).reg) := ⟨f112_ok n, f91_ok n, f90_ok n, trivial⟩
theorem f103_L3_d (α : Type) (n : Nat) : D3.OK Try.prog (tyOf Try.prog) ⟨26, []⟩ (f103_D α n) ((bodyOf Try.f103).at [1, 1, 0, 1, 0, 0]) :=
  D3.OK.mk3 (f103_ents α n) (show loopsOf ((bodyOf Try.f103).at [1, 1, 0, 1, 0, 0]) = [] by kernel_rfl) trivial
theorem f103_L3_ok (α : Type) (n : Nat) : LO.Sound (α := α) Try.prog ⟨26, []⟩ ⟨f103_L3H, f103_L3O, rounds (f103_L3U n) n⟩ (.loop ((bodyOf Try.f103).at [1, 1, 0, 1, 0, 0])) :=
  loop_ok (tyOf_ok _) prog_fol (f103_L3U n) (f103_L3_d α n) (by intro v f ks; kernel_rfl) n
theorem f103_d (α : Type) (n : Nat) : D3.OK Try.prog (tyOf Try.prog) ⟨26, []⟩ (f103_D α n) (bodyOf Try.f103) :=
  D3.OK.mk3 (f103_ents α n) (show loopsOf (bodyOf Try.f103) = [(3, (.loop ((bodyOf Try.f103).at [1, 1, 0, 1, 0, 0])))] by kernel_rfl) ⟨look_sound rfl (f103_L3_ok α n), trivial⟩
theorem f103_ok (n : Nat) : (f103_E n).Sound Try.prog :=
  fn_ok (tyOf_ok _) prog_fol (f103_D _ n) (show Try.prog.funcs[103]? = some Try.f103 by kernel_rfl) (by kernel_rfl) (show Try.f103.body = some (bodyOf Try.f103) by kernel_rfl) rfl rfl (Nat.le_of_ble_eq_true rfl) (f103_d _ n) (by intro x; kernel_rfl) 


def f109 (n : Nat) (a0 : Bool × (List Int) × (List Int)) : Option ((Bool × (List Int) × (List Int)) × Int) :=
  ob (f156 n a0) fun r_1 =>
  bif (!r_1) then
    some ((false, [], []), 7)
  else
    some (a0, 0)
def f109_E (n : Nat) : Ent := ⟨109, [hR], [hR, hI], fun x => f109 n x⟩
def f109_D (α : Type) (n : Nat) : D3 α := { reg := [(1, ⟨0, [], [(1, { ent := some (f156_E n) })]⟩)], join := [], loop := [] }
theorem f109_ents (α : Type) (n : Nat) : AllS Try.prog (entsOf (f109_D α n).reg) := ⟨f156_ok n, trivial⟩
theorem f109_d (α : Type) (n : Nat) : D3.OK Try.prog (tyOf Try.prog) ⟨9, []⟩ (f109_D α n) (bodyOf Try.f109) :=
  D3.OK.mk3 (f109_ents α n) (show loopsOf (bodyOf Try.f109) = [] by kernel_rfl) trivial
theorem f109_ok (n : Nat) : (f109_E n).Sound Try.prog :=
  fn_ok (tyOf_ok _) prog_fol (f109_D _ n) (show Try.prog.funcs[109]? = some Try.f109 by kernel_rfl) (by kernel_rfl) (show Try.f109.body = some (bodyOf Try.f109) by kernel_rfl) rfl rfl (Nat.le_of_ble_eq_true rfl) (f109_d _ n) (by intro x; kernel_rfl) 


def f53 (n : Nat) (a0 : List (Bool × (List Int) × (List Int))) (a1 : List (Bool × (List Int) × (List Int))) : Option ((Bool × (List Int) × (List Int)) × Int) :=
  ob (f77 n [a0, a1]) fun r_1 =>
  bif (r_1 != 0) then
    some ((false, [], []), r_1)
  else
    ob (f103 n a0 a1) fun r_2 =>
    ob (f109 n r_2) fun r_3 =>
    some (r_3.1, r_3.2)
def f53_E (n : Nat) : Ent := ⟨53, [hRs, hRs], [hR, hI], fun x => f53 n x.1 x.2⟩
def f53_D (α : Type) (n : Nat) : D3 α := { reg := [(1, ⟨0, [], [(2, { sh := some hRs }), (3, { ent := some (f77_E n) })]⟩), (4, ⟨0, [], [(2, { ent := some (f103_E n) }), (3, { ent := some (f109_E n) })]⟩)], join := [], loop := [] }
theorem f53_ents (α : Type) (n : Nat) : AllS Try.prog (entsOf (f53_D α n).reg) := ⟨f77_ok n, f103_ok n, f109_ok n, trivial⟩
theorem f53_d (α : Type) (n : Nat) : D3.OK Try.prog (tyOf Try.prog) ⟨21, []⟩ (f53_D α n) (bodyOf Try.f53) :=
  D3.OK.mk3 (f53_ents α n) (show loopsOf (bodyOf Try.f53) = [] by kernel_rfl) trivial
theorem f53_ok (n : Nat) : (f53_E n).Sound Try.prog :=
  fn_ok (tyOf_ok _) prog_fol (f53_D _ n) (show Try.prog.funcs[53]? = some Try.f53 by kernel_rfl) (by kernel_rfl) (show Try.f53.body = some (bodyOf Try.f53) by kernel_rfl) rfl rfl (Nat.le_of_ble_eq_true rfl) (f53_d _ n) (by intro x; kernel_rfl) 


def f89 (n : Nat) (a0 : Bool × (List Int) × (List Int)) (a1 : Bool × (List Int) × (List Int)) (a2 : Unit) : Option ((Bool × (List Int) × (List Int)) × Int) :=
  ob (f68 n [a0, a1]) fun r_1 =>
  bif (r_1 != 0) then
    some ((false, [], []), r_1)
  else
    ob (f91 n a0 a1) fun r_2 =>
    ob (f109 n r_2) fun r_3 =>
    some (r_3.1, r_3.2)
def f89_E (n : Nat) : Ent := ⟨89, [hR, hR, (.fn 91)], [hR, hI], fun x => f89 n x.1 x.2.1 x.2.2⟩
def f89_D (α : Type) (n : Nat) : D3 α := { reg := [(1, ⟨0, [], [(2, { sh := some hR }), (3, { ent := some (f68_E n) })]⟩), (4, ⟨0, [], [(3, { ent := some (f91_E n) }), (4, { ent := some (f109_E n) })]⟩)], join := [], loop := [] }
theorem f89_ents (α : Type) (n : Nat) : AllS Try.prog (entsOf (f89_D α n).reg) := ⟨f68_ok n, f91_ok n, f109_ok n, trivial⟩
theorem f89_d (α : Type) (n : Nat) : D3.OK Try.prog (tyOf Try.prog) ⟨24, []⟩ (f89_D α n) (bodyOf Try.f89) :=
  D3.OK.mk3 (f89_ents α n) (show loopsOf (bodyOf Try.f89) = [] by kernel_rfl) trivial
theorem f89_ok (n : Nat) : (f89_E n).Sound Try.prog :=
  fn_ok (tyOf_ok _) prog_fol (f89_D _ n) (show Try.prog.funcs[89]? = some Try.f89 by kernel_rfl) (by kernel_rfl) (show Try.f89.body = some (bodyOf Try.f89) by kernel_rfl) rfl rfl (Nat.le_of_ble_eq_true rfl) (f89_d _ n) (by intro x; kernel_rfl) 


def f41 (n : Nat) (a0 : Bool × (List Int) × (List Int)) (a1 : Bool × (List Int) × (List Int)) : Option ((Bool × (List Int) × (List Int)) × Int) :=
  ob (f89 n a0 a1 ()) fun r_1 =>
  some (r_1.1, r_1.2)
def f41_E (n : Nat) : Ent := ⟨41, [hR, hR], [hR, hI], fun x => f41 n x.1 x.2⟩
def f41_D (α : Type) (n : Nat) : D3 α := { reg := [(1, ⟨0, [], [(2, { ent := some (f89_E n) })]⟩)], join := [], loop := [] }
theorem f41_ents (α : Type) (n : Nat) : AllS Try.prog (entsOf (f41_D α n).reg) := ⟨f89_ok n, trivial⟩
theorem f41_d (α : Type) (n : Nat) : D3.OK Try.prog (tyOf Try.prog) ⟨11, []⟩ (f41_D α n) (bodyOf Try.f41) :=
  D3.OK.mk3 (f41_ents α n) (show loopsOf (bodyOf Try.f41) = [] by kernel_rfl) trivial
theorem f41_ok (n : Nat) : (f41_E n).Sound Try.prog :=
  fn_ok (tyOf_ok _) prog_fol (f41_D _ n) (show Try.prog.funcs[41]? = some Try.f41 by kernel_rfl) (by kernel_rfl) (show Try.f41.body = some (bodyOf Try.f41) by kernel_rfl) rfl rfl (Nat.le_of_ble_eq_true rfl) (f41_d _ n) (by intro x; kernel_rfl) 


def f89b (n : Nat) (a0 : Bool × (List Int) × (List Int)) (a1 : Bool × (List Int) × (List Int)) (a2 : Unit) : Option ((Bool × (List Int) × (List Int)) × Int) :=
  ob (f68 n [a0, a1]) fun r_1 =>
  bif (r_1 != 0) then
    some ((false, [], []), r_1)
  else
    ob (f90 n a0 a1) fun r_2 =>
    ob (f109 n r_2) fun r_3 =>
    some (r_3.1, r_3.2)
def f89b_E (n : Nat) : Ent := ⟨89, [hR, hR, (.fn 90)], [hR, hI], fun x => f89b n x.1 x.2.1 x.2.2⟩
def f89b_D (α : Type) (n : Nat) : D3 α := { reg := [(1, ⟨0, [], [(2, { sh := some hR }), (3, { ent := some (f68_E n) })]⟩), (4, ⟨0, [], [(3, { ent := some (f90_E n) }), (4, { ent := some (f109_E n) })]⟩)], join := [], loop := [] }
theorem f89b_ents (α : Type) (n : Nat) : AllS Try.prog (entsOf (f89b_D α n).reg) := ⟨f68_ok n, f90_ok n, f109_ok n, trivial⟩
theorem f89b_d (α : Type) (n : Nat) : D3.OK Try.prog (tyOf Try.prog) ⟨24, []⟩ (f89b_D α n) (bodyOf Try.f89) :=
  D3.OK.mk3 (f89b_ents α n) (show loopsOf (bodyOf Try.f89) = [] by kernel_rfl) trivial
theorem f89b_ok (n : Nat) : (f89b_E n).Sound Try.prog :=
  fn_ok (tyOf_ok _) prog_fol (f89b_D _ n) (show Try.prog.funcs[89]? = some Try.f89 by kernel_rfl) (by kernel_rfl) (show Try.f89.body = some (bodyOf Try.f89) by kernel_rfl) rfl rfl (Nat.le_of_ble_eq_true rfl) (f89b_d _ n) (by intro x; kernel_rfl) 


def f40 (n : Nat) (a0 : Bool × (List Int) × (List Int)) (a1 : Bool × (List Int) × (List Int)) : Option ((Bool × (List Int) × (List Int)) × Int) :=
  ob (f89b n a0 a1 ()) fun r_1 =>
  some (r_1.1, r_1.2)
def f40_E (n : Nat) : Ent := ⟨40, [hR, hR], [hR, hI], fun x => f40 n x.1 x.2⟩
def f40_D (α : Type) (n : Nat) : D3 α := { reg := [(1, ⟨0, [], [(2, { ent := some (f89b_E n) })]⟩)], join := [], loop := [] }
theorem f40_ents (α : Type) (n : Nat) : AllS Try.prog (entsOf (f40_D α n).reg) := ⟨f89b_ok n, trivial⟩
theorem f40_d (α : Type) (n : Nat) : D3.OK Try.prog (tyOf Try.prog) ⟨11, []⟩ (f40_D α n) (bodyOf Try.f40) :=
  D3.OK.mk3 (f40_ents α n) (show loopsOf (bodyOf Try.f40) = [] by kernel_rfl) trivial
theorem f40_ok (n : Nat) : (f40_E n).Sound Try.prog :=
  fn_ok (tyOf_ok _) prog_fol (f40_D _ n) (show Try.prog.funcs[40]? = some Try.f40 by kernel_rfl) (by kernel_rfl) (show Try.f40.body = some (bodyOf Try.f40) by kernel_rfl) rfl rfl (Nat.le_of_ble_eq_true rfl) (f40_d _ n) (by intro x; kernel_rfl) 


def f54 (n : Nat) (a0 : List (Bool × (List Int) × (List Int))) : Option ((Bool × (List Int) × (List Int)) × Int) :=
  ob (f53 n a0 a0) fun r_1 =>
  some (r_1.1, r_1.2)
def f54_E (n : Nat) : Ent := ⟨54, [hRs], [hR, hI], fun x => f54 n x⟩
def f54_D (α : Type) (n : Nat) : D3 α := { reg := [(1, ⟨0, [], [(2, { ent := some (f53_E n) })]⟩)], join := [], loop := [] }
theorem f54_ents (α : Type) (n : Nat) : AllS Try.prog (entsOf (f54_D α n).reg) := ⟨f53_ok n, trivial⟩
theorem f54_d (α : Type) (n : Nat) : D3.OK Try.prog (tyOf Try.prog) ⟨9, []⟩ (f54_D α n) (bodyOf Try.f54) :=
  D3.OK.mk3 (f54_ents α n) (show loopsOf (bodyOf Try.f54) = [] by kernel_rfl) trivial
theorem f54_ok (n : Nat) : (f54_E n).Sound Try.prog :=
  fn_ok (tyOf_ok _) prog_fol (f54_D _ n) (show Try.prog.funcs[54]? = some Try.f54 by kernel_rfl) (by kernel_rfl) (show Try.f54.body = some (bodyOf Try.f54) by kernel_rfl) rfl rfl (Nat.le_of_ble_eq_true rfl) (f54_d _ n) (by intro x; kernel_rfl) 


def f98 (n : Nat) (a0 : Int) (a1 : Bool × (List Int) × (List Int)) (a2 : List (Bool × (List Int) × (List Int))) : Option (Bool × (List Int) × (List Int)) :=
  gd (decide (0 ≤ a0) && decide (a0 < (a2.length : Int))) (
    let x_1 := a2.getD a0.toNat (false, [], [])
    ob (f91 n a1 x_1) fun r_2 =>
    some r_2)
def f98_E (n : Nat) : Ent := ⟨98, [hI, (.ref hR), (.ref hRs)], [hR], fun x => f98 n x.1 x.2.1 x.2.2⟩
def f98_D (α : Type) (n : Nat) : D3 α := { reg := [(1, ⟨5, [], [(5, { ent := some (f91_E n) })]⟩)], join := [], loop := [] }
theorem f98_ents (α : Type) (n : Nat) : AllS Try.prog (entsOf (f98_D α n).reg) := ⟨f91_ok n, trivial⟩
theorem f98_d (α : Type) (n : Nat) : D3.OK Try.prog (tyOf Try.prog) ⟨11, []⟩ (f98_D α n) (bodyOf Try.f98) :=
  D3.OK.mk3 (f98_ents α n) (show loopsOf (bodyOf Try.f98) = [] by kernel_rfl) trivial
theorem f98_ok (n : Nat) : (f98_E n).Sound Try.prog :=
  fn_ok (tyOf_ok _) prog_fol (f98_D _ n) (show Try.prog.funcs[98]? = some Try.f98 by kernel_rfl) (by kernel_rfl) (show Try.f98.body = some (bodyOf Try.f98) by kernel_rfl) rfl rfl (Nat.le_of_ble_eq_true rfl) (f98_d _ n) (by intro x; kernel_rfl) 


def f97b_L3B {α : Type} (n : Nat) (s1 : (Bool × (List Int) × (List Int)) × (List (Bool × (List Int) × (List Int)))) (s8 : Int) (s9 : Int) (b7 : List (Bool × (List Int) × (List Int))) (f : ((Bool × (List Int) × (List Int)) × (List (Bool × (List Int) × (List Int)))) → Int → Int → (List (Bool × (List Int) × (List Int))) → Option α) (k0 : (List (Bool × (List Int) × (List Int))) → Option α) : Option α :=
  bif (decide (s9 < s8)) then
    ob (f98 n s9 s1.1 s1.2) fun r_1 =>
    ob (f72 n r_1) fun r_2 =>
    gd (decide ((b7.length + 1) * 56 ≤ 140737488355328)) (
      f s1 s8 (W (s9 + 1)) (b7 ++ [r_2]))
  else
    k0 b7
abbrev f97b_L3H : Tm := ⟨[(1, .d (.clo 98 (.pair (.ref hR) (.ref hRs)))), (5, .k (.hw 7)), (8, .d hI), (9, .d hI)], [(7, .arr 33 hR false)], [17], []⟩
abbrev f97b_L3X0 : Tm := ⟨[(5, .k (.hw 7))], [(7, .arr 33 hR false)], [], []⟩
abbrev f97b_L3O : List (Exit × Tm) := [(.exit 0, f97b_L3X0)]
def f97b_L3U {α : Type} (n : Nat) (v : f97b_L3H.den) (f : f97b_L3H.den → Option α) (ks : KS α f97b_L3O) : Option α := f97b_L3B n v.1.1 v.1.2.2.1 v.1.2.2.2.1 v.2.1 (fun s1 s8 s9 b7 => f ((s1, (), s8, s9, ()), (b7, ()))) (fun w0 => ks.1 (((), ()), (w0, ())))
def f97b_L3 {α : Type} (n m : Nat) (s1 : (Bool × (List Int) × (List Int)) × (List (Bool × (List Int) × (List Int)))) (s8 : Int) (s9 : Int) (b7 : List (Bool × (List Int) × (List Int))) (k0 : (List (Bool × (List Int) × (List Int))) → Option α) : Option α := rounds (f97b_L3U n) m ((s1, (), s8, s9, ()), (b7, ())) (fun w => k0 w.2.1, ())
theorem f97b_L3_0 {α : Type} (n : Nat) (s1 : (Bool × (List Int) × (List Int)) × (List (Bool × (List Int) × (List Int)))) (s8 : Int) (s9 : Int) (b7 : List (Bool × (List Int) × (List Int))) (k0 : (List (Bool × (List Int) × (List Int))) → Option α) : f97b_L3 (α := α) n 0 s1 s8 s9 b7 k0 = none := rfl
theorem f97b_L3_s {α : Type} (n m : Nat) (s1 : (Bool × (List Int) × (List Int)) × (List (Bool × (List Int) × (List Int)))) (s8 : Int) (s9 : Int) (b7 : List (Bool × (List Int) × (List Int))) (k0 : (List (Bool × (List Int) × (List Int))) → Option α) : f97b_L3 (α := α) n (m + 1) s1 s8 s9 b7 k0 = f97b_L3B n s1 s8 s9 b7 (fun s1 s8 s9 b7 => f97b_L3 n m s1 s8 s9 b7 k0) k0 := rfl
def f97b (n : Nat) (a0 : Int) (a1 : (Bool × (List Int) × (List Int)) × (List (Bool × (List Int) × (List Int)))) : Option (List (Bool × (List Int) × (List Int))) :=
  f97b_L3 n n a1 a0 0 []
    (fun z_3 => (
      some z_3))
def f97b_E (n : Nat) : Ent := ⟨97, [hI, (.clo 98 (.pair (.ref hR) (.ref hRs)))], [hRs], fun x => f97b n x.1 x.2⟩
def f97b_D (α : Type) (n : Nat) : D3 α := { reg := [(1, ⟨0, [], [(0, { sh := some hR })]⟩), (5, ⟨0, [], [(3, { ent := some (f98_E n) }), (4, { ent := some (f72_E n) }), (5, { sh := some hR })]⟩)], join := [], loop := [(3, ⟨f97b_L3H, f97b_L3O, rounds (f97b_L3U n) n⟩)] }
theorem f97b_ents (α : Type) (n : Nat) : AllS Try.prog (entsOf (f97b_D α n).reg) := ⟨f98_ok n, f72_ok n, trivial⟩
theorem f97b_L3_d (α : Type) (n : Nat) : D3.OK Try.prog (tyOf Try.prog) ⟨21, []⟩ (f97b_D α n) ((bodyOf Try.f97).at [1, 1, 0, 1, 0, 0]) :=
  D3.OK.mk3 (f97b_ents α n) (show loopsOf ((bodyOf Try.f97).at [1, 1, 0, 1, 0, 0]) = [] by kernel_rfl) trivial
theorem f97b_L3_ok (α : Type) (n : Nat) : LO.Sound (α := α) Try.prog ⟨21, []⟩ ⟨f97b_L3H, f97b_L3O, rounds (f97b_L3U n) n⟩ (.loop ((bodyOf Try.f97).at [1, 1, 0, 1, 0, 0])) :=
  loop_ok (tyOf_ok _) prog_fol (f97b_L3U n) (f97b_L3_d α n) (by intro v f ks; kernel_rfl) n
theorem f97b_d (α : Type) (n : Nat) : D3.OK Try.prog (tyOf Try.prog) ⟨21, []⟩ (f97b_D α n) (bodyOf Try.f97) :=
  D3.OK.mk3 (f97b_ents α n) (show loopsOf (bodyOf Try.f97) = [(3, (.loop ((bodyOf Try.f97).at [1, 1, 0, 1, 0, 0])))] by kernel_rfl) ⟨look_sound rfl (f97b_L3_ok α n), trivial⟩
theorem f97b_ok (n : Nat) : (f97b_E n).Sound Try.prog :=
  fn_ok (tyOf_ok _) prog_fol (f97b_D _ n) (show Try.prog.funcs[97]? = some Try.f97 by kernel_rfl) (by kernel_rfl) (show Try.f97.body = some (bodyOf Try.f97) by kernel_rfl) rfl rfl (Nat.le_of_ble_eq_true rfl) (f97b_d _ n) (by intro x; kernel_rfl) 


abbrev f44_G1 : Tm := ⟨[(2, .k (.hp 2 0 0)), (3, .k (.hp 3 0 0))], [(2, .var 33 true false [.d .bool, .d hIs, .d hIs]), (3, .var 25 true false [.d hRs])], [], []⟩
def f44 (n : Nat) (a0 : Bool × (List Int) × (List Int)) (a1 : List (Bool × (List Int) × (List Int))) : Option ((List (Bool × (List Int) × (List Int))) × Int) :=
  ob (f77 n [a1]) fun r_1 =>
  ob (f68 n [a0]) fun r_2 =>
  ob (f95 n [r_1, r_2]) fun r_3 =>
  bif (r_3 != 0) then
    some ([], r_3)
  else
    ob (f97b n (a1.length : Int) (a0, a1)) fun r_4 =>
    ob (f96 n r_4) fun r_5 =>
    some (r_5.1, r_5.2)
def f44_E (n : Nat) : Ent := ⟨44, [hR, hRs], [hRs, hI], fun x => f44 n x.1 x.2⟩
def f44_D (α : Type) (n : Nat) : D3 α := { reg := [(1, ⟨0, [], [(1, { sh := some hRs }), (2, { ent := some (f77_E n) }), (4, { sh := some hR }), (5, { ent := some (f68_E n) }), (6, { sh := some hI }), (7, { ent := some (f95_E n) })]⟩), (4, ⟨0, [], [(2, { sh := some (.pair (.ref hR) (.ref hRs)) }), (3, { ent := some (f97b_E n) }), (4, { ent := some (f96_E n) })]⟩)], join := [], loop := [], any := [(1, f44_G1)] }
set_option maxHeartbeats 8000000 in
theorem f44_A1 (n : Nat) : FamAll (tyOf Try.prog) ⟨25, []⟩ [(1, { sh := some hRs }), (2, { ent := some (f77_E n) }), (4, { sh := some hR }), (5, { ent := some (f68_E n) }), (6, { sh := some hI }), (7, { ent := some (f95_E n) })] f44_G1 (regOps ((bodyOf Try.f44).at [1, 0, 0])) := by
  refine ⟨by kernel_rfl, fun w q hq => ?_⟩
  have e : WT [(1, { sh := some hRs }), (2, { ent := some (f77_E n) }), (4, { sh := some hR }), (5, { ent := some (f68_E n) }), (6, { sh := some hI }), (7, { ent := some (f95_E n) })] (swapIdx (regOps ((bodyOf Try.f44).at [1, 0, 0])).toList) q = (∃ (y0 : HL (f77_E n).rs) (q0 : List (Nat × RV)), q = (2, .sv (resSV (f77_E n).rs y0)) :: q0 ∧ ∃ (y1 : HL (f68_E n).rs) (q1 : List (Nat × RV)), q0 = (5, .sv (resSV (f68_E n).rs y1)) :: q1 ∧ ∃ (y2 : HL (f95_E n).rs) (q2 : List (Nat × RV)), q1 = (7, .sv (resSV (f95_E n).rs y2)) :: q2 ∧ q2 = []) := by kernel_rfl
  rw [e] at hq
  obtain ⟨y0, q0, rfl, y1, q1, rfl, y2, q2, rfl, rfl⟩ := hq
  exact FamEq.mk (by kernel_rfl)
theorem f44_ents (α : Type) (n : Nat) : AllS Try.prog (entsOf (f44_D α n).reg) := ⟨f77_ok n, f68_ok n, f95_ok n, f97b_ok n, f96_ok n, trivial⟩
theorem f44_d (α : Type) (n : Nat) : D3.OK Try.prog (tyOf Try.prog) ⟨25, []⟩ (f44_D α n) (bodyOf Try.f44) :=
  D3.OK.mk3a (f44_ents α n) (show loopsOf (bodyOf Try.f44) = [] by kernel_rfl) trivial (show anysOf (bodyOf Try.f44) = [(1, regOps ((bodyOf Try.f44).at [1, 0, 0]))] by kernel_rfl) ⟨fun X h => (by cases h; exact f44_A1 n), trivial⟩
theorem f44_ok (n : Nat) : (f44_E n).Sound Try.prog :=
  fn_ok (tyOf_ok _) prog_fol (f44_D _ n) (show Try.prog.funcs[44]? = some Try.f44 by kernel_rfl) (by kernel_rfl) (show Try.f44.body = some (bodyOf Try.f44) by kernel_rfl) rfl rfl (Nat.le_of_ble_eq_true rfl) (f44_d _ n) (by intro x; kernel_rfl) 


def f92_L4B {α : Type} (n : Nat) (s0 : List Int) (s1 : List Int) (s5 : Int) (f : (List Int) → (List Int) → Int → Option α) (k0 : Bool → Option α) (k1 : Unit → Option α) : Option α :=
  bif (decide (s5 < (s0.length : Int))) then
    gd (decide (0 ≤ s5) && decide (s5 < (s0.length : Int))) (
      gd (decide (0 ≤ s5) && decide (s5 < (s1.length : Int))) (
        bif ((s0.getD s5.toNat 0) != (s1.getD s5.toNat 0)) then
          k0 false
        else
          f s0 s1 (W (s5 + 1))))
  else
    k1 ()
abbrev f92_L4H : Tm := ⟨[(0, .d hIs), (1, .d hIs), (5, .d hI)], [], [], []⟩
abbrev f92_L4X0 : Tm := ⟨[(4, .d .bool)], [], [], []⟩
abbrev f92_L4X1 : Tm := ⟨[], [], [], []⟩
abbrev f92_L4O : List (Exit × Tm) := [(.ret, f92_L4X0), (.exit 0, f92_L4X1)]
def f92_L4U {α : Type} (n : Nat) (v : f92_L4H.den) (f : f92_L4H.den → Option α) (ks : KS α f92_L4O) : Option α := f92_L4B n v.1.1 v.1.2.1 v.1.2.2.1 (fun s0 s1 s5 => f ((s0, s1, s5, ()), ())) (fun w0 => ks.1 ((w0, ()), ())) (fun _ => ks.2.1 ((), ()))
def f92_L4 {α : Type} (n m : Nat) (s0 : List Int) (s1 : List Int) (s5 : Int) (k0 : Bool → Option α) (k1 : Unit → Option α) : Option α := rounds (f92_L4U n) m ((s0, s1, s5, ()), ()) (fun w => k0 w.1.1, fun w => k1 (), ())
theorem f92_L4_0 {α : Type} (n : Nat) (s0 : List Int) (s1 : List Int) (s5 : Int) (k0 : Bool → Option α) (k1 : Unit → Option α) : f92_L4 (α := α) n 0 s0 s1 s5 k0 k1 = none := rfl
theorem f92_L4_s {α : Type} (n m : Nat) (s0 : List Int) (s1 : List Int) (s5 : Int) (k0 : Bool → Option α) (k1 : Unit → Option α) : f92_L4 (α := α) n (m + 1) s0 s1 s5 k0 k1 = f92_L4B n s0 s1 s5 (fun s0 s1 s5 => f92_L4 n m s0 s1 s5 k0 k1) k0 k1 := rfl
def f92 (n : Nat) (a0 : List Int) (a1 : List Int) : Option Bool :=
  bif ((a0.length : Int) != (a1.length : Int)) then
    some false
  else
    f92_L4 n n a0 a1 0
      (fun z_1 => (
        some z_1))
      (fun (_ : Unit) => (
        some true))
def f92_E (n : Nat) : Ent := ⟨92, [hIs, hIs], [.bool], fun x => f92 n x.1 x.2⟩
def f92_D (α : Type) (n : Nat) : D3 α := { reg := [(6, ⟨8, [], []⟩)], join := [], loop := [(4, ⟨f92_L4H, f92_L4O, rounds (f92_L4U n) n⟩)] }
theorem f92_ents (α : Type) (n : Nat) : AllS Try.prog (entsOf (f92_D α n).reg) := trivial
theorem f92_L4_d (α : Type) (n : Nat) : D3.OK Try.prog (tyOf Try.prog) ⟨26, []⟩ (f92_D α n) ((bodyOf Try.f92).at [1, 1, 0, 1, 0, 0]) :=
  D3.OK.mk3 (f92_ents α n) (show loopsOf ((bodyOf Try.f92).at [1, 1, 0, 1, 0, 0]) = [] by kernel_rfl) trivial
theorem f92_L4_ok (α : Type) (n : Nat) : LO.Sound (α := α) Try.prog ⟨26, []⟩ ⟨f92_L4H, f92_L4O, rounds (f92_L4U n) n⟩ (.loop ((bodyOf Try.f92).at [1, 1, 0, 1, 0, 0])) :=
  loop_ok (tyOf_ok _) prog_fol (f92_L4U n) (f92_L4_d α n) (by intro v f ks; kernel_rfl) n
theorem f92_d (α : Type) (n : Nat) : D3.OK Try.prog (tyOf Try.prog) ⟨26, []⟩ (f92_D α n) (bodyOf Try.f92) :=
  D3.OK.mk3 (f92_ents α n) (show loopsOf (bodyOf Try.f92) = [(4, (.loop ((bodyOf Try.f92).at [1, 1, 0, 1, 0, 0])))] by kernel_rfl) ⟨look_sound rfl (f92_L4_ok α n), trivial⟩
theorem f92_ok (n : Nat) : (f92_E n).Sound Try.prog :=
  fn_ok (tyOf_ok _) prog_fol (f92_D _ n) (show Try.prog.funcs[92]? = some Try.f92 by kernel_rfl) (by kernel_rfl) (show Try.f92.body = some (bodyOf Try.f92) by kernel_rfl) rfl rfl (Nat.le_of_ble_eq_true rfl) (f92_d _ n) (by intro x; kernel_rfl) 


def f42 (n : Nat) (a0 : Bool × (List Int) × (List Int)) (a1 : Bool × (List Int) × (List Int)) : Option Bool :=
  bif (a0.1 == a1.1) then
    ob (f92 n a0.2.1 a1.2.1) fun r_1 =>
    bif r_1 then
      ob (f92 n a0.2.2 a1.2.2) fun r_2 =>
      some r_2
    else
      some false
  else
    some false
def f42_E (n : Nat) : Ent := ⟨42, [hR, hR], [.bool], fun x => f42 n x.1 x.2⟩
def f42_D (α : Type) (n : Nat) : D3 α := { reg := [(1, ⟨0, [], [(10, { ent := some (f92_E n) }), (17, { ent := some (f92_E n) })]⟩)], join := [], loop := [] }
theorem f42_ents (α : Type) (n : Nat) : AllS Try.prog (entsOf (f42_D α n).reg) := ⟨f92_ok n, f92_ok n, trivial⟩
theorem f42_d (α : Type) (n : Nat) : D3.OK Try.prog (tyOf Try.prog) ⟨24, []⟩ (f42_D α n) (bodyOf Try.f42) :=
  D3.OK.mk3 (f42_ents α n) (show loopsOf (bodyOf Try.f42) = [] by kernel_rfl) trivial
theorem f42_ok (n : Nat) : (f42_E n).Sound Try.prog :=
  fn_ok (tyOf_ok _) prog_fol (f42_D _ n) (show Try.prog.funcs[42]? = some Try.f42 by kernel_rfl) (by kernel_rfl) (show Try.f42.body = some (bodyOf Try.f42) by kernel_rfl) rfl rfl (Nat.le_of_ble_eq_true rfl) (f42_d _ n) (by intro x; kernel_rfl) 


def f55_L4B {α : Type} (n : Nat) (s0 : List (Bool × (List Int) × (List Int))) (s1 : List (Bool × (List Int) × (List Int))) (s5 : Int) (f : (List (Bool × (List Int) × (List Int))) → (List (Bool × (List Int) × (List Int))) → Int → Option α) (k0 : Bool → Option α) (k1 : Unit → Option α) : Option α :=
  bif (decide (s5 < (s0.length : Int))) then
    gd (decide (0 ≤ s5) && decide (s5 < (s0.length : Int))) (
      let x_1 := s0.getD s5.toNat (false, [], [])
      gd (decide (0 ≤ s5) && decide (s5 < (s1.length : Int))) (
        let x_2 := s1.getD s5.toNat (false, [], [])
        ob (f42 n x_1 x_2) fun r_3 =>
        bif (!r_3) then
          k0 false
        else
          f s0 s1 (W (s5 + 1))))
  else
    k1 ()
abbrev f55_L4H : Tm := ⟨[(0, .d hRs), (1, .d hRs), (5, .d hI)], [], [], []⟩
abbrev f55_L4X0 : Tm := ⟨[(4, .d .bool)], [], [], []⟩
abbrev f55_L4X1 : Tm := ⟨[], [], [], []⟩
abbrev f55_L4O : List (Exit × Tm) := [(.ret, f55_L4X0), (.exit 0, f55_L4X1)]
def f55_L4U {α : Type} (n : Nat) (v : f55_L4H.den) (f : f55_L4H.den → Option α) (ks : KS α f55_L4O) : Option α := f55_L4B n v.1.1 v.1.2.1 v.1.2.2.1 (fun s0 s1 s5 => f ((s0, s1, s5, ()), ())) (fun w0 => ks.1 ((w0, ()), ())) (fun _ => ks.2.1 ((), ()))
def f55_L4 {α : Type} (n m : Nat) (s0 : List (Bool × (List Int) × (List Int))) (s1 : List (Bool × (List Int) × (List Int))) (s5 : Int) (k0 : Bool → Option α) (k1 : Unit → Option α) : Option α := rounds (f55_L4U n) m ((s0, s1, s5, ()), ()) (fun w => k0 w.1.1, fun w => k1 (), ())
theorem f55_L4_0 {α : Type} (n : Nat) (s0 : List (Bool × (List Int) × (List Int))) (s1 : List (Bool × (List Int) × (List Int))) (s5 : Int) (k0 : Bool → Option α) (k1 : Unit → Option α) : f55_L4 (α := α) n 0 s0 s1 s5 k0 k1 = none := rfl
theorem f55_L4_s {α : Type} (n m : Nat) (s0 : List (Bool × (List Int) × (List Int))) (s1 : List (Bool × (List Int) × (List Int))) (s5 : Int) (k0 : Bool → Option α) (k1 : Unit → Option α) : f55_L4 (α := α) n (m + 1) s0 s1 s5 k0 k1 = f55_L4B n s0 s1 s5 (fun s0 s1 s5 => f55_L4 n m s0 s1 s5 k0 k1) k0 k1 := rfl
def f55 (n : Nat) (a0 : List (Bool × (List Int) × (List Int))) (a1 : List (Bool × (List Int) × (List Int))) : Option Bool :=
  bif ((a0.length : Int) != (a1.length : Int)) then
    some false
  else
    f55_L4 n n a0 a1 0
      (fun z_4 => (
        some z_4))
      (fun (_ : Unit) => (
        some true))
def f55_E (n : Nat) : Ent := ⟨55, [hRs, hRs], [.bool], fun x => f55 n x.1 x.2⟩
def f55_D (α : Type) (n : Nat) : D3 α := { reg := [(6, ⟨8, [], [(8, { ent := some (f42_E n) })]⟩)], join := [], loop := [(4, ⟨f55_L4H, f55_L4O, rounds (f55_L4U n) n⟩)] }
theorem f55_ents (α : Type) (n : Nat) : AllS Try.prog (entsOf (f55_D α n).reg) := ⟨f42_ok n, trivial⟩
theorem f55_L4_d (α : Type) (n : Nat) : D3.OK Try.prog (tyOf Try.prog) ⟨27, []⟩ (f55_D α n) ((bodyOf Try.f55).at [1, 1, 0, 1, 0, 0]) :=
  D3.OK.mk3 (f55_ents α n) (show loopsOf ((bodyOf Try.f55).at [1, 1, 0, 1, 0, 0]) = [] by kernel_rfl) trivial
theorem f55_L4_ok (α : Type) (n : Nat) : LO.Sound (α := α) Try.prog ⟨27, []⟩ ⟨f55_L4H, f55_L4O, rounds (f55_L4U n) n⟩ (.loop ((bodyOf Try.f55).at [1, 1, 0, 1, 0, 0])) :=
  loop_ok (tyOf_ok _) prog_fol (f55_L4U n) (f55_L4_d α n) (by intro v f ks; kernel_rfl) n
theorem f55_d (α : Type) (n : Nat) : D3.OK Try.prog (tyOf Try.prog) ⟨27, []⟩ (f55_D α n) (bodyOf Try.f55) :=
  D3.OK.mk3 (f55_ents α n) (show loopsOf (bodyOf Try.f55) = [(4, (.loop ((bodyOf Try.f55).at [1, 1, 0, 1, 0, 0])))] by kernel_rfl) ⟨look_sound rfl (f55_L4_ok α n), trivial⟩
theorem f55_ok (n : Nat) : (f55_E n).Sound Try.prog :=
  fn_ok (tyOf_ok _) prog_fol (f55_D _ n) (show Try.prog.funcs[55]? = some Try.f55 by kernel_rfl) (by kernel_rfl) (show Try.f55.body = some (bodyOf Try.f55) by kernel_rfl) rfl rfl (Nat.le_of_ble_eq_true rfl) (f55_d _ n) (by intro x; kernel_rfl) 


def f148 (n : Nat) (a0 : Bool × (List Int) × (List Int)) : Option Int :=
  ob (f135 n a0) fun r_1 =>
  bif r_1 then
    some 0
  else
    bif a0.1 then
      some (-1)
    else
      some 1
def f148_E (n : Nat) : Ent := ⟨148, [hR], [hI], fun x => f148 n x⟩
def f148_D (α : Type) (n : Nat) : D3 α := { reg := [(1, ⟨0, [], [(1, { ent := some (f135_E n) })]⟩)], join := [], loop := [] }
theorem f148_ents (α : Type) (n : Nat) : AllS Try.prog (entsOf (f148_D α n).reg) := ⟨f135_ok n, trivial⟩
theorem f148_d (α : Type) (n : Nat) : D3.OK Try.prog (tyOf Try.prog) ⟨9, []⟩ (f148_D α n) (bodyOf Try.f148) :=
  D3.OK.mk3 (f148_ents α n) (show loopsOf (bodyOf Try.f148) = [] by kernel_rfl) trivial
theorem f148_ok (n : Nat) : (f148_E n).Sound Try.prog :=
  fn_ok (tyOf_ok _) prog_fol (f148_D _ n) (show Try.prog.funcs[148]? = some Try.f148 by kernel_rfl) (by kernel_rfl) (show Try.f148.body = some (bodyOf Try.f148) by kernel_rfl) rfl rfl (Nat.le_of_ble_eq_true rfl) (f148_d _ n) (by intro x; kernel_rfl) 


def f86 (n : Nat) (a0 : Bool × (List Int) × (List Int)) (a1 : Bool × (List Int) × (List Int)) : Option Int :=
  ob (f148 n a0) fun r_1 =>
  ob (f148 n a1) fun r_2 =>
  bif (r_1 != r_2) then
    ob (f148 n a0) fun r_3 =>
    ob (f148 n a1) fun r_4 =>
    some (W (r_3 - r_4))
  else
    ob (f149 n a0.2.1 a1.2.2) fun r_5 =>
    ob (f149 n a1.2.1 a0.2.2) fun r_6 =>
    ob (f136 n r_5 r_6) fun r_7 =>
    bif a0.1 then
      some (W (0 - r_7))
    else
      some r_7
def f86_E (n : Nat) : Ent := ⟨86, [hR, hR], [hI], fun x => f86 n x.1 x.2⟩
def f86_D (α : Type) (n : Nat) : D3 α := { reg := [(1, ⟨3, [], [(1, { ent := some (f148_E n) }), (3, { ent := some (f148_E n) })]⟩), (2, ⟨3, [], [(1, { ent := some (f148_E n) }), (3, { ent := some (f148_E n) })]⟩), (3, ⟨9, [], [(4, { ent := some (f149_E n) }), (9, { ent := some (f149_E n) }), (10, { ent := some (f136_E n) })]⟩)], join := [], loop := [] }
theorem f86_ents (α : Type) (n : Nat) : AllS Try.prog (entsOf (f86_D α n).reg) := ⟨f148_ok n, f148_ok n, f148_ok n, f148_ok n, f149_ok n, f149_ok n, f136_ok n, trivial⟩
theorem f86_d (α : Type) (n : Nat) : D3.OK Try.prog (tyOf Try.prog) ⟨32, []⟩ (f86_D α n) (bodyOf Try.f86) :=
  D3.OK.mk3 (f86_ents α n) (show loopsOf (bodyOf Try.f86) = [] by kernel_rfl) trivial
theorem f86_ok (n : Nat) : (f86_E n).Sound Try.prog :=
  fn_ok (tyOf_ok _) prog_fol (f86_D _ n) (show Try.prog.funcs[86]? = some Try.f86 by kernel_rfl) (by kernel_rfl) (show Try.f86.body = some (bodyOf Try.f86) by kernel_rfl) rfl rfl (Nat.le_of_ble_eq_true rfl) (f86_d _ n) (by intro x; kernel_rfl) 


def f162 (n : Nat) (a0 : Bool × (List Int) × (List Int)) (a1 : Bool × (List Int) × (List Int)) : Option Bool :=
  ob (f86 n a0 a1) fun r_1 =>
  some (r_1 == 0)
def f162_E (n : Nat) : Ent := ⟨162, [hR, hR], [.bool], fun x => f162 n x.1 x.2⟩
def f162_D (α : Type) (n : Nat) : D3 α := { reg := [(1, ⟨0, [], [(2, { ent := some (f86_E n) })]⟩)], join := [], loop := [] }
theorem f162_ents (α : Type) (n : Nat) : AllS Try.prog (entsOf (f162_D α n).reg) := ⟨f86_ok n, trivial⟩
theorem f162_d (α : Type) (n : Nat) : D3.OK Try.prog (tyOf Try.prog) ⟨9, []⟩ (f162_D α n) (bodyOf Try.f162) :=
  D3.OK.mk3 (f162_ents α n) (show loopsOf (bodyOf Try.f162) = [] by kernel_rfl) trivial
theorem f162_ok (n : Nat) : (f162_E n).Sound Try.prog :=
  fn_ok (tyOf_ok _) prog_fol (f162_D _ n) (show Try.prog.funcs[162]? = some Try.f162 by kernel_rfl) (by kernel_rfl) (show Try.f162.body = some (bodyOf Try.f162) by kernel_rfl) rfl rfl (Nat.le_of_ble_eq_true rfl) (f162_d _ n) (by intro x; kernel_rfl) 


def f161_L4B {α : Type} (n : Nat) (s1 : List (Bool × (List Int) × (List Int))) (s15 : List (Bool × (List Int) × (List Int))) (s16 : Int) (s17 : Int) (f : (List (Bool × (List Int) × (List Int))) → (List (Bool × (List Int) × (List Int))) → Int → Int → Option α) (k0 : Bool → Option α) (k1 : Unit → Option α) : Option α :=
  bif (decide (s17 < s16)) then
    gd (decide (0 ≤ s17) && decide (s17 < (s15.length : Int))) (
      let x_1 := s15.getD s17.toNat (false, [], [])
      gd (decide (0 ≤ s17) && decide (s17 < (s1.length : Int))) (
        let x_2 := s1.getD s17.toNat (false, [], [])
        ob (f162 n x_1 x_2) fun r_3 =>
        bif (!r_3) then
          k0 false
        else
          f s1 s15 s16 (W (s17 + 1))))
  else
    k1 ()
abbrev f161_L4H : Tm := ⟨[(1, .d hRs), (2, .d (.fn 162)), (15, .d hRs), (16, .d hI), (17, .d hI)], [], [8, 9], []⟩
abbrev f161_L4X0 : Tm := ⟨[(6, .d .bool)], [], [8, 9], []⟩
abbrev f161_L4X1 : Tm := ⟨[], [], [], []⟩
abbrev f161_L4O : List (Exit × Tm) := [(.ret, f161_L4X0), (.exit 0, f161_L4X1)]
def f161_L4U {α : Type} (n : Nat) (v : f161_L4H.den) (f : f161_L4H.den → Option α) (ks : KS α f161_L4O) : Option α := f161_L4B n v.1.1 v.1.2.2.1 v.1.2.2.2.1 v.1.2.2.2.2.1 (fun s1 s15 s16 s17 => f ((s1, (), s15, s16, s17, ()), ())) (fun w0 => ks.1 ((w0, ()), ())) (fun _ => ks.2.1 ((), ()))
def f161_L4 {α : Type} (n m : Nat) (s1 : List (Bool × (List Int) × (List Int))) (s15 : List (Bool × (List Int) × (List Int))) (s16 : Int) (s17 : Int) (k0 : Bool → Option α) (k1 : Unit → Option α) : Option α := rounds (f161_L4U n) m ((s1, (), s15, s16, s17, ()), ()) (fun w => k0 w.1.1, fun w => k1 (), ())
theorem f161_L4_0 {α : Type} (n : Nat) (s1 : List (Bool × (List Int) × (List Int))) (s15 : List (Bool × (List Int) × (List Int))) (s16 : Int) (s17 : Int) (k0 : Bool → Option α) (k1 : Unit → Option α) : f161_L4 (α := α) n 0 s1 s15 s16 s17 k0 k1 = none := rfl
theorem f161_L4_s {α : Type} (n m : Nat) (s1 : List (Bool × (List Int) × (List Int))) (s15 : List (Bool × (List Int) × (List Int))) (s16 : Int) (s17 : Int) (k0 : Bool → Option α) (k1 : Unit → Option α) : f161_L4 (α := α) n (m + 1) s1 s15 s16 s17 k0 k1 = f161_L4B n s1 s15 s16 s17 (fun s1 s15 s16 s17 => f161_L4 n m s1 s15 s16 s17 k0 k1) k0 k1 := rfl
def f161 (n : Nat) (a0 : List (Bool × (List Int) × (List Int))) (a1 : List (Bool × (List Int) × (List Int))) (a2 : Unit) : Option Bool :=
  bif ((a0.length : Int) != (a1.length : Int)) then
    some false
  else
    f161_L4 n n a1 a0 (a0.length : Int) 0
      (fun z_4 => (
        some z_4))
      (fun (_ : Unit) => (
        some true))
def f161_E (n : Nat) : Ent := ⟨161, [hRs, hRs, (.fn 162)], [.bool], fun x => f161 n x.1 x.2.1 x.2.2⟩
def f161_D (α : Type) (n : Nat) : D3 α := { reg := [(7, ⟨0, [], [(3, { ent := some (f162_E n) })]⟩)], join := [], loop := [(4, ⟨f161_L4H, f161_L4O, rounds (f161_L4U n) n⟩)] }
theorem f161_ents (α : Type) (n : Nat) : AllS Try.prog (entsOf (f161_D α n).reg) := ⟨f162_ok n, trivial⟩
theorem f161_L4_d (α : Type) (n : Nat) : D3.OK Try.prog (tyOf Try.prog) ⟨32, []⟩ (f161_D α n) ((bodyOf Try.f161).at [1, 1, 0, 1, 0, 0]) :=
  D3.OK.mk3 (f161_ents α n) (show loopsOf ((bodyOf Try.f161).at [1, 1, 0, 1, 0, 0]) = [] by kernel_rfl) trivial
theorem f161_L4_ok (α : Type) (n : Nat) : LO.Sound (α := α) Try.prog ⟨32, []⟩ ⟨f161_L4H, f161_L4O, rounds (f161_L4U n) n⟩ (.loop ((bodyOf Try.f161).at [1, 1, 0, 1, 0, 0])) :=
  loop_ok (tyOf_ok _) prog_fol (f161_L4U n) (f161_L4_d α n) (by intro v f ks; kernel_rfl) n
theorem f161_d (α : Type) (n : Nat) : D3.OK Try.prog (tyOf Try.prog) ⟨32, []⟩ (f161_D α n) (bodyOf Try.f161) :=
  D3.OK.mk3 (f161_ents α n) (show loopsOf (bodyOf Try.f161) = [(4, (.loop ((bodyOf Try.f161).at [1, 1, 0, 1, 0, 0])))] by kernel_rfl) ⟨look_sound rfl (f161_L4_ok α n), trivial⟩
theorem f161_ok (n : Nat) : (f161_E n).Sound Try.prog :=
  fn_ok (tyOf_ok _) prog_fol (f161_D _ n) (show Try.prog.funcs[161]? = some Try.f161 by kernel_rfl) (by kernel_rfl) (show Try.f161.body = some (bodyOf Try.f161) by kernel_rfl) rfl rfl (Nat.le_of_ble_eq_true rfl) (f161_d _ n) (by intro x; kernel_rfl) 


def f111 (n : Nat) (a0 : List (Bool × (List Int) × (List Int))) (a1 : List (Bool × (List Int) × (List Int))) : Option Bool :=
  ob (f161 n a0 a1 ()) fun r_1 =>
  some r_1
def f111_E (n : Nat) : Ent := ⟨111, [hRs, hRs], [.bool], fun x => f111 n x.1 x.2⟩
def f111_D (α : Type) (n : Nat) : D3 α := { reg := [(1, ⟨0, [], [(2, { ent := some (f161_E n) })]⟩)], join := [], loop := [] }
theorem f111_ents (α : Type) (n : Nat) : AllS Try.prog (entsOf (f111_D α n).reg) := ⟨f161_ok n, trivial⟩
theorem f111_d (α : Type) (n : Nat) : D3.OK Try.prog (tyOf Try.prog) ⟨8, []⟩ (f111_D α n) (bodyOf Try.f111) :=
  D3.OK.mk3 (f111_ents α n) (show loopsOf (bodyOf Try.f111) = [] by kernel_rfl) trivial
theorem f111_ok (n : Nat) : (f111_E n).Sound Try.prog :=
  fn_ok (tyOf_ok _) prog_fol (f111_D _ n) (show Try.prog.funcs[111]? = some Try.f111 by kernel_rfl) (by kernel_rfl) (show Try.f111.body = some (bodyOf Try.f111) by kernel_rfl) rfl rfl (Nat.le_of_ble_eq_true rfl) (f111_d _ n) (by intro x; kernel_rfl) 


def f56 (n : Nat) (a0 : List (Bool × (List Int) × (List Int))) (a1 : List (Bool × (List Int) × (List Int))) : Option Bool :=
  ob (f110 n a0) fun r_1 =>
  bif r_1 then
    ob (f110 n a1) fun r_2 =>
    bif r_2 then
      ob (f111 n a0 a1) fun r_3 =>
      some r_3
    else
      some false
  else
    some false
def f56_E (n : Nat) : Ent := ⟨56, [hRs, hRs], [.bool], fun x => f56 n x.1 x.2⟩
def f56_D (α : Type) (n : Nat) : D3 α := { reg := [(1, ⟨0, [], [(1, { ent := some (f110_E n) }), (4, { ent := some (f110_E n) }), (9, { ent := some (f111_E n) })]⟩)], join := [], loop := [] }
theorem f56_ents (α : Type) (n : Nat) : AllS Try.prog (entsOf (f56_D α n).reg) := ⟨f110_ok n, f110_ok n, f111_ok n, trivial⟩
theorem f56_d (α : Type) (n : Nat) : D3.OK Try.prog (tyOf Try.prog) ⟨16, []⟩ (f56_D α n) (bodyOf Try.f56) :=
  D3.OK.mk3 (f56_ents α n) (show loopsOf (bodyOf Try.f56) = [] by kernel_rfl) trivial
theorem f56_ok (n : Nat) : (f56_E n).Sound Try.prog :=
  fn_ok (tyOf_ok _) prog_fol (f56_D _ n) (show Try.prog.funcs[56]? = some Try.f56 by kernel_rfl) (by kernel_rfl) (show Try.f56.body = some (bodyOf Try.f56) by kernel_rfl) rfl rfl (Nat.le_of_ble_eq_true rfl) (f56_d _ n) (by intro x; kernel_rfl) 


def f12_L21B {α : Type} (n : Nat) (s5 : Int) (s6 : List (Bool × (List Int) × (List Int))) (s9 : List (Bool × (List Int) × (List Int))) (s10 : Int) (s11 : List (Bool × (List Int) × (List Int))) (s14 : Int) (s16 : Int) (s18 : Int) (s20 : Int) (s22 : Int) (s24 : Int) (s26 : Int) (s27 : List (Bool × (List Int) × (List Int))) (s28 : Int) (s30 : Int) (s31 : List (Bool × (List Int) × (List Int))) (s32 : Int) (s33 : Bool) (s34 : Int) (c13_0 : Bool) (c13_1 : List Int) (c13_2 : List Int) (c15_0 : Bool) (c15_1 : List Int) (c15_2 : List Int) (c21_0 : Bool) (c21_1 : List Int) (c21_2 : List Int) (c23_0 : Bool) (c23_1 : List Int) (c23_2 : List Int) (f : Int → (List (Bool × (List Int) × (List Int))) → (List (Bool × (List Int) × (List Int))) → Int → (List (Bool × (List Int) × (List Int))) → Int → Int → Int → Int → Int → Int → Int → (List (Bool × (List Int) × (List Int))) → Int → Int → (List (Bool × (List Int) × (List Int))) → Int → Bool → Int → Bool → (List Int) → (List Int) → Bool → (List Int) → (List Int) → Bool → (List Int) → (List Int) → Bool → (List Int) → (List Int) → Option α) (k0 : (List (Bool × (List Int) × (List Int))) → Int → (List (Bool × (List Int) × (List Int))) → Int → Int → Int → Int → Int → Int → Int → (List (Bool × (List Int) × (List Int))) → Int → Int → (List (Bool × (List Int) × (List Int))) → Int → Bool → Bool → (List Int) → (List Int) → Bool → (List Int) → (List Int) → Bool → (List Int) → (List Int) → Bool → (List Int) → (List Int) → Option α) : Option α :=
  bif (decide (s34 < s5)) then
    bif s33 then
      gd (decide (0 ≤ s34) && decide (s34 < (s6.length : Int))) (
        let x_17 := s6.getD s34.toNat (false, [], [])
        f s5 s6 s9 s10 s11 s14 s16 s18 s20 s22 s24 s26 s27 s28 s30 s31 s32 ((x_17.2.1.length : Int) == 0) (W (s34 + 1)) c13_0 c13_1 c13_2 c15_0 c15_1 c15_2 c21_0 c21_1 c21_2 c23_0 c23_1 c23_2)
    else
      f s5 s6 s9 s10 s11 s14 s16 s18 s20 s22 s24 s26 s27 s28 s30 s31 s32 false (W (s34 + 1)) c13_0 c13_1 c13_2 c15_0 c15_1 c15_2 c21_0 c21_1 c21_2 c23_0 c23_1 c23_2
  else
    k0 s9 s10 s11 s14 s16 s18 s20 s22 s24 s26 s27 s28 s30 s31 s32 s33 c13_0 c13_1 c13_2 c15_0 c15_1 c15_2 c21_0 c21_1 c21_2 c23_0 c23_1 c23_2
abbrev f12_L21H : Tm := ⟨[(5, .d hI), (6, .d hRs), (9, .d hRs), (10, .d hI), (11, .d hRs), (13, .k (.hp 13 0 0)), (14, .d hI), (15, .k (.hp 15 0 0)), (16, .d hI), (18, .d hI), (20, .d hI), (21, .k (.hp 21 0 0)), (22, .d hI), (23, .k (.hp 23 0 0)), (24, .d hI), (26, .d hI), (27, .d hRs), (28, .d hI), (30, .d hI), (31, .d hRs), (32, .d hI), (33, .d .bool), (34, .d hI)], [(13, .var 33 true false [.d .bool, .d hIs, .d hIs]), (15, .var 33 true false [.d .bool, .d hIs, .d hIs]), (21, .var 33 true false [.d .bool, .d hIs, .d hIs]), (23, .var 33 true false [.d .bool, .d hIs, .d hIs])], [8, 17, 19, 29], []⟩
abbrev f12_L21X0 : Tm := ⟨[(9, .d hRs), (10, .d hI), (11, .d hRs), (13, .k (.hp 13 0 0)), (14, .d hI), (15, .k (.hp 15 0 0)), (16, .d hI), (18, .d hI), (20, .d hI), (21, .k (.hp 21 0 0)), (22, .d hI), (23, .k (.hp 23 0 0)), (24, .d hI), (26, .d hI), (27, .d hRs), (28, .d hI), (30, .d hI), (31, .d hRs), (32, .d hI), (33, .d .bool)], [(13, .var 33 true false [.d .bool, .d hIs, .d hIs]), (15, .var 33 true false [.d .bool, .d hIs, .d hIs]), (21, .var 33 true false [.d .bool, .d hIs, .d hIs]), (23, .var 33 true false [.d .bool, .d hIs, .d hIs])], [], []⟩
abbrev f12_L21O : List (Exit × Tm) := [(.exit 0, f12_L21X0)]
def f12_L21U {α : Type} (n : Nat) (v : f12_L21H.den) (f : f12_L21H.den → Option α) (ks : KS α f12_L21O) : Option α := f12_L21B n v.1.1 v.1.2.1 v.1.2.2.1 v.1.2.2.2.1 v.1.2.2.2.2.1 v.1.2.2.2.2.2.2.1 v.1.2.2.2.2.2.2.2.2.1 v.1.2.2.2.2.2.2.2.2.2.1 v.1.2.2.2.2.2.2.2.2.2.2.1 v.1.2.2.2.2.2.2.2.2.2.2.2.2.1 v.1.2.2.2.2.2.2.2.2.2.2.2.2.2.2.1 v.1.2.2.2.2.2.2.2.2.2.2.2.2.2.2.2.1 v.1.2.2.2.2.2.2.2.2.2.2.2.2.2.2.2.2.1 v.1.2.2.2.2.2.2.2.2.2.2.2.2.2.2.2.2.2.1 v.1.2.2.2.2.2.2.2.2.2.2.2.2.2.2.2.2.2.2.1 v.1.2.2.2.2.2.2.2.2.2.2.2.2.2.2.2.2.2.2.2.1 v.1.2.2.2.2.2.2.2.2.2.2.2.2.2.2.2.2.2.2.2.2.1 v.1.2.2.2.2.2.2.2.2.2.2.2.2.2.2.2.2.2.2.2.2.2.1 v.1.2.2.2.2.2.2.2.2.2.2.2.2.2.2.2.2.2.2.2.2.2.2.1 v.2.1.1 v.2.1.2.1 v.2.1.2.2.1 v.2.2.1.1 v.2.2.1.2.1 v.2.2.1.2.2.1 v.2.2.2.1.1 v.2.2.2.1.2.1 v.2.2.2.1.2.2.1 v.2.2.2.2.1.1 v.2.2.2.2.1.2.1 v.2.2.2.2.1.2.2.1 (fun s5 s6 s9 s10 s11 s14 s16 s18 s20 s22 s24 s26 s27 s28 s30 s31 s32 s33 s34 c13_0 c13_1 c13_2 c15_0 c15_1 c15_2 c21_0 c21_1 c21_2 c23_0 c23_1 c23_2 => f ((s5, s6, s9, s10, s11, (), s14, (), s16, s18, s20, (), s22, (), s24, s26, s27, s28, s30, s31, s32, s33, s34, ()), ((c13_0, c13_1, c13_2, ()), (c15_0, c15_1, c15_2, ()), (c21_0, c21_1, c21_2, ()), (c23_0, c23_1, c23_2, ()), ()))) (fun w0 w1 w2 w3 w4 w5 w6 w7 w8 w9 w10 w11 w12 w13 w14 w15 w16 w17 w18 w19 w20 w21 w22 w23 w24 w25 w26 w27 => ks.1 ((w0, w1, w2, (), w3, (), w4, w5, w6, (), w7, (), w8, w9, w10, w11, w12, w13, w14, w15, ()), ((w16, w17, w18, ()), (w19, w20, w21, ()), (w22, w23, w24, ()), (w25, w26, w27, ()), ())))
def f12_L21 {α : Type} (n m : Nat) (s5 : Int) (s6 : List (Bool × (List Int) × (List Int))) (s9 : List (Bool × (List Int) × (List Int))) (s10 : Int) (s11 : List (Bool × (List Int) × (List Int))) (s14 : Int) (s16 : Int) (s18 : Int) (s20 : Int) (s22 : Int) (s24 : Int) (s26 : Int) (s27 : List (Bool × (List Int) × (List Int))) (s28 : Int) (s30 : Int) (s31 : List (Bool × (List Int) × (List Int))) (s32 : Int) (s33 : Bool) (s34 : Int) (c13_0 : Bool) (c13_1 : List Int) (c13_2 : List Int) (c15_0 : Bool) (c15_1 : List Int) (c15_2 : List Int) (c21_0 : Bool) (c21_1 : List Int) (c21_2 : List Int) (c23_0 : Bool) (c23_1 : List Int) (c23_2 : List Int) (k0 : (List (Bool × (List Int) × (List Int))) → Int → (List (Bool × (List Int) × (List Int))) → Int → Int → Int → Int → Int → Int → Int → (List (Bool × (List Int) × (List Int))) → Int → Int → (List (Bool × (List Int) × (List Int))) → Int → Bool → Bool → (List Int) → (List Int) → Bool → (List Int) → (List Int) → Bool → (List Int) → (List Int) → Bool → (List Int) → (List Int) → Option α) : Option α := rounds (f12_L21U n) m ((s5, s6, s9, s10, s11, (), s14, (), s16, s18, s20, (), s22, (), s24, s26, s27, s28, s30, s31, s32, s33, s34, ()), ((c13_0, c13_1, c13_2, ()), (c15_0, c15_1, c15_2, ()), (c21_0, c21_1, c21_2, ()), (c23_0, c23_1, c23_2, ()), ())) (fun w => k0 w.1.1 w.1.2.1 w.1.2.2.1 w.1.2.2.2.2.1 w.1.2.2.2.2.2.2.1 w.1.2.2.2.2.2.2.2.1 w.1.2.2.2.2.2.2.2.2.1 w.1.2.2.2.2.2.2.2.2.2.2.1 w.1.2.2.2.2.2.2.2.2.2.2.2.2.1 w.1.2.2.2.2.2.2.2.2.2.2.2.2.2.1 w.1.2.2.2.2.2.2.2.2.2.2.2.2.2.2.1 w.1.2.2.2.2.2.2.2.2.2.2.2.2.2.2.2.1 w.1.2.2.2.2.2.2.2.2.2.2.2.2.2.2.2.2.1 w.1.2.2.2.2.2.2.2.2.2.2.2.2.2.2.2.2.2.1 w.1.2.2.2.2.2.2.2.2.2.2.2.2.2.2.2.2.2.2.1 w.1.2.2.2.2.2.2.2.2.2.2.2.2.2.2.2.2.2.2.2.1 w.2.1.1 w.2.1.2.1 w.2.1.2.2.1 w.2.2.1.1 w.2.2.1.2.1 w.2.2.1.2.2.1 w.2.2.2.1.1 w.2.2.2.1.2.1 w.2.2.2.1.2.2.1 w.2.2.2.2.1.1 w.2.2.2.2.1.2.1 w.2.2.2.2.1.2.2.1, ())
theorem f12_L21_0 {α : Type} (n : Nat) (s5 : Int) (s6 : List (Bool × (List Int) × (List Int))) (s9 : List (Bool × (List Int) × (List Int))) (s10 : Int) (s11 : List (Bool × (List Int) × (List Int))) (s14 : Int) (s16 : Int) (s18 : Int) (s20 : Int) (s22 : Int) (s24 : Int) (s26 : Int) (s27 : List (Bool × (List Int) × (List Int))) (s28 : Int) (s30 : Int) (s31 : List (Bool × (List Int) × (List Int))) (s32 : Int) (s33 : Bool) (s34 : Int) (c13_0 : Bool) (c13_1 : List Int) (c13_2 : List Int) (c15_0 : Bool) (c15_1 : List Int) (c15_2 : List Int) (c21_0 : Bool) (c21_1 : List Int) (c21_2 : List Int) (c23_0 : Bool) (c23_1 : List Int) (c23_2 : List Int) (k0 : (List (Bool × (List Int) × (List Int))) → Int → (List (Bool × (List Int) × (List Int))) → Int → Int → Int → Int → Int → Int → Int → (List (Bool × (List Int) × (List Int))) → Int → Int → (List (Bool × (List Int) × (List Int))) → Int → Bool → Bool → (List Int) → (List Int) → Bool → (List Int) → (List Int) → Bool → (List Int) → (List Int) → Bool → (List Int) → (List Int) → Option α) : f12_L21 (α := α) n 0 s5 s6 s9 s10 s11 s14 s16 s18 s20 s22 s24 s26 s27 s28 s30 s31 s32 s33 s34 c13_0 c13_1 c13_2 c15_0 c15_1 c15_2 c21_0 c21_1 c21_2 c23_0 c23_1 c23_2 k0 = none := rfl
theorem f12_L21_s {α : Type} (n m : Nat) (s5 : Int) (s6 : List (Bool × (List Int) × (List Int))) (s9 : List (Bool × (List Int) × (List Int))) (s10 : Int) (s11 : List (Bool × (List Int) × (List Int))) (s14 : Int) (s16 : Int) (s18 : Int) (s20 : Int) (s22 : Int) (s24 : Int) (s26 : Int) (s27 : List (Bool × (List Int) × (List Int))) (s28 : Int) (s30 : Int) (s31 : List (Bool × (List Int) × (List Int))) (s32 : Int) (s33 : Bool) (s34 : Int) (c13_0 : Bool) (c13_1 : List Int) (c13_2 : List Int) (c15_0 : Bool) (c15_1 : List Int) (c15_2 : List Int) (c21_0 : Bool) (c21_1 : List Int) (c21_2 : List Int) (c23_0 : Bool) (c23_1 : List Int) (c23_2 : List Int) (k0 : (List (Bool × (List Int) × (List Int))) → Int → (List (Bool × (List Int) × (List Int))) → Int → Int → Int → Int → Int → Int → Int → (List (Bool × (List Int) × (List Int))) → Int → Int → (List (Bool × (List Int) × (List Int))) → Int → Bool → Bool → (List Int) → (List Int) → Bool → (List Int) → (List Int) → Bool → (List Int) → (List Int) → Bool → (List Int) → (List Int) → Option α) : f12_L21 (α := α) n (m + 1) s5 s6 s9 s10 s11 s14 s16 s18 s20 s22 s24 s26 s27 s28 s30 s31 s32 s33 s34 c13_0 c13_1 c13_2 c15_0 c15_1 c15_2 c21_0 c21_1 c21_2 c23_0 c23_1 c23_2 k0 = f12_L21B n s5 s6 s9 s10 s11 s14 s16 s18 s20 s22 s24 s26 s27 s28 s30 s31 s32 s33 s34 c13_0 c13_1 c13_2 c15_0 c15_1 c15_2 c21_0 c21_1 c21_2 c23_0 c23_1 c23_2 (fun s5 s6 s9 s10 s11 s14 s16 s18 s20 s22 s24 s26 s27 s28 s30 s31 s32 s33 s34 c13_0 c13_1 c13_2 c15_0 c15_1 c15_2 c21_0 c21_1 c21_2 c23_0 c23_1 c23_2 => f12_L21 n m s5 s6 s9 s10 s11 s14 s16 s18 s20 s22 s24 s26 s27 s28 s30 s31 s32 s33 s34 c13_0 c13_1 c13_2 c15_0 c15_1 c15_2 c21_0 c21_1 c21_2 c23_0 c23_1 c23_2 k0) k0 := rfl
def f12 (n : Nat) (a0 : List Int) (a1 : List Int) : Option Bool :=
  bif (decide ((a0.length : Int) > 1048576)) then
    some true
  else
    bif (decide ((a1.length : Int) > 1048576)) then
      some true
    else
      ob (f51 n a0 0 4) fun r_1 =>
      ob (f52 n a0 (W (1 + r_1))) fun r_2 =>
      ob (f52 n a1 (W (1 + r_1))) fun r_3 =>
      ob (f36 n a1) fun r_4 =>
      ob (f46 n r_4 r_2 r_3) fun r_5 =>
      ob (f45 n r_4 r_2 r_3) fun r_6 =>
      ob (f53 n r_5.1 r_2) fun r_7 =>
      ob (f53 n r_2 r_2) fun r_8 =>
      ob (f53 n r_2 r_3) fun r_9 =>
      ob (f41 n r_4 r_8.1) fun r_10 =>
      ob (f40 n r_10.1 r_9.1) fun r_11 =>
      ob (f54 n r_2) fun r_12 =>
      ob (f44 n r_4 r_2) fun r_13 =>
      ob (f46 n r_4 r_2 r_13.1) fun r_14 =>
      ob (f40 n r_4 r_4) fun r_15 =>
      ob (f44 n r_15.1 r_2) fun r_16 =>
      f12_L21 n n (W (1 + r_1)) r_2 r_5.1 r_5.2 r_6.1 r_7.2 r_8.2 r_9.2 r_10.2 r_11.2 r_12.2 r_13.2 r_14.1 r_14.2 r_15.2 r_16.1 r_16.2 true 0 r_7.1.1 r_7.1.2.1 r_7.1.2.2 r_8.1.1 r_8.1.2.1 r_8.1.2.2 r_11.1.1 r_11.1.2.1 r_11.1.2.2 r_12.1.1 r_12.1.2.1 r_12.1.2.2
        (fun z_18 z_19 z_20 z_21 z_22 z_23 z_24 z_25 z_26 z_27 z_28 z_29 z_30 z_31 z_32 z_33 z_34 z_35 z_36 z_37 z_38 z_39 z_40 z_41 z_42 z_43 z_44 z_45 => (
          bif (z_19 == 0) then
            ob (f55 n z_18 z_20) fun r_46 =>
            bif r_46 then
              bif (z_21 == 0) then
                bif (z_22 == 0) then
                  bif (z_23 == 0) then
                    bif (z_24 == 0) then
                      bif (z_25 == 0) then
                        ob (f42 n (z_34, z_35, z_36) (z_40, z_41, z_42)) fun r_47 =>
                        bif r_47 then
                          bif (z_26 == 0) then
                            ob (f42 n (z_43, z_44, z_45) (z_37, z_38, z_39)) fun r_48 =>
                            bif r_48 then
                              bif (((z_44.length : Int) == 0) == z_33) then
                                bif (!z_43) then
                                  bif (z_27 == 0) then
                                    bif (z_29 == 0) then
                                      bif (z_30 == 0) then
                                        bif (z_32 == 0) then
                                          ob (f55 n z_28 z_31) fun r_49 =>
                                          bif r_49 then
                                            ob (f56 n z_28 z_31) fun r_50 =>
                                            some r_50
                                          else
                                            some false
                                        else
                                          some false
                                      else
                                        some false
                                    else
                                      some false
                                  else
                                    some false
                                else
                                  some false
                              else
                                some false
                            else
                              some false
                          else
                            some false
                        else
                          some false
                      else
                        some false
                    else
                      some false
                  else
                    some false
                else
                  some false
              else
                some false
            else
              some false
          else
            some false))
def f12_E (n : Nat) : Ent := ⟨12, [(.sl (.int .u8)), (.sl (.int .u8))], [.bool], fun x => f12 n x.1 x.2⟩
def f12_D (α : Type) (n : Nat) : D3 α := { reg := [(3, ⟨0, [], [(1, { ent := some (f51_E n) })]⟩), (4, ⟨0, [], [(2, { ent := some (f52_E n) })]⟩), (5, ⟨0, [], [(2, { ent := some (f52_E n) })]⟩), (6, ⟨0, [], [(1, { ent := some (f36_E n) })]⟩), (7, ⟨0, [], [(3, { ent := some (f46_E n) })]⟩), (8, ⟨0, [], [(3, { ent := some (f45_E n) })]⟩), (9, ⟨0, [], [(2, { ent := some (f53_E n) })]⟩), (10, ⟨0, [], [(2, { ent := some (f53_E n) })]⟩), (11, ⟨0, [], [(2, { ent := some (f53_E n) })]⟩), (12, ⟨0, [], [(2, { ent := some (f41_E n) })]⟩), (13, ⟨0, [], [(2, { ent := some (f40_E n) })]⟩), (14, ⟨0, [], [(1, { ent := some (f54_E n) })]⟩), (15, ⟨0, [], [(2, { ent := some (f44_E n) })]⟩), (16, ⟨0, [], [(3, { ent := some (f46_E n) })]⟩), (17, ⟨0, [], [(2, { ent := some (f40_E n) })]⟩), (18, ⟨0, [], [(2, { ent := some (f44_E n) })]⟩), (24, ⟨0, [], [(5, { ent := some (f55_E n) }), (30, { ent := some (f42_E n) }), (39, { ent := some (f42_E n) }), (73, { ent := some (f55_E n) }), (78, { ent := some (f56_E n) })]⟩)], join := [], loop := [(21, ⟨f12_L21H, f12_L21O, rounds (f12_L21U n) n⟩)] }
theorem f12_ents (α : Type) (n : Nat) : AllS Try.prog (entsOf (f12_D α n).reg) := ⟨f51_ok n, f52_ok n, f52_ok n, f36_ok n, f46_ok n, f45_ok n, f53_ok n, f53_ok n, f53_ok n, f41_ok n, f40_ok n, f54_ok n, f44_ok n, f46_ok n, f40_ok n, f44_ok n, f55_ok n, f42_ok n, f42_ok n, f55_ok n, f56_ok n, trivial⟩
theorem f12_L21_d (α : Type) (n : Nat) : D3.OK Try.prog (tyOf Try.prog) ⟨223, []⟩ (f12_D α n) ((bodyOf Try.f12).at [1, 1, 1, 1, 1, 1, 1, 1, 1, 1, 1, 1, 1, 1, 1, 1, 1, 1, 1, 0, 1, 0, 0]) :=
  D3.OK.mk3 (f12_ents α n) (show loopsOf ((bodyOf Try.f12).at [1, 1, 1, 1, 1, 1, 1, 1, 1, 1, 1, 1, 1, 1, 1, 1, 1, 1, 1, 0, 1, 0, 0]) = [] by kernel_rfl) trivial
theorem f12_L21_ok (α : Type) (n : Nat) : LO.Sound (α := α) Try.prog ⟨223, []⟩ ⟨f12_L21H, f12_L21O, rounds (f12_L21U n) n⟩ (.loop ((bodyOf Try.f12).at [1, 1, 1, 1, 1, 1, 1, 1, 1, 1, 1, 1, 1, 1, 1, 1, 1, 1, 1, 0, 1, 0, 0])) :=
  loop_ok (tyOf_ok _) prog_fol (f12_L21U n) (f12_L21_d α n) (by intro v f ks; kernel_rfl) n
theorem f12_d (α : Type) (n : Nat) : D3.OK Try.prog (tyOf Try.prog) ⟨223, []⟩ (f12_D α n) (bodyOf Try.f12) :=
  D3.OK.mk3 (f12_ents α n) (show loopsOf (bodyOf Try.f12) = [(21, (.loop ((bodyOf Try.f12).at [1, 1, 1, 1, 1, 1, 1, 1, 1, 1, 1, 1, 1, 1, 1, 1, 1, 1, 1, 0, 1, 0, 0])))] by kernel_rfl) ⟨look_sound rfl (f12_L21_ok α n), trivial⟩
theorem f12_ok (n : Nat) : (f12_E n).Sound Try.prog :=
  fn_ok (tyOf_ok _) prog_fol (f12_D _ n) (show Try.prog.funcs[12]? = some Try.f12 by kernel_rfl) (by kernel_rfl) (show Try.f12.body = some (bodyOf Try.f12) by kernel_rfl) rfl rfl (Nat.le_of_ble_eq_true rfl) (f12_d _ n) (by intro x; kernel_rfl) 


def f113 (n : Nat) (a0 : Bool × (List Int) × (List Int)) (a1 : Bool × (List Int) × (List Int)) : Option (Bool × (List Int) × (List Int)) :=
  ob (f149 n a0.2.1 a1.2.2) fun r_1 =>
  ob (f149 n a0.2.2 a1.2.1) fun r_2 =>
  ob (f151 n (!(a0.1 == a1.1)) r_1 r_2) fun r_3 =>
  some r_3
def f113_E (n : Nat) : Ent := ⟨113, [hR, hR], [hR], fun x => f113 n x.1 x.2⟩
def f113_D (α : Type) (n : Nat) : D3 α := { reg := [(1, ⟨15, [], [(9, { ent := some (f149_E n) }), (14, { ent := some (f149_E n) }), (15, { ent := some (f151_E n) })]⟩)], join := [], loop := [] }
theorem f113_ents (α : Type) (n : Nat) : AllS Try.prog (entsOf (f113_D α n).reg) := ⟨f149_ok n, f149_ok n, f151_ok n, trivial⟩
theorem f113_d (α : Type) (n : Nat) : D3.OK Try.prog (tyOf Try.prog) ⟨21, []⟩ (f113_D α n) (bodyOf Try.f113) :=
  D3.OK.mk3 (f113_ents α n) (show loopsOf (bodyOf Try.f113) = [] by kernel_rfl) trivial
theorem f113_ok (n : Nat) : (f113_E n).Sound Try.prog :=
  fn_ok (tyOf_ok _) prog_fol (f113_D _ n) (show Try.prog.funcs[113]? = some Try.f113 by kernel_rfl) (by kernel_rfl) (show Try.f113.body = some (bodyOf Try.f113) by kernel_rfl) rfl rfl (Nat.le_of_ble_eq_true rfl) (f113_d _ n) (by intro x; kernel_rfl) 


def f57 (n : Nat) (a0 : Int) (a1 : Int) : Option ((Bool × (List Int) × (List Int)) × Int) :=
  bif (decide (a0 < (-1000000000))) then
    some ((false, [], []), 4)
  else
    bif (decide (a0 > 1000000000)) then
      some ((false, [], []), 4)
    else
      bif (decide (a1 < (-1000000000))) then
        some ((false, [], []), 4)
      else
        bif (decide (a1 > 1000000000)) then
          some ((false, [], []), 4)
        else
          bif (a1 == 0) then
            some ((false, [], []), 9)
          else
            ob (f112 n a0) fun r_1 =>
            ob (f112 n a1) fun r_2 =>
            ob (f113 n r_1 r_2) fun r_3 =>
            some (r_3, 0)
def f57_E (n : Nat) : Ent := ⟨57, [hI, hI], [hR, hI], fun x => f57 n x.1 x.2⟩
def f57_D (α : Type) (n : Nat) : D3 α := { reg := [(5, ⟨0, [], [(1, { ent := some (f112_E n) }), (3, { ent := some (f112_E n) }), (4, { ent := some (f113_E n) })]⟩)], join := [], loop := [] }
theorem f57_ents (α : Type) (n : Nat) : AllS Try.prog (entsOf (f57_D α n).reg) := ⟨f112_ok n, f112_ok n, f113_ok n, trivial⟩
theorem f57_d (α : Type) (n : Nat) : D3.OK Try.prog (tyOf Try.prog) ⟨29, []⟩ (f57_D α n) (bodyOf Try.f57) :=
  D3.OK.mk3 (f57_ents α n) (show loopsOf (bodyOf Try.f57) = [] by kernel_rfl) trivial
theorem f57_ok (n : Nat) : (f57_E n).Sound Try.prog :=
  fn_ok (tyOf_ok _) prog_fol (f57_D _ n) (show Try.prog.funcs[57]? = some Try.f57 by kernel_rfl) (by kernel_rfl) (show Try.f57.body = some (bodyOf Try.f57) by kernel_rfl) rfl rfl (Nat.le_of_ble_eq_true rfl) (f57_d _ n) (by intro x; kernel_rfl) 


def f114_L2B {α : Type} (n : Nat) (s1 : List (Bool × (List Int) × (List Int))) (s7 : List (Bool × (List Int) × (List Int))) (s8 : Int) (s9 : Int) (f : (List (Bool × (List Int) × (List Int))) → (List (Bool × (List Int) × (List Int))) → Int → Int → Option α) (k0 : Bool → Option α) (k1 : Unit → Option α) : Option α :=
  bif (decide (s9 < s8)) then
    gd (decide (0 ≤ s9) && decide (s9 < (s7.length : Int))) (
      let x_1 := s7.getD s9.toNat (false, [], [])
      gd (decide (0 ≤ s9) && decide (s9 < (s1.length : Int))) (
        let x_2 := s1.getD s9.toNat (false, [], [])
        ob (f86 n x_1 x_2) fun r_3 =>
        bif (decide (r_3 > 0)) then
          k0 false
        else
          f s1 s7 s8 (W (s9 + 1))))
  else
    k1 ()
abbrev f114_L2H : Tm := ⟨[(1, .d hRs), (7, .d hRs), (8, .d hI), (9, .d hI)], [], [6], []⟩
abbrev f114_L2X0 : Tm := ⟨[(4, .d .bool)], [], [6], []⟩
abbrev f114_L2X1 : Tm := ⟨[], [], [], []⟩
abbrev f114_L2O : List (Exit × Tm) := [(.ret, f114_L2X0), (.exit 0, f114_L2X1)]
def f114_L2U {α : Type} (n : Nat) (v : f114_L2H.den) (f : f114_L2H.den → Option α) (ks : KS α f114_L2O) : Option α := f114_L2B n v.1.1 v.1.2.1 v.1.2.2.1 v.1.2.2.2.1 (fun s1 s7 s8 s9 => f ((s1, s7, s8, s9, ()), ())) (fun w0 => ks.1 ((w0, ()), ())) (fun _ => ks.2.1 ((), ()))
def f114_L2 {α : Type} (n m : Nat) (s1 : List (Bool × (List Int) × (List Int))) (s7 : List (Bool × (List Int) × (List Int))) (s8 : Int) (s9 : Int) (k0 : Bool → Option α) (k1 : Unit → Option α) : Option α := rounds (f114_L2U n) m ((s1, s7, s8, s9, ()), ()) (fun w => k0 w.1.1, fun w => k1 (), ())
theorem f114_L2_0 {α : Type} (n : Nat) (s1 : List (Bool × (List Int) × (List Int))) (s7 : List (Bool × (List Int) × (List Int))) (s8 : Int) (s9 : Int) (k0 : Bool → Option α) (k1 : Unit → Option α) : f114_L2 (α := α) n 0 s1 s7 s8 s9 k0 k1 = none := rfl
theorem f114_L2_s {α : Type} (n m : Nat) (s1 : List (Bool × (List Int) × (List Int))) (s7 : List (Bool × (List Int) × (List Int))) (s8 : Int) (s9 : Int) (k0 : Bool → Option α) (k1 : Unit → Option α) : f114_L2 (α := α) n (m + 1) s1 s7 s8 s9 k0 k1 = f114_L2B n s1 s7 s8 s9 (fun s1 s7 s8 s9 => f114_L2 n m s1 s7 s8 s9 k0 k1) k0 k1 := rfl
def f114 (n : Nat) (a0 : List (Bool × (List Int) × (List Int))) (a1 : List (Bool × (List Int) × (List Int))) : Option Bool :=
  f114_L2 n n a1 a0 (a0.length : Int) 0
    (fun z_4 => (
      some z_4))
    (fun (_ : Unit) => (
      some true))
def f114_E (n : Nat) : Ent := ⟨114, [hRs, hRs], [.bool], fun x => f114 n x.1 x.2⟩
def f114_D (α : Type) (n : Nat) : D3 α := { reg := [(4, ⟨5, [], [(5, { ent := some (f86_E n) })]⟩)], join := [], loop := [(2, ⟨f114_L2H, f114_L2O, rounds (f114_L2U n) n⟩)] }
theorem f114_ents (α : Type) (n : Nat) : AllS Try.prog (entsOf (f114_D α n).reg) := ⟨f86_ok n, trivial⟩
theorem f114_L2_d (α : Type) (n : Nat) : D3.OK Try.prog (tyOf Try.prog) ⟨22, []⟩ (f114_D α n) ((bodyOf Try.f114).at [1, 0, 1, 0, 0]) :=
  D3.OK.mk3 (f114_ents α n) (show loopsOf ((bodyOf Try.f114).at [1, 0, 1, 0, 0]) = [] by kernel_rfl) trivial
theorem f114_L2_ok (α : Type) (n : Nat) : LO.Sound (α := α) Try.prog ⟨22, []⟩ ⟨f114_L2H, f114_L2O, rounds (f114_L2U n) n⟩ (.loop ((bodyOf Try.f114).at [1, 0, 1, 0, 0])) :=
  loop_ok (tyOf_ok _) prog_fol (f114_L2U n) (f114_L2_d α n) (by intro v f ks; kernel_rfl) n
theorem f114_d (α : Type) (n : Nat) : D3.OK Try.prog (tyOf Try.prog) ⟨22, []⟩ (f114_D α n) (bodyOf Try.f114) :=
  D3.OK.mk3 (f114_ents α n) (show loopsOf (bodyOf Try.f114) = [(2, (.loop ((bodyOf Try.f114).at [1, 0, 1, 0, 0])))] by kernel_rfl) ⟨look_sound rfl (f114_L2_ok α n), trivial⟩
theorem f114_ok (n : Nat) : (f114_E n).Sound Try.prog :=
  fn_ok (tyOf_ok _) prog_fol (f114_D _ n) (show Try.prog.funcs[114]? = some Try.f114 by kernel_rfl) (by kernel_rfl) (show Try.f114.body = some (bodyOf Try.f114) by kernel_rfl) rfl rfl (Nat.le_of_ble_eq_true rfl) (f114_d _ n) (by intro x; kernel_rfl) 


def f164 (n : Nat) (a0 : Int) (a1 : List (Bool × (List Int) × (List Int))) (a2 : List (Bool × (List Int) × (List Int))) (a3 : List (Bool × (List Int) × (List Int))) : Option (Bool × (List Int) × (List Int)) :=
  gd (decide (0 ≤ a0) && decide (a0 < (a1.length : Int))) (
    let x_1 := a1.getD a0.toNat (false, [], [])
    gd (decide (0 ≤ a0) && decide (a0 < (a2.length : Int))) (
      let x_2 := a2.getD a0.toNat (false, [], [])
      ob (f86 n x_1 x_2) fun r_3 =>
      bif (decide (r_3 < 0)) then
        gd (decide (0 ≤ a0) && decide (a0 < (a2.length : Int))) (
          let x_4 := a2.getD a0.toNat (false, [], [])
          some x_4)
      else
        gd (decide (0 ≤ a0) && decide (a0 < (a1.length : Int))) (
          let x_5 := a1.getD a0.toNat (false, [], [])
          gd (decide (0 ≤ a0) && decide (a0 < (a3.length : Int))) (
            let x_6 := a3.getD a0.toNat (false, [], [])
            ob (f86 n x_5 x_6) fun r_7 =>
            bif (decide (r_7 > 0)) then
              gd (decide (0 ≤ a0) && decide (a0 < (a3.length : Int))) (
                let x_8 := a3.getD a0.toNat (false, [], [])
                some x_8)
            else
              gd (decide (0 ≤ a0) && decide (a0 < (a1.length : Int))) (
                let x_9 := a1.getD a0.toNat (false, [], [])
                some x_9)))))
def f164_E (n : Nat) : Ent := ⟨164, [hI, (.ref hRs), (.ref hRs), (.ref hRs)], [hR], fun x => f164 n x.1 x.2.1 x.2.2.1 x.2.2.2⟩
def f164_D (α : Type) (n : Nat) : D3 α := { reg := [(1, ⟨8, [], [(8, { ent := some (f86_E n) })]⟩), (3, ⟨8, [], [(8, { ent := some (f86_E n) })]⟩)], join := [], loop := [] }
theorem f164_ents (α : Type) (n : Nat) : AllS Try.prog (entsOf (f164_D α n).reg) := ⟨f86_ok n, f86_ok n, trivial⟩
theorem f164_d (α : Type) (n : Nat) : D3.OK Try.prog (tyOf Try.prog) ⟨40, []⟩ (f164_D α n) (bodyOf Try.f164) :=
  D3.OK.mk3 (f164_ents α n) (show loopsOf (bodyOf Try.f164) = [] by kernel_rfl) trivial
theorem f164_ok (n : Nat) : (f164_E n).Sound Try.prog :=
  fn_ok (tyOf_ok _) prog_fol (f164_D _ n) (show Try.prog.funcs[164]? = some Try.f164 by kernel_rfl) (by kernel_rfl) (show Try.f164.body = some (bodyOf Try.f164) by kernel_rfl) rfl rfl (Nat.le_of_ble_eq_true rfl) (f164_d _ n) (by intro x; kernel_rfl) 


def f97c_L3B {α : Type} (n : Nat) (s1 : (List (Bool × (List Int) × (List Int))) × (List (Bool × (List Int) × (List Int))) × (List (Bool × (List Int) × (List Int)))) (s8 : Int) (s9 : Int) (b7 : List (Bool × (List Int) × (List Int))) (f : ((List (Bool × (List Int) × (List Int))) × (List (Bool × (List Int) × (List Int))) × (List (Bool × (List Int) × (List Int)))) → Int → Int → (List (Bool × (List Int) × (List Int))) → Option α) (k0 : (List (Bool × (List Int) × (List Int))) → Option α) : Option α :=
  bif (decide (s9 < s8)) then
    ob (f164 n s9 s1.1 s1.2.1 s1.2.2) fun r_1 =>
    ob (f72 n r_1) fun r_2 =>
    gd (decide ((b7.length + 1) * 56 ≤ 140737488355328)) (
      f s1 s8 (W (s9 + 1)) (b7 ++ [r_2]))
  else
    k0 b7
abbrev f97c_L3H : Tm := ⟨[(1, .d (.clo 164 (.pair (.ref hRs) (.pair (.ref hRs) (.ref hRs))))), (5, .k (.hw 7)), (8, .d hI), (9, .d hI)], [(7, .arr 33 hR false)], [17], []⟩
abbrev f97c_L3X0 : Tm := ⟨[(5, .k (.hw 7))], [(7, .arr 33 hR false)], [], []⟩
abbrev f97c_L3O : List (Exit × Tm) := [(.exit 0, f97c_L3X0)]
def f97c_L3U {α : Type} (n : Nat) (v : f97c_L3H.den) (f : f97c_L3H.den → Option α) (ks : KS α f97c_L3O) : Option α := f97c_L3B n v.1.1 v.1.2.2.1 v.1.2.2.2.1 v.2.1 (fun s1 s8 s9 b7 => f ((s1, (), s8, s9, ()), (b7, ()))) (fun w0 => ks.1 (((), ()), (w0, ())))
def f97c_L3 {α : Type} (n m : Nat) (s1 : (List (Bool × (List Int) × (List Int))) × (List (Bool × (List Int) × (List Int))) × (List (Bool × (List Int) × (List Int)))) (s8 : Int) (s9 : Int) (b7 : List (Bool × (List Int) × (List Int))) (k0 : (List (Bool × (List Int) × (List Int))) → Option α) : Option α := rounds (f97c_L3U n) m ((s1, (), s8, s9, ()), (b7, ())) (fun w => k0 w.2.1, ())
theorem f97c_L3_0 {α : Type} (n : Nat) (s1 : (List (Bool × (List Int) × (List Int))) × (List (Bool × (List Int) × (List Int))) × (List (Bool × (List Int) × (List Int)))) (s8 : Int) (s9 : Int) (b7 : List (Bool × (List Int) × (List Int))) (k0 : (List (Bool × (List Int) × (List Int))) → Option α) : f97c_L3 (α := α) n 0 s1 s8 s9 b7 k0 = none := rfl
theorem f97c_L3_s {α : Type} (n m : Nat) (s1 : (List (Bool × (List Int) × (List Int))) × (List (Bool × (List Int) × (List Int))) × (List (Bool × (List Int) × (List Int)))) (s8 : Int) (s9 : Int) (b7 : List (Bool × (List Int) × (List Int))) (k0 : (List (Bool × (List Int) × (List Int))) → Option α) : f97c_L3 (α := α) n (m + 1) s1 s8 s9 b7 k0 = f97c_L3B n s1 s8 s9 b7 (fun s1 s8 s9 b7 => f97c_L3 n m s1 s8 s9 b7 k0) k0 := rfl
def f97c (n : Nat) (a0 : Int) (a1 : (List (Bool × (List Int) × (List Int))) × (List (Bool × (List Int) × (List Int))) × (List (Bool × (List Int) × (List Int)))) : Option (List (Bool × (List Int) × (List Int))) :=
  f97c_L3 n n a1 a0 0 []
    (fun z_3 => (
      some z_3))
def f97c_E (n : Nat) : Ent := ⟨97, [hI, (.clo 164 (.pair (.ref hRs) (.pair (.ref hRs) (.ref hRs))))], [hRs], fun x => f97c n x.1 x.2⟩
def f97c_D (α : Type) (n : Nat) : D3 α := { reg := [(1, ⟨0, [], [(0, { sh := some hR })]⟩), (5, ⟨0, [], [(3, { ent := some (f164_E n) }), (4, { ent := some (f72_E n) }), (5, { sh := some hR })]⟩)], join := [], loop := [(3, ⟨f97c_L3H, f97c_L3O, rounds (f97c_L3U n) n⟩)] }
theorem f97c_ents (α : Type) (n : Nat) : AllS Try.prog (entsOf (f97c_D α n).reg) := ⟨f164_ok n, f72_ok n, trivial⟩
theorem f97c_L3_d (α : Type) (n : Nat) : D3.OK Try.prog (tyOf Try.prog) ⟨21, []⟩ (f97c_D α n) ((bodyOf Try.f97).at [1, 1, 0, 1, 0, 0]) :=
  D3.OK.mk3 (f97c_ents α n) (show loopsOf ((bodyOf Try.f97).at [1, 1, 0, 1, 0, 0]) = [] by kernel_rfl) trivial
theorem f97c_L3_ok (α : Type) (n : Nat) : LO.Sound (α := α) Try.prog ⟨21, []⟩ ⟨f97c_L3H, f97c_L3O, rounds (f97c_L3U n) n⟩ (.loop ((bodyOf Try.f97).at [1, 1, 0, 1, 0, 0])) :=
  loop_ok (tyOf_ok _) prog_fol (f97c_L3U n) (f97c_L3_d α n) (by intro v f ks; kernel_rfl) n
theorem f97c_d (α : Type) (n : Nat) : D3.OK Try.prog (tyOf Try.prog) ⟨21, []⟩ (f97c_D α n) (bodyOf Try.f97) :=
  D3.OK.mk3 (f97c_ents α n) (show loopsOf (bodyOf Try.f97) = [(3, (.loop ((bodyOf Try.f97).at [1, 1, 0, 1, 0, 0])))] by kernel_rfl) ⟨look_sound rfl (f97c_L3_ok α n), trivial⟩
theorem f97c_ok (n : Nat) : (f97c_E n).Sound Try.prog :=
  fn_ok (tyOf_ok _) prog_fol (f97c_D _ n) (show Try.prog.funcs[97]? = some Try.f97 by kernel_rfl) (by kernel_rfl) (show Try.f97.body = some (bodyOf Try.f97) by kernel_rfl) rfl rfl (Nat.le_of_ble_eq_true rfl) (f97c_d _ n) (by intro x; kernel_rfl) 


def f115 (n : Nat) (a0 : List (Bool × (List Int) × (List Int))) (a1 : List (Bool × (List Int) × (List Int))) (a2 : List (Bool × (List Int) × (List Int))) : Option (List (Bool × (List Int) × (List Int))) :=
  ob (f97c n (a0.length : Int) (a0, a1, a2)) fun r_1 =>
  some r_1
def f115_E (n : Nat) : Ent := ⟨115, [hRs, hRs, hRs], [hRs], fun x => f115 n x.1 x.2.1 x.2.2⟩
def f115_D (α : Type) (n : Nat) : D3 α := { reg := [(1, ⟨0, [], [(2, { sh := some (.pair (.ref hRs) (.pair (.ref hRs) (.ref hRs))) }), (3, { ent := some (f97c_E n) })]⟩)], join := [], loop := [] }
theorem f115_ents (α : Type) (n : Nat) : AllS Try.prog (entsOf (f115_D α n).reg) := ⟨f97c_ok n, trivial⟩
theorem f115_d (α : Type) (n : Nat) : D3.OK Try.prog (tyOf Try.prog) ⟨11, []⟩ (f115_D α n) (bodyOf Try.f115) :=
  D3.OK.mk3 (f115_ents α n) (show loopsOf (bodyOf Try.f115) = [] by kernel_rfl) trivial
theorem f115_ok (n : Nat) : (f115_E n).Sound Try.prog :=
  fn_ok (tyOf_ok _) prog_fol (f115_D _ n) (show Try.prog.funcs[115]? = some Try.f115 by kernel_rfl) (by kernel_rfl) (show Try.f115.body = some (bodyOf Try.f115) by kernel_rfl) rfl rfl (Nat.le_of_ble_eq_true rfl) (f115_d _ n) (by intro x; kernel_rfl) 


def f58 (n : Nat) (a0 : List (Bool × (List Int) × (List Int))) (a1 : List (Bool × (List Int) × (List Int))) (a2 : List (Bool × (List Int) × (List Int))) : Option ((List (Bool × (List Int) × (List Int))) × Int) :=
  ob (f77 n [a0, a1]) fun r_1 =>
  bif (r_1 != 0) then
    some ([], r_1)
  else
    ob (f77 n [a0, a2]) fun r_2 =>
    bif (r_2 != 0) then
      some ([], r_2)
    else
      ob (f114 n a1 a2) fun r_3 =>
      bif (!r_3) then
        some ([], 4)
      else
        ob (f115 n a0 a1 a2) fun r_4 =>
        some (r_4, 0)
def f58_E (n : Nat) : Ent := ⟨58, [hRs, hRs, hRs], [hRs, hI], fun x => f58 n x.1 x.2.1 x.2.2⟩
def f58_D (α : Type) (n : Nat) : D3 α := { reg := [(1, ⟨0, [], [(2, { sh := some hRs }), (3, { ent := some (f77_E n) })]⟩), (4, ⟨0, [], [(2, { sh := some hRs }), (3, { ent := some (f77_E n) })]⟩), (7, ⟨0, [], [(2, { ent := some (f114_E n) })]⟩), (9, ⟨0, [], [(3, { ent := some (f115_E n) })]⟩)], join := [], loop := [] }
theorem f58_ents (α : Type) (n : Nat) : AllS Try.prog (entsOf (f58_D α n).reg) := ⟨f77_ok n, f77_ok n, f114_ok n, f115_ok n, trivial⟩
theorem f58_d (α : Type) (n : Nat) : D3.OK Try.prog (tyOf Try.prog) ⟨32, []⟩ (f58_D α n) (bodyOf Try.f58) :=
  D3.OK.mk3 (f58_ents α n) (show loopsOf (bodyOf Try.f58) = [] by kernel_rfl) trivial
theorem f58_ok (n : Nat) : (f58_E n).Sound Try.prog :=
  fn_ok (tyOf_ok _) prog_fol (f58_D _ n) (show Try.prog.funcs[58]? = some Try.f58 by kernel_rfl) (by kernel_rfl) (show Try.f58.body = some (bodyOf Try.f58) by kernel_rfl) rfl rfl (Nat.le_of_ble_eq_true rfl) (f58_d _ n) (by intro x; kernel_rfl) 


def f187 (n : Nat) (a0 : Bool × (List Int) × (List Int)) : Option (Bool × (List Int) × (List Int)) :=
  bif (!a0.1) then
    some ((decide ((a0.2.1.length : Int) > 0)), a0.2)
  else
    some (false, a0.2)
def f187_E (n : Nat) : Ent := ⟨187, [hR], [hR], fun x => f187 n x⟩
def f187_D (α : Type) (n : Nat) : D3 α := { reg := [], join := [], loop := [] }
theorem f187_ents (α : Type) (n : Nat) : AllS Try.prog (entsOf (f187_D α n).reg) := trivial
theorem f187_d (α : Type) (n : Nat) : D3.OK Try.prog (tyOf Try.prog) ⟨14, []⟩ (f187_D α n) (bodyOf Try.f187) :=
  D3.OK.mk3 (f187_ents α n) (show loopsOf (bodyOf Try.f187) = [] by kernel_rfl) trivial
theorem f187_ok (n : Nat) : (f187_E n).Sound Try.prog :=
  fn_ok (tyOf_ok _) prog_fol (f187_D _ n) (show Try.prog.funcs[187]? = some Try.f187 by kernel_rfl) (by kernel_rfl) (show Try.f187.body = some (bodyOf Try.f187) by kernel_rfl) rfl rfl (Nat.le_of_ble_eq_true rfl) (f187_d _ n) (by intro x; kernel_rfl) 


def f150 (n : Nat) (a0 : Bool × (List Int) × (List Int)) (a1 : Bool × (List Int) × (List Int)) : Option (Bool × (List Int) × (List Int)) :=
  ob (f187 n a1) fun r_1 =>
  ob (f157 n a0 r_1) fun r_2 =>
  some r_2
def f150_E (n : Nat) : Ent := ⟨150, [hR, hR], [hR], fun x => f150 n x.1 x.2⟩
def f150_D (α : Type) (n : Nat) : D3 α := { reg := [(1, ⟨3, [], [(2, { ent := some (f187_E n) }), (3, { ent := some (f157_E n) })]⟩)], join := [], loop := [] }
theorem f150_ents (α : Type) (n : Nat) : AllS Try.prog (entsOf (f150_D α n).reg) := ⟨f187_ok n, f157_ok n, trivial⟩
theorem f150_d (α : Type) (n : Nat) : D3.OK Try.prog (tyOf Try.prog) ⟨9, []⟩ (f150_D α n) (bodyOf Try.f150) :=
  D3.OK.mk3 (f150_ents α n) (show loopsOf (bodyOf Try.f150) = [] by kernel_rfl) trivial
theorem f150_ok (n : Nat) : (f150_E n).Sound Try.prog :=
  fn_ok (tyOf_ok _) prog_fol (f150_D _ n) (show Try.prog.funcs[150]? = some Try.f150 by kernel_rfl) (by kernel_rfl) (show Try.f150.body = some (bodyOf Try.f150) by kernel_rfl) rfl rfl (Nat.le_of_ble_eq_true rfl) (f150_d _ n) (by intro x; kernel_rfl) 


def f170 (n : Nat) (a0 : Bool × (List Int) × (List Int)) : Option Bool :=
  some ((a0.2.1.length : Int) == 0)
def f170_E (n : Nat) : Ent := ⟨170, [hR], [.bool], fun x => f170 n x⟩
def f170_D (α : Type) (n : Nat) : D3 α := { reg := [], join := [], loop := [] }
theorem f170_ents (α : Type) (n : Nat) : AllS Try.prog (entsOf (f170_D α n).reg) := trivial
theorem f170_d (α : Type) (n : Nat) : D3.OK Try.prog (tyOf Try.prog) ⟨7, []⟩ (f170_D α n) (bodyOf Try.f170) :=
  D3.OK.mk3 (f170_ents α n) (show loopsOf (bodyOf Try.f170) = [] by kernel_rfl) trivial
theorem f170_ok (n : Nat) : (f170_E n).Sound Try.prog :=
  fn_ok (tyOf_ok _) prog_fol (f170_D _ n) (show Try.prog.funcs[170]? = some Try.f170 by kernel_rfl) (by kernel_rfl) (show Try.f170.body = some (bodyOf Try.f170) by kernel_rfl) rfl rfl (Nat.le_of_ble_eq_true rfl) (f170_d _ n) (by intro x; kernel_rfl) 


def f120 (n : Nat) (a0 : Bool × (List Int) × (List Int)) : Option Int :=
  ob (f170 n a0) fun r_1 =>
  bif r_1 then
    some 0
  else
    bif a0.1 then
      some (-1)
    else
      some 1
def f120_E (n : Nat) : Ent := ⟨120, [hR], [hI], fun x => f120 n x⟩
def f120_D (α : Type) (n : Nat) : D3 α := { reg := [(1, ⟨0, [], [(1, { ent := some (f170_E n) })]⟩)], join := [], loop := [] }
theorem f120_ents (α : Type) (n : Nat) : AllS Try.prog (entsOf (f120_D α n).reg) := ⟨f170_ok n, trivial⟩
theorem f120_d (α : Type) (n : Nat) : D3.OK Try.prog (tyOf Try.prog) ⟨9, []⟩ (f120_D α n) (bodyOf Try.f120) :=
  D3.OK.mk3 (f120_ents α n) (show loopsOf (bodyOf Try.f120) = [] by kernel_rfl) trivial
theorem f120_ok (n : Nat) : (f120_E n).Sound Try.prog :=
  fn_ok (tyOf_ok _) prog_fol (f120_D _ n) (show Try.prog.funcs[120]? = some Try.f120 by kernel_rfl) (by kernel_rfl) (show Try.f120.body = some (bodyOf Try.f120) by kernel_rfl) rfl rfl (Nat.le_of_ble_eq_true rfl) (f120_d _ n) (by intro x; kernel_rfl) 


def f88 (n : Nat) (a0 : Bool × (List Int) × (List Int)) (a1 : Bool × (List Int) × (List Int)) : Option Int :=
  ob (f150 n a0 a1) fun r_1 =>
  ob (f120 n r_1) fun r_2 =>
  some r_2
def f88_E (n : Nat) : Ent := ⟨88, [hR, hR], [hI], fun x => f88 n x.1 x.2⟩
def f88_D (α : Type) (n : Nat) : D3 α := { reg := [(1, ⟨0, [], [(2, { ent := some (f150_E n) }), (3, { ent := some (f120_E n) })]⟩)], join := [], loop := [] }
theorem f88_ents (α : Type) (n : Nat) : AllS Try.prog (entsOf (f88_D α n).reg) := ⟨f150_ok n, f120_ok n, trivial⟩
theorem f88_d (α : Type) (n : Nat) : D3.OK Try.prog (tyOf Try.prog) ⟨9, []⟩ (f88_D α n) (bodyOf Try.f88) :=
  D3.OK.mk3 (f88_ents α n) (show loopsOf (bodyOf Try.f88) = [] by kernel_rfl) trivial
theorem f88_ok (n : Nat) : (f88_E n).Sound Try.prog :=
  fn_ok (tyOf_ok _) prog_fol (f88_D _ n) (show Try.prog.funcs[88]? = some Try.f88 by kernel_rfl) (by kernel_rfl) (show Try.f88.body = some (bodyOf Try.f88) by kernel_rfl) rfl rfl (Nat.le_of_ble_eq_true rfl) (f88_d _ n) (by intro x; kernel_rfl) 


def f116_L3B {α : Type} (n : Nat) (s0 : List (Bool × (List Int) × (List Int))) (s1 : List (Bool × (List Int) × (List Int))) (s2 : List (Bool × (List Int) × (List Int))) (s8 : Int) (b9 : List (Bool × (List Int) × (List Int))) (f : (List (Bool × (List Int) × (List Int))) → (List (Bool × (List Int) × (List Int))) → (List (Bool × (List Int) × (List Int))) → Int → (List (Bool × (List Int) × (List Int))) → Option α) (k0 : (List (Bool × (List Int) × (List Int))) → Option α) : Option α :=
  bif (decide (s8 < (s0.length : Int))) then
    gd (decide (0 ≤ s8) && decide (s8 < (s0.length : Int))) (
      let x_1 := s0.getD s8.toNat (false, [], [])
      gd (decide (0 ≤ s8) && decide (s8 < (s1.length : Int))) (
        let x_2 := s1.getD s8.toNat (false, [], [])
        ob (f88 n x_1 x_2) fun r_3 =>
        bif (decide (r_3 < 0)) then
          gd (decide (0 ≤ s8) && decide (s8 < (s1.length : Int))) (
            let x_4 := s1.getD s8.toNat (false, [], [])
            gd (decide ((b9.length + 1) * 56 ≤ 140737488355328)) (
              f s0 s1 s2 (W (s8 + 1)) (b9 ++ [x_4])))
        else
          gd (decide (0 ≤ s8) && decide (s8 < (s0.length : Int))) (
            let x_5 := s0.getD s8.toNat (false, [], [])
            gd (decide (0 ≤ s8) && decide (s8 < (s2.length : Int))) (
              let x_6 := s2.getD s8.toNat (false, [], [])
              ob (f88 n x_5 x_6) fun r_7 =>
              bif (decide (r_7 > 0)) then
                gd (decide (0 ≤ s8) && decide (s8 < (s2.length : Int))) (
                  let x_8 := s2.getD s8.toNat (false, [], [])
                  gd (decide ((b9.length + 1) * 56 ≤ 140737488355328)) (
                    f s0 s1 s2 (W (s8 + 1)) (b9 ++ [x_8])))
              else
                gd (decide (0 ≤ s8) && decide (s8 < (s0.length : Int))) (
                  let x_9 := s0.getD s8.toNat (false, [], [])
                  gd (decide ((b9.length + 1) * 56 ≤ 140737488355328)) (
                    f s0 s1 s2 (W (s8 + 1)) (b9 ++ [x_9])))))))
  else
    k0 b9
abbrev f116_L3H : Tm := ⟨[(0, .d hRs), (1, .d hRs), (2, .d hRs), (7, .k (.hw 9)), (8, .d hI)], [(9, .arr 33 hR false)], [21, 39, 57], []⟩
abbrev f116_L3X0 : Tm := ⟨[(7, .k (.hw 9))], [(9, .arr 33 hR false)], [], []⟩
abbrev f116_L3O : List (Exit × Tm) := [(.exit 0, f116_L3X0)]
def f116_L3U {α : Type} (n : Nat) (v : f116_L3H.den) (f : f116_L3H.den → Option α) (ks : KS α f116_L3O) : Option α := f116_L3B n v.1.1 v.1.2.1 v.1.2.2.1 v.1.2.2.2.2.1 v.2.1 (fun s0 s1 s2 s8 b9 => f ((s0, s1, s2, (), s8, ()), (b9, ()))) (fun w0 => ks.1 (((), ()), (w0, ())))
def f116_L3 {α : Type} (n m : Nat) (s0 : List (Bool × (List Int) × (List Int))) (s1 : List (Bool × (List Int) × (List Int))) (s2 : List (Bool × (List Int) × (List Int))) (s8 : Int) (b9 : List (Bool × (List Int) × (List Int))) (k0 : (List (Bool × (List Int) × (List Int))) → Option α) : Option α := rounds (f116_L3U n) m ((s0, s1, s2, (), s8, ()), (b9, ())) (fun w => k0 w.2.1, ())
theorem f116_L3_0 {α : Type} (n : Nat) (s0 : List (Bool × (List Int) × (List Int))) (s1 : List (Bool × (List Int) × (List Int))) (s2 : List (Bool × (List Int) × (List Int))) (s8 : Int) (b9 : List (Bool × (List Int) × (List Int))) (k0 : (List (Bool × (List Int) × (List Int))) → Option α) : f116_L3 (α := α) n 0 s0 s1 s2 s8 b9 k0 = none := rfl
theorem f116_L3_s {α : Type} (n m : Nat) (s0 : List (Bool × (List Int) × (List Int))) (s1 : List (Bool × (List Int) × (List Int))) (s2 : List (Bool × (List Int) × (List Int))) (s8 : Int) (b9 : List (Bool × (List Int) × (List Int))) (k0 : (List (Bool × (List Int) × (List Int))) → Option α) : f116_L3 (α := α) n (m + 1) s0 s1 s2 s8 b9 k0 = f116_L3B n s0 s1 s2 s8 b9 (fun s0 s1 s2 s8 b9 => f116_L3 n m s0 s1 s2 s8 b9 k0) k0 := rfl
def f116 (n : Nat) (a0 : List (Bool × (List Int) × (List Int))) (a1 : List (Bool × (List Int) × (List Int))) (a2 : List (Bool × (List Int) × (List Int))) : Option (List (Bool × (List Int) × (List Int))) :=
  f116_L3 n n a0 a1 a2 0 []
    (fun z_10 => (
      some z_10))
def f116_E (n : Nat) : Ent := ⟨116, [hRs, hRs, hRs], [hRs], fun x => f116 n x.1 x.2.1 x.2.2⟩
def f116_D (α : Type) (n : Nat) : D3 α := { reg := [(1, ⟨0, [], [(0, { sh := some hR })]⟩), (5, ⟨0, [], [(5, { sh := some hR })]⟩), (6, ⟨8, [], [(8, { ent := some (f88_E n) })]⟩), (7, ⟨0, [], [(5, { sh := some hR })]⟩), (8, ⟨8, [], [(8, { ent := some (f88_E n) })]⟩), (9, ⟨0, [], [(5, { sh := some hR })]⟩)], join := [], loop := [(3, ⟨f116_L3H, f116_L3O, rounds (f116_L3U n) n⟩)] }
theorem f116_ents (α : Type) (n : Nat) : AllS Try.prog (entsOf (f116_D α n).reg) := ⟨f88_ok n, f88_ok n, trivial⟩
theorem f116_L3_d (α : Type) (n : Nat) : D3.OK Try.prog (tyOf Try.prog) ⟨60, []⟩ (f116_D α n) ((bodyOf Try.f116).at [1, 1, 0, 1, 0, 0]) :=
  D3.OK.mk3 (f116_ents α n) (show loopsOf ((bodyOf Try.f116).at [1, 1, 0, 1, 0, 0]) = [] by kernel_rfl) trivial
theorem f116_L3_ok (α : Type) (n : Nat) : LO.Sound (α := α) Try.prog ⟨60, []⟩ ⟨f116_L3H, f116_L3O, rounds (f116_L3U n) n⟩ (.loop ((bodyOf Try.f116).at [1, 1, 0, 1, 0, 0])) :=
  loop_ok (tyOf_ok _) prog_fol (f116_L3U n) (f116_L3_d α n) (by intro v f ks; kernel_rfl) n
theorem f116_d (α : Type) (n : Nat) : D3.OK Try.prog (tyOf Try.prog) ⟨60, []⟩ (f116_D α n) (bodyOf Try.f116) :=
  D3.OK.mk3 (f116_ents α n) (show loopsOf (bodyOf Try.f116) = [(3, (.loop ((bodyOf Try.f116).at [1, 1, 0, 1, 0, 0])))] by kernel_rfl) ⟨look_sound rfl (f116_L3_ok α n), trivial⟩
theorem f116_ok (n : Nat) : (f116_E n).Sound Try.prog :=
  fn_ok (tyOf_ok _) prog_fol (f116_D _ n) (show Try.prog.funcs[116]? = some Try.f116 by kernel_rfl) (by kernel_rfl) (show Try.f116.body = some (bodyOf Try.f116) by kernel_rfl) rfl rfl (Nat.le_of_ble_eq_true rfl) (f116_d _ n) (by intro x; kernel_rfl) 


def f59_L10B {α : Type} (n : Nat) (s0 : List (Bool × (List Int) × (List Int))) (s1 : List (Bool × (List Int) × (List Int))) (s2 : List (Bool × (List Int) × (List Int))) (s10 : Int) (f : (List (Bool × (List Int) × (List Int))) → (List (Bool × (List Int) × (List Int))) → (List (Bool × (List Int) × (List Int))) → Int → Option α) (k0 : Int → (List (Bool × (List Int) × (List Int))) → Option α) (k1 : (List (Bool × (List Int) × (List Int))) → (List (Bool × (List Int) × (List Int))) → (List (Bool × (List Int) × (List Int))) → Option α) : Option α :=
  bif (decide (s10 < (s0.length : Int))) then
    gd (decide (0 ≤ s10) && decide (s10 < (s1.length : Int))) (
      let x_3 := s1.getD s10.toNat (false, [], [])
      gd (decide (0 ≤ s10) && decide (s10 < (s2.length : Int))) (
        let x_4 := s2.getD s10.toNat (false, [], [])
        ob (f88 n x_3 x_4) fun r_5 =>
        bif (decide (r_5 > 0)) then
          k0 4 []
        else
          f s0 s1 s2 (W (s10 + 1))))
  else
    k1 s0 s1 s2
abbrev f59_L10H : Tm := ⟨[(0, .d hRs), (1, .d hRs), (2, .d hRs), (10, .d hI)], [], [], []⟩
abbrev f59_L10X0 : Tm := ⟨[(6, .k (.hw 55)), (7, .d hI)], [(55, .arr 33 hR false)], [], []⟩
abbrev f59_L10X1 : Tm := ⟨[(0, .d hRs), (1, .d hRs), (2, .d hRs)], [], [], []⟩
abbrev f59_L10O : List (Exit × Tm) := [(.ret, f59_L10X0), (.exit 0, f59_L10X1)]
def f59_L10U {α : Type} (n : Nat) (v : f59_L10H.den) (f : f59_L10H.den → Option α) (ks : KS α f59_L10O) : Option α := f59_L10B n v.1.1 v.1.2.1 v.1.2.2.1 v.1.2.2.2.1 (fun s0 s1 s2 s10 => f ((s0, s1, s2, s10, ()), ())) (fun w0 w1 => ks.1 (((), w0, ()), (w1, ()))) (fun w0 w1 w2 => ks.2.1 ((w0, w1, w2, ()), ()))
def f59_L10 {α : Type} (n m : Nat) (s0 : List (Bool × (List Int) × (List Int))) (s1 : List (Bool × (List Int) × (List Int))) (s2 : List (Bool × (List Int) × (List Int))) (s10 : Int) (k0 : Int → (List (Bool × (List Int) × (List Int))) → Option α) (k1 : (List (Bool × (List Int) × (List Int))) → (List (Bool × (List Int) × (List Int))) → (List (Bool × (List Int) × (List Int))) → Option α) : Option α := rounds (f59_L10U n) m ((s0, s1, s2, s10, ()), ()) (fun w => k0 w.1.2.1 w.2.1, fun w => k1 w.1.1 w.1.2.1 w.1.2.2.1, ())
theorem f59_L10_0 {α : Type} (n : Nat) (s0 : List (Bool × (List Int) × (List Int))) (s1 : List (Bool × (List Int) × (List Int))) (s2 : List (Bool × (List Int) × (List Int))) (s10 : Int) (k0 : Int → (List (Bool × (List Int) × (List Int))) → Option α) (k1 : (List (Bool × (List Int) × (List Int))) → (List (Bool × (List Int) × (List Int))) → (List (Bool × (List Int) × (List Int))) → Option α) : f59_L10 (α := α) n 0 s0 s1 s2 s10 k0 k1 = none := rfl
theorem f59_L10_s {α : Type} (n m : Nat) (s0 : List (Bool × (List Int) × (List Int))) (s1 : List (Bool × (List Int) × (List Int))) (s2 : List (Bool × (List Int) × (List Int))) (s10 : Int) (k0 : Int → (List (Bool × (List Int) × (List Int))) → Option α) (k1 : (List (Bool × (List Int) × (List Int))) → (List (Bool × (List Int) × (List Int))) → (List (Bool × (List Int) × (List Int))) → Option α) : f59_L10 (α := α) n (m + 1) s0 s1 s2 s10 k0 k1 = f59_L10B n s0 s1 s2 s10 (fun s0 s1 s2 s10 => f59_L10 n m s0 s1 s2 s10 k0 k1) k0 k1 := rfl
def f59 (n : Nat) (a0 : List (Bool × (List Int) × (List Int))) (a1 : List (Bool × (List Int) × (List Int))) (a2 : List (Bool × (List Int) × (List Int))) : Option ((List (Bool × (List Int) × (List Int))) × Int) :=
  bif (decide ((a0.length : Int) > 4096)) then
    some ([], 2)
  else
    bif (decide ((a1.length : Int) > 4096)) then
      some ([], 2)
    else
      bif (decide ((a2.length : Int) > 4096)) then
        some ([], 2)
      else
        ob (f93 n a0 a1) fun r_1 =>
        bif (r_1 != 0) then
          some ([], r_1)
        else
          ob (f93 n a0 a2) fun r_2 =>
          bif (r_2 != 0) then
            some ([], r_2)
          else
            f59_L10 n n a0 a1 a2 0
              (fun z_6 z_7 => (
                some (z_7, z_6)))
              (fun z_8 z_9 z_10 => (
                ob (f116 n z_8 z_9 z_10) fun r_11 =>
                ob (f79 n r_11) fun r_12 =>
                some (r_12.1, r_12.2)))
def f59_E (n : Nat) : Ent := ⟨59, [hRs, hRs, hRs], [hRs, hI], fun x => f59 n x.1 x.2.1 x.2.2⟩
def f59_D (α : Type) (n : Nat) : D3 α := { reg := [(2, ⟨0, [], [(0, { sh := some hR })]⟩), (3, ⟨0, [], [(2, { ent := some (f93_E n) })]⟩), (5, ⟨0, [], [(0, { sh := some hR })]⟩), (6, ⟨0, [], [(2, { ent := some (f93_E n) })]⟩), (8, ⟨0, [], [(0, { sh := some hR })]⟩), (12, ⟨8, [], [(8, { ent := some (f88_E n) })]⟩), (13, ⟨0, [], [(0, { sh := some hR })]⟩), (14, ⟨0, [], [(3, { ent := some (f116_E n) }), (4, { ent := some (f79_E n) })]⟩)], join := [], loop := [(10, ⟨f59_L10H, f59_L10O, rounds (f59_L10U n) n⟩)] }
theorem f59_ents (α : Type) (n : Nat) : AllS Try.prog (entsOf (f59_D α n).reg) := ⟨f93_ok n, f93_ok n, f88_ok n, f116_ok n, f79_ok n, trivial⟩
theorem f59_L10_d (α : Type) (n : Nat) : D3.OK Try.prog (tyOf Try.prog) ⟨63, []⟩ (f59_D α n) ((bodyOf Try.f59).at [1, 1, 1, 1, 0, 1, 0, 0]) :=
  D3.OK.mk3 (f59_ents α n) (show loopsOf ((bodyOf Try.f59).at [1, 1, 1, 1, 0, 1, 0, 0]) = [] by kernel_rfl) trivial
theorem f59_L10_ok (α : Type) (n : Nat) : LO.Sound (α := α) Try.prog ⟨63, []⟩ ⟨f59_L10H, f59_L10O, rounds (f59_L10U n) n⟩ (.loop ((bodyOf Try.f59).at [1, 1, 1, 1, 0, 1, 0, 0])) :=
  loop_ok (tyOf_ok _) prog_fol (f59_L10U n) (f59_L10_d α n) (by intro v f ks; kernel_rfl) n
theorem f59_d (α : Type) (n : Nat) : D3.OK Try.prog (tyOf Try.prog) ⟨63, []⟩ (f59_D α n) (bodyOf Try.f59) :=
  D3.OK.mk3 (f59_ents α n) (show loopsOf (bodyOf Try.f59) = [(10, (.loop ((bodyOf Try.f59).at [1, 1, 1, 1, 0, 1, 0, 0])))] by kernel_rfl) ⟨look_sound rfl (f59_L10_ok α n), trivial⟩
theorem f59_ok (n : Nat) : (f59_E n).Sound Try.prog :=
  fn_ok (tyOf_ok _) prog_fol (f59_D _ n) (show Try.prog.funcs[59]? = some Try.f59 by kernel_rfl) (by kernel_rfl) (show Try.f59.body = some (bodyOf Try.f59) by kernel_rfl) rfl rfl (Nat.le_of_ble_eq_true rfl) (f59_d _ n) (by intro x; kernel_rfl) 


def f38 (n : Nat) (a0 : Bool × (List Int) × (List Int)) (a1 : Bool × (List Int) × (List Int)) : Option (Int × Int) :=
  ob (f68 n [a0, a1]) fun r_1 =>
  bif (r_1 != 0) then
    some (0, r_1)
  else
    ob (f86 n a0 a1) fun r_2 =>
    some ((min (max r_2 (-1)) 1), 0)
def f38_E (n : Nat) : Ent := ⟨38, [hR, hR], [hI, hI], fun x => f38 n x.1 x.2⟩
def f38_D (α : Type) (n : Nat) : D3 α := { reg := [(1, ⟨0, [], [(2, { sh := some hR }), (3, { ent := some (f68_E n) })]⟩), (4, ⟨0, [], [(2, { ent := some (f86_E n) })]⟩)], join := [], loop := [] }
theorem f38_ents (α : Type) (n : Nat) : AllS Try.prog (entsOf (f38_D α n).reg) := ⟨f68_ok n, f86_ok n, trivial⟩
theorem f38_d (α : Type) (n : Nat) : D3.OK Try.prog (tyOf Try.prog) ⟨19, []⟩ (f38_D α n) (bodyOf Try.f38) :=
  D3.OK.mk3 (f38_ents α n) (show loopsOf (bodyOf Try.f38) = [] by kernel_rfl) trivial
theorem f38_ok (n : Nat) : (f38_E n).Sound Try.prog :=
  fn_ok (tyOf_ok _) prog_fol (f38_D _ n) (show Try.prog.funcs[38]? = some Try.f38 by kernel_rfl) (by kernel_rfl) (show Try.f38.body = some (bodyOf Try.f38) by kernel_rfl) rfl rfl (Nat.le_of_ble_eq_true rfl) (f38_d _ n) (by intro x; kernel_rfl) 


def f13_L9B {α : Type} (n : Nat) (s5 : Int) (s6 : List (Bool × (List Int) × (List Int))) (s7 : List (Bool × (List Int) × (List Int))) (s9 : Int) (s11 : Int) (c8_0 : Bool) (c8_1 : List Int) (c8_2 : List Int) (b48 : List (Bool × (List Int) × (List Int))) (f : Int → (List (Bool × (List Int) × (List Int))) → (List (Bool × (List Int) × (List Int))) → Int → Int → Bool → (List Int) → (List Int) → (List (Bool × (List Int) × (List Int))) → Option α) (k0 : Bool → Option α) (k1 : Int → (List (Bool × (List Int) × (List Int))) → (List (Bool × (List Int) × (List Int))) → Int → (List (Bool × (List Int) × (List Int))) → Option α) : Option α :=
  bif (decide (s11 < s5)) then
    gd (decide (0 ≤ s11) && decide (s11 < (s7.length : Int))) (
      let x_6 := s7.getD s11.toNat (false, [], [])
      ob (f40 n x_6 (c8_0, c8_1, c8_2)) fun r_7 =>
      bif (r_7.2 != 0) then
        k0 false
      else
        gd (decide ((b48.length + 1) * 56 ≤ 140737488355328)) (
          f s5 s6 s7 s9 (W (s11 + 1)) c8_0 c8_1 c8_2 (b48 ++ [r_7.1])))
  else
    k1 s5 s6 s7 s9 b48
abbrev f13_L9H : Tm := ⟨[(5, .d hI), (6, .d hRs), (7, .d hRs), (8, .k (.hp 8 0 0)), (9, .d hI), (10, .k (.hw 48)), (11, .d hI)], [(8, .var 33 true false [.d .bool, .d hIs, .d hIs]), (48, .arr 33 hR false)], [12, 67], []⟩
abbrev f13_L9X0 : Tm := ⟨[(4, .d .bool)], [], [8, 12, 48], []⟩
abbrev f13_L9X1 : Tm := ⟨[(5, .d hI), (6, .d hRs), (7, .d hRs), (9, .d hI), (10, .k (.hw 48))], [(48, .arr 33 hR false)], [8], []⟩
abbrev f13_L9O : List (Exit × Tm) := [(.ret, f13_L9X0), (.exit 0, f13_L9X1)]
def f13_L9U {α : Type} (n : Nat) (v : f13_L9H.den) (f : f13_L9H.den → Option α) (ks : KS α f13_L9O) : Option α := f13_L9B n v.1.1 v.1.2.1 v.1.2.2.1 v.1.2.2.2.2.1 v.1.2.2.2.2.2.2.1 v.2.1.1 v.2.1.2.1 v.2.1.2.2.1 v.2.2.1 (fun s5 s6 s7 s9 s11 c8_0 c8_1 c8_2 b48 => f ((s5, s6, s7, (), s9, (), s11, ()), ((c8_0, c8_1, c8_2, ()), b48, ()))) (fun w0 => ks.1 ((w0, ()), ())) (fun w0 w1 w2 w3 w4 => ks.2.1 ((w0, w1, w2, w3, (), ()), (w4, ())))
def f13_L9 {α : Type} (n m : Nat) (s5 : Int) (s6 : List (Bool × (List Int) × (List Int))) (s7 : List (Bool × (List Int) × (List Int))) (s9 : Int) (s11 : Int) (c8_0 : Bool) (c8_1 : List Int) (c8_2 : List Int) (b48 : List (Bool × (List Int) × (List Int))) (k0 : Bool → Option α) (k1 : Int → (List (Bool × (List Int) × (List Int))) → (List (Bool × (List Int) × (List Int))) → Int → (List (Bool × (List Int) × (List Int))) → Option α) : Option α := rounds (f13_L9U n) m ((s5, s6, s7, (), s9, (), s11, ()), ((c8_0, c8_1, c8_2, ()), b48, ())) (fun w => k0 w.1.1, fun w => k1 w.1.1 w.1.2.1 w.1.2.2.1 w.1.2.2.2.1 w.2.1, ())
theorem f13_L9_0 {α : Type} (n : Nat) (s5 : Int) (s6 : List (Bool × (List Int) × (List Int))) (s7 : List (Bool × (List Int) × (List Int))) (s9 : Int) (s11 : Int) (c8_0 : Bool) (c8_1 : List Int) (c8_2 : List Int) (b48 : List (Bool × (List Int) × (List Int))) (k0 : Bool → Option α) (k1 : Int → (List (Bool × (List Int) × (List Int))) → (List (Bool × (List Int) × (List Int))) → Int → (List (Bool × (List Int) × (List Int))) → Option α) : f13_L9 (α := α) n 0 s5 s6 s7 s9 s11 c8_0 c8_1 c8_2 b48 k0 k1 = none := rfl
theorem f13_L9_s {α : Type} (n m : Nat) (s5 : Int) (s6 : List (Bool × (List Int) × (List Int))) (s7 : List (Bool × (List Int) × (List Int))) (s9 : Int) (s11 : Int) (c8_0 : Bool) (c8_1 : List Int) (c8_2 : List Int) (b48 : List (Bool × (List Int) × (List Int))) (k0 : Bool → Option α) (k1 : Int → (List (Bool × (List Int) × (List Int))) → (List (Bool × (List Int) × (List Int))) → Int → (List (Bool × (List Int) × (List Int))) → Option α) : f13_L9 (α := α) n (m + 1) s5 s6 s7 s9 s11 c8_0 c8_1 c8_2 b48 k0 k1 = f13_L9B n s5 s6 s7 s9 s11 c8_0 c8_1 c8_2 b48 (fun s5 s6 s7 s9 s11 c8_0 c8_1 c8_2 b48 => f13_L9 n m s5 s6 s7 s9 s11 c8_0 c8_1 c8_2 b48 k0 k1) k0 k1 := rfl
def f13_L21B {α : Type} (n : Nat) (s5 : Int) (s7 : List (Bool × (List Int) × (List Int))) (s14 : List (Bool × (List Int) × (List Int))) (s20 : Int) (b48 : List (Bool × (List Int) × (List Int))) (f : Int → (List (Bool × (List Int) × (List Int))) → (List (Bool × (List Int) × (List Int))) → Int → (List (Bool × (List Int) × (List Int))) → Option α) (k0 : Bool → Option α) (k1 : Unit → Option α) : Option α :=
  bif (decide (s20 < s5)) then
    gd (decide (0 ≤ s20) && decide (s20 < (s7.length : Int))) (
      let x_19 := s7.getD s20.toNat (false, [], [])
      gd (decide (0 ≤ s20) && decide (s20 < (s14.length : Int))) (
        let x_20 := s14.getD s20.toNat (false, [], [])
        ob (f38 n x_19 x_20) fun r_21 =>
        gd (decide (0 ≤ s20) && decide (s20 < (s14.length : Int))) (
          let x_22 := s14.getD s20.toNat (false, [], [])
          gd (decide (0 ≤ s20) && decide (s20 < (b48.length : Int))) (
            gd (decide (s20.toNat < b48.length)) (
              let x_23 := b48.getD s20.toNat (false, [], [])
              ob (f38 n x_22 x_23) fun r_24 =>
              bif (r_21.2 != 0) then
                k0 false
              else
                bif (r_24.2 != 0) then
                  k0 false
                else
                  bif (decide (r_21.1 > 0)) then
                    k0 false
                  else
                    bif (decide (r_24.1 > 0)) then
                      k0 false
                    else
                      f s5 s7 s14 (W (s20 + 1)) b48)))))
  else
    k1 ()
abbrev f13_L21H : Tm := ⟨[(5, .d hI), (7, .d hRs), (10, .k (.hw 48)), (14, .d hRs), (20, .d hI)], [(48, .arr 33 hR true)], [], []⟩
abbrev f13_L21X0 : Tm := ⟨[(4, .d .bool)], [], [48], []⟩
abbrev f13_L21X1 : Tm := ⟨[], [], [48], []⟩
abbrev f13_L21O : List (Exit × Tm) := [(.ret, f13_L21X0), (.exit 2, f13_L21X1)]
def f13_L21U {α : Type} (n : Nat) (v : f13_L21H.den) (f : f13_L21H.den → Option α) (ks : KS α f13_L21O) : Option α := f13_L21B n v.1.1 v.1.2.1 v.1.2.2.2.1 v.1.2.2.2.2.1 v.2.1 (fun s5 s7 s14 s20 b48 => f ((s5, s7, (), s14, s20, ()), (b48, ()))) (fun w0 => ks.1 ((w0, ()), ())) (fun _ => ks.2.1 ((), ()))
def f13_L21 {α : Type} (n m : Nat) (s5 : Int) (s7 : List (Bool × (List Int) × (List Int))) (s14 : List (Bool × (List Int) × (List Int))) (s20 : Int) (b48 : List (Bool × (List Int) × (List Int))) (k0 : Bool → Option α) (k1 : Unit → Option α) : Option α := rounds (f13_L21U n) m ((s5, s7, (), s14, s20, ()), (b48, ())) (fun w => k0 w.1.1, fun w => k1 (), ())
theorem f13_L21_0 {α : Type} (n : Nat) (s5 : Int) (s7 : List (Bool × (List Int) × (List Int))) (s14 : List (Bool × (List Int) × (List Int))) (s20 : Int) (b48 : List (Bool × (List Int) × (List Int))) (k0 : Bool → Option α) (k1 : Unit → Option α) : f13_L21 (α := α) n 0 s5 s7 s14 s20 b48 k0 k1 = none := rfl
theorem f13_L21_s {α : Type} (n m : Nat) (s5 : Int) (s7 : List (Bool × (List Int) × (List Int))) (s14 : List (Bool × (List Int) × (List Int))) (s20 : Int) (b48 : List (Bool × (List Int) × (List Int))) (k0 : Bool → Option α) (k1 : Unit → Option α) : f13_L21 (α := α) n (m + 1) s5 s7 s14 s20 b48 k0 k1 = f13_L21B n s5 s7 s14 s20 b48 (fun s5 s7 s14 s20 b48 => f13_L21 n m s5 s7 s14 s20 b48 k0 k1) k0 k1 := rfl
abbrev f13_G11 : Tm := ⟨[(5, .d hI), (6, .d hRs), (7, .d hRs), (8, .k (.hp 8 0 0)), (9, .d hI), (10, .k (.hw 48)), (11, .d hI)], [(8, .var 33 true false [.d .bool, .d hIs, .d hIs]), (48, .arr 33 hR false)], [], []⟩
def f13 (n : Nat) (a0 : List Int) (a1 : List Int) : Option Bool :=
  bif (decide ((a0.length : Int) > 1048576)) then
    some true
  else
    bif (decide ((a1.length : Int) > 1048576)) then
      some true
    else
      ob (f51 n a0 0 4) fun r_1 =>
      ob (f52 n a0 (W (1 + r_1))) fun r_2 =>
      ob (f52 n a1 (W (1 + r_1))) fun r_3 =>
      ob (f51 n a1 0 9) fun r_4 =>
      ob (f57 n r_4 1) fun r_5 =>
      f13_L9 n n (W (1 + r_1)) r_2 r_3 r_5.2 0 r_5.1.1 r_5.1.2.1 r_5.1.2.2 []
        (fun z_8 => (
          some z_8))
        (fun z_9 z_10 z_11 z_12 z_13 => (
          ob (f58 n z_10 z_11 z_13) fun r_14 =>
          ob (f59 n z_10 z_11 z_13) fun r_15 =>
          ob (f58 n r_14.1 z_11 z_13) fun r_16 =>
          bif (z_12 != 0) then
            some false
          else
            bif (r_14.2 != 0) then
              some false
            else
              ob (f55 n r_14.1 r_15.1) fun r_17 =>
              bif (!r_17) then
                some false
              else
                bif (r_16.2 != 0) then
                  some false
                else
                  ob (f55 n r_16.1 r_14.1) fun r_18 =>
                  bif (!r_18) then
                    some false
                  else
                    bif ((r_14.1.length : Int) != z_9) then
                      some false
                    else
                      f13_L21 n n z_9 z_11 r_14.1 0 z_13
                        (fun z_25 => (
                          some z_25))
                        (fun (_ : Unit) => (
                          some true))))
def f13_E (n : Nat) : Ent := ⟨13, [(.sl (.int .u8)), (.sl (.int .u8))], [.bool], fun x => f13 n x.1 x.2⟩
def f13_D (α : Type) (n : Nat) : D3 α := { reg := [(3, ⟨0, [], [(1, { ent := some (f51_E n) })]⟩), (4, ⟨0, [], [(2, { ent := some (f52_E n) })]⟩), (5, ⟨0, [], [(2, { ent := some (f52_E n) })]⟩), (6, ⟨0, [], [(1, { ent := some (f51_E n) }), (2, { ent := some (f57_E n) })]⟩), (7, ⟨0, [], [(0, { sh := some hR })]⟩), (11, ⟨0, [], [(5, { ent := some (f40_E n) })]⟩), (14, ⟨0, [], [(2, { sh := some hR })]⟩), (15, ⟨0, [], [(3, { ent := some (f58_E n), fz := [(72, hRs)] })]⟩), (16, ⟨0, [], [(3, { ent := some (f59_E n), fz := [(79, hRs)] })]⟩), (17, ⟨0, [], [(3, { ent := some (f58_E n), fz := [(86, hRs)] })]⟩), (18, ⟨0, [], [(9, { ent := some (f55_E n) }), (19, { ent := some (f55_E n) })]⟩), (23, ⟨13, [], [(8, { ent := some (f38_E n) })]⟩), (24, ⟨13, [], [(8, { ent := some (f38_E n) })]⟩)], join := [], loop := [(9, ⟨f13_L9H, f13_L9O, rounds (f13_L9U n) n⟩), (21, ⟨f13_L21H, f13_L21O, rounds (f13_L21U n) n⟩)], any := [(11, f13_G11)] }
set_option maxHeartbeats 8000000 in
theorem f13_A11 (n : Nat) : FamAll (tyOf Try.prog) ⟨161, []⟩ [(5, { ent := some (f40_E n) })] f13_G11 (regOps ((bodyOf Try.f13).at [1, 1, 1, 1, 1, 1, 1, 0, 1, 0, 0, 1, 0, 0, 0])) := by
  refine ⟨by kernel_rfl, fun w q hq => ?_⟩
  have e : WT [(5, { ent := some (f40_E n) })] (swapIdx (regOps ((bodyOf Try.f13).at [1, 1, 1, 1, 1, 1, 1, 0, 1, 0, 0, 1, 0, 0, 0])).toList) q = (∃ (y0 : HL (f40_E n).rs) (q0 : List (Nat × RV)), q = (5, .sv (resSV (f40_E n).rs y0)) :: q0 ∧ q0 = []) := by kernel_rfl
  rw [e] at hq
  obtain ⟨y0, q0, rfl, rfl⟩ := hq
  exact FamEq.mk (by kernel_rfl)
theorem f13_ents (α : Type) (n : Nat) : AllS Try.prog (entsOf (f13_D α n).reg) := ⟨f51_ok n, f52_ok n, f52_ok n, f51_ok n, f57_ok n, f40_ok n, f58_ok n, f59_ok n, f58_ok n, f55_ok n, f55_ok n, f38_ok n, f38_ok n, trivial⟩
theorem f13_L9_d (α : Type) (n : Nat) : D3.OK Try.prog (tyOf Try.prog) ⟨161, []⟩ (f13_D α n) ((bodyOf Try.f13).at [1, 1, 1, 1, 1, 1, 1, 0, 1, 0, 0]) :=
  D3.OK.mk3a (f13_ents α n) (show loopsOf ((bodyOf Try.f13).at [1, 1, 1, 1, 1, 1, 1, 0, 1, 0, 0]) = [] by kernel_rfl) trivial (show anysOf ((bodyOf Try.f13).at [1, 1, 1, 1, 1, 1, 1, 0, 1, 0, 0]) = [(11, regOps ((bodyOf Try.f13).at [1, 1, 1, 1, 1, 1, 1, 0, 1, 0, 0, 1, 0, 0, 0]))] by kernel_rfl) ⟨fun X h => (by cases h; exact f13_A11 n), trivial⟩
theorem f13_L9_ok (α : Type) (n : Nat) : LO.Sound (α := α) Try.prog ⟨161, []⟩ ⟨f13_L9H, f13_L9O, rounds (f13_L9U n) n⟩ (.loop ((bodyOf Try.f13).at [1, 1, 1, 1, 1, 1, 1, 0, 1, 0, 0])) :=
  loop_ok (tyOf_ok _) prog_fol (f13_L9U n) (f13_L9_d α n) (by intro v f ks; kernel_rfl) n
theorem f13_L21_d (α : Type) (n : Nat) : D3.OK Try.prog (tyOf Try.prog) ⟨161, []⟩ (f13_D α n) ((bodyOf Try.f13).at [1, 1, 1, 1, 1, 1, 1, 1, 1, 1, 1, 1, 0, 1, 0, 0]) :=
  D3.OK.mk3a (f13_ents α n) (show loopsOf ((bodyOf Try.f13).at [1, 1, 1, 1, 1, 1, 1, 1, 1, 1, 1, 1, 0, 1, 0, 0]) = [] by kernel_rfl) trivial (show anysOf ((bodyOf Try.f13).at [1, 1, 1, 1, 1, 1, 1, 1, 1, 1, 1, 1, 0, 1, 0, 0]) = [(23, regOps ((bodyOf Try.f13).at [1, 1, 1, 1, 1, 1, 1, 1, 1, 1, 1, 1, 0, 1, 0, 0, 1, 0, 0, 0])), (24, regOps ((bodyOf Try.f13).at [1, 1, 1, 1, 1, 1, 1, 1, 1, 1, 1, 1, 0, 1, 0, 0, 1, 0, 0, 1, 0]))] by kernel_rfl) ⟨fun X h => (by cases h), fun X h => (by cases h), trivial⟩
theorem f13_L21_ok (α : Type) (n : Nat) : LO.Sound (α := α) Try.prog ⟨161, []⟩ ⟨f13_L21H, f13_L21O, rounds (f13_L21U n) n⟩ (.loop ((bodyOf Try.f13).at [1, 1, 1, 1, 1, 1, 1, 1, 1, 1, 1, 1, 0, 1, 0, 0])) :=
  loop_ok (tyOf_ok _) prog_fol (f13_L21U n) (f13_L21_d α n) (by intro v f ks; kernel_rfl) n
theorem f13_d (α : Type) (n : Nat) : D3.OK Try.prog (tyOf Try.prog) ⟨161, []⟩ (f13_D α n) (bodyOf Try.f13) :=
  D3.OK.mk3a (f13_ents α n) (show loopsOf (bodyOf Try.f13) = [(9, (.loop ((bodyOf Try.f13).at [1, 1, 1, 1, 1, 1, 1, 0, 1, 0, 0]))), (21, (.loop ((bodyOf Try.f13).at [1, 1, 1, 1, 1, 1, 1, 1, 1, 1, 1, 1, 0, 1, 0, 0])))] by kernel_rfl) ⟨look_sound rfl (f13_L9_ok α n), look_sound rfl (f13_L21_ok α n), trivial⟩ (show anysOf (bodyOf Try.f13) = [] by kernel_rfl) trivial
theorem f13_ok (n : Nat) : (f13_E n).Sound Try.prog :=
  fn_ok (tyOf_ok _) prog_fol (f13_D _ n) (show Try.prog.funcs[13]? = some Try.f13 by kernel_rfl) (by kernel_rfl) (show Try.f13.body = some (bodyOf Try.f13) by kernel_rfl) rfl rfl (Nat.le_of_ble_eq_true rfl) (f13_d _ n) (by intro x; kernel_rfl) 




end Go.Ev
