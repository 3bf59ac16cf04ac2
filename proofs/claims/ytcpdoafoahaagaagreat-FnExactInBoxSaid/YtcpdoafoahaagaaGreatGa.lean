/- DERIVED. What the functions compute, and that they do. -/
import Derived.Test.YtcpdoafoahaagaaGreatEe

set_option linter.all false
set_option linter.unusedVariables false
set_option linter.unusedSimpArgs false

namespace Go.Ev
open Go Go.Proofs Go.RowKit Go.Shelf
def f149 (n : Nat) (a0 : List (Int × Int × Int × Int)) (a1 : Int) : Option Int :=
  bif (decide ((W (a1 - (a0.length : Int))) < 0)) then
    some (-1)
  else
    some (W (a1 - (a0.length : Int)))
def f149_E (n : Nat) : Ent := ⟨149, [hNs, hI], [hI], fun x => f149 n x.1 x.2⟩
def f149_D (α : Type) (n : Nat) : D3 α := { reg := [], join := [], loop := [] }
theorem f149_ents (α : Type) (n : Nat) : AllS Tryz.prog (entsOf (f149_D α n).reg) := trivial
theorem f149_d (α : Type) (n : Nat) : D3.OK Tryz.prog (tyOf Tryz.prog) ⟨12, []⟩ (f149_D α n) (bodyOf Tryz.f149) :=
  D3.OK.mk3 (f149_ents α n) (show loopsOf (bodyOf Tryz.f149) = [] by kernel_rfl) trivial
theorem f149_ok (n : Nat) : (f149_E n).Sound Tryz.prog :=
  fn_ok (tyOf_ok _) prog_fol (f149_D _ n) (show Tryz.prog.funcs[149]? = some Tryz.f149 by kernel_rfl) (by kernel_rfl) (show Tryz.f149.body = some (bodyOf Tryz.f149) by kernel_rfl) rfl rfl (Nat.le_of_ble_eq_true rfl) (f149_d _ n) (by intro x; kernel_rfl) 


def f80 (n : Nat) (a0 : List (Int × Int × Int × Int)) (a1 : Int) : Option Int :=
  ob (f149 n a0 a1) fun r_1 =>
  bif (decide (r_1 < 0)) then
    some (-1)
  else
    some r_1
def f80_E (n : Nat) : Ent := ⟨80, [hE, hI], [hI], fun x => f80 n x.1 x.2⟩
def f80_D (α : Type) (n : Nat) : D3 α := { reg := [(1, ⟨0, [], [(3, { ent := some (f149_E n) })]⟩)], join := [], loop := [] }
theorem f80_ents (α : Type) (n : Nat) : AllS Tryz.prog (entsOf (f80_D α n).reg) := ⟨f149_ok n, trivial⟩
theorem f80_d (α : Type) (n : Nat) : D3.OK Tryz.prog (tyOf Tryz.prog) ⟨12, []⟩ (f80_D α n) (bodyOf Tryz.f80) :=
  D3.OK.mk3 (f80_ents α n) (show loopsOf (bodyOf Tryz.f80) = [] by kernel_rfl) trivial
theorem f80_ok (n : Nat) : (f80_E n).Sound Tryz.prog :=
  fn_ok (tyOf_ok _) prog_fol (f80_D _ n) (show Tryz.prog.funcs[80]? = some Tryz.f80 by kernel_rfl) (by kernel_rfl) (show Tryz.f80.body = some (bodyOf Tryz.f80) by kernel_rfl) rfl rfl (Nat.le_of_ble_eq_true rfl) (f80_d _ n) (by intro x; kernel_rfl) 


def f131 (n : Nat) (a0 : List Int) (a1 : Int) : Option Int :=
  bif (decide ((W (a1 - (a0.length : Int))) < 0)) then
    some (-1)
  else
    some (W (a1 - (a0.length : Int)))
def f131_E (n : Nat) : Ent := ⟨131, [hIs, hI], [hI], fun x => f131 n x.1 x.2⟩
def f131_D (α : Type) (n : Nat) : D3 α := { reg := [], join := [], loop := [] }
theorem f131_ents (α : Type) (n : Nat) : AllS Tryz.prog (entsOf (f131_D α n).reg) := trivial
theorem f131_d (α : Type) (n : Nat) : D3.OK Tryz.prog (tyOf Tryz.prog) ⟨12, []⟩ (f131_D α n) (bodyOf Tryz.f131) :=
  D3.OK.mk3 (f131_ents α n) (show loopsOf (bodyOf Tryz.f131) = [] by kernel_rfl) trivial
theorem f131_ok (n : Nat) : (f131_E n).Sound Tryz.prog :=
  fn_ok (tyOf_ok _) prog_fol (f131_D _ n) (show Tryz.prog.funcs[131]? = some Tryz.f131 by kernel_rfl) (by kernel_rfl) (show Tryz.f131.body = some (bodyOf Tryz.f131) by kernel_rfl) rfl rfl (Nat.le_of_ble_eq_true rfl) (f131_d _ n) (by intro x; kernel_rfl) 


def f60 (n : Nat) (a0 : Bool × (List Int) × (List Int)) (a1 : Int) : Option Int :=
  ob (f131 n a0.2.1 a1) fun r_1 =>
  bif (decide (r_1 < 0)) then
    some (-1)
  else
    ob (f131 n a0.2.2 r_1) fun r_2 =>
    bif (decide (r_2 < 0)) then
      some (-1)
    else
      some r_2
def f60_E (n : Nat) : Ent := ⟨60, [hR, hI], [hI], fun x => f60 n x.1 x.2⟩
def f60_D (α : Type) (n : Nat) : D3 α := { reg := [(1, ⟨0, [], [(3, { ent := some (f131_E n) })]⟩), (4, ⟨0, [], [(3, { ent := some (f131_E n) })]⟩)], join := [], loop := [] }
theorem f60_ents (α : Type) (n : Nat) : AllS Tryz.prog (entsOf (f60_D α n).reg) := ⟨f131_ok n, f131_ok n, trivial⟩
theorem f60_d (α : Type) (n : Nat) : D3.OK Tryz.prog (tyOf Tryz.prog) ⟨18, []⟩ (f60_D α n) (bodyOf Tryz.f60) :=
  D3.OK.mk3 (f60_ents α n) (show loopsOf (bodyOf Tryz.f60) = [] by kernel_rfl) trivial
theorem f60_ok (n : Nat) : (f60_E n).Sound Tryz.prog :=
  fn_ok (tyOf_ok _) prog_fol (f60_D _ n) (show Tryz.prog.funcs[60]? = some Tryz.f60 by kernel_rfl) (by kernel_rfl) (show Tryz.f60.body = some (bodyOf Tryz.f60) by kernel_rfl) rfl rfl (Nat.le_of_ble_eq_true rfl) (f60_d _ n) (by intro x; kernel_rfl) 


def f18_L5B {α : Type} (n : Nat) (s0 : List (Bool × (List Int) × (List Int))) (s1 : Int) (s5 : Int) (f : (List (Bool × (List Int) × (List Int))) → Int → Int → Option α) (k0 : Int → Option α) (k1 : Int → Option α) : Option α :=
  bif (decide (s5 < (s0.length : Int))) then
    gd (decide (0 ≤ s5) && decide (s5 < (s0.length : Int))) (
      let x_1 := s0.getD s5.toNat (false, [], [])
      ob (f60 n x_1 s1) fun r_2 =>
      bif (decide (r_2 < 0)) then
        k0 (-1)
      else
        f s0 r_2 (W (s5 + 1)))
  else
    k1 s1
abbrev f18_L5H : Tm := ⟨[(0, .d hRs), (1, .d hI), (5, .d hI)], [], [], []⟩
abbrev f18_L5X0 : Tm := ⟨[(4, .d hI)], [], [], []⟩
abbrev f18_L5X1 : Tm := ⟨[(1, .d hI)], [], [], []⟩
abbrev f18_L5O : List (Exit × Tm) := [(.ret, f18_L5X0), (.exit 0, f18_L5X1)]
def f18_L5U {α : Type} (n : Nat) (v : f18_L5H.den) (f : f18_L5H.den → Option α) (ks : KS α f18_L5O) : Option α := f18_L5B n v.1.1 v.1.2.1 v.1.2.2.1 (fun s0 s1 s5 => f ((s0, s1, s5, ()), ())) (fun w0 => ks.1 ((w0, ()), ())) (fun w0 => ks.2.1 ((w0, ()), ()))
def f18_L5 {α : Type} (n m : Nat) (s0 : List (Bool × (List Int) × (List Int))) (s1 : Int) (s5 : Int) (k0 : Int → Option α) (k1 : Int → Option α) : Option α := rounds (f18_L5U n) m ((s0, s1, s5, ()), ()) (fun w => k0 w.1.1, fun w => k1 w.1.1, ())
theorem f18_L5_0 {α : Type} (n : Nat) (s0 : List (Bool × (List Int) × (List Int))) (s1 : Int) (s5 : Int) (k0 : Int → Option α) (k1 : Int → Option α) : f18_L5 (α := α) n 0 s0 s1 s5 k0 k1 = none := rfl
theorem f18_L5_s {α : Type} (n m : Nat) (s0 : List (Bool × (List Int) × (List Int))) (s1 : Int) (s5 : Int) (k0 : Int → Option α) (k1 : Int → Option α) : f18_L5 (α := α) n (m + 1) s0 s1 s5 k0 k1 = f18_L5B n s0 s1 s5 (fun s0 s1 s5 => f18_L5 n m s0 s1 s5 k0 k1) k0 k1 := rfl
def f18 (n : Nat) (a0 : List (Bool × (List Int) × (List Int))) (a1 : Int) : Option Int :=
  bif (decide ((W (a1 - (a0.length : Int))) < 0)) then
    some (-1)
  else
    f18_L5 n n a0 (W (a1 - (a0.length : Int))) 0
      (fun z_3 => (
        some z_3))
      (fun z_4 => (
        some z_4))
def f18_E (n : Nat) : Ent := ⟨18, [hRs, hI], [hI], fun x => f18 n x.1 x.2⟩
def f18_D (α : Type) (n : Nat) : D3 α := { reg := [(7, ⟨0, [], [(5, { ent := some (f60_E n) })]⟩)], join := [], loop := [(5, ⟨f18_L5H, f18_L5O, rounds (f18_L5U n) n⟩)] }
theorem f18_ents (α : Type) (n : Nat) : AllS Tryz.prog (entsOf (f18_D α n).reg) := ⟨f60_ok n, trivial⟩
theorem f18_L5_d (α : Type) (n : Nat) : D3.OK Tryz.prog (tyOf Tryz.prog) ⟨27, []⟩ (f18_D α n) ((bodyOf Tryz.f18).at [1, 1, 1, 0, 1, 0, 0]) :=
  D3.OK.mk3 (f18_ents α n) (show loopsOf ((bodyOf Tryz.f18).at [1, 1, 1, 0, 1, 0, 0]) = [] by kernel_rfl) trivial
theorem f18_L5_ok (α : Type) (n : Nat) : LO.Sound (α := α) Tryz.prog ⟨27, []⟩ ⟨f18_L5H, f18_L5O, rounds (f18_L5U n) n⟩ (.loop ((bodyOf Tryz.f18).at [1, 1, 1, 0, 1, 0, 0])) :=
  loop_ok (tyOf_ok _) prog_fol (f18_L5U n) (f18_L5_d α n) (by intro v f ks; kernel_rfl) n
theorem f18_d (α : Type) (n : Nat) : D3.OK Tryz.prog (tyOf Tryz.prog) ⟨27, []⟩ (f18_D α n) (bodyOf Tryz.f18) :=
  D3.OK.mk3 (f18_ents α n) (show loopsOf (bodyOf Tryz.f18) = [(5, (.loop ((bodyOf Tryz.f18).at [1, 1, 1, 0, 1, 0, 0])))] by kernel_rfl) ⟨look_sound rfl (f18_L5_ok α n), trivial⟩
theorem f18_ok (n : Nat) : (f18_E n).Sound Tryz.prog :=
  fn_ok (tyOf_ok _) prog_fol (f18_D _ n) (show Tryz.prog.funcs[18]? = some Tryz.f18 by kernel_rfl) (by kernel_rfl) (show Tryz.f18.body = some (bodyOf Tryz.f18) by kernel_rfl) rfl rfl (Nat.le_of_ble_eq_true rfl) (f18_d _ n) (by intro x; kernel_rfl) 


def f28 (n : Nat) (a0 : (List (Int × Int × Int × Int)) × (List (Bool × (List Int) × (List Int))) × (List (Bool × (List Int) × (List Int))) × (List (Bool × (List Int) × (List Int))) × Int × (Bool × (List Int) × (List Int)) × Int × Int) (a1 : Int) : Option Int :=
  ob (f80 n a0.1 a1) fun r_1 =>
  bif (decide (r_1 < 0)) then
    some (-1)
  else
    ob (f18 n a0.2.1 r_1) fun r_2 =>
    bif (decide (r_2 < 0)) then
      some (-1)
    else
      ob (f18 n a0.2.2.1 r_2) fun r_3 =>
      bif (decide (r_3 < 0)) then
        some (-1)
      else
        ob (f18 n a0.2.2.2.1 r_3) fun r_4 =>
        bif (decide (r_4 < 0)) then
          some (-1)
        else
          ob (f60 n a0.2.2.2.2.2.1 r_4) fun r_5 =>
          bif (decide (r_5 < 0)) then
            some (-1)
          else
            some r_5
def f28_E (n : Nat) : Ent := ⟨28, [(.st (.pair hE (.pair hRs (.pair hRs (.pair hRs (.pair hI (.pair hR (.pair hI hI)))))))), hI], [hI], fun x => f28 n x.1 x.2⟩
def f28_D (α : Type) (n : Nat) : D3 α := { reg := [(1, ⟨0, [], [(3, { ent := some (f80_E n) })]⟩), (4, ⟨0, [], [(3, { ent := some (f18_E n) })]⟩), (7, ⟨0, [], [(3, { ent := some (f18_E n) })]⟩), (10, ⟨0, [], [(3, { ent := some (f18_E n) })]⟩), (13, ⟨0, [], [(3, { ent := some (f60_E n) })]⟩)], join := [], loop := [] }
theorem f28_ents (α : Type) (n : Nat) : AllS Tryz.prog (entsOf (f28_D α n).reg) := ⟨f80_ok n, f18_ok n, f18_ok n, f18_ok n, f60_ok n, trivial⟩
theorem f28_d (α : Type) (n : Nat) : D3.OK Tryz.prog (tyOf Tryz.prog) ⟨36, []⟩ (f28_D α n) (bodyOf Tryz.f28) :=
  D3.OK.mk3 (f28_ents α n) (show loopsOf (bodyOf Tryz.f28) = [] by kernel_rfl) trivial
theorem f28_ok (n : Nat) : (f28_E n).Sound Tryz.prog :=
  fn_ok (tyOf_ok _) prog_fol (f28_D _ n) (show Tryz.prog.funcs[28]? = some Tryz.f28 by kernel_rfl) (by kernel_rfl) (show Tryz.f28.body = some (bodyOf Tryz.f28) by kernel_rfl) rfl rfl (Nat.le_of_ble_eq_true rfl) (f28_d _ n) (by intro x; kernel_rfl) 


def f193 (n : Nat) (a0 : Int × Int × Int × Int) : Option (Int × Int × Int × Int) :=
  some a0
def f193_E (n : Nat) : Ent := ⟨193, [hN], [hN], fun x => f193 n x⟩
def f193_D (α : Type) (n : Nat) : D3 α := { reg := [], join := [], loop := [] }
theorem f193_ents (α : Type) (n : Nat) : AllS Tryz.prog (entsOf (f193_D α n).reg) := trivial
theorem f193_d (α : Type) (n : Nat) : D3.OK Tryz.prog (tyOf Tryz.prog) ⟨17, []⟩ (f193_D α n) (bodyOf Tryz.f193) :=
  D3.OK.mk3 (f193_ents α n) (show loopsOf (bodyOf Tryz.f193) = [] by kernel_rfl) trivial
theorem f193_ok (n : Nat) : (f193_E n).Sound Tryz.prog :=
  fn_ok (tyOf_ok _) prog_fol (f193_D _ n) (show Tryz.prog.funcs[193]? = some Tryz.f193 by kernel_rfl) (by kernel_rfl) (show Tryz.f193.body = some (bodyOf Tryz.f193) by kernel_rfl) rfl rfl (Nat.le_of_ble_eq_true rfl) (f193_d _ n) (by intro x; kernel_rfl) 


def f152_L3B {α : Type} (n : Nat) (s0 : List (Int × Int × Int × Int)) (s4 : Int) (b7 : List (Int × Int × Int × Int)) (f : (List (Int × Int × Int × Int)) → Int → (List (Int × Int × Int × Int)) → Option α) (k0 : (List (Int × Int × Int × Int)) → Option α) : Option α :=
  bif (decide (s4 < (s0.length : Int))) then
    gd (decide (0 ≤ s4) && decide (s4 < (s0.length : Int))) (
      let x_1 := s0.getD s4.toNat (0, 0, 0, 0)
      ob (f193 n x_1) fun r_2 =>
      gd (decide (0 ≤ s4) && decide (s4 < (b7.length : Int))) (
        gd (decide (s4.toNat < b7.length)) (
          f s0 (W (s4 + 1)) (b7.set s4.toNat r_2))))
  else
    k0 b7
abbrev f152_L3H : Tm := ⟨[(0, .d hNs), (3, .k (.hw 7)), (4, .d hI)], [(7, .arr 150 hN false)], [], []⟩
abbrev f152_L3X0 : Tm := ⟨[(3, .k (.hw 7))], [(7, .arr 150 hN false)], [], []⟩
abbrev f152_L3O : List (Exit × Tm) := [(.exit 0, f152_L3X0)]
def f152_L3U {α : Type} (n : Nat) (v : f152_L3H.den) (f : f152_L3H.den → Option α) (ks : KS α f152_L3O) : Option α := f152_L3B n v.1.1 v.1.2.2.1 v.2.1 (fun s0 s4 b7 => f ((s0, (), s4, ()), (b7, ()))) (fun w0 => ks.1 (((), ()), (w0, ())))
def f152_L3 {α : Type} (n m : Nat) (s0 : List (Int × Int × Int × Int)) (s4 : Int) (b7 : List (Int × Int × Int × Int)) (k0 : (List (Int × Int × Int × Int)) → Option α) : Option α := rounds (f152_L3U n) m ((s0, (), s4, ()), (b7, ())) (fun w => k0 w.2.1, ())
theorem f152_L3_0 {α : Type} (n : Nat) (s0 : List (Int × Int × Int × Int)) (s4 : Int) (b7 : List (Int × Int × Int × Int)) (k0 : (List (Int × Int × Int × Int)) → Option α) : f152_L3 (α := α) n 0 s0 s4 b7 k0 = none := rfl
theorem f152_L3_s {α : Type} (n m : Nat) (s0 : List (Int × Int × Int × Int)) (s4 : Int) (b7 : List (Int × Int × Int × Int)) (k0 : (List (Int × Int × Int × Int)) → Option α) : f152_L3 (α := α) n (m + 1) s0 s4 b7 k0 = f152_L3B n s0 s4 b7 (fun s0 s4 b7 => f152_L3 n m s0 s4 b7 k0) k0 := rfl
def f152 (n : Nat) (a0 : List (Int × Int × Int × Int)) : Option (List (Int × Int × Int × Int)) :=
  gd (decide (0 ≤ (a0.length : Int)) && decide ((a0.length : Int) ≤ 4611686018427387904) && decide ((32 : Int) * (a0.length : Int) ≤ 281474976710656)) (
    f152_L3 n n a0 0 (List.replicate ((a0.length : Int).toNat) (0, 0, 0, 0))
      (fun z_3 => (
        some z_3)))
def f152_E (n : Nat) : Ent := ⟨152, [hNs], [hNs], fun x => f152 n x⟩
def f152_D (α : Type) (n : Nat) : D3 α := { reg := [(5, ⟨0, [], [(6, { ent := some (f193_E n) })]⟩)], join := [], loop := [(3, ⟨f152_L3H, f152_L3O, rounds (f152_L3U n) n⟩)] }
theorem f152_ents (α : Type) (n : Nat) : AllS Tryz.prog (entsOf (f152_D α n).reg) := ⟨f193_ok n, trivial⟩
theorem f152_L3_d (α : Type) (n : Nat) : D3.OK Tryz.prog (tyOf Tryz.prog) ⟨23, []⟩ (f152_D α n) ((bodyOf Tryz.f152).at [1, 1, 0, 1, 0, 0]) :=
  D3.OK.mk3 (f152_ents α n) (show loopsOf ((bodyOf Tryz.f152).at [1, 1, 0, 1, 0, 0]) = [] by kernel_rfl) trivial
theorem f152_L3_ok (α : Type) (n : Nat) : LO.Sound (α := α) Tryz.prog ⟨23, []⟩ ⟨f152_L3H, f152_L3O, rounds (f152_L3U n) n⟩ (.loop ((bodyOf Tryz.f152).at [1, 1, 0, 1, 0, 0])) :=
  loop_ok (tyOf_ok _) prog_fol (f152_L3U n) (f152_L3_d α n) (by intro v f ks; kernel_rfl) n
theorem f152_d (α : Type) (n : Nat) : D3.OK Tryz.prog (tyOf Tryz.prog) ⟨23, []⟩ (f152_D α n) (bodyOf Tryz.f152) :=
  D3.OK.mk3 (f152_ents α n) (show loopsOf (bodyOf Tryz.f152) = [(3, (.loop ((bodyOf Tryz.f152).at [1, 1, 0, 1, 0, 0])))] by kernel_rfl) ⟨look_sound rfl (f152_L3_ok α n), trivial⟩
theorem f152_ok (n : Nat) : (f152_E n).Sound Tryz.prog :=
  fn_ok (tyOf_ok _) prog_fol (f152_D _ n) (show Tryz.prog.funcs[152]? = some Tryz.f152 by kernel_rfl) (by kernel_rfl) (show Tryz.f152.body = some (bodyOf Tryz.f152) by kernel_rfl) rfl rfl (Nat.le_of_ble_eq_true rfl) (f152_d _ n) (by intro x; kernel_rfl) 


def f83 (n : Nat) (a0 : List (Int × Int × Int × Int)) : Option (List (Int × Int × Int × Int)) :=
  ob (f152 n a0) fun r_1 =>
  some r_1
def f83_E (n : Nat) : Ent := ⟨83, [hE], [hE], fun x => f83 n x⟩
def f83_D (α : Type) (n : Nat) : D3 α := { reg := [(2, ⟨0, [], [(2, { ent := some (f152_E n) })]⟩)], join := [], loop := [] }
theorem f83_ents (α : Type) (n : Nat) : AllS Tryz.prog (entsOf (f83_D α n).reg) := ⟨f152_ok n, trivial⟩
theorem f83_d (α : Type) (n : Nat) : D3.OK Tryz.prog (tyOf Tryz.prog) ⟨9, []⟩ (f83_D α n) (bodyOf Tryz.f83) :=
  D3.OK.mk3 (f83_ents α n) (show loopsOf (bodyOf Tryz.f83) = [] by kernel_rfl) trivial
theorem f83_ok (n : Nat) : (f83_E n).Sound Tryz.prog :=
  fn_ok (tyOf_ok _) prog_fol (f83_D _ n) (show Tryz.prog.funcs[83]? = some Tryz.f83 by kernel_rfl) (by kernel_rfl) (show Tryz.f83.body = some (bodyOf Tryz.f83) by kernel_rfl) rfl rfl (Nat.le_of_ble_eq_true rfl) (f83_d _ n) (by intro x; kernel_rfl) 


def f132_L3B {α : Type} (n : Nat) (s0 : List Int) (s4 : Int) (b7 : List Int) (f : (List Int) → Int → (List Int) → Option α) (k0 : (List Int) → Option α) : Option α :=
  bif (decide (s4 < (s0.length : Int))) then
    gd (decide (0 ≤ s4) && decide (s4 < (s0.length : Int))) (
      gd (decide (0 ≤ s4) && decide (s4 < (b7.length : Int))) (
        gd (decide (s4.toNat < b7.length)) (
          f s0 (W (s4 + 1)) (b7.set s4.toNat (s0.getD s4.toNat 0)))))
  else
    k0 b7
abbrev f132_L3H : Tm := ⟨[(0, .d hIs), (3, .k (.hw 7)), (4, .d hI)], [(7, .arr 3 hI false)], [], []⟩
abbrev f132_L3X0 : Tm := ⟨[(3, .k (.hw 7))], [(7, .arr 3 hI false)], [], []⟩
abbrev f132_L3O : List (Exit × Tm) := [(.exit 0, f132_L3X0)]
def f132_L3U {α : Type} (n : Nat) (v : f132_L3H.den) (f : f132_L3H.den → Option α) (ks : KS α f132_L3O) : Option α := f132_L3B n v.1.1 v.1.2.2.1 v.2.1 (fun s0 s4 b7 => f ((s0, (), s4, ()), (b7, ()))) (fun w0 => ks.1 (((), ()), (w0, ())))
def f132_L3 {α : Type} (n m : Nat) (s0 : List Int) (s4 : Int) (b7 : List Int) (k0 : (List Int) → Option α) : Option α := rounds (f132_L3U n) m ((s0, (), s4, ()), (b7, ())) (fun w => k0 w.2.1, ())
theorem f132_L3_0 {α : Type} (n : Nat) (s0 : List Int) (s4 : Int) (b7 : List Int) (k0 : (List Int) → Option α) : f132_L3 (α := α) n 0 s0 s4 b7 k0 = none := rfl
theorem f132_L3_s {α : Type} (n m : Nat) (s0 : List Int) (s4 : Int) (b7 : List Int) (k0 : (List Int) → Option α) : f132_L3 (α := α) n (m + 1) s0 s4 b7 k0 = f132_L3B n s0 s4 b7 (fun s0 s4 b7 => f132_L3 n m s0 s4 b7 k0) k0 := rfl
def f132 (n : Nat) (a0 : List Int) : Option (List Int) :=
  gd (decide (0 ≤ (a0.length : Int)) && decide ((a0.length : Int) ≤ 4611686018427387904) && decide ((8 : Int) * (a0.length : Int) ≤ 281474976710656)) (
    f132_L3 n n a0 0 (List.replicate ((a0.length : Int).toNat) 0)
      (fun z_1 => (
        some z_1)))
def f132_E (n : Nat) : Ent := ⟨132, [hIs], [hIs], fun x => f132 n x⟩
def f132_D (α : Type) (n : Nat) : D3 α := { reg := [], join := [], loop := [(3, ⟨f132_L3H, f132_L3O, rounds (f132_L3U n) n⟩)] }
theorem f132_ents (α : Type) (n : Nat) : AllS Tryz.prog (entsOf (f132_D α n).reg) := trivial
theorem f132_L3_d (α : Type) (n : Nat) : D3.OK Tryz.prog (tyOf Tryz.prog) ⟨22, []⟩ (f132_D α n) ((bodyOf Tryz.f132).at [1, 1, 0, 1, 0, 0]) :=
  D3.OK.mk3 (f132_ents α n) (show loopsOf ((bodyOf Tryz.f132).at [1, 1, 0, 1, 0, 0]) = [] by kernel_rfl) trivial
theorem f132_L3_ok (α : Type) (n : Nat) : LO.Sound (α := α) Tryz.prog ⟨22, []⟩ ⟨f132_L3H, f132_L3O, rounds (f132_L3U n) n⟩ (.loop ((bodyOf Tryz.f132).at [1, 1, 0, 1, 0, 0])) :=
  loop_ok (tyOf_ok _) prog_fol (f132_L3U n) (f132_L3_d α n) (by intro v f ks; kernel_rfl) n
theorem f132_d (α : Type) (n : Nat) : D3.OK Tryz.prog (tyOf Tryz.prog) ⟨22, []⟩ (f132_D α n) (bodyOf Tryz.f132) :=
  D3.OK.mk3 (f132_ents α n) (show loopsOf (bodyOf Tryz.f132) = [(3, (.loop ((bodyOf Tryz.f132).at [1, 1, 0, 1, 0, 0])))] by kernel_rfl) ⟨look_sound rfl (f132_L3_ok α n), trivial⟩
theorem f132_ok (n : Nat) : (f132_E n).Sound Tryz.prog :=
  fn_ok (tyOf_ok _) prog_fol (f132_D _ n) (show Tryz.prog.funcs[132]? = some Tryz.f132 by kernel_rfl) (by kernel_rfl) (show Tryz.f132.body = some (bodyOf Tryz.f132) by kernel_rfl) rfl rfl (Nat.le_of_ble_eq_true rfl) (f132_d _ n) (by intro x; kernel_rfl) 


def f61 (n : Nat) (a0 : Bool × (List Int) × (List Int)) : Option (Bool × (List Int) × (List Int)) :=
  ob (f132 n a0.2.1) fun r_1 =>
  ob (f132 n a0.2.2) fun r_2 =>
  some (a0.1, r_1, r_2)
def f61_E (n : Nat) : Ent := ⟨61, [hR], [hR], fun x => f61 n x⟩
def f61_D (α : Type) (n : Nat) : D3 α := { reg := [(3, ⟨0, [], [(2, { ent := some (f132_E n) })]⟩), (4, ⟨0, [], [(2, { ent := some (f132_E n) })]⟩)], join := [], loop := [] }
theorem f61_ents (α : Type) (n : Nat) : AllS Tryz.prog (entsOf (f61_D α n).reg) := ⟨f132_ok n, f132_ok n, trivial⟩
theorem f61_d (α : Type) (n : Nat) : D3.OK Tryz.prog (tyOf Tryz.prog) ⟨16, []⟩ (f61_D α n) (bodyOf Tryz.f61) :=
  D3.OK.mk3 (f61_ents α n) (show loopsOf (bodyOf Tryz.f61) = [] by kernel_rfl) trivial
theorem f61_ok (n : Nat) : (f61_E n).Sound Tryz.prog :=
  fn_ok (tyOf_ok _) prog_fol (f61_D _ n) (show Tryz.prog.funcs[61]? = some Tryz.f61 by kernel_rfl) (by kernel_rfl) (show Tryz.f61.body = some (bodyOf Tryz.f61) by kernel_rfl) rfl rfl (Nat.le_of_ble_eq_true rfl) (f61_d _ n) (by intro x; kernel_rfl) 


def f19_L3B {α : Type} (n : Nat) (s0 : List (Bool × (List Int) × (List Int))) (s4 : Int) (b7 : List (Bool × (List Int) × (List Int))) (f : (List (Bool × (List Int) × (List Int))) → Int → (List (Bool × (List Int) × (List Int))) → Option α) (k0 : (List (Bool × (List Int) × (List Int))) → Option α) : Option α :=
  bif (decide (s4 < (s0.length : Int))) then
    gd (decide (0 ≤ s4) && decide (s4 < (s0.length : Int))) (
      let x_1 := s0.getD s4.toNat (false, [], [])
      ob (f61 n x_1) fun r_2 =>
      gd (decide (0 ≤ s4) && decide (s4 < (b7.length : Int))) (
        gd (decide (s4.toNat < b7.length)) (
          f s0 (W (s4 + 1)) (b7.set s4.toNat r_2))))
  else
    k0 b7
abbrev f19_L3H : Tm := ⟨[(0, .d hRs), (3, .k (.hw 7)), (4, .d hI)], [(7, .arr 30 hR false)], [], []⟩
abbrev f19_L3X0 : Tm := ⟨[(3, .k (.hw 7))], [(7, .arr 30 hR false)], [], []⟩
abbrev f19_L3O : List (Exit × Tm) := [(.exit 0, f19_L3X0)]
def f19_L3U {α : Type} (n : Nat) (v : f19_L3H.den) (f : f19_L3H.den → Option α) (ks : KS α f19_L3O) : Option α := f19_L3B n v.1.1 v.1.2.2.1 v.2.1 (fun s0 s4 b7 => f ((s0, (), s4, ()), (b7, ()))) (fun w0 => ks.1 (((), ()), (w0, ())))
def f19_L3 {α : Type} (n m : Nat) (s0 : List (Bool × (List Int) × (List Int))) (s4 : Int) (b7 : List (Bool × (List Int) × (List Int))) (k0 : (List (Bool × (List Int) × (List Int))) → Option α) : Option α := rounds (f19_L3U n) m ((s0, (), s4, ()), (b7, ())) (fun w => k0 w.2.1, ())
theorem f19_L3_0 {α : Type} (n : Nat) (s0 : List (Bool × (List Int) × (List Int))) (s4 : Int) (b7 : List (Bool × (List Int) × (List Int))) (k0 : (List (Bool × (List Int) × (List Int))) → Option α) : f19_L3 (α := α) n 0 s0 s4 b7 k0 = none := rfl
theorem f19_L3_s {α : Type} (n m : Nat) (s0 : List (Bool × (List Int) × (List Int))) (s4 : Int) (b7 : List (Bool × (List Int) × (List Int))) (k0 : (List (Bool × (List Int) × (List Int))) → Option α) : f19_L3 (α := α) n (m + 1) s0 s4 b7 k0 = f19_L3B n s0 s4 b7 (fun s0 s4 b7 => f19_L3 n m s0 s4 b7 k0) k0 := rfl
def f19 (n : Nat) (a0 : List (Bool × (List Int) × (List Int))) : Option (List (Bool × (List Int) × (List Int))) :=
  gd (decide (0 ≤ (a0.length : Int)) && decide ((a0.length : Int) ≤ 4611686018427387904) && decide ((56 : Int) * (a0.length : Int) ≤ 281474976710656)) (
    f19_L3 n n a0 0 (List.replicate ((a0.length : Int).toNat) (false, [], []))
      (fun z_3 => (
        some z_3)))
def f19_E (n : Nat) : Ent := ⟨19, [hRs], [hRs], fun x => f19 n x⟩
def f19_D (α : Type) (n : Nat) : D3 α := { reg := [(5, ⟨0, [], [(6, { ent := some (f61_E n) })]⟩)], join := [], loop := [(3, ⟨f19_L3H, f19_L3O, rounds (f19_L3U n) n⟩)] }
theorem f19_ents (α : Type) (n : Nat) : AllS Tryz.prog (entsOf (f19_D α n).reg) := ⟨f61_ok n, trivial⟩
theorem f19_L3_d (α : Type) (n : Nat) : D3.OK Tryz.prog (tyOf Tryz.prog) ⟨23, []⟩ (f19_D α n) ((bodyOf Tryz.f19).at [1, 1, 0, 1, 0, 0]) :=
  D3.OK.mk3 (f19_ents α n) (show loopsOf ((bodyOf Tryz.f19).at [1, 1, 0, 1, 0, 0]) = [] by kernel_rfl) trivial
theorem f19_L3_ok (α : Type) (n : Nat) : LO.Sound (α := α) Tryz.prog ⟨23, []⟩ ⟨f19_L3H, f19_L3O, rounds (f19_L3U n) n⟩ (.loop ((bodyOf Tryz.f19).at [1, 1, 0, 1, 0, 0])) :=
  loop_ok (tyOf_ok _) prog_fol (f19_L3U n) (f19_L3_d α n) (by intro v f ks; kernel_rfl) n
theorem f19_d (α : Type) (n : Nat) : D3.OK Tryz.prog (tyOf Tryz.prog) ⟨23, []⟩ (f19_D α n) (bodyOf Tryz.f19) :=
  D3.OK.mk3 (f19_ents α n) (show loopsOf (bodyOf Tryz.f19) = [(3, (.loop ((bodyOf Tryz.f19).at [1, 1, 0, 1, 0, 0])))] by kernel_rfl) ⟨look_sound rfl (f19_L3_ok α n), trivial⟩
theorem f19_ok (n : Nat) : (f19_E n).Sound Tryz.prog :=
  fn_ok (tyOf_ok _) prog_fol (f19_D _ n) (show Tryz.prog.funcs[19]? = some Tryz.f19 by kernel_rfl) (by kernel_rfl) (show Tryz.f19.body = some (bodyOf Tryz.f19) by kernel_rfl) rfl rfl (Nat.le_of_ble_eq_true rfl) (f19_d _ n) (by intro x; kernel_rfl) 


def f30 (n : Nat) (a0 : (List (Int × Int × Int × Int)) × (List (Bool × (List Int) × (List Int))) × (List (Bool × (List Int) × (List Int))) × (List (Bool × (List Int) × (List Int))) × Int × (Bool × (List Int) × (List Int)) × Int × Int) : Option ((List (Int × Int × Int × Int)) × (List (Bool × (List Int) × (List Int))) × (List (Bool × (List Int) × (List Int))) × (List (Bool × (List Int) × (List Int))) × Int × (Bool × (List Int) × (List Int)) × Int × Int) :=
  ob (f83 n a0.1) fun r_1 =>
  ob (f19 n a0.2.1) fun r_2 =>
  ob (f19 n a0.2.2.1) fun r_3 =>
  ob (f19 n a0.2.2.2.1) fun r_4 =>
  ob (f61 n a0.2.2.2.2.2.1) fun r_5 =>
  some (r_1, r_2, r_3, r_4, a0.2.2.2.2.1, r_5, a0.2.2.2.2.2.2)
def f30_E (n : Nat) : Ent := ⟨30, [(.st (.pair hE (.pair hRs (.pair hRs (.pair hRs (.pair hI (.pair hR (.pair hI hI))))))))], [(.st (.pair hE (.pair hRs (.pair hRs (.pair hRs (.pair hI (.pair hR (.pair hI hI))))))))], fun x => f30 n x⟩
def f30_D (α : Type) (n : Nat) : D3 α := { reg := [(2, ⟨0, [], [(2, { ent := some (f83_E n) })]⟩), (3, ⟨0, [], [(2, { ent := some (f19_E n) })]⟩), (4, ⟨0, [], [(2, { ent := some (f19_E n) })]⟩), (5, ⟨0, [], [(2, { ent := some (f19_E n) })]⟩), (7, ⟨0, [], [(2, { ent := some (f61_E n) })]⟩)], join := [], loop := [] }
theorem f30_ents (α : Type) (n : Nat) : AllS Tryz.prog (entsOf (f30_D α n).reg) := ⟨f83_ok n, f19_ok n, f19_ok n, f19_ok n, f61_ok n, trivial⟩
theorem f30_d (α : Type) (n : Nat) : D3.OK Tryz.prog (tyOf Tryz.prog) ⟨34, []⟩ (f30_D α n) (bodyOf Tryz.f30) :=
  D3.OK.mk3 (f30_ents α n) (show loopsOf (bodyOf Tryz.f30) = [] by kernel_rfl) trivial
theorem f30_ok (n : Nat) : (f30_E n).Sound Tryz.prog :=
  fn_ok (tyOf_ok _) prog_fol (f30_D _ n) (show Tryz.prog.funcs[30]? = some Tryz.f30 by kernel_rfl) (by kernel_rfl) (show Tryz.f30.body = some (bodyOf Tryz.f30) by kernel_rfl) rfl rfl (Nat.le_of_ble_eq_true rfl) (f30_d _ n) (by intro x; kernel_rfl) 


def f65 (n : Nat) (a0 : Int) (a1 : Int) (a2 : Int) : Option Bool :=
  bif (decide (a1 ≤ a0)) then
    some (decide (a0 ≤ a2))
  else
    some false
def f65_E (n : Nat) : Ent := ⟨65, [hI, hI, hI], [.bool], fun x => f65 n x.1 x.2.1 x.2.2⟩
def f65_D (α : Type) (n : Nat) : D3 α := { reg := [], join := [], loop := [] }
theorem f65_ents (α : Type) (n : Nat) : AllS Tryz.prog (entsOf (f65_D α n).reg) := trivial
theorem f65_d (α : Type) (n : Nat) : D3.OK Tryz.prog (tyOf Tryz.prog) ⟨15, []⟩ (f65_D α n) (bodyOf Tryz.f65) :=
  D3.OK.mk3 (f65_ents α n) (show loopsOf (bodyOf Tryz.f65) = [] by kernel_rfl) trivial
theorem f65_ok (n : Nat) : (f65_E n).Sound Tryz.prog :=
  fn_ok (tyOf_ok _) prog_fol (f65_D _ n) (show Tryz.prog.funcs[65]? = some Tryz.f65 by kernel_rfl) (by kernel_rfl) (show Tryz.f65.body = some (bodyOf Tryz.f65) by kernel_rfl) rfl rfl (Nat.le_of_ble_eq_true rfl) (f65_d _ n) (by intro x; kernel_rfl) 


def f206 (n : Nat) (a0 : Int) : Option Bool :=
  ob (f65 n a0 3 6) fun r_1 =>
  some r_1
def f206_E (n : Nat) : Ent := ⟨206, [hI], [.bool], fun x => f206 n x⟩
def f206_D (α : Type) (n : Nat) : D3 α := { reg := [(1, ⟨0, [], [(1, { ent := some (f65_E n) })]⟩)], join := [], loop := [] }
theorem f206_ents (α : Type) (n : Nat) : AllS Tryz.prog (entsOf (f206_D α n).reg) := ⟨f65_ok n, trivial⟩
theorem f206_d (α : Type) (n : Nat) : D3.OK Tryz.prog (tyOf Tryz.prog) ⟨5, []⟩ (f206_D α n) (bodyOf Tryz.f206) :=
  D3.OK.mk3 (f206_ents α n) (show loopsOf (bodyOf Tryz.f206) = [] by kernel_rfl) trivial
theorem f206_ok (n : Nat) : (f206_E n).Sound Tryz.prog :=
  fn_ok (tyOf_ok _) prog_fol (f206_D _ n) (show Tryz.prog.funcs[206]? = some Tryz.f206 by kernel_rfl) (by kernel_rfl) (show Tryz.f206.body = some (bodyOf Tryz.f206) by kernel_rfl) rfl rfl (Nat.le_of_ble_eq_true rfl) (f206_d _ n) (by intro x; kernel_rfl) 


def f208 (n : Nat) (a0 : Int) : Option Bool :=
  bif (a0 == 7) then
    some true
  else
    some (a0 == 8)
def f208_E (n : Nat) : Ent := ⟨208, [hI], [.bool], fun x => f208 n x⟩
def f208_D (α : Type) (n : Nat) : D3 α := { reg := [], join := [], loop := [] }
theorem f208_ents (α : Type) (n : Nat) : AllS Tryz.prog (entsOf (f208_D α n).reg) := trivial
theorem f208_d (α : Type) (n : Nat) : D3.OK Tryz.prog (tyOf Tryz.prog) ⟨9, []⟩ (f208_D α n) (bodyOf Tryz.f208) :=
  D3.OK.mk3 (f208_ents α n) (show loopsOf (bodyOf Tryz.f208) = [] by kernel_rfl) trivial
theorem f208_ok (n : Nat) : (f208_E n).Sound Tryz.prog :=
  fn_ok (tyOf_ok _) prog_fol (f208_D _ n) (show Tryz.prog.funcs[208]? = some Tryz.f208 by kernel_rfl) (by kernel_rfl) (show Tryz.f208.body = some (bodyOf Tryz.f208) by kernel_rfl) rfl rfl (Nat.le_of_ble_eq_true rfl) (f208_d _ n) (by intro x; kernel_rfl) 


def f147 (n : Nat) (a0 : Bool) : Option Int :=
  bif a0 then
    some 1
  else
    some 0
def f147_E (n : Nat) : Ent := ⟨147, [.bool], [hI], fun x => f147 n x⟩
def f147_D (α : Type) (n : Nat) : D3 α := { reg := [], join := [], loop := [] }
theorem f147_ents (α : Type) (n : Nat) : AllS Tryz.prog (entsOf (f147_D α n).reg) := trivial
theorem f147_d (α : Type) (n : Nat) : D3.OK Tryz.prog (tyOf Tryz.prog) ⟨4, []⟩ (f147_D α n) (bodyOf Tryz.f147) :=
  D3.OK.mk3 (f147_ents α n) (show loopsOf (bodyOf Tryz.f147) = [] by kernel_rfl) trivial
theorem f147_ok (n : Nat) : (f147_E n).Sound Tryz.prog :=
  fn_ok (tyOf_ok _) prog_fol (f147_D _ n) (show Tryz.prog.funcs[147]? = some Tryz.f147 by kernel_rfl) (by kernel_rfl) (show Tryz.f147.body = some (bodyOf Tryz.f147) by kernel_rfl) rfl rfl (Nat.le_of_ble_eq_true rfl) (f147_d _ n) (by intro x; kernel_rfl) 


def f205 (n : Nat) (a0 : Int × Int × Int × Int) (a1 : Int) : Option Bool :=
  ob (f65 n a0.1 1 8) fun r_1 =>
  bif (!r_1) then
    some false
  else
    ob (f206 n a0.1) fun r_2 =>
    bif r_2 then
      ob (f65 n a0.2.1 0 (W (a1 - 1))) fun r_3 =>
      bif r_3 then
        ob (f65 n a0.2.2.1 (W (a0.2.1 + 1)) (W (a1 - 1))) fun r_4 =>
        bif r_4 then
          some (a0.2.2.2 == 0)
        else
          some false
      else
        some false
    else
      ob (f208 n a0.1) fun r_5 =>
      bif r_5 then
        bif (a0.2.1 == (W (a1 - 1))) then
          bif (decide (a1 > 0)) then
            bif (a0.2.2.1 == 0) then
              ob (f147 n (a0.1 == 8)) fun r_6 =>
              ob (f65 n a0.2.2.2 0 (W (8 * r_6))) fun r_7 =>
              some r_7
            else
              some false
          else
            some false
        else
          some false
      else
        bif (a0.1 == 2) then
          bif (a0.2.1 == 0) then
            bif (a0.2.2.1 == 0) then
              ob (f65 n a0.2.2.2 0 3) fun r_8 =>
              some r_8
            else
              some false
          else
            some false
        else
          bif (a0.2.1 == 0) then
            bif (a0.2.2.1 == 0) then
              ob (f65 n a0.2.2.2 0 999999999) fun r_9 =>
              some r_9
            else
              some false
          else
            some false
def f205_E (n : Nat) : Ent := ⟨205, [hN, hI], [.bool], fun x => f205 n x.1 x.2⟩
def f205_D (α : Type) (n : Nat) : D3 α := { reg := [(1, ⟨0, [], [(2, { ent := some (f65_E n) })]⟩), (3, ⟨0, [], [(2, { ent := some (f206_E n) })]⟩), (4, ⟨0, [], [(4, { ent := some (f65_E n) }), (13, { ent := some (f65_E n) })]⟩), (5, ⟨0, [], [(2, { ent := some (f208_E n) })]⟩), (6, ⟨22, [], [(20, { ent := some (f147_E n) }), (22, { ent := some (f65_E n) })]⟩), (8, ⟨0, [], [(11, { ent := some (f65_E n) })]⟩), (9, ⟨0, [], [(11, { ent := some (f65_E n) })]⟩)], join := [], loop := [] }
theorem f205_ents (α : Type) (n : Nat) : AllS Tryz.prog (entsOf (f205_D α n).reg) := ⟨f65_ok n, f206_ok n, f65_ok n, f65_ok n, f208_ok n, f147_ok n, f65_ok n, f65_ok n, f65_ok n, trivial⟩
theorem f205_d (α : Type) (n : Nat) : D3.OK Tryz.prog (tyOf Tryz.prog) ⟨92, []⟩ (f205_D α n) (bodyOf Tryz.f205) :=
  D3.OK.mk3 (f205_ents α n) (show loopsOf (bodyOf Tryz.f205) = [] by kernel_rfl) trivial
theorem f205_ok (n : Nat) : (f205_E n).Sound Tryz.prog :=
  fn_ok (tyOf_ok _) prog_fol (f205_D _ n) (show Tryz.prog.funcs[205]? = some Tryz.f205 by kernel_rfl) (by kernel_rfl) (show Tryz.f205.body = some (bodyOf Tryz.f205) by kernel_rfl) rfl rfl (Nat.le_of_ble_eq_true rfl) (f205_d _ n) (by intro x; kernel_rfl) 


def f207_L2B {α : Type} (n : Nat) (s1 : Int) (c2_0 : List (Int × Int × Int × Int)) (c5_0 : Int) (c5_1 : Int) (c5_2 : Int) (c5_3 : Int) (f : Int → (List (Int × Int × Int × Int)) → Int → Int → Int → Int → Option α) (k0 : Int → Option α) : Option α :=
  let J_5 := fun (_ : Unit) => (
    gd (decide (0 ≤ c5_1) && decide (c5_1 < (c2_0.length : Int))) (
      let x_4 := c2_0.getD c5_1.toNat (0, 0, 0, 0)
      f c5_1 c2_0 x_4.1 x_4.2.1 x_4.2.2.1 x_4.2.2.2))
  ob (f206 n c5_0) fun r_2 =>
  bif r_2 then
    J_5 ()
  else
    ob (f208 n c5_0) fun r_3 =>
    bif r_3 then
      J_5 ()
    else
      k0 s1
abbrev f207_L2H : Tm := ⟨[(1, .d hI), (2, .k (.hp 2 0 0)), (5, .k (.hp 5 0 0))], [(2, .var 54 true false [.d hNs]), (5, .var 150 true false [.d hI, .d hI, .d hI, .d hI])], [], []⟩
abbrev f207_L2X0 : Tm := ⟨[(1, .d hI)], [], [2, 5], []⟩
abbrev f207_L2O : List (Exit × Tm) := [(.exit 0, f207_L2X0)]
def f207_L2U {α : Type} (n : Nat) (v : f207_L2H.den) (f : f207_L2H.den → Option α) (ks : KS α f207_L2O) : Option α := f207_L2B n v.1.1 v.2.1.1 v.2.2.1.1 v.2.2.1.2.1 v.2.2.1.2.2.1 v.2.2.1.2.2.2.1 (fun s1 c2_0 c5_0 c5_1 c5_2 c5_3 => f ((s1, (), (), ()), ((c2_0, ()), (c5_0, c5_1, c5_2, c5_3, ()), ()))) (fun w0 => ks.1 ((w0, ()), ()))
def f207_L2 {α : Type} (n m : Nat) (s1 : Int) (c2_0 : List (Int × Int × Int × Int)) (c5_0 : Int) (c5_1 : Int) (c5_2 : Int) (c5_3 : Int) (k0 : Int → Option α) : Option α := rounds (f207_L2U n) m ((s1, (), (), ()), ((c2_0, ()), (c5_0, c5_1, c5_2, c5_3, ()), ())) (fun w => k0 w.1.1, ())
theorem f207_L2_0 {α : Type} (n : Nat) (s1 : Int) (c2_0 : List (Int × Int × Int × Int)) (c5_0 : Int) (c5_1 : Int) (c5_2 : Int) (c5_3 : Int) (k0 : Int → Option α) : f207_L2 (α := α) n 0 s1 c2_0 c5_0 c5_1 c5_2 c5_3 k0 = none := rfl
theorem f207_L2_s {α : Type} (n m : Nat) (s1 : Int) (c2_0 : List (Int × Int × Int × Int)) (c5_0 : Int) (c5_1 : Int) (c5_2 : Int) (c5_3 : Int) (k0 : Int → Option α) : f207_L2 (α := α) n (m + 1) s1 c2_0 c5_0 c5_1 c5_2 c5_3 k0 = f207_L2B n s1 c2_0 c5_0 c5_1 c5_2 c5_3 (fun s1 c2_0 c5_0 c5_1 c5_2 c5_3 => f207_L2 n m s1 c2_0 c5_0 c5_1 c5_2 c5_3 k0) k0 := rfl
abbrev f207_J3 : Tm := ⟨[(2, .k (.hp 2 0 0)), (5, .k (.hp 5 0 0))], [(2, .var 54 true false [.d hNs]), (5, .var 150 true false [.d hI, .d hI, .d hI, .d hI])], [], []⟩
def f207 (n : Nat) (a0 : List (Int × Int × Int × Int)) (a1 : Int) : Option Int :=
  gd (decide (0 ≤ a1) && decide (a1 < (a0.length : Int))) (
    let x_1 := a0.getD a1.toNat (0, 0, 0, 0)
    f207_L2 n n a1 a0 x_1.1 x_1.2.1 x_1.2.2.1 x_1.2.2.2
      (fun z_6 => (
        some z_6)))
def f207_E (n : Nat) : Ent := ⟨207, [hE, hI], [hI], fun x => f207 n x.1 x.2⟩
def f207_D (α : Type) (n : Nat) : D3 α := { reg := [(2, ⟨0, [], [(2, { ent := some (f206_E n) }), (6, { ent := some (f208_E n) })]⟩)], join := [(3, f207_J3)], loop := [(2, ⟨f207_L2H, f207_L2O, rounds (f207_L2U n) n⟩)] }
theorem f207_ents (α : Type) (n : Nat) : AllS Tryz.prog (entsOf (f207_D α n).reg) := ⟨f206_ok n, f208_ok n, trivial⟩
theorem f207_L2_d (α : Type) (n : Nat) : D3.OK Tryz.prog (tyOf Tryz.prog) ⟨27, []⟩ (f207_D α n) ((bodyOf Tryz.f207).at [1, 1, 0, 0, 0]) :=
  D3.OK.mk3 (f207_ents α n) (show loopsOf ((bodyOf Tryz.f207).at [1, 1, 0, 0, 0]) = [] by kernel_rfl) trivial
theorem f207_L2_ok (α : Type) (n : Nat) : LO.Sound (α := α) Tryz.prog ⟨27, []⟩ ⟨f207_L2H, f207_L2O, rounds (f207_L2U n) n⟩ (.loop ((bodyOf Tryz.f207).at [1, 1, 0, 0, 0])) :=
  loop_ok (tyOf_ok _) prog_fol (f207_L2U n) (f207_L2_d α n) (by intro v f ks; kernel_rfl) n
theorem f207_d (α : Type) (n : Nat) : D3.OK Tryz.prog (tyOf Tryz.prog) ⟨27, []⟩ (f207_D α n) (bodyOf Tryz.f207) :=
  D3.OK.mk3 (f207_ents α n) (show loopsOf (bodyOf Tryz.f207) = [(2, (.loop ((bodyOf Tryz.f207).at [1, 1, 0, 0, 0])))] by kernel_rfl) ⟨look_sound rfl (f207_L2_ok α n), trivial⟩
theorem f207_ok (n : Nat) : (f207_E n).Sound Tryz.prog :=
  fn_ok (tyOf_ok _) prog_fol (f207_D _ n) (show Tryz.prog.funcs[207]? = some Tryz.f207 by kernel_rfl) (by kernel_rfl) (show Tryz.f207.body = some (bodyOf Tryz.f207) by kernel_rfl) rfl rfl (Nat.le_of_ble_eq_true rfl) (f207_d _ n) (by intro x; kernel_rfl) 


def f191_L5B {α : Type} (n : Nat) (s4 : Int) (c1_0 : List (Int × Int × Int × Int)) (b12 : List Int) (f : Int → (List (Int × Int × Int × Int)) → (List Int) → Option α) (k0 : Bool → Option α) (k1 : (List (Int × Int × Int × Int)) → Option α) : Option α :=
  bif (decide (s4 < (c1_0.length : Int))) then
    gd (decide (0 ≤ s4) && decide (s4 < (c1_0.length : Int))) (
      let x_2 := c1_0.getD s4.toNat (0, 0, 0, 0)
      ob (f205 n x_2 s4) fun r_3 =>
      bif (!r_3) then
        k0 false
      else
        let J_10 := fun (y_6 : Int) => (
          let J_9 := fun (y_8 : Int) => (
            bif (decide (y_8 > 12)) then
              k0 false
            else
              gd (decide ((b12.length + 1) * 8 ≤ 140737488355328)) (
                f (W (s4 + 1)) c1_0 (b12 ++ [y_8])))
          ob (f208 n x_2.1) fun r_7 =>
          bif r_7 then
            gd (decide (0 ≤ x_2.2.1) && decide (x_2.2.1 < (b12.length : Int))) (
              gd (decide (x_2.2.1.toNat < b12.length)) (
                J_9 (W (1 + (b12.getD x_2.2.1.toNat 0)))))
          else
            J_9 y_6)
        ob (f206 n x_2.1) fun r_4 =>
        bif r_4 then
          bif (x_2.2.2.1 != (W (s4 - 1))) then
            k0 false
          else
            ob (f207 n c1_0 x_2.2.2.1) fun r_5 =>
            bif (r_5 != (W (x_2.2.1 + 1))) then
              k0 false
            else
              gd (decide (0 ≤ x_2.2.1) && decide (x_2.2.1 < (b12.length : Int))) (
                gd (decide (x_2.2.1.toNat < b12.length)) (
                  gd (decide (0 ≤ x_2.2.2.1) && decide (x_2.2.2.1 < (b12.length : Int))) (
                    gd (decide (x_2.2.2.1.toNat < b12.length)) (
                      J_10 (W (1 + (max (b12.getD x_2.2.1.toNat 0) (b12.getD x_2.2.2.1.toNat 0))))))))
        else
          J_10 1)
  else
    k1 c1_0
abbrev f191_L5H : Tm := ⟨[(1, .k (.hp 1 0 0)), (3, .k (.hw 12)), (4, .d hI)], [(1, .var 54 true false [.d hNs]), (12, .arr 3 hI false)], [72], []⟩
abbrev f191_L5X0 : Tm := ⟨[(2, .d .bool)], [], [1, 5, 12], []⟩
abbrev f191_L5X1 : Tm := ⟨[(1, .k (.hp 1 0 0))], [(1, .var 54 true false [.d hNs])], [12], []⟩
abbrev f191_L5O : List (Exit × Tm) := [(.ret, f191_L5X0), (.exit 0, f191_L5X1)]
def f191_L5U {α : Type} (n : Nat) (v : f191_L5H.den) (f : f191_L5H.den → Option α) (ks : KS α f191_L5O) : Option α := f191_L5B n v.1.2.2.1 v.2.1.1 v.2.2.1 (fun s4 c1_0 b12 => f (((), (), s4, ()), ((c1_0, ()), b12, ()))) (fun w0 => ks.1 ((w0, ()), ())) (fun w0 => ks.2.1 (((), ()), ((w0, ()), ())))
def f191_L5 {α : Type} (n m : Nat) (s4 : Int) (c1_0 : List (Int × Int × Int × Int)) (b12 : List Int) (k0 : Bool → Option α) (k1 : (List (Int × Int × Int × Int)) → Option α) : Option α := rounds (f191_L5U n) m (((), (), s4, ()), ((c1_0, ()), b12, ())) (fun w => k0 w.1.1, fun w => k1 w.2.1.1, ())
theorem f191_L5_0 {α : Type} (n : Nat) (s4 : Int) (c1_0 : List (Int × Int × Int × Int)) (b12 : List Int) (k0 : Bool → Option α) (k1 : (List (Int × Int × Int × Int)) → Option α) : f191_L5 (α := α) n 0 s4 c1_0 b12 k0 k1 = none := rfl
theorem f191_L5_s {α : Type} (n m : Nat) (s4 : Int) (c1_0 : List (Int × Int × Int × Int)) (b12 : List Int) (k0 : Bool → Option α) (k1 : (List (Int × Int × Int × Int)) → Option α) : f191_L5 (α := α) n (m + 1) s4 c1_0 b12 k0 k1 = f191_L5B n s4 c1_0 b12 (fun s4 c1_0 b12 => f191_L5 n m s4 c1_0 b12 k0 k1) k0 k1 := rfl
abbrev f191_J15 : Tm := ⟨[(1, .k (.hp 1 0 0)), (3, .k (.hw 12)), (4, .d hI), (5, .k (.hp 5 0 0)), (6, .d hI)], [(1, .var 54 true false [.d hNs]), (5, .var 150 true false [.d hI, .d hI, .d hI, .d hI]), (12, .arr 3 hI false)], [], []⟩
abbrev f191_J17 : Tm := ⟨[(1, .k (.hp 1 0 0)), (3, .k (.hw 12)), (4, .d hI), (6, .d hI)], [(1, .var 54 true false [.d hNs]), (12, .arr 3 hI false)], [5], []⟩
def f191 (n : Nat) (a0 : List (Int × Int × Int × Int)) : Option Bool :=
  ob (f65 n (a0.length : Int) 1 60) fun r_1 =>
  bif (!r_1) then
    some false
  else
    f191_L5 n n 0 a0 []
      (fun z_11 => (
        some z_11))
      (fun z_12 => (
        ob (f207 n z_12 (W ((z_12.length : Int) - 1))) fun r_13 =>
        some (r_13 == 0)))
def f191_E (n : Nat) : Ent := ⟨191, [hE], [.bool], fun x => f191 n x⟩
def f191_D (α : Type) (n : Nat) : D3 α := { reg := [(1, ⟨0, [], [(3, { ent := some (f65_E n) })]⟩), (3, ⟨0, [], [(0, { sh := some hI })]⟩), (8, ⟨0, [], [(2, { ent := some (f205_E n) })]⟩), (11, ⟨0, [], [(2, { ent := some (f206_E n) })]⟩), (12, ⟨13, [], [(9, { ent := some (f207_E n) })]⟩), (14, ⟨10, [], []⟩), (15, ⟨0, [], [(2, { ent := some (f208_E n) })]⟩), (19, ⟨0, [], [(2, { sh := some hI })]⟩), (20, ⟨0, [], [(5, { ent := some (f207_E n) })]⟩)], join := [(15, f191_J15), (17, f191_J17)], loop := [(5, ⟨f191_L5H, f191_L5O, rounds (f191_L5U n) n⟩)] }
theorem f191_ents (α : Type) (n : Nat) : AllS Tryz.prog (entsOf (f191_D α n).reg) := ⟨f65_ok n, f205_ok n, f206_ok n, f207_ok n, f208_ok n, f207_ok n, trivial⟩
theorem f191_L5_d (α : Type) (n : Nat) : D3.OK Tryz.prog (tyOf Tryz.prog) ⟨81, []⟩ (f191_D α n) ((bodyOf Tryz.f191).at [1, 1, 1, 0, 1, 0, 0]) :=
  D3.OK.mk3 (f191_ents α n) (show loopsOf ((bodyOf Tryz.f191).at [1, 1, 1, 0, 1, 0, 0]) = [] by kernel_rfl) trivial
theorem f191_L5_ok (α : Type) (n : Nat) : LO.Sound (α := α) Tryz.prog ⟨81, []⟩ ⟨f191_L5H, f191_L5O, rounds (f191_L5U n) n⟩ (.loop ((bodyOf Tryz.f191).at [1, 1, 1, 0, 1, 0, 0])) :=
  loop_ok (tyOf_ok _) prog_fol (f191_L5U n) (f191_L5_d α n) (by intro v f ks; kernel_rfl) n
theorem f191_d (α : Type) (n : Nat) : D3.OK Tryz.prog (tyOf Tryz.prog) ⟨81, []⟩ (f191_D α n) (bodyOf Tryz.f191) :=
  D3.OK.mk3 (f191_ents α n) (show loopsOf (bodyOf Tryz.f191) = [(5, (.loop ((bodyOf Tryz.f191).at [1, 1, 1, 0, 1, 0, 0])))] by kernel_rfl) ⟨look_sound rfl (f191_L5_ok α n), trivial⟩
theorem f191_ok (n : Nat) : (f191_E n).Sound Tryz.prog :=
  fn_ok (tyOf_ok _) prog_fol (f191_D _ n) (show Tryz.prog.funcs[191]? = some Tryz.f191 by kernel_rfl) (by kernel_rfl) (show Tryz.f191.body = some (bodyOf Tryz.f191) by kernel_rfl) rfl rfl (Nat.le_of_ble_eq_true rfl) (f191_d _ n) (by intro x; kernel_rfl) 


def f189_L4B {α : Type} (n : Nat) (s0 : List Int) (s3 : Int) (f : (List Int) → Int → Option α) (k0 : Bool → Option α) (k1 : (List Int) → Option α) : Option α :=
  bif (decide (s3 < (s0.length : Int))) then
    gd (decide (0 ≤ s3) && decide (s3 < (s0.length : Int))) (
      ob (f65 n (s0.getD s3.toNat 0) 0 9999) fun r_1 =>
      bif (!r_1) then
        k0 false
      else
        f s0 (W (s3 + 1)))
  else
    k1 s0
abbrev f189_L4H : Tm := ⟨[(0, .d hIs), (3, .d hI)], [], [], []⟩
abbrev f189_L4X0 : Tm := ⟨[(2, .d .bool)], [], [], []⟩
abbrev f189_L4X1 : Tm := ⟨[(0, .d hIs)], [], [], []⟩
abbrev f189_L4O : List (Exit × Tm) := [(.ret, f189_L4X0), (.exit 0, f189_L4X1)]
def f189_L4U {α : Type} (n : Nat) (v : f189_L4H.den) (f : f189_L4H.den → Option α) (ks : KS α f189_L4O) : Option α := f189_L4B n v.1.1 v.1.2.1 (fun s0 s3 => f ((s0, s3, ()), ())) (fun w0 => ks.1 ((w0, ()), ())) (fun w0 => ks.2.1 ((w0, ()), ()))
def f189_L4 {α : Type} (n m : Nat) (s0 : List Int) (s3 : Int) (k0 : Bool → Option α) (k1 : (List Int) → Option α) : Option α := rounds (f189_L4U n) m ((s0, s3, ()), ()) (fun w => k0 w.1.1, fun w => k1 w.1.1, ())
theorem f189_L4_0 {α : Type} (n : Nat) (s0 : List Int) (s3 : Int) (k0 : Bool → Option α) (k1 : (List Int) → Option α) : f189_L4 (α := α) n 0 s0 s3 k0 k1 = none := rfl
theorem f189_L4_s {α : Type} (n m : Nat) (s0 : List Int) (s3 : Int) (k0 : Bool → Option α) (k1 : (List Int) → Option α) : f189_L4 (α := α) n (m + 1) s0 s3 k0 k1 = f189_L4B n s0 s3 (fun s0 s3 => f189_L4 n m s0 s3 k0 k1) k0 k1 := rfl
def f189 (n : Nat) (a0 : List Int) : Option Bool :=
  bif (decide ((a0.length : Int) > 4096)) then
    some false
  else
    f189_L4 n n a0 0
      (fun z_2 => (
        some z_2))
      (fun z_3 => (
        bif (decide ((z_3.length : Int) ≤ 40)) then
          bif ((z_3.length : Int) == 0) then
            some true
          else
            gd (decide (0 ≤ (W ((z_3.length : Int) - 1))) && decide ((W ((z_3.length : Int) - 1)) < (z_3.length : Int))) (
              some (decide ((z_3.getD ((W ((z_3.length : Int) - 1)).toNat) 0) > 0)))
        else
          some false))
def f189_E (n : Nat) : Ent := ⟨189, [hIs], [.bool], fun x => f189 n x⟩
def f189_D (α : Type) (n : Nat) : D3 α := { reg := [(6, ⟨0, [], [(4, { ent := some (f65_E n) })]⟩)], join := [], loop := [(4, ⟨f189_L4H, f189_L4O, rounds (f189_L4U n) n⟩)] }
theorem f189_ents (α : Type) (n : Nat) : AllS Tryz.prog (entsOf (f189_D α n).reg) := ⟨f65_ok n, trivial⟩
theorem f189_L4_d (α : Type) (n : Nat) : D3.OK Tryz.prog (tyOf Tryz.prog) ⟨36, []⟩ (f189_D α n) ((bodyOf Tryz.f189).at [1, 1, 0, 1, 0, 0]) :=
  D3.OK.mk3 (f189_ents α n) (show loopsOf ((bodyOf Tryz.f189).at [1, 1, 0, 1, 0, 0]) = [] by kernel_rfl) trivial
theorem f189_L4_ok (α : Type) (n : Nat) : LO.Sound (α := α) Tryz.prog ⟨36, []⟩ ⟨f189_L4H, f189_L4O, rounds (f189_L4U n) n⟩ (.loop ((bodyOf Tryz.f189).at [1, 1, 0, 1, 0, 0])) :=
  loop_ok (tyOf_ok _) prog_fol (f189_L4U n) (f189_L4_d α n) (by intro v f ks; kernel_rfl) n
theorem f189_d (α : Type) (n : Nat) : D3.OK Tryz.prog (tyOf Tryz.prog) ⟨36, []⟩ (f189_D α n) (bodyOf Tryz.f189) :=
  D3.OK.mk3 (f189_ents α n) (show loopsOf (bodyOf Tryz.f189) = [(4, (.loop ((bodyOf Tryz.f189).at [1, 1, 0, 1, 0, 0])))] by kernel_rfl) ⟨look_sound rfl (f189_L4_ok α n), trivial⟩
theorem f189_ok (n : Nat) : (f189_E n).Sound Tryz.prog :=
  fn_ok (tyOf_ok _) prog_fol (f189_D _ n) (show Tryz.prog.funcs[189]? = some Tryz.f189 by kernel_rfl) (by kernel_rfl) (show Tryz.f189.body = some (bodyOf Tryz.f189) by kernel_rfl) rfl rfl (Nat.le_of_ble_eq_true rfl) (f189_d _ n) (by intro x; kernel_rfl) 


def f203_L2B {α : Type} (n : Nat) (s0 : List Int) (s3 : Int) (f : (List Int) → Int → Option α) (k0 : (List Int) → Int → Option α) : Option α :=
  bif (decide (s3 > 0)) then
    gd (decide (0 ≤ (W (s3 - 1))) && decide ((W (s3 - 1)) < (s0.length : Int))) (
      bif ((s0.getD ((W (s3 - 1)).toNat) 0) == 0) then
        f s0 (W (s3 - 1))
      else
        k0 s0 s3)
  else
    k0 s0 s3
abbrev f203_L2H : Tm := ⟨[(0, .d hIs), (3, .d hI)], [], [], []⟩
abbrev f203_L2X0 : Tm := ⟨[(0, .d hIs), (3, .d hI)], [], [], []⟩
abbrev f203_L2O : List (Exit × Tm) := [(.exit 0, f203_L2X0)]
def f203_L2U {α : Type} (n : Nat) (v : f203_L2H.den) (f : f203_L2H.den → Option α) (ks : KS α f203_L2O) : Option α := f203_L2B n v.1.1 v.1.2.1 (fun s0 s3 => f ((s0, s3, ()), ())) (fun w0 w1 => ks.1 ((w0, w1, ()), ()))
def f203_L2 {α : Type} (n m : Nat) (s0 : List Int) (s3 : Int) (k0 : (List Int) → Int → Option α) : Option α := rounds (f203_L2U n) m ((s0, s3, ()), ()) (fun w => k0 w.1.1 w.1.2.1, ())
theorem f203_L2_0 {α : Type} (n : Nat) (s0 : List Int) (s3 : Int) (k0 : (List Int) → Int → Option α) : f203_L2 (α := α) n 0 s0 s3 k0 = none := rfl
theorem f203_L2_s {α : Type} (n m : Nat) (s0 : List Int) (s3 : Int) (k0 : (List Int) → Int → Option α) : f203_L2 (α := α) n (m + 1) s0 s3 k0 = f203_L2B n s0 s3 (fun s0 s3 => f203_L2 n m s0 s3 k0) k0 := rfl
def f203 (n : Nat) (a0 : List Int) : Option (List Int) :=
  f203_L2 n n a0 (a0.length : Int)
    (fun z_1 z_2 => (
      gd (decide (0 ≤ z_2) && decide (z_2 ≤ (z_1.length : Int))) (
        gd (decide ((0 + ((z_1.drop 0).take (z_2.toNat - 0)).length) * 8 ≤ 140737488355328)) (
          some ((z_1.drop 0).take (z_2.toNat - 0))))))
def f203_E (n : Nat) : Ent := ⟨203, [hIs], [hIs], fun x => f203 n x⟩
def f203_D (α : Type) (n : Nat) : D3 α := { reg := [(4, ⟨0, [], [(0, { sh := some hI })]⟩)], join := [], loop := [(2, ⟨f203_L2H, f203_L2O, rounds (f203_L2U n) n⟩)] }
theorem f203_ents (α : Type) (n : Nat) : AllS Tryz.prog (entsOf (f203_D α n).reg) := trivial
theorem f203_L2_d (α : Type) (n : Nat) : D3.OK Tryz.prog (tyOf Tryz.prog) ⟨23, []⟩ (f203_D α n) ((bodyOf Tryz.f203).at [1, 1, 0, 0, 0]) :=
  D3.OK.mk3 (f203_ents α n) (show loopsOf ((bodyOf Tryz.f203).at [1, 1, 0, 0, 0]) = [] by kernel_rfl) trivial
theorem f203_L2_ok (α : Type) (n : Nat) : LO.Sound (α := α) Tryz.prog ⟨23, []⟩ ⟨f203_L2H, f203_L2O, rounds (f203_L2U n) n⟩ (.loop ((bodyOf Tryz.f203).at [1, 1, 0, 0, 0])) :=
  loop_ok (tyOf_ok _) prog_fol (f203_L2U n) (f203_L2_d α n) (by intro v f ks; kernel_rfl) n
theorem f203_d (α : Type) (n : Nat) : D3.OK Tryz.prog (tyOf Tryz.prog) ⟨23, []⟩ (f203_D α n) (bodyOf Tryz.f203) :=
  D3.OK.mk3 (f203_ents α n) (show loopsOf (bodyOf Tryz.f203) = [(2, (.loop ((bodyOf Tryz.f203).at [1, 1, 0, 0, 0])))] by kernel_rfl) ⟨look_sound rfl (f203_L2_ok α n), trivial⟩
theorem f203_ok (n : Nat) : (f203_E n).Sound Tryz.prog :=
  fn_ok (tyOf_ok _) prog_fol (f203_D _ n) (show Tryz.prog.funcs[203]? = some Tryz.f203 by kernel_rfl) (by kernel_rfl) (show Tryz.f203.body = some (bodyOf Tryz.f203) by kernel_rfl) rfl rfl (Nat.le_of_ble_eq_true rfl) (f203_d _ n) (by intro x; kernel_rfl) 


def f187_L4B {α : Type} (n : Nat) (s0 : List Int) (s1 : List Int) (s5 : Int) (f : (List Int) → (List Int) → Int → Option α) (k0 : Int → Option α) (k1 : Unit → Option α) : Option α :=
  bif (decide (s5 ≥ 0)) then
    gd (decide (0 ≤ s5) && decide (s5 < (s0.length : Int))) (
      gd (decide (0 ≤ s5) && decide (s5 < (s1.length : Int))) (
        bif ((s0.getD s5.toNat 0) != (s1.getD s5.toNat 0)) then
          gd (decide (0 ≤ s5) && decide (s5 < (s0.length : Int))) (
            gd (decide (0 ≤ s5) && decide (s5 < (s1.length : Int))) (
              ob (f147 n (decide ((s0.getD s5.toNat 0) > (s1.getD s5.toNat 0)))) fun r_2 =>
              k0 (W ((W (2 * r_2)) - 1))))
        else
          f s0 s1 (W (s5 - 1))))
  else
    k1 ()
abbrev f187_L4H : Tm := ⟨[(0, .d hIs), (1, .d hIs), (5, .d hI)], [], [], []⟩
abbrev f187_L4X0 : Tm := ⟨[(4, .d hI)], [], [], []⟩
abbrev f187_L4X1 : Tm := ⟨[], [], [], []⟩
abbrev f187_L4O : List (Exit × Tm) := [(.ret, f187_L4X0), (.exit 0, f187_L4X1)]
def f187_L4U {α : Type} (n : Nat) (v : f187_L4H.den) (f : f187_L4H.den → Option α) (ks : KS α f187_L4O) : Option α := f187_L4B n v.1.1 v.1.2.1 v.1.2.2.1 (fun s0 s1 s5 => f ((s0, s1, s5, ()), ())) (fun w0 => ks.1 ((w0, ()), ())) (fun _ => ks.2.1 ((), ()))
def f187_L4 {α : Type} (n m : Nat) (s0 : List Int) (s1 : List Int) (s5 : Int) (k0 : Int → Option α) (k1 : Unit → Option α) : Option α := rounds (f187_L4U n) m ((s0, s1, s5, ()), ()) (fun w => k0 w.1.1, fun w => k1 (), ())
theorem f187_L4_0 {α : Type} (n : Nat) (s0 : List Int) (s1 : List Int) (s5 : Int) (k0 : Int → Option α) (k1 : Unit → Option α) : f187_L4 (α := α) n 0 s0 s1 s5 k0 k1 = none := rfl
theorem f187_L4_s {α : Type} (n m : Nat) (s0 : List Int) (s1 : List Int) (s5 : Int) (k0 : Int → Option α) (k1 : Unit → Option α) : f187_L4 (α := α) n (m + 1) s0 s1 s5 k0 k1 = f187_L4B n s0 s1 s5 (fun s0 s1 s5 => f187_L4 n m s0 s1 s5 k0 k1) k0 k1 := rfl
def f187 (n : Nat) (a0 : List Int) (a1 : List Int) : Option Int :=
  bif ((a0.length : Int) != (a1.length : Int)) then
    ob (f147 n (decide ((a0.length : Int) > (a1.length : Int)))) fun r_1 =>
    some (W ((W (2 * r_1)) - 1))
  else
    f187_L4 n n a0 a1 (W ((a0.length : Int) - 1))
      (fun z_3 => (
        some z_3))
      (fun (_ : Unit) => (
        some 0))
def f187_E (n : Nat) : Ent := ⟨187, [hIs, hIs], [hI], fun x => f187 n x.1 x.2⟩
def f187_D (α : Type) (n : Nat) : D3 α := { reg := [(2, ⟨0, [], [(5, { ent := some (f147_E n) })]⟩), (6, ⟨8, [], []⟩), (7, ⟨8, [], [(9, { ent := some (f147_E n) })]⟩)], join := [], loop := [(4, ⟨f187_L4H, f187_L4O, rounds (f187_L4U n) n⟩)] }
theorem f187_ents (α : Type) (n : Nat) : AllS Tryz.prog (entsOf (f187_D α n).reg) := ⟨f147_ok n, f147_ok n, trivial⟩
theorem f187_L4_d (α : Type) (n : Nat) : D3.OK Tryz.prog (tyOf Tryz.prog) ⟨47, []⟩ (f187_D α n) ((bodyOf Tryz.f187).at [1, 1, 0, 1, 0, 0]) :=
  D3.OK.mk3 (f187_ents α n) (show loopsOf ((bodyOf Tryz.f187).at [1, 1, 0, 1, 0, 0]) = [] by kernel_rfl) trivial
theorem f187_L4_ok (α : Type) (n : Nat) : LO.Sound (α := α) Tryz.prog ⟨47, []⟩ ⟨f187_L4H, f187_L4O, rounds (f187_L4U n) n⟩ (.loop ((bodyOf Tryz.f187).at [1, 1, 0, 1, 0, 0])) :=
  loop_ok (tyOf_ok _) prog_fol (f187_L4U n) (f187_L4_d α n) (by intro v f ks; kernel_rfl) n
theorem f187_d (α : Type) (n : Nat) : D3.OK Tryz.prog (tyOf Tryz.prog) ⟨47, []⟩ (f187_D α n) (bodyOf Tryz.f187) :=
  D3.OK.mk3 (f187_ents α n) (show loopsOf (bodyOf Tryz.f187) = [(4, (.loop ((bodyOf Tryz.f187).at [1, 1, 0, 1, 0, 0])))] by kernel_rfl) ⟨look_sound rfl (f187_L4_ok α n), trivial⟩
theorem f187_ok (n : Nat) : (f187_E n).Sound Tryz.prog :=
  fn_ok (tyOf_ok _) prog_fol (f187_D _ n) (show Tryz.prog.funcs[187]? = some Tryz.f187 by kernel_rfl) (by kernel_rfl) (show Tryz.f187.body = some (bodyOf Tryz.f187) by kernel_rfl) rfl rfl (Nat.le_of_ble_eq_true rfl) (f187_d _ n) (by intro x; kernel_rfl) 


def f172_L2B {α : Type} (n : Nat) (s0 : Int) (b4 : List Int) (f : Int → (List Int) → Option α) (k0 : (List Int) → Option α) : Option α :=
  bif (decide (s0 > 0)) then
    gd (decide ((b4.length + 1) * 8 ≤ 140737488355328)) (
      f (W (Int.tdiv s0 10000)) (b4 ++ [(Int.tmod s0 10000)]))
  else
    k0 b4
abbrev f172_L2H : Tm := ⟨[(0, .d hI), (3, .k (.hw 4))], [(4, .arr 3 hI false)], [10], []⟩
abbrev f172_L2X0 : Tm := ⟨[(3, .k (.hw 4))], [(4, .arr 3 hI false)], [], []⟩
abbrev f172_L2O : List (Exit × Tm) := [(.exit 0, f172_L2X0)]
def f172_L2U {α : Type} (n : Nat) (v : f172_L2H.den) (f : f172_L2H.den → Option α) (ks : KS α f172_L2O) : Option α := f172_L2B n v.1.1 v.2.1 (fun s0 b4 => f ((s0, (), ()), (b4, ()))) (fun w0 => ks.1 (((), ()), (w0, ())))
def f172_L2 {α : Type} (n m : Nat) (s0 : Int) (b4 : List Int) (k0 : (List Int) → Option α) : Option α := rounds (f172_L2U n) m ((s0, (), ()), (b4, ())) (fun w => k0 w.2.1, ())
theorem f172_L2_0 {α : Type} (n : Nat) (s0 : Int) (b4 : List Int) (k0 : (List Int) → Option α) : f172_L2 (α := α) n 0 s0 b4 k0 = none := rfl
theorem f172_L2_s {α : Type} (n m : Nat) (s0 : Int) (b4 : List Int) (k0 : (List Int) → Option α) : f172_L2 (α := α) n (m + 1) s0 b4 k0 = f172_L2B n s0 b4 (fun s0 b4 => f172_L2 n m s0 b4 k0) k0 := rfl
def f172 (n : Nat) (a0 : Int) : Option (List Int) :=
  f172_L2 n n a0 []
    (fun z_1 => (
      some z_1))
def f172_E (n : Nat) : Ent := ⟨172, [hI], [hIs], fun x => f172 n x⟩
def f172_D (α : Type) (n : Nat) : D3 α := { reg := [(1, ⟨0, [], [(0, { sh := some hI })]⟩), (3, ⟨0, [], [(3, { sh := some hI })]⟩)], join := [], loop := [(2, ⟨f172_L2H, f172_L2O, rounds (f172_L2U n) n⟩)] }
theorem f172_ents (α : Type) (n : Nat) : AllS Tryz.prog (entsOf (f172_D α n).reg) := trivial
theorem f172_L2_d (α : Type) (n : Nat) : D3.OK Tryz.prog (tyOf Tryz.prog) ⟨15, []⟩ (f172_D α n) ((bodyOf Tryz.f172).at [1, 1, 0, 0, 0]) :=
  D3.OK.mk3 (f172_ents α n) (show loopsOf ((bodyOf Tryz.f172).at [1, 1, 0, 0, 0]) = [] by kernel_rfl) trivial
theorem f172_L2_ok (α : Type) (n : Nat) : LO.Sound (α := α) Tryz.prog ⟨15, []⟩ ⟨f172_L2H, f172_L2O, rounds (f172_L2U n) n⟩ (.loop ((bodyOf Tryz.f172).at [1, 1, 0, 0, 0])) :=
  loop_ok (tyOf_ok _) prog_fol (f172_L2U n) (f172_L2_d α n) (by intro v f ks; kernel_rfl) n
theorem f172_d (α : Type) (n : Nat) : D3.OK Tryz.prog (tyOf Tryz.prog) ⟨15, []⟩ (f172_D α n) (bodyOf Tryz.f172) :=
  D3.OK.mk3 (f172_ents α n) (show loopsOf (bodyOf Tryz.f172) = [(2, (.loop ((bodyOf Tryz.f172).at [1, 1, 0, 0, 0])))] by kernel_rfl) ⟨look_sound rfl (f172_L2_ok α n), trivial⟩
theorem f172_ok (n : Nat) : (f172_E n).Sound Tryz.prog :=
  fn_ok (tyOf_ok _) prog_fol (f172_D _ n) (show Tryz.prog.funcs[172]? = some Tryz.f172 by kernel_rfl) (by kernel_rfl) (show Tryz.f172.body = some (bodyOf Tryz.f172) by kernel_rfl) rfl rfl (Nat.le_of_ble_eq_true rfl) (f172_d _ n) (by intro x; kernel_rfl) 


def f178_L7B {α : Type} (n : Nat) (s0 : List Int) (s1 : List Int) (s6 : Int) (s7 : Int) (s8 : Int) (b16 : List Int) (f : (List Int) → (List Int) → Int → Int → Int → (List Int) → Option α) (k0 : (List Int) → (List Int) → Int → (List Int) → Option α) : Option α :=
  let J_3 := fun (_ : Unit) => (
    gd (decide (0 ≤ (W (s6 + s8))) && decide ((W (s6 + s8)) < (b16.length : Int))) (
      gd (decide ((W (s6 + s8)).toNat < b16.length)) (
        let J_2 := fun (y_1 : Int) => (
          gd (decide (0 ≤ (W (s6 + s8))) && decide ((W (s6 + s8)) < (b16.length : Int))) (
            gd (decide ((W (s6 + s8)).toNat < b16.length)) (
              f s0 s1 s6 (W (Int.tdiv y_1 10000)) (W (s8 + 1)) (b16.set ((W (s6 + s8)).toNat) (Int.tmod y_1 10000)))))
        bif (decide (s8 < (s1.length : Int))) then
          gd (decide (0 ≤ s6) && decide (s6 < (s0.length : Int))) (
            gd (decide (0 ≤ s8) && decide (s8 < (s1.length : Int))) (
              J_2 (W ((W ((b16.getD ((W (s6 + s8)).toNat) 0) + s7)) + (W ((s0.getD s6.toNat 0) * (s1.getD s8.toNat 0)))))))
        else
          J_2 (W ((b16.getD ((W (s6 + s8)).toNat) 0) + s7)))))
  bif (decide (s8 < (s1.length : Int))) then
    J_3 ()
  else
    bif (decide (s7 > 0)) then
      J_3 ()
    else
      k0 s0 s1 s6 b16
abbrev f178_L7H : Tm := ⟨[(0, .d hIs), (1, .d hIs), (5, .k (.hw 16)), (6, .d hI), (7, .d hI), (8, .d hI)], [(16, .arr 3 hI false)], [], []⟩
abbrev f178_L7X0 : Tm := ⟨[(0, .d hIs), (1, .d hIs), (5, .k (.hw 16)), (6, .d hI)], [(16, .arr 3 hI false)], [], []⟩
abbrev f178_L7O : List (Exit × Tm) := [(.exit 2, f178_L7X0)]
def f178_L7U {α : Type} (n : Nat) (v : f178_L7H.den) (f : f178_L7H.den → Option α) (ks : KS α f178_L7O) : Option α := f178_L7B n v.1.1 v.1.2.1 v.1.2.2.2.1 v.1.2.2.2.2.1 v.1.2.2.2.2.2.1 v.2.1 (fun s0 s1 s6 s7 s8 b16 => f ((s0, s1, (), s6, s7, s8, ()), (b16, ()))) (fun w0 w1 w2 w3 => ks.1 ((w0, w1, (), w2, ()), (w3, ())))
def f178_L7 {α : Type} (n m : Nat) (s0 : List Int) (s1 : List Int) (s6 : Int) (s7 : Int) (s8 : Int) (b16 : List Int) (k0 : (List Int) → (List Int) → Int → (List Int) → Option α) : Option α := rounds (f178_L7U n) m ((s0, s1, (), s6, s7, s8, ()), (b16, ())) (fun w => k0 w.1.1 w.1.2.1 w.1.2.2.2.1 w.2.1, ())
theorem f178_L7_0 {α : Type} (n : Nat) (s0 : List Int) (s1 : List Int) (s6 : Int) (s7 : Int) (s8 : Int) (b16 : List Int) (k0 : (List Int) → (List Int) → Int → (List Int) → Option α) : f178_L7 (α := α) n 0 s0 s1 s6 s7 s8 b16 k0 = none := rfl
theorem f178_L7_s {α : Type} (n m : Nat) (s0 : List Int) (s1 : List Int) (s6 : Int) (s7 : Int) (s8 : Int) (b16 : List Int) (k0 : (List Int) → (List Int) → Int → (List Int) → Option α) : f178_L7 (α := α) n (m + 1) s0 s1 s6 s7 s8 b16 k0 = f178_L7B n s0 s1 s6 s7 s8 b16 (fun s0 s1 s6 s7 s8 b16 => f178_L7 n m s0 s1 s6 s7 s8 b16 k0) k0 := rfl
def f178_L3B {α : Type} (n : Nat) (s0 : List Int) (s1 : List Int) (s6 : Int) (b16 : List Int) (f : (List Int) → (List Int) → Int → (List Int) → Option α) (k0 : (List Int) → Option α) : Option α :=
  bif (decide (s6 < (s0.length : Int))) then
    f178_L7 n n s0 s1 s6 0 0 b16
      (fun z_1 z_2 z_3 z_4 => (
        f z_1 z_2 (W (z_3 + 1)) z_4))
  else
    k0 b16
abbrev f178_L3H : Tm := ⟨[(0, .d hIs), (1, .d hIs), (5, .k (.hw 16)), (6, .d hI)], [(16, .arr 3 hI false)], [], []⟩
abbrev f178_L3X0 : Tm := ⟨[(5, .k (.hw 16))], [(16, .arr 3 hI false)], [], []⟩
abbrev f178_L3O : List (Exit × Tm) := [(.exit 0, f178_L3X0)]
def f178_L3U {α : Type} (n : Nat) (v : f178_L3H.den) (f : f178_L3H.den → Option α) (ks : KS α f178_L3O) : Option α := f178_L3B n v.1.1 v.1.2.1 v.1.2.2.2.1 v.2.1 (fun s0 s1 s6 b16 => f ((s0, s1, (), s6, ()), (b16, ()))) (fun w0 => ks.1 (((), ()), (w0, ())))
def f178_L3 {α : Type} (n m : Nat) (s0 : List Int) (s1 : List Int) (s6 : Int) (b16 : List Int) (k0 : (List Int) → Option α) : Option α := rounds (f178_L3U n) m ((s0, s1, (), s6, ()), (b16, ())) (fun w => k0 w.2.1, ())
theorem f178_L3_0 {α : Type} (n : Nat) (s0 : List Int) (s1 : List Int) (s6 : Int) (b16 : List Int) (k0 : (List Int) → Option α) : f178_L3 (α := α) n 0 s0 s1 s6 b16 k0 = none := rfl
theorem f178_L3_s {α : Type} (n m : Nat) (s0 : List Int) (s1 : List Int) (s6 : Int) (b16 : List Int) (k0 : (List Int) → Option α) : f178_L3 (α := α) n (m + 1) s0 s1 s6 b16 k0 = f178_L3B n s0 s1 s6 b16 (fun s0 s1 s6 b16 => f178_L3 n m s0 s1 s6 b16 k0) k0 := rfl
abbrev f178_J9 : Tm := ⟨[(0, .d hIs), (1, .d hIs), (5, .k (.hw 16)), (6, .d hI), (7, .d hI), (8, .d hI)], [(16, .arr 3 hI false)], [], []⟩
abbrev f178_J12 : Tm := ⟨[(0, .d hIs), (1, .d hIs), (5, .k (.hw 16)), (6, .d hI), (8, .d hI), (9, .d hI)], [(16, .arr 3 hI false)], [], []⟩
def f178 (n : Nat) (a0 : List Int) (a1 : List Int) : Option (List Int) :=
  gd (decide (0 ≤ (W ((W ((a0.length : Int) + (a1.length : Int))) + 1))) && decide ((W ((W ((a0.length : Int) + (a1.length : Int))) + 1)) ≤ 4611686018427387904) && decide ((8 : Int) * (W ((W ((a0.length : Int) + (a1.length : Int))) + 1)) ≤ 281474976710656)) (
    f178_L3 n n a0 a1 0 (List.replicate ((W ((W ((a0.length : Int) + (a1.length : Int))) + 1)).toNat) 0)
      (fun z_5 => (
        ob (f203 n z_5) fun r_6 =>
        some r_6)))
def f178_E (n : Nat) : Ent := ⟨178, [hIs, hIs], [hIs], fun x => f178 n x.1 x.2⟩
def f178_D (α : Type) (n : Nat) : D3 α := { reg := [(11, ⟨10, [], []⟩), (14, ⟨0, [], [(1, { ent := some (f203_E n), fz := [(65, hIs)] })]⟩)], join := [(9, f178_J9), (12, f178_J12)], loop := [(7, ⟨f178_L7H, f178_L7O, rounds (f178_L7U n) n⟩), (3, ⟨f178_L3H, f178_L3O, rounds (f178_L3U n) n⟩)] }
theorem f178_ents (α : Type) (n : Nat) : AllS Tryz.prog (entsOf (f178_D α n).reg) := ⟨f203_ok n, trivial⟩
theorem f178_L7_d (α : Type) (n : Nat) : D3.OK Tryz.prog (tyOf Tryz.prog) ⟨67, []⟩ (f178_D α n) ((bodyOf Tryz.f178).at [1, 1, 0, 1, 0, 0, 1, 0, 0, 1, 1, 0, 0]) :=
  D3.OK.mk3 (f178_ents α n) (show loopsOf ((bodyOf Tryz.f178).at [1, 1, 0, 1, 0, 0, 1, 0, 0, 1, 1, 0, 0]) = [] by kernel_rfl) trivial
theorem f178_L7_ok (α : Type) (n : Nat) : LO.Sound (α := α) Tryz.prog ⟨67, []⟩ ⟨f178_L7H, f178_L7O, rounds (f178_L7U n) n⟩ (.loop ((bodyOf Tryz.f178).at [1, 1, 0, 1, 0, 0, 1, 0, 0, 1, 1, 0, 0])) :=
  loop_ok (tyOf_ok _) prog_fol (f178_L7U n) (f178_L7_d α n) (by intro v f ks; kernel_rfl) n
theorem f178_L3_d (α : Type) (n : Nat) : D3.OK Tryz.prog (tyOf Tryz.prog) ⟨67, []⟩ (f178_D α n) ((bodyOf Tryz.f178).at [1, 1, 0, 1, 0, 0]) :=
  D3.OK.mk3 (f178_ents α n) (show loopsOf ((bodyOf Tryz.f178).at [1, 1, 0, 1, 0, 0]) = [(7, (.loop ((bodyOf Tryz.f178).at [1, 1, 0, 1, 0, 0, 1, 0, 0, 1, 1, 0, 0])))] by kernel_rfl) ⟨look_sound rfl (f178_L7_ok α n), trivial⟩
theorem f178_L3_ok (α : Type) (n : Nat) : LO.Sound (α := α) Tryz.prog ⟨67, []⟩ ⟨f178_L3H, f178_L3O, rounds (f178_L3U n) n⟩ (.loop ((bodyOf Tryz.f178).at [1, 1, 0, 1, 0, 0])) :=
  loop_ok (tyOf_ok _) prog_fol (f178_L3U n) (f178_L3_d α n) (by intro v f ks; kernel_rfl) n
theorem f178_d (α : Type) (n : Nat) : D3.OK Tryz.prog (tyOf Tryz.prog) ⟨67, []⟩ (f178_D α n) (bodyOf Tryz.f178) :=
  D3.OK.mk3 (f178_ents α n) (show loopsOf (bodyOf Tryz.f178) = [(3, (.loop ((bodyOf Tryz.f178).at [1, 1, 0, 1, 0, 0])))] by kernel_rfl) ⟨look_sound rfl (f178_L3_ok α n), trivial⟩
theorem f178_ok (n : Nat) : (f178_E n).Sound Tryz.prog :=
  fn_ok (tyOf_ok _) prog_fol (f178_D _ n) (show Tryz.prog.funcs[178]? = some Tryz.f178 by kernel_rfl) (by kernel_rfl) (show Tryz.f178.body = some (bodyOf Tryz.f178) by kernel_rfl) rfl rfl (Nat.le_of_ble_eq_true rfl) (f178_d _ n) (by intro x; kernel_rfl) 


def f188_L4B {α : Type} (n : Nat) (s0 : List Int) (s1 : List Int) (s6 : Int) (s7 : Int) (b9 : List Int) (f : (List Int) → (List Int) → Int → Int → (List Int) → Option α) (k0 : (List Int) → Option α) : Option α :=
  bif (decide (s7 < (s0.length : Int))) then
    gd (decide (0 ≤ s7) && decide (s7 < (s0.length : Int))) (
      let J_3 := fun (y_1 : Int) => (
        ob (f147 n (decide (y_1 < 0))) fun r_2 =>
        gd (decide ((b9.length + 1) * 8 ≤ 140737488355328)) (
          f s0 s1 r_2 (W (s7 + 1)) (b9 ++ [(W (y_1 + (W (r_2 * 10000))))])))
      bif (decide (s7 < (s1.length : Int))) then
        gd (decide (0 ≤ s7) && decide (s7 < (s1.length : Int))) (
          J_3 (W ((W ((s0.getD s7.toNat 0) - s6)) - (s1.getD s7.toNat 0))))
      else
        J_3 (W ((s0.getD s7.toNat 0) - s6)))
  else
    k0 b9
abbrev f188_L4H : Tm := ⟨[(0, .d hIs), (1, .d hIs), (5, .k (.hw 9)), (6, .d hI), (7, .d hI)], [(9, .arr 3 hI false)], [40], []⟩
abbrev f188_L4X0 : Tm := ⟨[(5, .k (.hw 9))], [(9, .arr 3 hI false)], [], []⟩
abbrev f188_L4O : List (Exit × Tm) := [(.exit 0, f188_L4X0)]
def f188_L4U {α : Type} (n : Nat) (v : f188_L4H.den) (f : f188_L4H.den → Option α) (ks : KS α f188_L4O) : Option α := f188_L4B n v.1.1 v.1.2.1 v.1.2.2.2.1 v.1.2.2.2.2.1 v.2.1 (fun s0 s1 s6 s7 b9 => f ((s0, s1, (), s6, s7, ()), (b9, ()))) (fun w0 => ks.1 (((), ()), (w0, ())))
def f188_L4 {α : Type} (n m : Nat) (s0 : List Int) (s1 : List Int) (s6 : Int) (s7 : Int) (b9 : List Int) (k0 : (List Int) → Option α) : Option α := rounds (f188_L4U n) m ((s0, s1, (), s6, s7, ()), (b9, ())) (fun w => k0 w.2.1, ())
theorem f188_L4_0 {α : Type} (n : Nat) (s0 : List Int) (s1 : List Int) (s6 : Int) (s7 : Int) (b9 : List Int) (k0 : (List Int) → Option α) : f188_L4 (α := α) n 0 s0 s1 s6 s7 b9 k0 = none := rfl
theorem f188_L4_s {α : Type} (n m : Nat) (s0 : List Int) (s1 : List Int) (s6 : Int) (s7 : Int) (b9 : List Int) (k0 : (List Int) → Option α) : f188_L4 (α := α) n (m + 1) s0 s1 s6 s7 b9 k0 = f188_L4B n s0 s1 s6 s7 b9 (fun s0 s1 s6 s7 b9 => f188_L4 n m s0 s1 s6 s7 b9 k0) k0 := rfl
abbrev f188_J9 : Tm := ⟨[(0, .d hIs), (1, .d hIs), (5, .k (.hw 9)), (7, .d hI), (8, .d hI)], [(9, .arr 3 hI false)], [], []⟩
def f188 (n : Nat) (a0 : List Int) (a1 : List Int) : Option (List Int) :=
  f188_L4 n n a0 a1 0 0 []
    (fun z_4 => (
      ob (f203 n z_4) fun r_5 =>
      some r_5))
def f188_E (n : Nat) : Ent := ⟨188, [hIs, hIs], [hIs], fun x => f188 n x.1 x.2⟩
def f188_D (α : Type) (n : Nat) : D3 α := { reg := [(1, ⟨0, [], [(0, { sh := some hI })]⟩), (9, ⟨0, [], [(2, { ent := some (f147_E n) })]⟩), (10, ⟨0, [], [(5, { sh := some hI })]⟩), (11, ⟨0, [], [(1, { ent := some (f203_E n), fz := [(42, hIs)] })]⟩)], join := [(9, f188_J9)], loop := [(4, ⟨f188_L4H, f188_L4O, rounds (f188_L4U n) n⟩)] }
theorem f188_ents (α : Type) (n : Nat) : AllS Tryz.prog (entsOf (f188_D α n).reg) := ⟨f147_ok n, f203_ok n, trivial⟩
theorem f188_L4_d (α : Type) (n : Nat) : D3.OK Tryz.prog (tyOf Tryz.prog) ⟨44, []⟩ (f188_D α n) ((bodyOf Tryz.f188).at [1, 1, 1, 0, 1, 0, 0]) :=
  D3.OK.mk3 (f188_ents α n) (show loopsOf ((bodyOf Tryz.f188).at [1, 1, 1, 0, 1, 0, 0]) = [] by kernel_rfl) trivial
theorem f188_L4_ok (α : Type) (n : Nat) : LO.Sound (α := α) Tryz.prog ⟨44, []⟩ ⟨f188_L4H, f188_L4O, rounds (f188_L4U n) n⟩ (.loop ((bodyOf Tryz.f188).at [1, 1, 1, 0, 1, 0, 0])) :=
  loop_ok (tyOf_ok _) prog_fol (f188_L4U n) (f188_L4_d α n) (by intro v f ks; kernel_rfl) n
theorem f188_d (α : Type) (n : Nat) : D3.OK Tryz.prog (tyOf Tryz.prog) ⟨44, []⟩ (f188_D α n) (bodyOf Tryz.f188) :=
  D3.OK.mk3 (f188_ents α n) (show loopsOf (bodyOf Tryz.f188) = [(4, (.loop ((bodyOf Tryz.f188).at [1, 1, 1, 0, 1, 0, 0])))] by kernel_rfl) ⟨look_sound rfl (f188_L4_ok α n), trivial⟩
theorem f188_ok (n : Nat) : (f188_E n).Sound Tryz.prog :=
  fn_ok (tyOf_ok _) prog_fol (f188_D _ n) (show Tryz.prog.funcs[188]? = some Tryz.f188 by kernel_rfl) (by kernel_rfl) (show Tryz.f188.body = some (bodyOf Tryz.f188) by kernel_rfl) rfl rfl (Nat.le_of_ble_eq_true rfl) (f188_d _ n) (by intro x; kernel_rfl) 


def f202_L10B {α : Type} (n : Nat) (s0 : List Int) (s1 : List Int) (s7 : List Int) (s8 : Int) (s9 : Int) (s10 : Int) (b14 : List Int) (f : (List Int) → (List Int) → (List Int) → Int → Int → Int → (List Int) → Option α) (k0 : (List Int) → (List Int) → (List Int) → Int → Int → (List Int) → Option α) : Option α :=
  bif (decide ((W (s10 - s9)) > 1)) then
    ob (f172 n (W (Int.tdiv (W (s9 + s10)) 2))) fun r_3 =>
    ob (f178 n s1 r_3) fun r_4 =>
    ob (f187 n r_4 s7) fun r_5 =>
    bif (decide (r_5 ≤ 0)) then
      f s0 s1 s7 s8 (W (Int.tdiv (W (s9 + s10)) 2)) s10 b14
    else
      f s0 s1 s7 s8 s9 (W (Int.tdiv (W (s9 + s10)) 2)) b14
  else
    k0 s0 s1 s7 s8 s9 b14
abbrev f202_L10H : Tm := ⟨[(0, .d hIs), (1, .d hIs), (6, .k (.hw 14)), (7, .d hIs), (8, .d hI), (9, .d hI), (10, .d hI)], [(14, .arr 3 hI false)], [15, 27], []⟩
abbrev f202_L10X0 : Tm := ⟨[(0, .d hIs), (1, .d hIs), (6, .k (.hw 14)), (7, .d hIs), (8, .d hI), (9, .d hI)], [(14, .arr 3 hI false)], [], []⟩
abbrev f202_L10O : List (Exit × Tm) := [(.exit 2, f202_L10X0)]
def f202_L10U {α : Type} (n : Nat) (v : f202_L10H.den) (f : f202_L10H.den → Option α) (ks : KS α f202_L10O) : Option α := f202_L10B n v.1.1 v.1.2.1 v.1.2.2.2.1 v.1.2.2.2.2.1 v.1.2.2.2.2.2.1 v.1.2.2.2.2.2.2.1 v.2.1 (fun s0 s1 s7 s8 s9 s10 b14 => f ((s0, s1, (), s7, s8, s9, s10, ()), (b14, ()))) (fun w0 w1 w2 w3 w4 w5 => ks.1 ((w0, w1, (), w2, w3, w4, ()), (w5, ())))
def f202_L10 {α : Type} (n m : Nat) (s0 : List Int) (s1 : List Int) (s7 : List Int) (s8 : Int) (s9 : Int) (s10 : Int) (b14 : List Int) (k0 : (List Int) → (List Int) → (List Int) → Int → Int → (List Int) → Option α) : Option α := rounds (f202_L10U n) m ((s0, s1, (), s7, s8, s9, s10, ()), (b14, ())) (fun w => k0 w.1.1 w.1.2.1 w.1.2.2.2.1 w.1.2.2.2.2.1 w.1.2.2.2.2.2.1 w.2.1, ())
theorem f202_L10_0 {α : Type} (n : Nat) (s0 : List Int) (s1 : List Int) (s7 : List Int) (s8 : Int) (s9 : Int) (s10 : Int) (b14 : List Int) (k0 : (List Int) → (List Int) → (List Int) → Int → Int → (List Int) → Option α) : f202_L10 (α := α) n 0 s0 s1 s7 s8 s9 s10 b14 k0 = none := rfl
theorem f202_L10_s {α : Type} (n m : Nat) (s0 : List Int) (s1 : List Int) (s7 : List Int) (s8 : Int) (s9 : Int) (s10 : Int) (b14 : List Int) (k0 : (List Int) → (List Int) → (List Int) → Int → Int → (List Int) → Option α) : f202_L10 (α := α) n (m + 1) s0 s1 s7 s8 s9 s10 b14 k0 = f202_L10B n s0 s1 s7 s8 s9 s10 b14 (fun s0 s1 s7 s8 s9 s10 b14 => f202_L10 n m s0 s1 s7 s8 s9 s10 b14 k0) k0 := rfl
def f202_L4B {α : Type} (n : Nat) (s0 : List Int) (s1 : List Int) (s7 : List Int) (s8 : Int) (b14 : List Int) (f : (List Int) → (List Int) → (List Int) → Int → (List Int) → Option α) (k0 : (List Int) → (List Int) → Option α) : Option α :=
  bif (decide (s8 ≥ 0)) then
    gd (decide (0 ≤ s8) && decide (s8 < (s0.length : Int))) (
      gd (decide ((1 + s7.length) * 8 ≤ 140737488355328)) (
        ob (f203 n ([(s0.getD s8.toNat 0)] ++ s7)) fun r_1 =>
        ob (f187 n r_1 s1) fun r_2 =>
        bif (decide (r_2 < 0)) then
          f s0 s1 r_1 (W (s8 - 1)) b14
        else
          f202_L10 n n s0 s1 r_1 s8 0 10000 b14
            (fun z_3 z_4 z_5 z_6 z_7 z_8 => (
              gd (decide (0 ≤ z_6) && decide (z_6 < (z_8.length : Int))) (
                gd (decide (z_6.toNat < z_8.length)) (
                  ob (f172 n z_7) fun r_9 =>
                  ob (f178 n z_4 r_9) fun r_10 =>
                  ob (f188 n z_5 r_10) fun r_11 =>
                  f z_3 z_4 r_11 (W (z_6 - 1)) (z_8.set z_6.toNat z_7)))))))
  else
    k0 s7 b14
abbrev f202_L4H : Tm := ⟨[(0, .d hIs), (1, .d hIs), (6, .k (.hw 14)), (7, .d hIs), (8, .d hI)], [(14, .arr 3 hI false)], [15, 27], [(7, hIs)]⟩
abbrev f202_L4X0 : Tm := ⟨[(6, .k (.hw 14)), (7, .d hIs)], [(14, .arr 3 hI false)], [], []⟩
abbrev f202_L4O : List (Exit × Tm) := [(.exit 0, f202_L4X0)]
def f202_L4U {α : Type} (n : Nat) (v : f202_L4H.den) (f : f202_L4H.den → Option α) (ks : KS α f202_L4O) : Option α := f202_L4B n v.1.1 v.1.2.1 v.1.2.2.2.1 v.1.2.2.2.2.1 v.2.1 (fun s0 s1 s7 s8 b14 => f ((s0, s1, (), s7, s8, ()), (b14, ()))) (fun w0 w1 => ks.1 (((), w0, ()), (w1, ())))
def f202_L4 {α : Type} (n m : Nat) (s0 : List Int) (s1 : List Int) (s7 : List Int) (s8 : Int) (b14 : List Int) (k0 : (List Int) → (List Int) → Option α) : Option α := rounds (f202_L4U n) m ((s0, s1, (), s7, s8, ()), (b14, ())) (fun w => k0 w.1.2.1 w.2.1, ())
theorem f202_L4_0 {α : Type} (n : Nat) (s0 : List Int) (s1 : List Int) (s7 : List Int) (s8 : Int) (b14 : List Int) (k0 : (List Int) → (List Int) → Option α) : f202_L4 (α := α) n 0 s0 s1 s7 s8 b14 k0 = none := rfl
theorem f202_L4_s {α : Type} (n m : Nat) (s0 : List Int) (s1 : List Int) (s7 : List Int) (s8 : Int) (b14 : List Int) (k0 : (List Int) → (List Int) → Option α) : f202_L4 (α := α) n (m + 1) s0 s1 s7 s8 b14 k0 = f202_L4B n s0 s1 s7 s8 b14 (fun s0 s1 s7 s8 b14 => f202_L4 n m s0 s1 s7 s8 b14 k0) k0 := rfl
def f202 (n : Nat) (a0 : List Int) (a1 : List Int) : Option ((List Int) × (List Int)) :=
  gd (decide (0 ≤ (a0.length : Int)) && decide ((a0.length : Int) ≤ 4611686018427387904) && decide ((8 : Int) * (a0.length : Int) ≤ 281474976710656)) (
    f202_L4 n n a0 a1 [] (W ((a0.length : Int) - 1)) (List.replicate ((a0.length : Int).toNat) 0)
      (fun z_12 z_13 => (
        ob (f203 n z_13) fun r_14 =>
        some (r_14, z_12))))
def f202_E (n : Nat) : Ent := ⟨202, [hIs, hIs], [hIs, hIs], fun x => f202 n x.1 x.2⟩
def f202_D (α : Type) (n : Nat) : D3 α := { reg := [(2, ⟨0, [], [(0, { sh := some hI })]⟩), (6, ⟨0, [], [(4, { sh := some hI }), (7, { ent := some (f203_E n), fz := [(29, hIs)] })]⟩), (7, ⟨0, [], [(2, { ent := some (f187_E n) })]⟩), (12, ⟨0, [], [(2, { ent := some (f172_E n) }), (3, { ent := some (f178_E n) }), (5, { ent := some (f187_E n) })]⟩), (16, ⟨0, [], [(3, { ent := some (f172_E n) }), (4, { ent := some (f178_E n) }), (5, { ent := some (f188_E n) })]⟩), (17, ⟨0, [], [(1, { ent := some (f203_E n), fz := [(62, hIs)] })]⟩)], join := [], loop := [(10, ⟨f202_L10H, f202_L10O, rounds (f202_L10U n) n⟩), (4, ⟨f202_L4H, f202_L4O, rounds (f202_L4U n) n⟩)] }
theorem f202_ents (α : Type) (n : Nat) : AllS Tryz.prog (entsOf (f202_D α n).reg) := ⟨f203_ok n, f187_ok n, f172_ok n, f178_ok n, f187_ok n, f172_ok n, f178_ok n, f188_ok n, f203_ok n, trivial⟩
theorem f202_L10_d (α : Type) (n : Nat) : D3.OK Tryz.prog (tyOf Tryz.prog) ⟨65, []⟩ (f202_D α n) ((bodyOf Tryz.f202).at [1, 1, 1, 0, 1, 0, 0, 1, 0, 0, 1, 1, 1, 1, 0, 0, 0]) :=
  D3.OK.mk3 (f202_ents α n) (show loopsOf ((bodyOf Tryz.f202).at [1, 1, 1, 0, 1, 0, 0, 1, 0, 0, 1, 1, 1, 1, 0, 0, 0]) = [] by kernel_rfl) trivial
theorem f202_L10_ok (α : Type) (n : Nat) : LO.Sound (α := α) Tryz.prog ⟨65, []⟩ ⟨f202_L10H, f202_L10O, rounds (f202_L10U n) n⟩ (.loop ((bodyOf Tryz.f202).at [1, 1, 1, 0, 1, 0, 0, 1, 0, 0, 1, 1, 1, 1, 0, 0, 0])) :=
  loop_ok (tyOf_ok _) prog_fol (f202_L10U n) (f202_L10_d α n) (by intro v f ks; kernel_rfl) n
theorem f202_L4_d (α : Type) (n : Nat) : D3.OK Tryz.prog (tyOf Tryz.prog) ⟨65, []⟩ (f202_D α n) ((bodyOf Tryz.f202).at [1, 1, 1, 0, 1, 0, 0]) :=
  D3.OK.mk3 (f202_ents α n) (show loopsOf ((bodyOf Tryz.f202).at [1, 1, 1, 0, 1, 0, 0]) = [(10, (.loop ((bodyOf Tryz.f202).at [1, 1, 1, 0, 1, 0, 0, 1, 0, 0, 1, 1, 1, 1, 0, 0, 0])))] by kernel_rfl) ⟨look_sound rfl (f202_L10_ok α n), trivial⟩
theorem f202_L4_ok (α : Type) (n : Nat) : LO.Sound (α := α) Tryz.prog ⟨65, []⟩ ⟨f202_L4H, f202_L4O, rounds (f202_L4U n) n⟩ (.loop ((bodyOf Tryz.f202).at [1, 1, 1, 0, 1, 0, 0])) :=
  loop_ok (tyOf_ok _) prog_fol (f202_L4U n) (f202_L4_d α n) (by intro v f ks; kernel_rfl) n
theorem f202_d (α : Type) (n : Nat) : D3.OK Tryz.prog (tyOf Tryz.prog) ⟨65, []⟩ (f202_D α n) (bodyOf Tryz.f202) :=
  D3.OK.mk3 (f202_ents α n) (show loopsOf (bodyOf Tryz.f202) = [(4, (.loop ((bodyOf Tryz.f202).at [1, 1, 1, 0, 1, 0, 0])))] by kernel_rfl) ⟨look_sound rfl (f202_L4_ok α n), trivial⟩
theorem f202_ok (n : Nat) : (f202_E n).Sound Tryz.prog :=
  fn_ok (tyOf_ok _) prog_fol (f202_D _ n) (show Tryz.prog.funcs[202]? = some Tryz.f202 by kernel_rfl) (by kernel_rfl) (show Tryz.f202.body = some (bodyOf Tryz.f202) by kernel_rfl) rfl rfl (Nat.le_of_ble_eq_true rfl) (f202_d _ n) (by intro x; kernel_rfl) 


def f190_L1B {α : Type} (n : Nat) (s0 : List Int) (s1 : List Int) (f : (List Int) → (List Int) → Option α) (k0 : (List Int) → Option α) : Option α :=
  bif (decide ((s1.length : Int) > 0)) then
    ob (f202 n s0 s1) fun r_1 =>
    f s1 r_1.2
  else
    k0 s0
abbrev f190_L1H : Tm := ⟨[(0, .d hIs), (1, .d hIs)], [], [], []⟩
abbrev f190_L1X0 : Tm := ⟨[(0, .d hIs)], [], [], []⟩
abbrev f190_L1O : List (Exit × Tm) := [(.exit 0, f190_L1X0)]
def f190_L1U {α : Type} (n : Nat) (v : f190_L1H.den) (f : f190_L1H.den → Option α) (ks : KS α f190_L1O) : Option α := f190_L1B n v.1.1 v.1.2.1 (fun s0 s1 => f ((s0, s1, ()), ())) (fun w0 => ks.1 ((w0, ()), ()))
def f190_L1 {α : Type} (n m : Nat) (s0 : List Int) (s1 : List Int) (k0 : (List Int) → Option α) : Option α := rounds (f190_L1U n) m ((s0, s1, ()), ()) (fun w => k0 w.1.1, ())
theorem f190_L1_0 {α : Type} (n : Nat) (s0 : List Int) (s1 : List Int) (k0 : (List Int) → Option α) : f190_L1 (α := α) n 0 s0 s1 k0 = none := rfl
theorem f190_L1_s {α : Type} (n m : Nat) (s0 : List Int) (s1 : List Int) (k0 : (List Int) → Option α) : f190_L1 (α := α) n (m + 1) s0 s1 k0 = f190_L1B n s0 s1 (fun s0 s1 => f190_L1 n m s0 s1 k0) k0 := rfl
def f190 (n : Nat) (a0 : List Int) (a1 : List Int) : Option (List Int) :=
  f190_L1 n n a0 a1
    (fun z_2 => (
      gd (decide ((0 + z_2.length) * 8 ≤ 140737488355328)) (
        some z_2)))
def f190_E (n : Nat) : Ent := ⟨190, [hIs, hIs], [hIs], fun x => f190 n x.1 x.2⟩
def f190_D (α : Type) (n : Nat) : D3 α := { reg := [(2, ⟨0, [], [(2, { ent := some (f202_E n) })]⟩), (5, ⟨0, [], [(0, { sh := some hI })]⟩)], join := [], loop := [(1, ⟨f190_L1H, f190_L1O, rounds (f190_L1U n) n⟩)] }
theorem f190_ents (α : Type) (n : Nat) : AllS Tryz.prog (entsOf (f190_D α n).reg) := ⟨f202_ok n, trivial⟩
theorem f190_L1_d (α : Type) (n : Nat) : D3.OK Tryz.prog (tyOf Tryz.prog) ⟨21, []⟩ (f190_D α n) ((bodyOf Tryz.f190).at [1, 0, 0, 0]) :=
  D3.OK.mk3 (f190_ents α n) (show loopsOf ((bodyOf Tryz.f190).at [1, 0, 0, 0]) = [] by kernel_rfl) trivial
theorem f190_L1_ok (α : Type) (n : Nat) : LO.Sound (α := α) Tryz.prog ⟨21, []⟩ ⟨f190_L1H, f190_L1O, rounds (f190_L1U n) n⟩ (.loop ((bodyOf Tryz.f190).at [1, 0, 0, 0])) :=
  loop_ok (tyOf_ok _) prog_fol (f190_L1U n) (f190_L1_d α n) (by intro v f ks; kernel_rfl) n
theorem f190_d (α : Type) (n : Nat) : D3.OK Tryz.prog (tyOf Tryz.prog) ⟨21, []⟩ (f190_D α n) (bodyOf Tryz.f190) :=
  D3.OK.mk3 (f190_ents α n) (show loopsOf (bodyOf Tryz.f190) = [(1, (.loop ((bodyOf Tryz.f190).at [1, 0, 0, 0])))] by kernel_rfl) ⟨look_sound rfl (f190_L1_ok α n), trivial⟩
theorem f190_ok (n : Nat) : (f190_E n).Sound Tryz.prog :=
  fn_ok (tyOf_ok _) prog_fol (f190_D _ n) (show Tryz.prog.funcs[190]? = some Tryz.f190 by kernel_rfl) (by kernel_rfl) (show Tryz.f190.body = some (bodyOf Tryz.f190) by kernel_rfl) rfl rfl (Nat.le_of_ble_eq_true rfl) (f190_d _ n) (by intro x; kernel_rfl) 


abbrev f148_J3 : Tm := ⟨[(1, .k (.hp 1 0 0))], [(1, .var 30 true false [.d .bool, .d hIs, .d hIs])], [], []⟩
def f148 (n : Nat) (a0 : Bool × (List Int) × (List Int)) : Option Bool :=
  let J_5 := fun (_ : Unit) => (
    ob (f190 n a0.2.1 a0.2.2) fun r_3 =>
    ob (f187 n r_3 [1]) fun r_4 =>
    some (r_4 == 0))
  ob (f189 n a0.2.1) fun r_1 =>
  bif (!r_1) then
    some false
  else
    ob (f189 n a0.2.2) fun r_2 =>
    bif (!r_2) then
      some false
    else
      bif ((a0.2.2.length : Int) == 0) then
        some false
      else
        bif ((a0.2.1.length : Int) == 0) then
          bif a0.1 then
            some false
          else
            J_5 ()
        else
          J_5 ()
def f148_E (n : Nat) : Ent := ⟨148, [hR], [.bool], fun x => f148 n x⟩
def f148_D (α : Type) (n : Nat) : D3 α := { reg := [(1, ⟨0, [], [(2, { ent := some (f189_E n) }), (7, { ent := some (f189_E n) })]⟩), (3, ⟨0, [], [(4, { ent := some (f190_E n) }), (5, { sh := some hI }), (6, { ent := some (f187_E n) })]⟩)], join := [(3, f148_J3)], loop := [] }
theorem f148_ents (α : Type) (n : Nat) : AllS Tryz.prog (entsOf (f148_D α n).reg) := ⟨f189_ok n, f189_ok n, f190_ok n, f187_ok n, trivial⟩
theorem f148_d (α : Type) (n : Nat) : D3.OK Tryz.prog (tyOf Tryz.prog) ⟨37, []⟩ (f148_D α n) (bodyOf Tryz.f148) :=
  D3.OK.mk3 (f148_ents α n) (show loopsOf (bodyOf Tryz.f148) = [] by kernel_rfl) trivial
theorem f148_ok (n : Nat) : (f148_E n).Sound Tryz.prog :=
  fn_ok (tyOf_ok _) prog_fol (f148_D _ n) (show Tryz.prog.funcs[148]? = some Tryz.f148 by kernel_rfl) (by kernel_rfl) (show Tryz.f148.body = some (bodyOf Tryz.f148) by kernel_rfl) rfl rfl (Nat.le_of_ble_eq_true rfl) (f148_d _ n) (by intro x; kernel_rfl) 


def f114_L4B {α : Type} (n : Nat) (s0 : List (Bool × (List Int) × (List Int))) (s3 : Int) (f : (List (Bool × (List Int) × (List Int))) → Int → Option α) (k0 : Bool → Option α) (k1 : (List (Bool × (List Int) × (List Int))) → Option α) : Option α :=
  bif (decide (s3 < (s0.length : Int))) then
    gd (decide (0 ≤ s3) && decide (s3 < (s0.length : Int))) (
      let x_1 := s0.getD s3.toNat (false, [], [])
      ob (f148 n x_1) fun r_2 =>
      bif (!r_2) then
        k0 false
      else
        f s0 (W (s3 + 1)))
  else
    k1 s0
abbrev f114_L4H : Tm := ⟨[(0, .d hRs), (3, .d hI)], [], [], []⟩
abbrev f114_L4X0 : Tm := ⟨[(2, .d .bool)], [], [], []⟩
abbrev f114_L4X1 : Tm := ⟨[(0, .d hRs)], [], [], []⟩
abbrev f114_L4O : List (Exit × Tm) := [(.ret, f114_L4X0), (.exit 0, f114_L4X1)]
def f114_L4U {α : Type} (n : Nat) (v : f114_L4H.den) (f : f114_L4H.den → Option α) (ks : KS α f114_L4O) : Option α := f114_L4B n v.1.1 v.1.2.1 (fun s0 s3 => f ((s0, s3, ()), ())) (fun w0 => ks.1 ((w0, ()), ())) (fun w0 => ks.2.1 ((w0, ()), ()))
def f114_L4 {α : Type} (n m : Nat) (s0 : List (Bool × (List Int) × (List Int))) (s3 : Int) (k0 : Bool → Option α) (k1 : (List (Bool × (List Int) × (List Int))) → Option α) : Option α := rounds (f114_L4U n) m ((s0, s3, ()), ()) (fun w => k0 w.1.1, fun w => k1 w.1.1, ())
theorem f114_L4_0 {α : Type} (n : Nat) (s0 : List (Bool × (List Int) × (List Int))) (s3 : Int) (k0 : Bool → Option α) (k1 : (List (Bool × (List Int) × (List Int))) → Option α) : f114_L4 (α := α) n 0 s0 s3 k0 k1 = none := rfl
theorem f114_L4_s {α : Type} (n m : Nat) (s0 : List (Bool × (List Int) × (List Int))) (s3 : Int) (k0 : Bool → Option α) (k1 : (List (Bool × (List Int) × (List Int))) → Option α) : f114_L4 (α := α) n (m + 1) s0 s3 k0 k1 = f114_L4B n s0 s3 (fun s0 s3 => f114_L4 n m s0 s3 k0 k1) k0 k1 := rfl
def f114 (n : Nat) (a0 : List (Bool × (List Int) × (List Int))) : Option Bool :=
  bif (decide ((a0.length : Int) > 4096)) then
    some false
  else
    f114_L4 n n a0 0
      (fun z_3 => (
        some z_3))
      (fun z_4 => (
        ob (f65 n (z_4.length : Int) 1 4) fun r_5 =>
        some r_5))
def f114_E (n : Nat) : Ent := ⟨114, [hRs], [.bool], fun x => f114 n x⟩
def f114_D (α : Type) (n : Nat) : D3 α := { reg := [(6, ⟨0, [], [(4, { ent := some (f148_E n) })]⟩), (8, ⟨0, [], [(2, { ent := some (f65_E n) })]⟩)], join := [], loop := [(4, ⟨f114_L4H, f114_L4O, rounds (f114_L4U n) n⟩)] }
theorem f114_ents (α : Type) (n : Nat) : AllS Tryz.prog (entsOf (f114_D α n).reg) := ⟨f148_ok n, f65_ok n, trivial⟩
theorem f114_L4_d (α : Type) (n : Nat) : D3.OK Tryz.prog (tyOf Tryz.prog) ⟨22, []⟩ (f114_D α n) ((bodyOf Tryz.f114).at [1, 1, 0, 1, 0, 0]) :=
  D3.OK.mk3 (f114_ents α n) (show loopsOf ((bodyOf Tryz.f114).at [1, 1, 0, 1, 0, 0]) = [] by kernel_rfl) trivial
theorem f114_L4_ok (α : Type) (n : Nat) : LO.Sound (α := α) Tryz.prog ⟨22, []⟩ ⟨f114_L4H, f114_L4O, rounds (f114_L4U n) n⟩ (.loop ((bodyOf Tryz.f114).at [1, 1, 0, 1, 0, 0])) :=
  loop_ok (tyOf_ok _) prog_fol (f114_L4U n) (f114_L4_d α n) (by intro v f ks; kernel_rfl) n
theorem f114_d (α : Type) (n : Nat) : D3.OK Tryz.prog (tyOf Tryz.prog) ⟨22, []⟩ (f114_D α n) (bodyOf Tryz.f114) :=
  D3.OK.mk3 (f114_ents α n) (show loopsOf (bodyOf Tryz.f114) = [(4, (.loop ((bodyOf Tryz.f114).at [1, 1, 0, 1, 0, 0])))] by kernel_rfl) ⟨look_sound rfl (f114_L4_ok α n), trivial⟩
theorem f114_ok (n : Nat) : (f114_E n).Sound Tryz.prog :=
  fn_ok (tyOf_ok _) prog_fol (f114_D _ n) (show Tryz.prog.funcs[114]? = some Tryz.f114 by kernel_rfl) (by kernel_rfl) (show Tryz.f114.body = some (bodyOf Tryz.f114) by kernel_rfl) rfl rfl (Nat.le_of_ble_eq_true rfl) (f114_d _ n) (by intro x; kernel_rfl) 


def f192_L3B {α : Type} (n : Nat) (s3 : Int) (s4 : Int) (c1_0 : List (Int × Int × Int × Int)) (f : Int → Int → (List (Int × Int × Int × Int)) → Option α) (k0 : Int → Option α) : Option α :=
  bif (decide (s4 < (c1_0.length : Int))) then
    gd (decide (0 ≤ s4) && decide (s4 < (c1_0.length : Int))) (
      let x_1 := c1_0.getD s4.toNat (0, 0, 0, 0)
      bif (x_1.1 == 2) then
        gd (decide (0 ≤ s4) && decide (s4 < (c1_0.length : Int))) (
          let x_2 := c1_0.getD s4.toNat (0, 0, 0, 0)
          f (max s3 (W (x_2.2.2.2 + 1))) (W (s4 + 1)) c1_0)
      else
        f s3 (W (s4 + 1)) c1_0)
  else
    k0 s3
abbrev f192_L3H : Tm := ⟨[(1, .k (.hp 1 0 0)), (3, .d hI), (4, .d hI)], [(1, .var 54 true false [.d hNs])], [], []⟩
abbrev f192_L3X0 : Tm := ⟨[(3, .d hI)], [], [1], []⟩
abbrev f192_L3O : List (Exit × Tm) := [(.exit 0, f192_L3X0)]
def f192_L3U {α : Type} (n : Nat) (v : f192_L3H.den) (f : f192_L3H.den → Option α) (ks : KS α f192_L3O) : Option α := f192_L3B n v.1.2.1 v.1.2.2.1 v.2.1.1 (fun s3 s4 c1_0 => f (((), s3, s4, ()), ((c1_0, ()), ()))) (fun w0 => ks.1 ((w0, ()), ()))
def f192_L3 {α : Type} (n m : Nat) (s3 : Int) (s4 : Int) (c1_0 : List (Int × Int × Int × Int)) (k0 : Int → Option α) : Option α := rounds (f192_L3U n) m (((), s3, s4, ()), ((c1_0, ()), ())) (fun w => k0 w.1.1, ())
theorem f192_L3_0 {α : Type} (n : Nat) (s3 : Int) (s4 : Int) (c1_0 : List (Int × Int × Int × Int)) (k0 : Int → Option α) : f192_L3 (α := α) n 0 s3 s4 c1_0 k0 = none := rfl
theorem f192_L3_s {α : Type} (n m : Nat) (s3 : Int) (s4 : Int) (c1_0 : List (Int × Int × Int × Int)) (k0 : Int → Option α) : f192_L3 (α := α) n (m + 1) s3 s4 c1_0 k0 = f192_L3B n s3 s4 c1_0 (fun s3 s4 c1_0 => f192_L3 n m s3 s4 c1_0 k0) k0 := rfl
def f192 (n : Nat) (a0 : List (Int × Int × Int × Int)) : Option Int :=
  f192_L3 n n 0 0 a0
    (fun z_3 => (
      some z_3))
def f192_E (n : Nat) : Ent := ⟨192, [hE], [hI], fun x => f192 n x⟩
def f192_D (α : Type) (n : Nat) : D3 α := { reg := [], join := [], loop := [(3, ⟨f192_L3H, f192_L3O, rounds (f192_L3U n) n⟩)] }
theorem f192_ents (α : Type) (n : Nat) : AllS Tryz.prog (entsOf (f192_D α n).reg) := trivial
theorem f192_L3_d (α : Type) (n : Nat) : D3.OK Tryz.prog (tyOf Tryz.prog) ⟨29, []⟩ (f192_D α n) ((bodyOf Tryz.f192).at [1, 1, 0, 1, 0, 0]) :=
  D3.OK.mk3 (f192_ents α n) (show loopsOf ((bodyOf Tryz.f192).at [1, 1, 0, 1, 0, 0]) = [] by kernel_rfl) trivial
theorem f192_L3_ok (α : Type) (n : Nat) : LO.Sound (α := α) Tryz.prog ⟨29, []⟩ ⟨f192_L3H, f192_L3O, rounds (f192_L3U n) n⟩ (.loop ((bodyOf Tryz.f192).at [1, 1, 0, 1, 0, 0])) :=
  loop_ok (tyOf_ok _) prog_fol (f192_L3U n) (f192_L3_d α n) (by intro v f ks; kernel_rfl) n
theorem f192_d (α : Type) (n : Nat) : D3.OK Tryz.prog (tyOf Tryz.prog) ⟨29, []⟩ (f192_D α n) (bodyOf Tryz.f192) :=
  D3.OK.mk3 (f192_ents α n) (show loopsOf (bodyOf Tryz.f192) = [(3, (.loop ((bodyOf Tryz.f192).at [1, 1, 0, 1, 0, 0])))] by kernel_rfl) ⟨look_sound rfl (f192_L3_ok α n), trivial⟩
theorem f192_ok (n : Nat) : (f192_E n).Sound Tryz.prog :=
  fn_ok (tyOf_ok _) prog_fol (f192_D _ n) (show Tryz.prog.funcs[192]? = some Tryz.f192 by kernel_rfl) (by kernel_rfl) (show Tryz.f192.body = some (bodyOf Tryz.f192) by kernel_rfl) rfl rfl (Nat.le_of_ble_eq_true rfl) (f192_d _ n) (by intro x; kernel_rfl) 


def f116 (n : Nat) (a0 : Bool × (List Int) × (List Int)) : Option Bool :=
  some ((a0.2.1.length : Int) == 0)
def f116_E (n : Nat) : Ent := ⟨116, [hR], [.bool], fun x => f116 n x⟩
def f116_D (α : Type) (n : Nat) : D3 α := { reg := [], join := [], loop := [] }
theorem f116_ents (α : Type) (n : Nat) : AllS Tryz.prog (entsOf (f116_D α n).reg) := trivial
theorem f116_d (α : Type) (n : Nat) : D3.OK Tryz.prog (tyOf Tryz.prog) ⟨7, []⟩ (f116_D α n) (bodyOf Tryz.f116) :=
  D3.OK.mk3 (f116_ents α n) (show loopsOf (bodyOf Tryz.f116) = [] by kernel_rfl) trivial
theorem f116_ok (n : Nat) : (f116_E n).Sound Tryz.prog :=
  fn_ok (tyOf_ok _) prog_fol (f116_D _ n) (show Tryz.prog.funcs[116]? = some Tryz.f116 by kernel_rfl) (by kernel_rfl) (show Tryz.f116.body = some (bodyOf Tryz.f116) by kernel_rfl) rfl rfl (Nat.le_of_ble_eq_true rfl) (f116_d _ n) (by intro x; kernel_rfl) 


def f135 (n : Nat) (a0 : Bool × (List Int) × (List Int)) : Option Int :=
  ob (f116 n a0) fun r_1 =>
  bif r_1 then
    some 0
  else
    bif a0.1 then
      some (-1)
    else
      some 1
def f135_E (n : Nat) : Ent := ⟨135, [hR], [hI], fun x => f135 n x⟩
def f135_D (α : Type) (n : Nat) : D3 α := { reg := [(1, ⟨0, [], [(1, { ent := some (f116_E n) })]⟩)], join := [], loop := [] }
theorem f135_ents (α : Type) (n : Nat) : AllS Tryz.prog (entsOf (f135_D α n).reg) := ⟨f116_ok n, trivial⟩
theorem f135_d (α : Type) (n : Nat) : D3.OK Tryz.prog (tyOf Tryz.prog) ⟨9, []⟩ (f135_D α n) (bodyOf Tryz.f135) :=
  D3.OK.mk3 (f135_ents α n) (show loopsOf (bodyOf Tryz.f135) = [] by kernel_rfl) trivial
theorem f135_ok (n : Nat) : (f135_E n).Sound Tryz.prog :=
  fn_ok (tyOf_ok _) prog_fol (f135_D _ n) (show Tryz.prog.funcs[135]? = some Tryz.f135 by kernel_rfl) (by kernel_rfl) (show Tryz.f135.body = some (bodyOf Tryz.f135) by kernel_rfl) rfl rfl (Nat.le_of_ble_eq_true rfl) (f135_d _ n) (by intro x; kernel_rfl) 


def f155 (n : Nat) (a0 : (List (Int × Int × Int × Int)) × (List (Bool × (List Int) × (List Int))) × (List (Bool × (List Int) × (List Int))) × (List (Bool × (List Int) × (List Int))) × Int × (Bool × (List Int) × (List Int)) × Int × Int) : Option Bool :=
  some (decide ((a0.2.2.1.length : Int) > 0))
def f155_E (n : Nat) : Ent := ⟨155, [(.st (.pair hE (.pair hRs (.pair hRs (.pair hRs (.pair hI (.pair hR (.pair hI hI))))))))], [.bool], fun x => f155 n x⟩
def f155_D (α : Type) (n : Nat) : D3 α := { reg := [], join := [], loop := [] }
theorem f155_ents (α : Type) (n : Nat) : AllS Tryz.prog (entsOf (f155_D α n).reg) := trivial
theorem f155_d (α : Type) (n : Nat) : D3.OK Tryz.prog (tyOf Tryz.prog) ⟨7, []⟩ (f155_D α n) (bodyOf Tryz.f155) :=
  D3.OK.mk3 (f155_ents α n) (show loopsOf (bodyOf Tryz.f155) = [] by kernel_rfl) trivial
theorem f155_ok (n : Nat) : (f155_E n).Sound Tryz.prog :=
  fn_ok (tyOf_ok _) prog_fol (f155_D _ n) (show Tryz.prog.funcs[155]? = some Tryz.f155 by kernel_rfl) (by kernel_rfl) (show Tryz.f155.body = some (bodyOf Tryz.f155) by kernel_rfl) rfl rfl (Nat.le_of_ble_eq_true rfl) (f155_d _ n) (by intro x; kernel_rfl) 


def f138 (n : Nat) (a0 : Bool × (List Int) × (List Int)) : Option (Bool × (List Int) × (List Int)) :=
  bif (!a0.1) then
    some ((decide ((a0.2.1.length : Int) > 0)), a0.2)
  else
    some (false, a0.2)
def f138_E (n : Nat) : Ent := ⟨138, [hR], [hR], fun x => f138 n x⟩
def f138_D (α : Type) (n : Nat) : D3 α := { reg := [], join := [], loop := [] }
theorem f138_ents (α : Type) (n : Nat) : AllS Tryz.prog (entsOf (f138_D α n).reg) := trivial
theorem f138_d (α : Type) (n : Nat) : D3.OK Tryz.prog (tyOf Tryz.prog) ⟨14, []⟩ (f138_D α n) (bodyOf Tryz.f138) :=
  D3.OK.mk3 (f138_ents α n) (show loopsOf (bodyOf Tryz.f138) = [] by kernel_rfl) trivial
theorem f138_ok (n : Nat) : (f138_E n).Sound Tryz.prog :=
  fn_ok (tyOf_ok _) prog_fol (f138_D _ n) (show Tryz.prog.funcs[138]? = some Tryz.f138 by kernel_rfl) (by kernel_rfl) (show Tryz.f138.body = some (bodyOf Tryz.f138) by kernel_rfl) rfl rfl (Nat.le_of_ble_eq_true rfl) (f138_d _ n) (by intro x; kernel_rfl) 


def f186_L4B {α : Type} (n : Nat) (s0 : List Int) (s1 : List Int) (s6 : Int) (s7 : Int) (b8 : List Int) (f : (List Int) → (List Int) → Int → Int → (List Int) → Option α) (k0 : (List Int) → Option α) : Option α :=
  let J_5 := fun (_ : Unit) => (
    let J_4 := fun (y_1 : Int) => (
      let J_3 := fun (y_2 : Int) => (
        gd (decide ((b8.length + 1) * 8 ≤ 140737488355328)) (
          f s0 s1 (W (Int.tdiv y_2 10000)) (W (s7 + 1)) (b8 ++ [(Int.tmod y_2 10000)])))
      bif (decide (s7 < (s1.length : Int))) then
        gd (decide (0 ≤ s7) && decide (s7 < (s1.length : Int))) (
          J_3 (W (y_1 + (s1.getD s7.toNat 0))))
      else
        J_3 y_1)
    bif (decide (s7 < (s0.length : Int))) then
      gd (decide (0 ≤ s7) && decide (s7 < (s0.length : Int))) (
        J_4 (W (s6 + (s0.getD s7.toNat 0))))
    else
      J_4 s6)
  bif (decide (s7 < (s0.length : Int))) then
    J_5 ()
  else
    bif (decide (s7 < (s1.length : Int))) then
      J_5 ()
    else
      bif (decide (s6 > 0)) then
        J_5 ()
      else
        k0 b8
abbrev f186_L4H : Tm := ⟨[(0, .d hIs), (1, .d hIs), (5, .k (.hw 8)), (6, .d hI), (7, .d hI)], [(8, .arr 3 hI false)], [48], []⟩
abbrev f186_L4X0 : Tm := ⟨[(5, .k (.hw 8))], [(8, .arr 3 hI false)], [], []⟩
abbrev f186_L4O : List (Exit × Tm) := [(.exit 0, f186_L4X0)]
def f186_L4U {α : Type} (n : Nat) (v : f186_L4H.den) (f : f186_L4H.den → Option α) (ks : KS α f186_L4O) : Option α := f186_L4B n v.1.1 v.1.2.1 v.1.2.2.2.1 v.1.2.2.2.2.1 v.2.1 (fun s0 s1 s6 s7 b8 => f ((s0, s1, (), s6, s7, ()), (b8, ()))) (fun w0 => ks.1 (((), ()), (w0, ())))
def f186_L4 {α : Type} (n m : Nat) (s0 : List Int) (s1 : List Int) (s6 : Int) (s7 : Int) (b8 : List Int) (k0 : (List Int) → Option α) : Option α := rounds (f186_L4U n) m ((s0, s1, (), s6, s7, ()), (b8, ())) (fun w => k0 w.2.1, ())
theorem f186_L4_0 {α : Type} (n : Nat) (s0 : List Int) (s1 : List Int) (s6 : Int) (s7 : Int) (b8 : List Int) (k0 : (List Int) → Option α) : f186_L4 (α := α) n 0 s0 s1 s6 s7 b8 k0 = none := rfl
theorem f186_L4_s {α : Type} (n m : Nat) (s0 : List Int) (s1 : List Int) (s6 : Int) (s7 : Int) (b8 : List Int) (k0 : (List Int) → Option α) : f186_L4 (α := α) n (m + 1) s0 s1 s6 s7 b8 k0 = f186_L4B n s0 s1 s6 s7 b8 (fun s0 s1 s6 s7 b8 => f186_L4 n m s0 s1 s6 s7 b8 k0) k0 := rfl
abbrev f186_J6 : Tm := ⟨[(0, .d hIs), (1, .d hIs), (5, .k (.hw 8)), (6, .d hI), (7, .d hI)], [(8, .arr 3 hI false)], [], []⟩
abbrev f186_J8 : Tm := ⟨[(0, .d hIs), (1, .d hIs), (5, .k (.hw 8)), (6, .d hI), (7, .d hI)], [(8, .arr 3 hI false)], [], []⟩
abbrev f186_J10 : Tm := ⟨[(0, .d hIs), (1, .d hIs), (5, .k (.hw 8)), (6, .d hI), (7, .d hI)], [(8, .arr 3 hI false)], [], []⟩
def f186 (n : Nat) (a0 : List Int) (a1 : List Int) : Option (List Int) :=
  f186_L4 n n a0 a1 0 0 []
    (fun z_6 => (
      some z_6))
def f186_E (n : Nat) : Ent := ⟨186, [hIs, hIs], [hIs], fun x => f186 n x.1 x.2⟩
def f186_D (α : Type) (n : Nat) : D3 α := { reg := [(1, ⟨0, [], [(0, { sh := some hI })]⟩), (10, ⟨0, [], [(3, { sh := some hI })]⟩)], join := [(6, f186_J6), (8, f186_J8), (10, f186_J10)], loop := [(4, ⟨f186_L4H, f186_L4O, rounds (f186_L4U n) n⟩)] }
theorem f186_ents (α : Type) (n : Nat) : AllS Tryz.prog (entsOf (f186_D α n).reg) := trivial
theorem f186_L4_d (α : Type) (n : Nat) : D3.OK Tryz.prog (tyOf Tryz.prog) ⟨53, []⟩ (f186_D α n) ((bodyOf Tryz.f186).at [1, 1, 1, 0, 1, 0, 0]) :=
  D3.OK.mk3 (f186_ents α n) (show loopsOf ((bodyOf Tryz.f186).at [1, 1, 1, 0, 1, 0, 0]) = [] by kernel_rfl) trivial
theorem f186_L4_ok (α : Type) (n : Nat) : LO.Sound (α := α) Tryz.prog ⟨53, []⟩ ⟨f186_L4H, f186_L4O, rounds (f186_L4U n) n⟩ (.loop ((bodyOf Tryz.f186).at [1, 1, 1, 0, 1, 0, 0])) :=
  loop_ok (tyOf_ok _) prog_fol (f186_L4U n) (f186_L4_d α n) (by intro v f ks; kernel_rfl) n
theorem f186_d (α : Type) (n : Nat) : D3.OK Tryz.prog (tyOf Tryz.prog) ⟨53, []⟩ (f186_D α n) (bodyOf Tryz.f186) :=
  D3.OK.mk3 (f186_ents α n) (show loopsOf (bodyOf Tryz.f186) = [(4, (.loop ((bodyOf Tryz.f186).at [1, 1, 1, 0, 1, 0, 0])))] by kernel_rfl) ⟨look_sound rfl (f186_L4_ok α n), trivial⟩
theorem f186_ok (n : Nat) : (f186_E n).Sound Tryz.prog :=
  fn_ok (tyOf_ok _) prog_fol (f186_D _ n) (show Tryz.prog.funcs[186]? = some Tryz.f186 by kernel_rfl) (by kernel_rfl) (show Tryz.f186.body = some (bodyOf Tryz.f186) by kernel_rfl) rfl rfl (Nat.le_of_ble_eq_true rfl) (f186_d _ n) (by intro x; kernel_rfl) 


def f177 (n : Nat) (a0 : Bool) (a1 : List Int) (a2 : List Int) : Option (Bool × (List Int) × (List Int)) :=
  ob (f190 n a1 a2) fun r_1 =>
  ob (f202 n a1 r_1) fun r_2 =>
  ob (f202 n a2 r_1) fun r_3 =>
  bif a0 then
    some ((decide ((r_2.1.length : Int) > 0)), r_2.1, r_3.1)
  else
    some (false, r_2.1, r_3.1)
def f177_E (n : Nat) : Ent := ⟨177, [.bool, hIs, hIs], [hR], fun x => f177 n x.1 x.2.1 x.2.2⟩
def f177_D (α : Type) (n : Nat) : D3 α := { reg := [(1, ⟨0, [], [(2, { ent := some (f190_E n) })]⟩), (2, ⟨0, [], [(2, { ent := some (f202_E n) })]⟩), (3, ⟨0, [], [(2, { ent := some (f202_E n) })]⟩)], join := [], loop := [] }
theorem f177_ents (α : Type) (n : Nat) : AllS Tryz.prog (entsOf (f177_D α n).reg) := ⟨f190_ok n, f202_ok n, f202_ok n, trivial⟩
theorem f177_d (α : Type) (n : Nat) : D3.OK Tryz.prog (tyOf Tryz.prog) ⟨36, []⟩ (f177_D α n) (bodyOf Tryz.f177) :=
  D3.OK.mk3 (f177_ents α n) (show loopsOf (bodyOf Tryz.f177) = [] by kernel_rfl) trivial
theorem f177_ok (n : Nat) : (f177_E n).Sound Tryz.prog :=
  fn_ok (tyOf_ok _) prog_fol (f177_D _ n) (show Tryz.prog.funcs[177]? = some Tryz.f177 by kernel_rfl) (by kernel_rfl) (show Tryz.f177.body = some (bodyOf Tryz.f177) by kernel_rfl) rfl rfl (Nat.le_of_ble_eq_true rfl) (f177_d _ n) (by intro x; kernel_rfl) 


def f146 (n : Nat) (a0 : Bool × (List Int) × (List Int)) (a1 : Bool × (List Int) × (List Int)) : Option (Bool × (List Int) × (List Int)) :=
  ob (f178 n a0.2.1 a1.2.2) fun r_1 =>
  ob (f178 n a1.2.1 a0.2.2) fun r_2 =>
  ob (f178 n a0.2.2 a1.2.2) fun r_3 =>
  bif (a0.1 == a1.1) then
    ob (f186 n r_1 r_2) fun r_4 =>
    ob (f177 n a0.1 r_4 r_3) fun r_5 =>
    some r_5
  else
    ob (f187 n r_1 r_2) fun r_6 =>
    bif (decide (r_6 ≥ 0)) then
      ob (f188 n r_1 r_2) fun r_7 =>
      ob (f177 n a0.1 r_7 r_3) fun r_8 =>
      some r_8
    else
      ob (f188 n r_2 r_1) fun r_9 =>
      ob (f177 n a1.1 r_9 r_3) fun r_10 =>
      some r_10
def f146_E (n : Nat) : Ent := ⟨146, [hR, hR], [hR], fun x => f146 n x.1 x.2⟩
def f146_D (α : Type) (n : Nat) : D3 α := { reg := [(1, ⟨0, [], [(4, { ent := some (f178_E n) })]⟩), (2, ⟨0, [], [(4, { ent := some (f178_E n) })]⟩), (3, ⟨0, [], [(4, { ent := some (f178_E n) })]⟩), (5, ⟨6, [], [(4, { ent := some (f186_E n) }), (6, { ent := some (f177_E n) })]⟩), (6, ⟨0, [], [(2, { ent := some (f187_E n) })]⟩), (7, ⟨6, [], [(4, { ent := some (f188_E n) }), (6, { ent := some (f177_E n) })]⟩), (8, ⟨6, [], [(4, { ent := some (f188_E n) }), (6, { ent := some (f177_E n) })]⟩)], join := [], loop := [] }
theorem f146_ents (α : Type) (n : Nat) : AllS Tryz.prog (entsOf (f146_D α n).reg) := ⟨f178_ok n, f178_ok n, f178_ok n, f186_ok n, f177_ok n, f187_ok n, f188_ok n, f177_ok n, f188_ok n, f177_ok n, trivial⟩
theorem f146_d (α : Type) (n : Nat) : D3.OK Tryz.prog (tyOf Tryz.prog) ⟨53, []⟩ (f146_D α n) (bodyOf Tryz.f146) :=
  D3.OK.mk3 (f146_ents α n) (show loopsOf (bodyOf Tryz.f146) = [] by kernel_rfl) trivial
theorem f146_ok (n : Nat) : (f146_E n).Sound Tryz.prog :=
  fn_ok (tyOf_ok _) prog_fol (f146_D _ n) (show Tryz.prog.funcs[146]? = some Tryz.f146 by kernel_rfl) (by kernel_rfl) (show Tryz.f146.body = some (bodyOf Tryz.f146) by kernel_rfl) rfl rfl (Nat.le_of_ble_eq_true rfl) (f146_d _ n) (by intro x; kernel_rfl) 


def f119 (n : Nat) (a0 : Bool × (List Int) × (List Int)) (a1 : Bool × (List Int) × (List Int)) : Option (Bool × (List Int) × (List Int)) :=
  ob (f138 n a1) fun r_1 =>
  ob (f146 n a0 r_1) fun r_2 =>
  some r_2
def f119_E (n : Nat) : Ent := ⟨119, [hR, hR], [hR], fun x => f119 n x.1 x.2⟩
def f119_D (α : Type) (n : Nat) : D3 α := { reg := [(1, ⟨3, [], [(2, { ent := some (f138_E n) }), (3, { ent := some (f146_E n) })]⟩)], join := [], loop := [] }
theorem f119_ents (α : Type) (n : Nat) : AllS Tryz.prog (entsOf (f119_D α n).reg) := ⟨f138_ok n, f146_ok n, trivial⟩
theorem f119_d (α : Type) (n : Nat) : D3.OK Tryz.prog (tyOf Tryz.prog) ⟨9, []⟩ (f119_D α n) (bodyOf Tryz.f119) :=
  D3.OK.mk3 (f119_ents α n) (show loopsOf (bodyOf Tryz.f119) = [] by kernel_rfl) trivial
theorem f119_ok (n : Nat) : (f119_E n).Sound Tryz.prog :=
  fn_ok (tyOf_ok _) prog_fol (f119_D _ n) (show Tryz.prog.funcs[119]? = some Tryz.f119 by kernel_rfl) (by kernel_rfl) (show Tryz.f119.body = some (bodyOf Tryz.f119) by kernel_rfl) rfl rfl (Nat.le_of_ble_eq_true rfl) (f119_d _ n) (by intro x; kernel_rfl) 


def f134 (n : Nat) (a0 : Bool × (List Int) × (List Int)) (a1 : Bool × (List Int) × (List Int)) : Option Int :=
  ob (f119 n a0 a1) fun r_1 =>
  ob (f135 n r_1) fun r_2 =>
  some r_2
def f134_E (n : Nat) : Ent := ⟨134, [hR, hR], [hI], fun x => f134 n x.1 x.2⟩
def f134_D (α : Type) (n : Nat) : D3 α := { reg := [(1, ⟨0, [], [(2, { ent := some (f119_E n) }), (3, { ent := some (f135_E n) })]⟩)], join := [], loop := [] }
theorem f134_ents (α : Type) (n : Nat) : AllS Tryz.prog (entsOf (f134_D α n).reg) := ⟨f119_ok n, f135_ok n, trivial⟩
theorem f134_d (α : Type) (n : Nat) : D3.OK Tryz.prog (tyOf Tryz.prog) ⟨9, []⟩ (f134_D α n) (bodyOf Tryz.f134) :=
  D3.OK.mk3 (f134_ents α n) (show loopsOf (bodyOf Tryz.f134) = [] by kernel_rfl) trivial
theorem f134_ok (n : Nat) : (f134_E n).Sound Tryz.prog :=
  fn_ok (tyOf_ok _) prog_fol (f134_D _ n) (show Tryz.prog.funcs[134]? = some Tryz.f134 by kernel_rfl) (by kernel_rfl) (show Tryz.f134.body = some (bodyOf Tryz.f134) by kernel_rfl) rfl rfl (Nat.le_of_ble_eq_true rfl) (f134_d _ n) (by intro x; kernel_rfl) 


def f150_L8B {α : Type} (n : Nat) (s3 : Int) (c1_0 : List (Int × Int × Int × Int)) (c1_1 : List (Bool × (List Int) × (List Int))) (c1_2 : List (Bool × (List Int) × (List Int))) (c1_3 : List (Bool × (List Int) × (List Int))) (c1_4 : Int) (c1_5 : Bool) (c1_6 : List Int) (c1_7 : List Int) (c1_8 : Int) (c1_9 : Int) (f : Int → (List (Int × Int × Int × Int)) → (List (Bool × (List Int) × (List Int))) → (List (Bool × (List Int) × (List Int))) → (List (Bool × (List Int) × (List Int))) → Int → Bool → (List Int) → (List Int) → Int → Int → Option α) (k0 : Bool → Option α) (k1 : Unit → Option α) : Option α :=
  bif (decide (s3 < (c1_2.length : Int))) then
    gd (decide (0 ≤ s3) && decide (s3 < (c1_2.length : Int))) (
      let x_12 := c1_2.getD s3.toNat (false, [], [])
      gd (decide (0 ≤ s3) && decide (s3 < (c1_1.length : Int))) (
        let x_13 := c1_1.getD s3.toNat (false, [], [])
        ob (f134 n x_12 x_13) fun r_14 =>
        bif (decide (r_14 > 0)) then
          k0 false
        else
          gd (decide (0 ≤ s3) && decide (s3 < (c1_1.length : Int))) (
            let x_15 := c1_1.getD s3.toNat (false, [], [])
            gd (decide (0 ≤ s3) && decide (s3 < (c1_3.length : Int))) (
              let x_16 := c1_3.getD s3.toNat (false, [], [])
              ob (f134 n x_15 x_16) fun r_17 =>
              bif (decide (r_17 > 0)) then
                k0 false
              else
                f (W (s3 + 1)) c1_0 c1_1 c1_2 c1_3 c1_4 c1_5 c1_6 c1_7 c1_8 c1_9))))
  else
    k1 ()
abbrev f150_L8H : Tm := ⟨[(1, .k (.hp 1 0 0)), (3, .d hI)], [(1, .var 56 true false [.d hNs, .d hRs, .d hRs, .d hRs, .d hI, .d .bool, .d hIs, .d hIs, .d hI, .d hI])], [], []⟩
abbrev f150_L8X0 : Tm := ⟨[(2, .d .bool)], [], [1], []⟩
abbrev f150_L8X1 : Tm := ⟨[], [], [1], []⟩
abbrev f150_L8O : List (Exit × Tm) := [(.ret, f150_L8X0), (.exit 0, f150_L8X1)]
def f150_L8U {α : Type} (n : Nat) (v : f150_L8H.den) (f : f150_L8H.den → Option α) (ks : KS α f150_L8O) : Option α := f150_L8B n v.1.2.1 v.2.1.1 v.2.1.2.1 v.2.1.2.2.1 v.2.1.2.2.2.1 v.2.1.2.2.2.2.1 v.2.1.2.2.2.2.2.1 v.2.1.2.2.2.2.2.2.1 v.2.1.2.2.2.2.2.2.2.1 v.2.1.2.2.2.2.2.2.2.2.1 v.2.1.2.2.2.2.2.2.2.2.2.1 (fun s3 c1_0 c1_1 c1_2 c1_3 c1_4 c1_5 c1_6 c1_7 c1_8 c1_9 => f (((), s3, ()), ((c1_0, c1_1, c1_2, c1_3, c1_4, c1_5, c1_6, c1_7, c1_8, c1_9, ()), ()))) (fun w0 => ks.1 ((w0, ()), ())) (fun _ => ks.2.1 ((), ()))
def f150_L8 {α : Type} (n m : Nat) (s3 : Int) (c1_0 : List (Int × Int × Int × Int)) (c1_1 : List (Bool × (List Int) × (List Int))) (c1_2 : List (Bool × (List Int) × (List Int))) (c1_3 : List (Bool × (List Int) × (List Int))) (c1_4 : Int) (c1_5 : Bool) (c1_6 : List Int) (c1_7 : List Int) (c1_8 : Int) (c1_9 : Int) (k0 : Bool → Option α) (k1 : Unit → Option α) : Option α := rounds (f150_L8U n) m (((), s3, ()), ((c1_0, c1_1, c1_2, c1_3, c1_4, c1_5, c1_6, c1_7, c1_8, c1_9, ()), ())) (fun w => k0 w.1.1, fun w => k1 (), ())
theorem f150_L8_0 {α : Type} (n : Nat) (s3 : Int) (c1_0 : List (Int × Int × Int × Int)) (c1_1 : List (Bool × (List Int) × (List Int))) (c1_2 : List (Bool × (List Int) × (List Int))) (c1_3 : List (Bool × (List Int) × (List Int))) (c1_4 : Int) (c1_5 : Bool) (c1_6 : List Int) (c1_7 : List Int) (c1_8 : Int) (c1_9 : Int) (k0 : Bool → Option α) (k1 : Unit → Option α) : f150_L8 (α := α) n 0 s3 c1_0 c1_1 c1_2 c1_3 c1_4 c1_5 c1_6 c1_7 c1_8 c1_9 k0 k1 = none := rfl
theorem f150_L8_s {α : Type} (n m : Nat) (s3 : Int) (c1_0 : List (Int × Int × Int × Int)) (c1_1 : List (Bool × (List Int) × (List Int))) (c1_2 : List (Bool × (List Int) × (List Int))) (c1_3 : List (Bool × (List Int) × (List Int))) (c1_4 : Int) (c1_5 : Bool) (c1_6 : List Int) (c1_7 : List Int) (c1_8 : Int) (c1_9 : Int) (k0 : Bool → Option α) (k1 : Unit → Option α) : f150_L8 (α := α) n (m + 1) s3 c1_0 c1_1 c1_2 c1_3 c1_4 c1_5 c1_6 c1_7 c1_8 c1_9 k0 k1 = f150_L8B n s3 c1_0 c1_1 c1_2 c1_3 c1_4 c1_5 c1_6 c1_7 c1_8 c1_9 (fun s3 c1_0 c1_1 c1_2 c1_3 c1_4 c1_5 c1_6 c1_7 c1_8 c1_9 => f150_L8 n m s3 c1_0 c1_1 c1_2 c1_3 c1_4 c1_5 c1_6 c1_7 c1_8 c1_9 k0 k1) k0 k1 := rfl
def f150 (n : Nat) (a0 : (List (Int × Int × Int × Int)) × (List (Bool × (List Int) × (List Int))) × (List (Bool × (List Int) × (List Int))) × (List (Bool × (List Int) × (List Int))) × Int × (Bool × (List Int) × (List Int)) × Int × Int) : Option Bool :=
  ob (f191 n a0.1) fun r_1 =>
  bif (!r_1) then
    some false
  else
    ob (f114 n a0.2.1) fun r_2 =>
    bif (!r_2) then
      some false
    else
      ob (f192 n a0.1) fun r_3 =>
      bif (decide (r_3 > (a0.2.1.length : Int))) then
        some false
      else
        ob (f65 n a0.2.2.2.2.1 1 4) fun r_4 =>
        bif (!r_4) then
          some false
        else
          ob (f148 n a0.2.2.2.2.2.1) fun r_5 =>
          bif (!r_5) then
            some false
          else
            ob (f135 n a0.2.2.2.2.2.1) fun r_6 =>
            bif (decide (r_6 < 0)) then
              some false
            else
              ob (f65 n a0.2.2.2.2.2.2.1 0 6) fun r_7 =>
              bif (!r_7) then
                some false
              else
                ob (f65 n a0.2.2.2.2.2.2.2 0 30) fun r_8 =>
                bif (!r_8) then
                  some false
                else
                  bif ((a0.2.2.1.length : Int) != (a0.2.2.2.1.length : Int)) then
                    some false
                  else
                    ob (f155 n a0) fun r_9 =>
                    bif (!r_9) then
                      some true
                    else
                      bif ((a0.2.2.1.length : Int) != (a0.2.1.length : Int)) then
                        some false
                      else
                        ob (f114 n a0.2.2.1) fun r_10 =>
                        bif (!r_10) then
                          some false
                        else
                          ob (f114 n a0.2.2.2.1) fun r_11 =>
                          bif (!r_11) then
                            some false
                          else
                            f150_L8 n n 0 a0.1 a0.2.1 a0.2.2.1 a0.2.2.2.1 a0.2.2.2.2.1 a0.2.2.2.2.2.1.1 a0.2.2.2.2.2.1.2.1 a0.2.2.2.2.2.1.2.2 a0.2.2.2.2.2.2.1 a0.2.2.2.2.2.2.2
                              (fun z_18 => (
                                some z_18))
                              (fun (_ : Unit) => (
                                some true))
def f150_E (n : Nat) : Ent := ⟨150, [(.st (.pair hE (.pair hRs (.pair hRs (.pair hRs (.pair hI (.pair hR (.pair hI hI))))))))], [.bool], fun x => f150 n x⟩
def f150_D (α : Type) (n : Nat) : D3 α := { reg := [(1, ⟨56, [], [(2, { ent := some (f191_E n) }), (7, { ent := some (f114_E n) }), (13, { ent := some (f192_E n) }), (22, { ent := some (f65_E n) }), (28, { ent := some (f148_E n) }), (34, { ent := some (f135_E n) }), (40, { ent := some (f65_E n) }), (46, { ent := some (f65_E n) })]⟩), (3, ⟨0, [], [(1, { ent := some (f155_E n) })]⟩), (5, ⟨0, [], [(10, { ent := some (f114_E n) }), (16, { ent := some (f114_E n) })]⟩), (10, ⟨23, [], [(10, { ent := some (f134_E n) }), (23, { ent := some (f134_E n) })]⟩)], join := [], loop := [(8, ⟨f150_L8H, f150_L8O, rounds (f150_L8U n) n⟩)] }
theorem f150_ents (α : Type) (n : Nat) : AllS Tryz.prog (entsOf (f150_D α n).reg) := ⟨f191_ok n, f114_ok n, f192_ok n, f65_ok n, f148_ok n, f135_ok n, f65_ok n, f65_ok n, f155_ok n, f114_ok n, f114_ok n, f134_ok n, f134_ok n, trivial⟩
theorem f150_L8_d (α : Type) (n : Nat) : D3.OK Tryz.prog (tyOf Tryz.prog) ⟨117, []⟩ (f150_D α n) ((bodyOf Tryz.f150).at [1, 1, 1, 1, 0, 1, 0, 0]) :=
  D3.OK.mk3 (f150_ents α n) (show loopsOf ((bodyOf Tryz.f150).at [1, 1, 1, 1, 0, 1, 0, 0]) = [] by kernel_rfl) trivial
theorem f150_L8_ok (α : Type) (n : Nat) : LO.Sound (α := α) Tryz.prog ⟨117, []⟩ ⟨f150_L8H, f150_L8O, rounds (f150_L8U n) n⟩ (.loop ((bodyOf Tryz.f150).at [1, 1, 1, 1, 0, 1, 0, 0])) :=
  loop_ok (tyOf_ok _) prog_fol (f150_L8U n) (f150_L8_d α n) (by intro v f ks; kernel_rfl) n
theorem f150_d (α : Type) (n : Nat) : D3.OK Tryz.prog (tyOf Tryz.prog) ⟨117, []⟩ (f150_D α n) (bodyOf Tryz.f150) :=
  D3.OK.mk3 (f150_ents α n) (show loopsOf (bodyOf Tryz.f150) = [(8, (.loop ((bodyOf Tryz.f150).at [1, 1, 1, 1, 0, 1, 0, 0])))] by kernel_rfl) ⟨look_sound rfl (f150_L8_ok α n), trivial⟩
theorem f150_ok (n : Nat) : (f150_E n).Sound Tryz.prog :=
  fn_ok (tyOf_ok _) prog_fol (f150_D _ n) (show Tryz.prog.funcs[150]? = some Tryz.f150 by kernel_rfl) (by kernel_rfl) (show Tryz.f150.body = some (bodyOf Tryz.f150) by kernel_rfl) rfl rfl (Nat.le_of_ble_eq_true rfl) (f150_d _ n) (by intro x; kernel_rfl) 


abbrev f81_J4 : Tm := ⟨[(1, .d hRs), (2, .k (.hp 2 0 0)), (9, .d .bool)], [(2, .var 56 true false [.d hNs, .d hRs, .d hRs, .d hRs, .d hI, .d .bool, .d hIs, .d hIs, .d hI, .d hI])], [], []⟩
def f81 (n : Nat) (a0 : (List (Int × Int × Int × Int)) × (List (Bool × (List Int) × (List Int))) × (List (Bool × (List Int) × (List Int))) × (List (Bool × (List Int) × (List Int))) × Int × (Bool × (List Int) × (List Int)) × Int × Int) (a1 : List (Bool × (List Int) × (List Int))) : Option Int :=
  bif (decide ((a1.length : Int) > 4096)) then
    some 2
  else
    let J_4 := fun (y_3 : Bool) => (
      bif y_3 then
        some 1
      else
        bif ((a1.length : Int) != (a0.2.1.length : Int)) then
          some 8
        else
          some 0)
    ob (f150 n a0) fun r_1 =>
    bif (!r_1) then
      J_4 true
    else
      ob (f114 n a1) fun r_2 =>
      J_4 (!r_2)
def f81_E (n : Nat) : Ent := ⟨81, [(.st (.pair hE (.pair hRs (.pair hRs (.pair hRs (.pair hI (.pair hR (.pair hI hI)))))))), hRs], [hI], fun x => f81 n x.1 x.2⟩
def f81_D (α : Type) (n : Nat) : D3 α := { reg := [(3, ⟨0, [], [(1, { ent := some (f150_E n) }), (5, { ent := some (f114_E n) })]⟩)], join := [(4, f81_J4)], loop := [] }
theorem f81_ents (α : Type) (n : Nat) : AllS Tryz.prog (entsOf (f81_D α n).reg) := ⟨f150_ok n, f114_ok n, trivial⟩
theorem f81_d (α : Type) (n : Nat) : D3.OK Tryz.prog (tyOf Tryz.prog) ⟨25, []⟩ (f81_D α n) (bodyOf Tryz.f81) :=
  D3.OK.mk3 (f81_ents α n) (show loopsOf (bodyOf Tryz.f81) = [] by kernel_rfl) trivial
theorem f81_ok (n : Nat) : (f81_E n).Sound Tryz.prog :=
  fn_ok (tyOf_ok _) prog_fol (f81_D _ n) (show Tryz.prog.funcs[81]? = some Tryz.f81 by kernel_rfl) (by kernel_rfl) (show Tryz.f81.body = some (bodyOf Tryz.f81) by kernel_rfl) rfl rfl (Nat.le_of_ble_eq_true rfl) (f81_d _ n) (by intro x; kernel_rfl) 


def f156_L3B {α : Type} (n : Nat) (s0 : List (Bool × (List Int) × (List Int))) (s1 : List (Bool × (List Int) × (List Int))) (s2 : List (Bool × (List Int) × (List Int))) (s8 : Int) (b9 : List (Bool × (List Int) × (List Int))) (f : (List (Bool × (List Int) × (List Int))) → (List (Bool × (List Int) × (List Int))) → (List (Bool × (List Int) × (List Int))) → Int → (List (Bool × (List Int) × (List Int))) → Option α) (k0 : (List (Bool × (List Int) × (List Int))) → Option α) : Option α :=
  bif (decide (s8 < (s0.length : Int))) then
    gd (decide (0 ≤ s8) && decide (s8 < (s0.length : Int))) (
      let x_1 := s0.getD s8.toNat (false, [], [])
      gd (decide (0 ≤ s8) && decide (s8 < (s1.length : Int))) (
        let x_2 := s1.getD s8.toNat (false, [], [])
        ob (f134 n x_1 x_2) fun r_3 =>
        bif (decide (r_3 < 0)) then
          gd (decide (0 ≤ s8) && decide (s8 < (s1.length : Int))) (
            let x_4 := s1.getD s8.toNat (false, [], [])
            gd (decide ((b9.length + 1) * 56 ≤ 140737488355328)) (
              f s0 s1 s2 (W (s8 + 1)) (b9 ++ [x_4])))
        else
          gd (decide (0 ≤ s8) && decide (s8 < (s0.length : Int))) (
            let x_5 := s0.getD s8.toNat (false, [], [])
            gd (decide (0 ≤ s8) && decide (s8 < (s2.length : Int))) (
              let x_6 := s2.getD s8.toNat (false, [], [])
              ob (f134 n x_5 x_6) fun r_7 =>
              bif (decide (r_7 > 0)) then
                gd (decide (0 ≤ s8) && decide (s8 < (s2.length : Int))) (
                  let x_8 := s2.getD s8.toNat (false, [], [])
                  gd (decide ((b9.length + 1) * 56 ≤ 140737488355328)) (
                    f s0 s1 s2 (W (s8 + 1)) (b9 ++ [x_8])))
              else
                gd (decide (0 ≤ s8) && decide (s8 < (s0.length : Int))) (
                  let x_9 := s0.getD s8.toNat (false, [], [])
                  gd (decide ((b9.length + 1) * 56 ≤ 140737488355328)) (
                    f s0 s1 s2 (W (s8 + 1)) (b9 ++ [x_9])))))))
  else
    k0 b9
abbrev f156_L3H : Tm := ⟨[(0, .d hRs), (1, .d hRs), (2, .d hRs), (7, .k (.hw 9)), (8, .d hI)], [(9, .arr 30 hR false)], [21, 39, 57], []⟩
abbrev f156_L3X0 : Tm := ⟨[(7, .k (.hw 9))], [(9, .arr 30 hR false)], [], []⟩
abbrev f156_L3O : List (Exit × Tm) := [(.exit 0, f156_L3X0)]
def f156_L3U {α : Type} (n : Nat) (v : f156_L3H.den) (f : f156_L3H.den → Option α) (ks : KS α f156_L3O) : Option α := f156_L3B n v.1.1 v.1.2.1 v.1.2.2.1 v.1.2.2.2.2.1 v.2.1 (fun s0 s1 s2 s8 b9 => f ((s0, s1, s2, (), s8, ()), (b9, ()))) (fun w0 => ks.1 (((), ()), (w0, ())))
def f156_L3 {α : Type} (n m : Nat) (s0 : List (Bool × (List Int) × (List Int))) (s1 : List (Bool × (List Int) × (List Int))) (s2 : List (Bool × (List Int) × (List Int))) (s8 : Int) (b9 : List (Bool × (List Int) × (List Int))) (k0 : (List (Bool × (List Int) × (List Int))) → Option α) : Option α := rounds (f156_L3U n) m ((s0, s1, s2, (), s8, ()), (b9, ())) (fun w => k0 w.2.1, ())
theorem f156_L3_0 {α : Type} (n : Nat) (s0 : List (Bool × (List Int) × (List Int))) (s1 : List (Bool × (List Int) × (List Int))) (s2 : List (Bool × (List Int) × (List Int))) (s8 : Int) (b9 : List (Bool × (List Int) × (List Int))) (k0 : (List (Bool × (List Int) × (List Int))) → Option α) : f156_L3 (α := α) n 0 s0 s1 s2 s8 b9 k0 = none := rfl
theorem f156_L3_s {α : Type} (n m : Nat) (s0 : List (Bool × (List Int) × (List Int))) (s1 : List (Bool × (List Int) × (List Int))) (s2 : List (Bool × (List Int) × (List Int))) (s8 : Int) (b9 : List (Bool × (List Int) × (List Int))) (k0 : (List (Bool × (List Int) × (List Int))) → Option α) : f156_L3 (α := α) n (m + 1) s0 s1 s2 s8 b9 k0 = f156_L3B n s0 s1 s2 s8 b9 (fun s0 s1 s2 s8 b9 => f156_L3 n m s0 s1 s2 s8 b9 k0) k0 := rfl
def f156 (n : Nat) (a0 : List (Bool × (List Int) × (List Int))) (a1 : List (Bool × (List Int) × (List Int))) (a2 : List (Bool × (List Int) × (List Int))) : Option (List (Bool × (List Int) × (List Int))) :=
  f156_L3 n n a0 a1 a2 0 []
    (fun z_10 => (
      some z_10))
def f156_E (n : Nat) : Ent := ⟨156, [hRs, hRs, hRs], [hRs], fun x => f156 n x.1 x.2.1 x.2.2⟩
def f156_D (α : Type) (n : Nat) : D3 α := { reg := [(1, ⟨0, [], [(0, { sh := some hR })]⟩), (5, ⟨0, [], [(5, { sh := some hR })]⟩), (6, ⟨8, [], [(8, { ent := some (f134_E n) })]⟩), (7, ⟨0, [], [(5, { sh := some hR })]⟩), (8, ⟨8, [], [(8, { ent := some (f134_E n) })]⟩), (9, ⟨0, [], [(5, { sh := some hR })]⟩)], join := [], loop := [(3, ⟨f156_L3H, f156_L3O, rounds (f156_L3U n) n⟩)] }
theorem f156_ents (α : Type) (n : Nat) : AllS Tryz.prog (entsOf (f156_D α n).reg) := ⟨f134_ok n, f134_ok n, trivial⟩
theorem f156_L3_d (α : Type) (n : Nat) : D3.OK Tryz.prog (tyOf Tryz.prog) ⟨60, []⟩ (f156_D α n) ((bodyOf Tryz.f156).at [1, 1, 0, 1, 0, 0]) :=
  D3.OK.mk3 (f156_ents α n) (show loopsOf ((bodyOf Tryz.f156).at [1, 1, 0, 1, 0, 0]) = [] by kernel_rfl) trivial
theorem f156_L3_ok (α : Type) (n : Nat) : LO.Sound (α := α) Tryz.prog ⟨60, []⟩ ⟨f156_L3H, f156_L3O, rounds (f156_L3U n) n⟩ (.loop ((bodyOf Tryz.f156).at [1, 1, 0, 1, 0, 0])) :=
  loop_ok (tyOf_ok _) prog_fol (f156_L3U n) (f156_L3_d α n) (by intro v f ks; kernel_rfl) n
theorem f156_d (α : Type) (n : Nat) : D3.OK Tryz.prog (tyOf Tryz.prog) ⟨60, []⟩ (f156_D α n) (bodyOf Tryz.f156) :=
  D3.OK.mk3 (f156_ents α n) (show loopsOf (bodyOf Tryz.f156) = [(3, (.loop ((bodyOf Tryz.f156).at [1, 1, 0, 1, 0, 0])))] by kernel_rfl) ⟨look_sound rfl (f156_L3_ok α n), trivial⟩
theorem f156_ok (n : Nat) : (f156_E n).Sound Tryz.prog :=
  fn_ok (tyOf_ok _) prog_fol (f156_D _ n) (show Tryz.prog.funcs[156]? = some Tryz.f156 by kernel_rfl) (by kernel_rfl) (show Tryz.f156.body = some (bodyOf Tryz.f156) by kernel_rfl) rfl rfl (Nat.le_of_ble_eq_true rfl) (f156_d _ n) (by intro x; kernel_rfl) 


def f87 (n : Nat) (a0 : (List (Int × Int × Int × Int)) × (List (Bool × (List Int) × (List Int))) × (List (Bool × (List Int) × (List Int))) × (List (Bool × (List Int) × (List Int))) × Int × (Bool × (List Int) × (List Int)) × Int × Int) (a1 : List (Bool × (List Int) × (List Int))) : Option (List (Bool × (List Int) × (List Int))) :=
  ob (f155 n a0) fun r_1 =>
  bif (!r_1) then
    gd (decide ((0 + a1.length) * 56 ≤ 140737488355328)) (
      some a1)
  else
    ob (f156 n a1 a0.2.2.1 a0.2.2.2.1) fun r_2 =>
    some r_2
def f87_E (n : Nat) : Ent := ⟨87, [(.st (.pair hE (.pair hRs (.pair hRs (.pair hRs (.pair hI (.pair hR (.pair hI hI)))))))), hRs], [hRs], fun x => f87 n x.1 x.2⟩
def f87_D (α : Type) (n : Nat) : D3 α := { reg := [(1, ⟨0, [], [(1, { ent := some (f155_E n) })]⟩), (2, ⟨0, [], [(0, { sh := some hR })]⟩), (3, ⟨0, [], [(5, { ent := some (f156_E n) })]⟩)], join := [], loop := [] }
theorem f87_ents (α : Type) (n : Nat) : AllS Tryz.prog (entsOf (f87_D α n).reg) := ⟨f155_ok n, f156_ok n, trivial⟩
theorem f87_d (α : Type) (n : Nat) : D3.OK Tryz.prog (tyOf Tryz.prog) ⟨17, []⟩ (f87_D α n) (bodyOf Tryz.f87) :=
  D3.OK.mk3 (f87_ents α n) (show loopsOf (bodyOf Tryz.f87) = [] by kernel_rfl) trivial
theorem f87_ok (n : Nat) : (f87_E n).Sound Tryz.prog :=
  fn_ok (tyOf_ok _) prog_fol (f87_D _ n) (show Tryz.prog.funcs[87]? = some Tryz.f87 by kernel_rfl) (by kernel_rfl) (show Tryz.f87.body = some (bodyOf Tryz.f87) by kernel_rfl) rfl rfl (Nat.le_of_ble_eq_true rfl) (f87_d _ n) (by intro x; kernel_rfl) 


def f151_L4B {α : Type} (n : Nat) (s0 : List (Bool × (List Int) × (List Int))) (s1 : List (Bool × (List Int) × (List Int))) (s5 : Int) (f : (List (Bool × (List Int) × (List Int))) → (List (Bool × (List Int) × (List Int))) → Int → Option α) (k0 : Bool → Option α) (k1 : Unit → Option α) : Option α :=
  bif (decide (s5 < (s0.length : Int))) then
    gd (decide (0 ≤ s5) && decide (s5 < (s0.length : Int))) (
      let x_1 := s0.getD s5.toNat (false, [], [])
      gd (decide (0 ≤ s5) && decide (s5 < (s1.length : Int))) (
        let x_2 := s1.getD s5.toNat (false, [], [])
        ob (f134 n x_1 x_2) fun r_3 =>
        bif (r_3 != 0) then
          k0 false
        else
          f s0 s1 (W (s5 + 1))))
  else
    k1 ()
abbrev f151_L4H : Tm := ⟨[(0, .d hRs), (1, .d hRs), (5, .d hI)], [], [], []⟩
abbrev f151_L4X0 : Tm := ⟨[(4, .d .bool)], [], [], []⟩
abbrev f151_L4X1 : Tm := ⟨[], [], [], []⟩
abbrev f151_L4O : List (Exit × Tm) := [(.ret, f151_L4X0), (.exit 0, f151_L4X1)]
def f151_L4U {α : Type} (n : Nat) (v : f151_L4H.den) (f : f151_L4H.den → Option α) (ks : KS α f151_L4O) : Option α := f151_L4B n v.1.1 v.1.2.1 v.1.2.2.1 (fun s0 s1 s5 => f ((s0, s1, s5, ()), ())) (fun w0 => ks.1 ((w0, ()), ())) (fun _ => ks.2.1 ((), ()))
def f151_L4 {α : Type} (n m : Nat) (s0 : List (Bool × (List Int) × (List Int))) (s1 : List (Bool × (List Int) × (List Int))) (s5 : Int) (k0 : Bool → Option α) (k1 : Unit → Option α) : Option α := rounds (f151_L4U n) m ((s0, s1, s5, ()), ()) (fun w => k0 w.1.1, fun w => k1 (), ())
theorem f151_L4_0 {α : Type} (n : Nat) (s0 : List (Bool × (List Int) × (List Int))) (s1 : List (Bool × (List Int) × (List Int))) (s5 : Int) (k0 : Bool → Option α) (k1 : Unit → Option α) : f151_L4 (α := α) n 0 s0 s1 s5 k0 k1 = none := rfl
theorem f151_L4_s {α : Type} (n m : Nat) (s0 : List (Bool × (List Int) × (List Int))) (s1 : List (Bool × (List Int) × (List Int))) (s5 : Int) (k0 : Bool → Option α) (k1 : Unit → Option α) : f151_L4 (α := α) n (m + 1) s0 s1 s5 k0 k1 = f151_L4B n s0 s1 s5 (fun s0 s1 s5 => f151_L4 n m s0 s1 s5 k0 k1) k0 k1 := rfl
def f151 (n : Nat) (a0 : List (Bool × (List Int) × (List Int))) (a1 : List (Bool × (List Int) × (List Int))) : Option Bool :=
  bif ((a0.length : Int) != (a1.length : Int)) then
    some false
  else
    f151_L4 n n a0 a1 0
      (fun z_4 => (
        some z_4))
      (fun (_ : Unit) => (
        some true))
def f151_E (n : Nat) : Ent := ⟨151, [hRs, hRs], [.bool], fun x => f151 n x.1 x.2⟩
def f151_D (α : Type) (n : Nat) : D3 α := { reg := [(6, ⟨8, [], [(8, { ent := some (f134_E n) })]⟩)], join := [], loop := [(4, ⟨f151_L4H, f151_L4O, rounds (f151_L4U n) n⟩)] }
theorem f151_ents (α : Type) (n : Nat) : AllS Tryz.prog (entsOf (f151_D α n).reg) := ⟨f134_ok n, trivial⟩
theorem f151_L4_d (α : Type) (n : Nat) : D3.OK Tryz.prog (tyOf Tryz.prog) ⟨27, []⟩ (f151_D α n) ((bodyOf Tryz.f151).at [1, 1, 0, 1, 0, 0]) :=
  D3.OK.mk3 (f151_ents α n) (show loopsOf ((bodyOf Tryz.f151).at [1, 1, 0, 1, 0, 0]) = [] by kernel_rfl) trivial
theorem f151_L4_ok (α : Type) (n : Nat) : LO.Sound (α := α) Tryz.prog ⟨27, []⟩ ⟨f151_L4H, f151_L4O, rounds (f151_L4U n) n⟩ (.loop ((bodyOf Tryz.f151).at [1, 1, 0, 1, 0, 0])) :=
  loop_ok (tyOf_ok _) prog_fol (f151_L4U n) (f151_L4_d α n) (by intro v f ks; kernel_rfl) n
theorem f151_d (α : Type) (n : Nat) : D3.OK Tryz.prog (tyOf Tryz.prog) ⟨27, []⟩ (f151_D α n) (bodyOf Tryz.f151) :=
  D3.OK.mk3 (f151_ents α n) (show loopsOf (bodyOf Tryz.f151) = [(4, (.loop ((bodyOf Tryz.f151).at [1, 1, 0, 1, 0, 0])))] by kernel_rfl) ⟨look_sound rfl (f151_L4_ok α n), trivial⟩
theorem f151_ok (n : Nat) : (f151_E n).Sound Tryz.prog :=
  fn_ok (tyOf_ok _) prog_fol (f151_D _ n) (show Tryz.prog.funcs[151]? = some Tryz.f151 by kernel_rfl) (by kernel_rfl) (show Tryz.f151.body = some (bodyOf Tryz.f151) by kernel_rfl) rfl rfl (Nat.le_of_ble_eq_true rfl) (f151_d _ n) (by intro x; kernel_rfl) 


def f82 (n : Nat) (a0 : (List (Int × Int × Int × Int)) × (List (Bool × (List Int) × (List Int))) × (List (Bool × (List Int) × (List Int))) × (List (Bool × (List Int) × (List Int))) × Int × (Bool × (List Int) × (List Int)) × Int × Int) (a1 : List (Bool × (List Int) × (List Int))) : Option Bool :=
  ob (f87 n a0 a1) fun r_1 =>
  ob (f151 n r_1 a1) fun r_2 =>
  some r_2
def f82_E (n : Nat) : Ent := ⟨82, [(.st (.pair hE (.pair hRs (.pair hRs (.pair hRs (.pair hI (.pair hR (.pair hI hI)))))))), hRs], [.bool], fun x => f82 n x.1 x.2⟩
def f82_D (α : Type) (n : Nat) : D3 α := { reg := [(1, ⟨0, [], [(2, { ent := some (f87_E n) }), (4, { ent := some (f151_E n) })]⟩)], join := [], loop := [] }
theorem f82_ents (α : Type) (n : Nat) : AllS Tryz.prog (entsOf (f82_D α n).reg) := ⟨f87_ok n, f151_ok n, trivial⟩
theorem f82_d (α : Type) (n : Nat) : D3.OK Tryz.prog (tyOf Tryz.prog) ⟨10, []⟩ (f82_D α n) (bodyOf Tryz.f82) :=
  D3.OK.mk3 (f82_ents α n) (show loopsOf (bodyOf Tryz.f82) = [] by kernel_rfl) trivial
theorem f82_ok (n : Nat) : (f82_E n).Sound Tryz.prog :=
  fn_ok (tyOf_ok _) prog_fol (f82_D _ n) (show Tryz.prog.funcs[82]? = some Tryz.f82 by kernel_rfl) (by kernel_rfl) (show Tryz.f82.body = some (bodyOf Tryz.f82) by kernel_rfl) rfl rfl (Nat.le_of_ble_eq_true rfl) (f82_d _ n) (by intro x; kernel_rfl) 


def f29 (n : Nat) (a0 : (List (Int × Int × Int × Int)) × (List (Bool × (List Int) × (List Int))) × (List (Bool × (List Int) × (List Int))) × (List (Bool × (List Int) × (List Int))) × Int × (Bool × (List Int) × (List Int)) × Int × Int) (a1 : List (Bool × (List Int) × (List Int))) : Option (Bool × Int) :=
  bif (decide ((a1.length : Int) > 4096)) then
    some (false, 2)
  else
    ob (f81 n a0 a1) fun r_1 =>
    bif (r_1 != 0) then
      some (false, r_1)
    else
      ob (f82 n a0 a1) fun r_2 =>
      some (r_2, 0)
def f29_E (n : Nat) : Ent := ⟨29, [(.st (.pair hE (.pair hRs (.pair hRs (.pair hRs (.pair hI (.pair hR (.pair hI hI)))))))), hRs], [.bool, hI], fun x => f29 n x.1 x.2⟩
def f29_D (α : Type) (n : Nat) : D3 α := { reg := [(3, ⟨0, [], [(2, { ent := some (f81_E n) })]⟩), (6, ⟨0, [], [(2, { ent := some (f82_E n) })]⟩)], join := [], loop := [] }
theorem f29_ents (α : Type) (n : Nat) : AllS Tryz.prog (entsOf (f29_D α n).reg) := ⟨f81_ok n, f82_ok n, trivial⟩
theorem f29_d (α : Type) (n : Nat) : D3.OK Tryz.prog (tyOf Tryz.prog) ⟨19, []⟩ (f29_D α n) (bodyOf Tryz.f29) :=
  D3.OK.mk3 (f29_ents α n) (show loopsOf (bodyOf Tryz.f29) = [] by kernel_rfl) trivial
theorem f29_ok (n : Nat) : (f29_E n).Sound Tryz.prog :=
  fn_ok (tyOf_ok _) prog_fol (f29_D _ n) (show Tryz.prog.funcs[29]? = some Tryz.f29 by kernel_rfl) (by kernel_rfl) (show Tryz.f29.body = some (bodyOf Tryz.f29) by kernel_rfl) rfl rfl (Nat.le_of_ble_eq_true rfl) (f29_d _ n) (by intro x; kernel_rfl) 


def f167_L2B {α : Type} (n : Nat) (s0 : Int) (s7 : List Int) (s8 : Int) (s9 : Int) (f : Int → (List Int) → Int → Int → Option α) (k0 : Int → Option α) (k1 : Unit → Option α) : Option α :=
  bif (decide (s9 < s8)) then
    gd (decide (0 ≤ s9) && decide (s9 < (s7.length : Int))) (
      bif (decide ((s7.getD s9.toNat 0) > s0)) then
        k0 2
      else
        f s0 s7 s8 (W (s9 + 1)))
  else
    k1 ()
abbrev f167_L2H : Tm := ⟨[(0, .d hI), (7, .d hIs), (8, .d hI), (9, .d hI)], [], [], []⟩
abbrev f167_L2X0 : Tm := ⟨[(4, .d hI)], [], [], []⟩
abbrev f167_L2X1 : Tm := ⟨[], [], [], []⟩
abbrev f167_L2O : List (Exit × Tm) := [(.ret, f167_L2X0), (.exit 0, f167_L2X1)]
def f167_L2U {α : Type} (n : Nat) (v : f167_L2H.den) (f : f167_L2H.den → Option α) (ks : KS α f167_L2O) : Option α := f167_L2B n v.1.1 v.1.2.1 v.1.2.2.1 v.1.2.2.2.1 (fun s0 s7 s8 s9 => f ((s0, s7, s8, s9, ()), ())) (fun w0 => ks.1 ((w0, ()), ())) (fun _ => ks.2.1 ((), ()))
def f167_L2 {α : Type} (n m : Nat) (s0 : Int) (s7 : List Int) (s8 : Int) (s9 : Int) (k0 : Int → Option α) (k1 : Unit → Option α) : Option α := rounds (f167_L2U n) m ((s0, s7, s8, s9, ()), ()) (fun w => k0 w.1.1, fun w => k1 (), ())
theorem f167_L2_0 {α : Type} (n : Nat) (s0 : Int) (s7 : List Int) (s8 : Int) (s9 : Int) (k0 : Int → Option α) (k1 : Unit → Option α) : f167_L2 (α := α) n 0 s0 s7 s8 s9 k0 k1 = none := rfl
theorem f167_L2_s {α : Type} (n m : Nat) (s0 : Int) (s7 : List Int) (s8 : Int) (s9 : Int) (k0 : Int → Option α) (k1 : Unit → Option α) : f167_L2 (α := α) n (m + 1) s0 s7 s8 s9 k0 k1 = f167_L2B n s0 s7 s8 s9 (fun s0 s7 s8 s9 => f167_L2 n m s0 s7 s8 s9 k0 k1) k0 k1 := rfl
def f167 (n : Nat) (a0 : Int) (a1 : List Int) : Option Int :=
  f167_L2 n n a0 a1 (a1.length : Int) 0
    (fun z_1 => (
      some z_1))
    (fun (_ : Unit) => (
      some 0))
def f167_E (n : Nat) : Ent := ⟨167, [hI, hIs], [hI], fun x => f167 n x.1 x.2⟩
def f167_D (α : Type) (n : Nat) : D3 α := { reg := [], join := [], loop := [(2, ⟨f167_L2H, f167_L2O, rounds (f167_L2U n) n⟩)] }
theorem f167_ents (α : Type) (n : Nat) : AllS Tryz.prog (entsOf (f167_D α n).reg) := trivial
theorem f167_L2_d (α : Type) (n : Nat) : D3.OK Tryz.prog (tyOf Tryz.prog) ⟨17, []⟩ (f167_D α n) ((bodyOf Tryz.f167).at [1, 0, 1, 0, 0]) :=
  D3.OK.mk3 (f167_ents α n) (show loopsOf ((bodyOf Tryz.f167).at [1, 0, 1, 0, 0]) = [] by kernel_rfl) trivial
theorem f167_L2_ok (α : Type) (n : Nat) : LO.Sound (α := α) Tryz.prog ⟨17, []⟩ ⟨f167_L2H, f167_L2O, rounds (f167_L2U n) n⟩ (.loop ((bodyOf Tryz.f167).at [1, 0, 1, 0, 0])) :=
  loop_ok (tyOf_ok _) prog_fol (f167_L2U n) (f167_L2_d α n) (by intro v f ks; kernel_rfl) n
theorem f167_d (α : Type) (n : Nat) : D3.OK Tryz.prog (tyOf Tryz.prog) ⟨17, []⟩ (f167_D α n) (bodyOf Tryz.f167) :=
  D3.OK.mk3 (f167_ents α n) (show loopsOf (bodyOf Tryz.f167) = [(2, (.loop ((bodyOf Tryz.f167).at [1, 0, 1, 0, 0])))] by kernel_rfl) ⟨look_sound rfl (f167_L2_ok α n), trivial⟩
theorem f167_ok (n : Nat) : (f167_E n).Sound Tryz.prog :=
  fn_ok (tyOf_ok _) prog_fol (f167_D _ n) (show Tryz.prog.funcs[167]? = some Tryz.f167 by kernel_rfl) (by kernel_rfl) (show Tryz.f167.body = some (bodyOf Tryz.f167) by kernel_rfl) rfl rfl (Nat.le_of_ble_eq_true rfl) (f167_d _ n) (by intro x; kernel_rfl) 


def f98_L3B {α : Type} (n : Nat) (s7 : List (List (Bool × (List Int) × (List Int)))) (s8 : Int) (s9 : Int) (b6 : List Int) (f : (List (List (Bool × (List Int) × (List Int)))) → Int → Int → (List Int) → Option α) (k0 : (List Int) → Option α) : Option α :=
  bif (decide (s9 < s8)) then
    gd (decide (0 ≤ s9) && decide (s9 < (s7.length : Int))) (
      gd (decide ((b6.length + 1) * 8 ≤ 140737488355328)) (
        f s7 s8 (W (s9 + 1)) (b6 ++ [(((s7.getD s9.toNat []).length : Nat) : Int)])))
  else
    k0 b6
abbrev f98_L3H : Tm := ⟨[(3, .k (.hw 6)), (7, .d (.sl hRs)), (8, .d hI), (9, .d hI)], [(6, .arr 3 hI false)], [16], []⟩
abbrev f98_L3X0 : Tm := ⟨[(3, .k (.hw 6))], [(6, .arr 3 hI false)], [], []⟩
abbrev f98_L3O : List (Exit × Tm) := [(.exit 0, f98_L3X0)]
def f98_L3U {α : Type} (n : Nat) (v : f98_L3H.den) (f : f98_L3H.den → Option α) (ks : KS α f98_L3O) : Option α := f98_L3B n v.1.2.1 v.1.2.2.1 v.1.2.2.2.1 v.2.1 (fun s7 s8 s9 b6 => f (((), s7, s8, s9, ()), (b6, ()))) (fun w0 => ks.1 (((), ()), (w0, ())))
def f98_L3 {α : Type} (n m : Nat) (s7 : List (List (Bool × (List Int) × (List Int)))) (s8 : Int) (s9 : Int) (b6 : List Int) (k0 : (List Int) → Option α) : Option α := rounds (f98_L3U n) m (((), s7, s8, s9, ()), (b6, ())) (fun w => k0 w.2.1, ())
theorem f98_L3_0 {α : Type} (n : Nat) (s7 : List (List (Bool × (List Int) × (List Int)))) (s8 : Int) (s9 : Int) (b6 : List Int) (k0 : (List Int) → Option α) : f98_L3 (α := α) n 0 s7 s8 s9 b6 k0 = none := rfl
theorem f98_L3_s {α : Type} (n m : Nat) (s7 : List (List (Bool × (List Int) × (List Int)))) (s8 : Int) (s9 : Int) (b6 : List Int) (k0 : (List Int) → Option α) : f98_L3 (α := α) n (m + 1) s7 s8 s9 b6 k0 = f98_L3B n s7 s8 s9 b6 (fun s7 s8 s9 b6 => f98_L3 n m s7 s8 s9 b6 k0) k0 := rfl
def f98 (n : Nat) (a0 : List (List (Bool × (List Int) × (List Int)))) : Option Int :=
  f98_L3 n n a0 (a0.length : Int) 0 []
    (fun z_1 => (
      ob (f167 n 4096 z_1) fun r_2 =>
      some r_2))
def f98_E (n : Nat) : Ent := ⟨98, [(.sl hRs)], [hI], fun x => f98 n x⟩
def f98_D (α : Type) (n : Nat) : D3 α := { reg := [(1, ⟨0, [], [(0, { sh := some hI })]⟩), (5, ⟨0, [], [(3, { sh := some hI })]⟩), (7, ⟨0, [], [(1, { ent := some (f167_E n) })]⟩)], join := [], loop := [(3, ⟨f98_L3H, f98_L3O, rounds (f98_L3U n) n⟩)] }
theorem f98_ents (α : Type) (n : Nat) : AllS Tryz.prog (entsOf (f98_D α n).reg) := ⟨f167_ok n, trivial⟩
theorem f98_L3_d (α : Type) (n : Nat) : D3.OK Tryz.prog (tyOf Tryz.prog) ⟨21, []⟩ (f98_D α n) ((bodyOf Tryz.f98).at [1, 1, 0, 1, 0, 0]) :=
  D3.OK.mk3 (f98_ents α n) (show loopsOf ((bodyOf Tryz.f98).at [1, 1, 0, 1, 0, 0]) = [] by kernel_rfl) trivial
theorem f98_L3_ok (α : Type) (n : Nat) : LO.Sound (α := α) Tryz.prog ⟨21, []⟩ ⟨f98_L3H, f98_L3O, rounds (f98_L3U n) n⟩ (.loop ((bodyOf Tryz.f98).at [1, 1, 0, 1, 0, 0])) :=
  loop_ok (tyOf_ok _) prog_fol (f98_L3U n) (f98_L3_d α n) (by intro v f ks; kernel_rfl) n
theorem f98_d (α : Type) (n : Nat) : D3.OK Tryz.prog (tyOf Tryz.prog) ⟨21, []⟩ (f98_D α n) (bodyOf Tryz.f98) :=
  D3.OK.mk3 (f98_ents α n) (show loopsOf (bodyOf Tryz.f98) = [(3, (.loop ((bodyOf Tryz.f98).at [1, 1, 0, 1, 0, 0])))] by kernel_rfl) ⟨look_sound rfl (f98_L3_ok α n), trivial⟩
theorem f98_ok (n : Nat) : (f98_E n).Sound Tryz.prog :=
  fn_ok (tyOf_ok _) prog_fol (f98_D _ n) (show Tryz.prog.funcs[98]? = some Tryz.f98 by kernel_rfl) (by kernel_rfl) (show Tryz.f98.body = some (bodyOf Tryz.f98) by kernel_rfl) rfl rfl (Nat.le_of_ble_eq_true rfl) (f98_d _ n) (by intro x; kernel_rfl) 


def f70 (n : Nat) (a0 : Int) (a1 : Int) (a2 : Int) : Option Bool :=
  bif (decide (a1 ≤ a0)) then
    some (decide (a0 ≤ a2))
  else
    some false
def f70_E (n : Nat) : Ent := ⟨70, [hI, hI, hI], [.bool], fun x => f70 n x.1 x.2.1 x.2.2⟩
def f70_D (α : Type) (n : Nat) : D3 α := { reg := [], join := [], loop := [] }
theorem f70_ents (α : Type) (n : Nat) : AllS Tryz.prog (entsOf (f70_D α n).reg) := trivial
theorem f70_d (α : Type) (n : Nat) : D3.OK Tryz.prog (tyOf Tryz.prog) ⟨15, []⟩ (f70_D α n) (bodyOf Tryz.f70) :=
  D3.OK.mk3 (f70_ents α n) (show loopsOf (bodyOf Tryz.f70) = [] by kernel_rfl) trivial
theorem f70_ok (n : Nat) : (f70_E n).Sound Tryz.prog :=
  fn_ok (tyOf_ok _) prog_fol (f70_D _ n) (show Tryz.prog.funcs[70]? = some Tryz.f70 by kernel_rfl) (by kernel_rfl) (show Tryz.f70.body = some (bodyOf Tryz.f70) by kernel_rfl) rfl rfl (Nat.le_of_ble_eq_true rfl) (f70_d _ n) (by intro x; kernel_rfl) 


def f231 (n : Nat) (a0 : Int × Int × Int × Int) : Option Bool :=
  bif (a0.1 == 1) then
    ob (f70 n a0.2.2.2 0 999999999) fun r_1 =>
    some r_1
  else
    bif (a0.1 == 2) then
      ob (f70 n a0.2.2.2 0 3) fun r_2 =>
      some r_2
    else
      bif (a0.1 == 8) then
        ob (f70 n a0.2.2.2 0 8) fun r_3 =>
        some r_3
      else
        some (a0.2.2.2 == 0)
def f231_E (n : Nat) : Ent := ⟨231, [hN], [.bool], fun x => f231 n x⟩
def f231_D (α : Type) (n : Nat) : D3 α := { reg := [(3, ⟨0, [], [(2, { ent := some (f70_E n) })]⟩), (5, ⟨0, [], [(2, { ent := some (f70_E n) })]⟩), (7, ⟨0, [], [(2, { ent := some (f70_E n) })]⟩)], join := [], loop := [] }
theorem f231_ents (α : Type) (n : Nat) : AllS Tryz.prog (entsOf (f231_D α n).reg) := ⟨f70_ok n, f70_ok n, f70_ok n, trivial⟩
theorem f231_d (α : Type) (n : Nat) : D3.OK Tryz.prog (tyOf Tryz.prog) ⟨23, []⟩ (f231_D α n) (bodyOf Tryz.f231) :=
  D3.OK.mk3 (f231_ents α n) (show loopsOf (bodyOf Tryz.f231) = [] by kernel_rfl) trivial
theorem f231_ok (n : Nat) : (f231_E n).Sound Tryz.prog :=
  fn_ok (tyOf_ok _) prog_fol (f231_D _ n) (show Tryz.prog.funcs[231]? = some Tryz.f231 by kernel_rfl) (by kernel_rfl) (show Tryz.f231.body = some (bodyOf Tryz.f231) by kernel_rfl) rfl rfl (Nat.le_of_ble_eq_true rfl) (f231_d _ n) (by intro x; kernel_rfl) 


def f214 (n : Nat) (a0 : Int × Int × Int × Int) : Option Int :=
  bif (a0.1 == 3) then
    some 2
  else
    bif (a0.1 == 4) then
      some 2
    else
      bif (a0.1 == 5) then
        some 2
      else
        bif (a0.1 == 6) then
          some 2
        else
          bif (a0.1 == 7) then
            some 1
          else
            bif (a0.1 == 8) then
              some 1
            else
              some 0
def f214_E (n : Nat) : Ent := ⟨214, [hN], [hI], fun x => f214 n x⟩
def f214_D (α : Type) (n : Nat) : D3 α := { reg := [], join := [], loop := [] }
theorem f214_ents (α : Type) (n : Nat) : AllS Tryz.prog (entsOf (f214_D α n).reg) := trivial
theorem f214_d (α : Type) (n : Nat) : D3.OK Tryz.prog (tyOf Tryz.prog) ⟨13, []⟩ (f214_D α n) (bodyOf Tryz.f214) :=
  D3.OK.mk3 (f214_ents α n) (show loopsOf (bodyOf Tryz.f214) = [] by kernel_rfl) trivial
theorem f214_ok (n : Nat) : (f214_E n).Sound Tryz.prog :=
  fn_ok (tyOf_ok _) prog_fol (f214_D _ n) (show Tryz.prog.funcs[214]? = some Tryz.f214 by kernel_rfl) (by kernel_rfl) (show Tryz.f214.body = some (bodyOf Tryz.f214) by kernel_rfl) rfl rfl (Nat.le_of_ble_eq_true rfl) (f214_d _ n) (by intro x; kernel_rfl) 


def f232 (n : Nat) (a0 : Bool) (a1 : Int) (a2 : Int) : Option Bool :=
  bif a0 then
    ob (f70 n a1 0 (W (a2 - 1))) fun r_1 =>
    bif r_1 then
      some true
    else
      bif (!a0) then
        some (a1 == 0)
      else
        some false
  else
    bif (!a0) then
      some (a1 == 0)
    else
      some false
def f232_E (n : Nat) : Ent := ⟨232, [.bool, hI, (.ref hI)], [.bool], fun x => f232 n x.1 x.2.1 x.2.2⟩
def f232_D (α : Type) (n : Nat) : D3 α := { reg := [(1, ⟨0, [], [(5, { ent := some (f70_E n) })]⟩)], join := [], loop := [] }
theorem f232_ents (α : Type) (n : Nat) : AllS Tryz.prog (entsOf (f232_D α n).reg) := ⟨f70_ok n, trivial⟩
theorem f232_d (α : Type) (n : Nat) : D3.OK Tryz.prog (tyOf Tryz.prog) ⟨21, []⟩ (f232_D α n) (bodyOf Tryz.f232) :=
  D3.OK.mk3 (f232_ents α n) (show loopsOf (bodyOf Tryz.f232) = [] by kernel_rfl) trivial
theorem f232_ok (n : Nat) : (f232_E n).Sound Tryz.prog :=
  fn_ok (tyOf_ok _) prog_fol (f232_D _ n) (show Tryz.prog.funcs[232]? = some Tryz.f232 by kernel_rfl) (by kernel_rfl) (show Tryz.f232.body = some (bodyOf Tryz.f232) by kernel_rfl) rfl rfl (Nat.le_of_ble_eq_true rfl) (f232_d _ n) (by intro x; kernel_rfl) 


def f225 (n : Nat) (a0 : Int × Int × Int × Int) (a1 : Int) : Option Bool :=
  ob (f70 n a0.1 1 8) fun r_1 =>
  bif (!r_1) then
    some false
  else
    ob (f231 n a0) fun r_2 =>
    bif (!r_2) then
      some false
    else
      ob (f214 n a0) fun r_3 =>
      ob (f232 n (decide (r_3 > 0)) a0.2.1 a1) fun r_4 =>
      bif r_4 then
        ob (f214 n a0) fun r_5 =>
        ob (f232 n (decide (r_5 > 1)) a0.2.2.1 a1) fun r_6 =>
        some r_6
      else
        some false
def f225_E (n : Nat) : Ent := ⟨225, [hN, hI], [.bool], fun x => f225 n x.1 x.2⟩
def f225_D (α : Type) (n : Nat) : D3 α := { reg := [(1, ⟨0, [], [(2, { ent := some (f70_E n) }), (6, { ent := some (f231_E n) })]⟩), (3, ⟨0, [], [(0, { sh := some (.ref hI) })]⟩), (4, ⟨14, [], [(2, { ent := some (f214_E n) }), (6, { ent := some (f232_E n) }), (10, { ent := some (f214_E n) }), (14, { ent := some (f232_E n) })]⟩)], join := [], loop := [] }
theorem f225_ents (α : Type) (n : Nat) : AllS Tryz.prog (entsOf (f225_D α n).reg) := ⟨f70_ok n, f231_ok n, f214_ok n, f232_ok n, f214_ok n, f232_ok n, trivial⟩
theorem f225_d (α : Type) (n : Nat) : D3.OK Tryz.prog (tyOf Tryz.prog) ⟨32, []⟩ (f225_D α n) (bodyOf Tryz.f225) :=
  D3.OK.mk3 (f225_ents α n) (show loopsOf (bodyOf Tryz.f225) = [] by kernel_rfl) trivial
theorem f225_ok (n : Nat) : (f225_E n).Sound Tryz.prog :=
  fn_ok (tyOf_ok _) prog_fol (f225_D _ n) (show Tryz.prog.funcs[225]? = some Tryz.f225 by kernel_rfl) (by kernel_rfl) (show Tryz.f225.body = some (bodyOf Tryz.f225) by kernel_rfl) rfl rfl (Nat.le_of_ble_eq_true rfl) (f225_d _ n) (by intro x; kernel_rfl) 


def f212_L3B {α : Type} (n : Nat) (s13 : List (Int × Int × Int × Int)) (s14 : Int) (s15 : Int) (b11 : List Int) (b12 : List Int) (f : (List (Int × Int × Int × Int)) → Int → Int → (List Int) → (List Int) → Option α) (k0 : Bool → Option α) (k1 : (List Int) → (List Int) → Option α) : Option α :=
  bif (decide (s15 < s14)) then
    gd (decide (0 ≤ s15) && decide (s15 < (s13.length : Int))) (
      let x_1 := s13.getD s15.toNat (0, 0, 0, 0)
      ob (f225 n x_1 s15) fun r_2 =>
      bif (!r_2) then
        k0 false
      else
        let J_6 := fun (y_4 : Int) (y_5 : Int) => (
          gd (decide ((b11.length + 1) * 8 ≤ 140737488355328)) (
            gd (decide ((b12.length + 1) * 8 ≤ 140737488355328)) (
              f s13 s14 (W (s15 + 1)) (b11 ++ [y_4]) (b12 ++ [y_5]))))
        ob (f214 n x_1) fun r_3 =>
        bif (r_3 == 1) then
          bif (x_1.2.1 != (W (s15 - 1))) then
            k0 false
          else
            gd (decide (0 ≤ x_1.2.1) && decide (x_1.2.1 < (b11.length : Int))) (
              gd (decide (x_1.2.1.toNat < b11.length)) (
                gd (decide (0 ≤ x_1.2.1) && decide (x_1.2.1 < (b12.length : Int))) (
                  gd (decide (x_1.2.1.toNat < b12.length)) (
                    J_6 (b11.getD x_1.2.1.toNat 0) (W ((b12.getD x_1.2.1.toNat 0) + 1))))))
        else
          bif (r_3 == 2) then
            bif (x_1.2.2.1 != (W (s15 - 1))) then
              k0 false
            else
              gd (decide (0 ≤ x_1.2.2.1) && decide (x_1.2.2.1 < (b11.length : Int))) (
                gd (decide (x_1.2.2.1.toNat < b11.length)) (
                  bif (x_1.2.1 != (W ((b11.getD x_1.2.2.1.toNat 0) - 1))) then
                    k0 false
                  else
                    gd (decide (0 ≤ x_1.2.1) && decide (x_1.2.1 < (b11.length : Int))) (
                      gd (decide (x_1.2.1.toNat < b11.length)) (
                        gd (decide (0 ≤ x_1.2.1) && decide (x_1.2.1 < (b12.length : Int))) (
                          gd (decide (x_1.2.1.toNat < b12.length)) (
                            gd (decide (0 ≤ x_1.2.2.1) && decide (x_1.2.2.1 < (b12.length : Int))) (
                              gd (decide (x_1.2.2.1.toNat < b12.length)) (
                                J_6 (b11.getD x_1.2.1.toNat 0) (W ((max (b12.getD x_1.2.1.toNat 0) (b12.getD x_1.2.2.1.toNat 0)) + 1))))))))))
          else
            J_6 s15 1)
  else
    k1 b11 b12
abbrev f212_L3H : Tm := ⟨[(5, .k (.hw 11)), (6, .k (.hw 12)), (13, .d hNs), (14, .d hI), (15, .d hI)], [(11, .arr 3 hI false), (12, .arr 3 hI false)], [82, 86], []⟩
abbrev f212_L3X0 : Tm := ⟨[(2, .d .nil), (3, .d .nil), (4, .d .bool)], [], [8, 11, 12], []⟩
abbrev f212_L3X1 : Tm := ⟨[(5, .k (.hw 11)), (6, .k (.hw 12))], [(11, .arr 3 hI false), (12, .arr 3 hI false)], [], []⟩
abbrev f212_L3O : List (Exit × Tm) := [(.ret, f212_L3X0), (.exit 0, f212_L3X1)]
def f212_L3U {α : Type} (n : Nat) (v : f212_L3H.den) (f : f212_L3H.den → Option α) (ks : KS α f212_L3O) : Option α := f212_L3B n v.1.2.2.1 v.1.2.2.2.1 v.1.2.2.2.2.1 v.2.1 v.2.2.1 (fun s13 s14 s15 b11 b12 => f (((), (), s13, s14, s15, ()), (b11, b12, ()))) (fun w0 => ks.1 (((), (), w0, ()), ())) (fun w0 w1 => ks.2.1 (((), (), ()), (w0, w1, ())))
def f212_L3 {α : Type} (n m : Nat) (s13 : List (Int × Int × Int × Int)) (s14 : Int) (s15 : Int) (b11 : List Int) (b12 : List Int) (k0 : Bool → Option α) (k1 : (List Int) → (List Int) → Option α) : Option α := rounds (f212_L3U n) m (((), (), s13, s14, s15, ()), (b11, b12, ())) (fun w => k0 w.1.2.2.1, fun w => k1 w.2.1 w.2.2.1, ())
theorem f212_L3_0 {α : Type} (n : Nat) (s13 : List (Int × Int × Int × Int)) (s14 : Int) (s15 : Int) (b11 : List Int) (b12 : List Int) (k0 : Bool → Option α) (k1 : (List Int) → (List Int) → Option α) : f212_L3 (α := α) n 0 s13 s14 s15 b11 b12 k0 k1 = none := rfl
theorem f212_L3_s {α : Type} (n m : Nat) (s13 : List (Int × Int × Int × Int)) (s14 : Int) (s15 : Int) (b11 : List Int) (b12 : List Int) (k0 : Bool → Option α) (k1 : (List Int) → (List Int) → Option α) : f212_L3 (α := α) n (m + 1) s13 s14 s15 b11 b12 k0 k1 = f212_L3B n s13 s14 s15 b11 b12 (fun s13 s14 s15 b11 b12 => f212_L3 n m s13 s14 s15 b11 b12 k0 k1) k0 k1 := rfl
abbrev f212_J17 : Tm := ⟨[(5, .k (.hw 11)), (6, .k (.hw 12)), (9, .d hI), (10, .d hI), (13, .d hNs), (14, .d hI), (15, .d hI)], [(11, .arr 3 hI false), (12, .arr 3 hI false)], [8], []⟩
def f212 (n : Nat) (a0 : List (Int × Int × Int × Int)) : Option ((List Int) × (List Int) × Bool) :=
  f212_L3 n n a0 (a0.length : Int) 0 [] []
    (fun z_7 => (
      some ([], [], z_7)))
    (fun z_8 z_9 => (
      some (z_8, z_9, true)))
def f212_E (n : Nat) : Ent := ⟨212, [hNs], [hIs, hIs, .bool], fun x => f212 n x⟩
def f212_D (α : Type) (n : Nat) : D3 α := { reg := [(1, ⟨0, [], [(0, { sh := some hI }), (1, { sh := some hI })]⟩), (5, ⟨0, [], [(2, { ent := some (f225_E n) })]⟩), (8, ⟨0, [], [(1, { ent := some (f214_E n) })]⟩), (12, ⟨12, [], []⟩), (14, ⟨14, [], []⟩), (16, ⟨18, [], []⟩), (17, ⟨0, [], [(2, { sh := some hI }), (6, { sh := some hI })]⟩)], join := [(17, f212_J17)], loop := [(3, ⟨f212_L3H, f212_L3O, rounds (f212_L3U n) n⟩)] }
theorem f212_ents (α : Type) (n : Nat) : AllS Tryz.prog (entsOf (f212_D α n).reg) := ⟨f225_ok n, f214_ok n, trivial⟩
theorem f212_L3_d (α : Type) (n : Nat) : D3.OK Tryz.prog (tyOf Tryz.prog) ⟨91, []⟩ (f212_D α n) ((bodyOf Tryz.f212).at [1, 1, 0, 1, 0, 0]) :=
  D3.OK.mk3 (f212_ents α n) (show loopsOf ((bodyOf Tryz.f212).at [1, 1, 0, 1, 0, 0]) = [] by kernel_rfl) trivial
theorem f212_L3_ok (α : Type) (n : Nat) : LO.Sound (α := α) Tryz.prog ⟨91, []⟩ ⟨f212_L3H, f212_L3O, rounds (f212_L3U n) n⟩ (.loop ((bodyOf Tryz.f212).at [1, 1, 0, 1, 0, 0])) :=
  loop_ok (tyOf_ok _) prog_fol (f212_L3U n) (f212_L3_d α n) (by intro v f ks; kernel_rfl) n
theorem f212_d (α : Type) (n : Nat) : D3.OK Tryz.prog (tyOf Tryz.prog) ⟨91, []⟩ (f212_D α n) (bodyOf Tryz.f212) :=
  D3.OK.mk3 (f212_ents α n) (show loopsOf (bodyOf Tryz.f212) = [(3, (.loop ((bodyOf Tryz.f212).at [1, 1, 0, 1, 0, 0])))] by kernel_rfl) ⟨look_sound rfl (f212_L3_ok α n), trivial⟩
theorem f212_ok (n : Nat) : (f212_E n).Sound Tryz.prog :=
  fn_ok (tyOf_ok _) prog_fol (f212_D _ n) (show Tryz.prog.funcs[212]? = some Tryz.f212 by kernel_rfl) (by kernel_rfl) (show Tryz.f212.body = some (bodyOf Tryz.f212) by kernel_rfl) rfl rfl (Nat.le_of_ble_eq_true rfl) (f212_d _ n) (by intro x; kernel_rfl) 


def f213_L5B {α : Type} (n : Nat) (s0 : List Int) (s3 : Int) (s4 : Int) (f : (List Int) → Int → Int → Option α) (k0 : Int → Option α) : Option α :=
  bif (decide (s4 < (s0.length : Int))) then
    gd (decide (0 ≤ s4) && decide (s4 < (s0.length : Int))) (
      f s0 (max s3 (s0.getD s4.toNat 0)) (W (s4 + 1)))
  else
    k0 s3
abbrev f213_L5H : Tm := ⟨[(0, .d hIs), (3, .d hI), (4, .d hI)], [], [], []⟩
abbrev f213_L5X0 : Tm := ⟨[(3, .d hI)], [], [], []⟩
abbrev f213_L5O : List (Exit × Tm) := [(.exit 0, f213_L5X0)]
def f213_L5U {α : Type} (n : Nat) (v : f213_L5H.den) (f : f213_L5H.den → Option α) (ks : KS α f213_L5O) : Option α := f213_L5B n v.1.1 v.1.2.1 v.1.2.2.1 (fun s0 s3 s4 => f ((s0, s3, s4, ()), ())) (fun w0 => ks.1 ((w0, ()), ()))
def f213_L5 {α : Type} (n m : Nat) (s0 : List Int) (s3 : Int) (s4 : Int) (k0 : Int → Option α) : Option α := rounds (f213_L5U n) m ((s0, s3, s4, ()), ()) (fun w => k0 w.1.1, ())
theorem f213_L5_0 {α : Type} (n : Nat) (s0 : List Int) (s3 : Int) (s4 : Int) (k0 : Int → Option α) : f213_L5 (α := α) n 0 s0 s3 s4 k0 = none := rfl
theorem f213_L5_s {α : Type} (n m : Nat) (s0 : List Int) (s3 : Int) (s4 : Int) (k0 : Int → Option α) : f213_L5 (α := α) n (m + 1) s0 s3 s4 k0 = f213_L5B n s0 s3 s4 (fun s0 s3 s4 => f213_L5 n m s0 s3 s4 k0) k0 := rfl
def f213 (n : Nat) (a0 : List Int) : Option Int :=
  bif (decide ((a0.length : Int) < 1)) then
    none
  else
    gd (decide (0 < (a0.length : Int))) (
      f213_L5 n n a0 (a0.getD 0 0) 1
        (fun z_1 => (
          some z_1)))
def f213_E (n : Nat) : Ent := ⟨213, [hIs], [hI], fun x => f213 n x⟩
def f213_D (α : Type) (n : Nat) : D3 α := { reg := [], join := [], loop := [(5, ⟨f213_L5H, f213_L5O, rounds (f213_L5U n) n⟩)] }
theorem f213_ents (α : Type) (n : Nat) : AllS Tryz.prog (entsOf (f213_D α n).reg) := trivial
theorem f213_L5_d (α : Type) (n : Nat) : D3.OK Tryz.prog (tyOf Tryz.prog) ⟨25, []⟩ (f213_D α n) ((bodyOf Tryz.f213).at [1, 1, 1, 0, 1, 0, 0]) :=
  D3.OK.mk3 (f213_ents α n) (show loopsOf ((bodyOf Tryz.f213).at [1, 1, 1, 0, 1, 0, 0]) = [] by kernel_rfl) trivial
theorem f213_L5_ok (α : Type) (n : Nat) : LO.Sound (α := α) Tryz.prog ⟨25, []⟩ ⟨f213_L5H, f213_L5O, rounds (f213_L5U n) n⟩ (.loop ((bodyOf Tryz.f213).at [1, 1, 1, 0, 1, 0, 0])) :=
  loop_ok (tyOf_ok _) prog_fol (f213_L5U n) (f213_L5_d α n) (by intro v f ks; kernel_rfl) n
theorem f213_d (α : Type) (n : Nat) : D3.OK Tryz.prog (tyOf Tryz.prog) ⟨25, []⟩ (f213_D α n) (bodyOf Tryz.f213) :=
  D3.OK.mk3 (f213_ents α n) (show loopsOf (bodyOf Tryz.f213) = [(5, (.loop ((bodyOf Tryz.f213).at [1, 1, 1, 0, 1, 0, 0])))] by kernel_rfl) ⟨look_sound rfl (f213_L5_ok α n), trivial⟩
theorem f213_ok (n : Nat) : (f213_E n).Sound Tryz.prog :=
  fn_ok (tyOf_ok _) prog_fol (f213_D _ n) (show Tryz.prog.funcs[213]? = some Tryz.f213 by kernel_rfl) (by kernel_rfl) (show Tryz.f213.body = some (bodyOf Tryz.f213) by kernel_rfl) rfl rfl (Nat.le_of_ble_eq_true rfl) (f213_d _ n) (by intro x; kernel_rfl) 


def f198 (n : Nat) (a0 : List (Int × Int × Int × Int)) : Option Bool :=
  ob (f70 n (a0.length : Int) 1 60) fun r_1 =>
  bif (!r_1) then
    some false
  else
    ob (f212 n a0) fun r_2 =>
    bif r_2.2.2 then
      gd (decide (0 ≤ (W ((a0.length : Int) - 1))) && decide ((W ((a0.length : Int) - 1)) < (r_2.1.length : Int))) (
        bif ((r_2.1.getD ((W ((a0.length : Int) - 1)).toNat) 0) == 0) then
          ob (f213 n r_2.2.1) fun r_3 =>
          some (decide (r_3 ≤ 12))
        else
          some false)
    else
      some false
def f198_E (n : Nat) : Ent := ⟨198, [hE], [.bool], fun x => f198 n x⟩
def f198_D (α : Type) (n : Nat) : D3 α := { reg := [(2, ⟨0, [], [(1, { ent := some (f70_E n) })]⟩), (4, ⟨0, [], [(2, { ent := some (f212_E n) })]⟩), (5, ⟨0, [], [(11, { ent := some (f213_E n) })]⟩)], join := [], loop := [] }
theorem f198_ents (α : Type) (n : Nat) : AllS Tryz.prog (entsOf (f198_D α n).reg) := ⟨f70_ok n, f212_ok n, f213_ok n, trivial⟩
theorem f198_d (α : Type) (n : Nat) : D3.OK Tryz.prog (tyOf Tryz.prog) ⟨34, []⟩ (f198_D α n) (bodyOf Tryz.f198) :=
  D3.OK.mk3 (f198_ents α n) (show loopsOf (bodyOf Tryz.f198) = [] by kernel_rfl) trivial
theorem f198_ok (n : Nat) : (f198_E n).Sound Tryz.prog :=
  fn_ok (tyOf_ok _) prog_fol (f198_D _ n) (show Tryz.prog.funcs[198]? = some Tryz.f198 by kernel_rfl) (by kernel_rfl) (show Tryz.f198.body = some (bodyOf Tryz.f198) by kernel_rfl) rfl rfl (Nat.le_of_ble_eq_true rfl) (f198_d _ n) (by intro x; kernel_rfl) 


def f211 (n : Nat) (a0 : Int) : Option Bool :=
  bif (decide (a0 < 0)) then
    some true
  else
    some (decide (a0 ≥ 10000))
def f211_E (n : Nat) : Ent := ⟨211, [hI], [.bool], fun x => f211 n x⟩
def f211_D (α : Type) (n : Nat) : D3 α := { reg := [], join := [], loop := [] }
theorem f211_ents (α : Type) (n : Nat) : AllS Tryz.prog (entsOf (f211_D α n).reg) := trivial
theorem f211_d (α : Type) (n : Nat) : D3.OK Tryz.prog (tyOf Tryz.prog) ⟨9, []⟩ (f211_D α n) (bodyOf Tryz.f211) :=
  D3.OK.mk3 (f211_ents α n) (show loopsOf (bodyOf Tryz.f211) = [] by kernel_rfl) trivial
theorem f211_ok (n : Nat) : (f211_E n).Sound Tryz.prog :=
  fn_ok (tyOf_ok _) prog_fol (f211_D _ n) (show Tryz.prog.funcs[211]? = some Tryz.f211 by kernel_rfl) (by kernel_rfl) (show Tryz.f211.body = some (bodyOf Tryz.f211) by kernel_rfl) rfl rfl (Nat.le_of_ble_eq_true rfl) (f211_d _ n) (by intro x; kernel_rfl) 

end Go.Ev
