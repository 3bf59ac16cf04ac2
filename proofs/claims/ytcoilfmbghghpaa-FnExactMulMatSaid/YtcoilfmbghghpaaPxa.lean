/- DERIVED. What the functions compute, and that they do. -/
import Derived.Test.YtcoilfmbghghpaaEe

set_option linter.all false
set_option linter.unusedVariables false
set_option linter.unusedSimpArgs false

namespace Go.Ev
open Go Go.Proofs Go.RowKit Go.Shelf
def f69 (n : Nat) (a0 : LI) (a1 : Int) : Option Int :=
 bif (decide ((W (a1 - (a0.length : Int))) < 0)) then
  some (-1)
 else
  some (W (a1 - (a0.length : Int)))
def f69_E (n : Nat) : Ent := ⟨69, [hIs, hI], [hI], fun x => f69 n x.1 x.2⟩
def f69_D (α : Type) (n : Nat) : D3 α := { reg := [], join := [], loop := [] }
theorem f69_ents (α : Type) (n : Nat) : AllS Try.prog (entsOf (f69_D α n).reg) := trivial
theorem f69_d (α : Type) (n : Nat) : D3.OK Try.prog (tyOf Try.prog) ⟨12, []⟩ (f69_D α n) (bodyOf Try.f69) :=
 D3.OK.mk3 (f69_ents α n) (show loopsOf (bodyOf Try.f69) = [] by kernel_rfl) trivial
theorem f69_ok (n : Nat) : (f69_E n).Sound Try.prog :=
 fn_ok (tyOf_ok _) prog_fol (f69_D _ n) (show Try.prog.funcs[69]? = some Try.f69 by kernel_rfl) (by kernel_rfl) (show Try.f69.body = some (bodyOf Try.f69) by kernel_rfl) rfl rfl (Nat.le_of_ble_eq_true rfl) (f69_d _ n) (by intro x; kernel_rfl) 

def f20 (n : Nat) (a0 : Rq) (a1 : Int) : Option Int :=
 ob (f69 n a0.2.1 a1) fun r_1 =>
 bif (decide (r_1 < 0)) then
  some (-1)
 else
  ob (f69 n a0.2.2 r_1) fun r_2 =>
  bif (decide (r_2 < 0)) then
   some (-1)
  else
   some r_2
def f20_E (n : Nat) : Ent := ⟨20, [hR, hI], [hI], fun x => f20 n x.1 x.2⟩
def f20_D (α : Type) (n : Nat) : D3 α := { reg := [(1, ⟨0, [], [(3, { ent := some (f69_E n) })]⟩), (4, ⟨0, [], [(3, { ent := some (f69_E n) })]⟩)], join := [], loop := [] }
theorem f20_ents (α : Type) (n : Nat) : AllS Try.prog (entsOf (f20_D α n).reg) := ⟨f69_ok n, f69_ok n, trivial⟩
theorem f20_d (α : Type) (n : Nat) : D3.OK Try.prog (tyOf Try.prog) ⟨18, []⟩ (f20_D α n) (bodyOf Try.f20) :=
 D3.OK.mk3 (f20_ents α n) (show loopsOf (bodyOf Try.f20) = [] by kernel_rfl) trivial
theorem f20_ok (n : Nat) : (f20_E n).Sound Try.prog :=
 fn_ok (tyOf_ok _) prog_fol (f20_D _ n) (show Try.prog.funcs[20]? = some Try.f20 by kernel_rfl) (by kernel_rfl) (show Try.f20.body = some (bodyOf Try.f20) by kernel_rfl) rfl rfl (Nat.le_of_ble_eq_true rfl) (f20_d _ n) (by intro x; kernel_rfl) 

def f15_L5B {α : Type} (n : Nat) (s0 : LR) (s1 s5 : Int) (f : LR → Int → Int → Option α) (k0 k1 : Int → Option α) : Option α :=
 bif (decide (s5 < (s0.length : Int))) then
  gd (decide (0 ≤ s5) && decide (s5 < (s0.length : Int))) (
   let x_1 := s0.getD s5.toNat (false, [], [])
   ob (f20 n x_1 s1) fun r_2 =>
   bif (decide (r_2 < 0)) then
    k0 (-1)
   else
    f s0 r_2 (W (s5 + 1)))
 else
  k1 s1
abbrev f15_L5H : Tm := ⟨[(0, .d hRs), (1, .d hI), (5, .d hI)], [], [], []⟩
abbrev f15_L5X0 : Tm := ⟨[(4, .d hI)], [], [], []⟩
abbrev f15_L5X1 : Tm := ⟨[(1, .d hI)], [], [], []⟩
abbrev f15_L5O : List (Exit × Tm) := [(.ret, f15_L5X0), (.exit 0, f15_L5X1)]
def f15_L5U {α : Type} (n : Nat) (v : f15_L5H.den) (f : f15_L5H.den → Option α) (ks : KS α f15_L5O) : Option α := f15_L5B n v.1.1 v.1.2.1 v.1.2.2.1 (fun s0 s1 s5 => f ((s0, s1, s5, ()), ())) (fun w0 => ks.1 ((w0, ()), ())) (fun w0 => ks.2.1 ((w0, ()), ()))
def f15_L5 {α : Type} (n m : Nat) (s0 : LR) (s1 s5 : Int) (k0 k1 : Int → Option α) : Option α := rounds (f15_L5U n) m ((s0, s1, s5, ()), ()) (fun w => k0 w.1.1, fun w => k1 w.1.1, ())
theorem f15_L5_0 {α n s0 s1 s5 k0 k1} : f15_L5 (α := α) n 0 s0 s1 s5 k0 k1 = none := rfl
theorem f15_L5_s {α n m s0 s1 s5 k0 k1} : f15_L5 (α := α) n (m + 1) s0 s1 s5 k0 k1 = f15_L5B n s0 s1 s5 (fun s0 s1 s5 => f15_L5 n m s0 s1 s5 k0 k1) k0 k1 := rfl
def f15 (n : Nat) (a0 : LR) (a1 : Int) : Option Int :=
 bif (decide ((W (a1 - (a0.length : Int))) < 0)) then
  some (-1)
 else
  f15_L5 n n a0 (W (a1 - (a0.length : Int))) 0
   (fun z_3 => (
    some z_3))
   (fun z_4 => (
    some z_4))
def f15_E (n : Nat) : Ent := ⟨15, [hRs, hI], [hI], fun x => f15 n x.1 x.2⟩
def f15_D (α : Type) (n : Nat) : D3 α := { reg := [(7, ⟨0, [], [(5, { ent := some (f20_E n) })]⟩)], join := [], loop := [(5, ⟨f15_L5H, f15_L5O, rounds (f15_L5U n) n⟩)] }
theorem f15_ents (α : Type) (n : Nat) : AllS Try.prog (entsOf (f15_D α n).reg) := ⟨f20_ok n, trivial⟩
theorem f15_L5_d (α : Type) (n : Nat) : D3.OK Try.prog (tyOf Try.prog) ⟨27, []⟩ (f15_D α n) ((bodyOf Try.f15).at [1, 1, 1, 0, 1, 0, 0]) :=
 D3.OK.mk3 (f15_ents α n) (show loopsOf ((bodyOf Try.f15).at [1, 1, 1, 0, 1, 0, 0]) = [] by kernel_rfl) trivial
theorem f15_L5_ok (α : Type) (n : Nat) : LO.Sound (α := α) Try.prog ⟨27, []⟩ ⟨f15_L5H, f15_L5O, rounds (f15_L5U n) n⟩ (.loop ((bodyOf Try.f15).at [1, 1, 1, 0, 1, 0, 0])) :=
 loop_ok (tyOf_ok _) prog_fol (f15_L5U n) (f15_L5_d α n) (by intro v f ks; kernel_rfl) n
theorem f15_d (α : Type) (n : Nat) : D3.OK Try.prog (tyOf Try.prog) ⟨27, []⟩ (f15_D α n) (bodyOf Try.f15) :=
 D3.OK.mk3 (f15_ents α n) (show loopsOf (bodyOf Try.f15) = [(5, (.loop ((bodyOf Try.f15).at [1, 1, 1, 0, 1, 0, 0])))] by kernel_rfl) ⟨look_sound rfl (f15_L5_ok α n), trivial⟩
theorem f15_ok (n : Nat) : (f15_E n).Sound Try.prog :=
 fn_ok (tyOf_ok _) prog_fol (f15_D _ n) (show Try.prog.funcs[15]? = some Try.f15 by kernel_rfl) (by kernel_rfl) (show Try.f15.body = some (bodyOf Try.f15) by kernel_rfl) rfl rfl (Nat.le_of_ble_eq_true rfl) (f15_d _ n) (by intro x; kernel_rfl) 

def f71_L3B {α : Type} (n : Nat) (s0 : LI) (s4 : Int) (b7 : LI) (f : LI → Int → LI → Option α) (k0 : LI → Option α) : Option α :=
 bif (decide (s4 < (s0.length : Int))) then
  gd (decide (0 ≤ s4) && decide (s4 < (s0.length : Int))) (
   gd (decide (0 ≤ s4) && decide (s4 < (b7.length : Int))) (
    gd (decide (s4.toNat < b7.length)) (
     f s0 (W (s4 + 1)) (b7.set s4.toNat (s0.getD s4.toNat 0)))))
 else
  k0 b7
abbrev f71_L3H : Tm := ⟨[(0, .d hIs), (3, .k (.hw 7)), (4, .d hI)], [(7, .arr 3 hI false)], [], []⟩
abbrev f71_L3X0 : Tm := ⟨[(3, .k (.hw 7))], [(7, .arr 3 hI false)], [], []⟩
abbrev f71_L3O : List (Exit × Tm) := [(.exit 0, f71_L3X0)]
def f71_L3U {α : Type} (n : Nat) (v : f71_L3H.den) (f : f71_L3H.den → Option α) (ks : KS α f71_L3O) : Option α := f71_L3B n v.1.1 v.1.2.2.1 v.2.1 (fun s0 s4 b7 => f ((s0, (), s4, ()), (b7, ()))) (fun w0 => ks.1 (((), ()), (w0, ())))
def f71_L3 {α : Type} (n m : Nat) (s0 : LI) (s4 : Int) (b7 : LI) (k0 : LI → Option α) : Option α := rounds (f71_L3U n) m ((s0, (), s4, ()), (b7, ())) (fun w => k0 w.2.1, ())
theorem f71_L3_0 {α n s0 s4 b7 k0} : f71_L3 (α := α) n 0 s0 s4 b7 k0 = none := rfl
theorem f71_L3_s {α n m s0 s4 b7 k0} : f71_L3 (α := α) n (m + 1) s0 s4 b7 k0 = f71_L3B n s0 s4 b7 (fun s0 s4 b7 => f71_L3 n m s0 s4 b7 k0) k0 := rfl
def f71 (n : Nat) (a0 : LI) : Option LI :=
 gd (decide (0 ≤ (a0.length : Int)) && decide ((a0.length : Int) ≤ 4611686018427387904) && decide ((8 : Int) * (a0.length : Int) ≤ 281474976710656)) (
  f71_L3 n n a0 0 (List.replicate ((a0.length : Int).toNat) 0)
   (fun z_1 => (
    some z_1)))
def f71_E (n : Nat) : Ent := ⟨71, [hIs], [hIs], fun x => f71 n x⟩
def f71_D (α : Type) (n : Nat) : D3 α := { reg := [], join := [], loop := [(3, ⟨f71_L3H, f71_L3O, rounds (f71_L3U n) n⟩)] }
theorem f71_ents (α : Type) (n : Nat) : AllS Try.prog (entsOf (f71_D α n).reg) := trivial
theorem f71_L3_d (α : Type) (n : Nat) : D3.OK Try.prog (tyOf Try.prog) ⟨22, []⟩ (f71_D α n) ((bodyOf Try.f71).at [1, 1, 0, 1, 0, 0]) :=
 D3.OK.mk3 (f71_ents α n) (show loopsOf ((bodyOf Try.f71).at [1, 1, 0, 1, 0, 0]) = [] by kernel_rfl) trivial
theorem f71_L3_ok (α : Type) (n : Nat) : LO.Sound (α := α) Try.prog ⟨22, []⟩ ⟨f71_L3H, f71_L3O, rounds (f71_L3U n) n⟩ (.loop ((bodyOf Try.f71).at [1, 1, 0, 1, 0, 0])) :=
 loop_ok (tyOf_ok _) prog_fol (f71_L3U n) (f71_L3_d α n) (by intro v f ks; kernel_rfl) n
theorem f71_d (α : Type) (n : Nat) : D3.OK Try.prog (tyOf Try.prog) ⟨22, []⟩ (f71_D α n) (bodyOf Try.f71) :=
 D3.OK.mk3 (f71_ents α n) (show loopsOf (bodyOf Try.f71) = [(3, (.loop ((bodyOf Try.f71).at [1, 1, 0, 1, 0, 0])))] by kernel_rfl) ⟨look_sound rfl (f71_L3_ok α n), trivial⟩
theorem f71_ok (n : Nat) : (f71_E n).Sound Try.prog :=
 fn_ok (tyOf_ok _) prog_fol (f71_D _ n) (show Try.prog.funcs[71]? = some Try.f71 by kernel_rfl) (by kernel_rfl) (show Try.f71.body = some (bodyOf Try.f71) by kernel_rfl) rfl rfl (Nat.le_of_ble_eq_true rfl) (f71_d _ n) (by intro x; kernel_rfl) 

def f22 (n : Nat) (a0 : Rq) : Option Rq :=
 ob (f71 n a0.2.1) fun r_1 =>
 ob (f71 n a0.2.2) fun r_2 =>
 some (a0.1, r_1, r_2)
def f22_E (n : Nat) : Ent := ⟨22, [hR], [hR], fun x => f22 n x⟩
def f22_D (α : Type) (n : Nat) : D3 α := { reg := [(3, ⟨0, [], [(2, { ent := some (f71_E n) })]⟩), (4, ⟨0, [], [(2, { ent := some (f71_E n) })]⟩)], join := [], loop := [] }
theorem f22_ents (α : Type) (n : Nat) : AllS Try.prog (entsOf (f22_D α n).reg) := ⟨f71_ok n, f71_ok n, trivial⟩
theorem f22_d (α : Type) (n : Nat) : D3.OK Try.prog (tyOf Try.prog) ⟨16, []⟩ (f22_D α n) (bodyOf Try.f22) :=
 D3.OK.mk3 (f22_ents α n) (show loopsOf (bodyOf Try.f22) = [] by kernel_rfl) trivial
theorem f22_ok (n : Nat) : (f22_E n).Sound Try.prog :=
 fn_ok (tyOf_ok _) prog_fol (f22_D _ n) (show Try.prog.funcs[22]? = some Try.f22 by kernel_rfl) (by kernel_rfl) (show Try.f22.body = some (bodyOf Try.f22) by kernel_rfl) rfl rfl (Nat.le_of_ble_eq_true rfl) (f22_d _ n) (by intro x; kernel_rfl) 

def f17_L3B {α : Type} (n : Nat) (s0 : LR) (s4 : Int) (b7 : LR) (f : LR → Int → LR → Option α) (k0 : LR → Option α) : Option α :=
 bif (decide (s4 < (s0.length : Int))) then
  gd (decide (0 ≤ s4) && decide (s4 < (s0.length : Int))) (
   let x_1 := s0.getD s4.toNat (false, [], [])
   ob (f22 n x_1) fun r_2 =>
   gd (decide (0 ≤ s4) && decide (s4 < (b7.length : Int))) (
    gd (decide (s4.toNat < b7.length)) (
     f s0 (W (s4 + 1)) (b7.set s4.toNat r_2))))
 else
  k0 b7
abbrev f17_L3H : Tm := ⟨[(0, .d hRs), (3, .k (.hw 7)), (4, .d hI)], [(7, .arr 33 hR false)], [], []⟩
abbrev f17_L3X0 : Tm := ⟨[(3, .k (.hw 7))], [(7, .arr 33 hR false)], [], []⟩
abbrev f17_L3O : List (Exit × Tm) := [(.exit 0, f17_L3X0)]
def f17_L3U {α : Type} (n : Nat) (v : f17_L3H.den) (f : f17_L3H.den → Option α) (ks : KS α f17_L3O) : Option α := f17_L3B n v.1.1 v.1.2.2.1 v.2.1 (fun s0 s4 b7 => f ((s0, (), s4, ()), (b7, ()))) (fun w0 => ks.1 (((), ()), (w0, ())))
def f17_L3 {α : Type} (n m : Nat) (s0 : LR) (s4 : Int) (b7 : LR) (k0 : LR → Option α) : Option α := rounds (f17_L3U n) m ((s0, (), s4, ()), (b7, ())) (fun w => k0 w.2.1, ())
theorem f17_L3_0 {α n s0 s4 b7 k0} : f17_L3 (α := α) n 0 s0 s4 b7 k0 = none := rfl
theorem f17_L3_s {α n m s0 s4 b7 k0} : f17_L3 (α := α) n (m + 1) s0 s4 b7 k0 = f17_L3B n s0 s4 b7 (fun s0 s4 b7 => f17_L3 n m s0 s4 b7 k0) k0 := rfl
def f17 (n : Nat) (a0 : LR) : Option LR :=
 gd (decide (0 ≤ (a0.length : Int)) && decide ((a0.length : Int) ≤ 4611686018427387904) && decide ((56 : Int) * (a0.length : Int) ≤ 281474976710656)) (
  f17_L3 n n a0 0 (List.replicate ((a0.length : Int).toNat) (false, [], []))
   (fun z_3 => (
    some z_3)))
def f17_E (n : Nat) : Ent := ⟨17, [hRs], [hRs], fun x => f17 n x⟩
def f17_D (α : Type) (n : Nat) : D3 α := { reg := [(5, ⟨0, [], [(6, { ent := some (f22_E n) })]⟩)], join := [], loop := [(3, ⟨f17_L3H, f17_L3O, rounds (f17_L3U n) n⟩)] }
theorem f17_ents (α : Type) (n : Nat) : AllS Try.prog (entsOf (f17_D α n).reg) := ⟨f22_ok n, trivial⟩
theorem f17_L3_d (α : Type) (n : Nat) : D3.OK Try.prog (tyOf Try.prog) ⟨23, []⟩ (f17_D α n) ((bodyOf Try.f17).at [1, 1, 0, 1, 0, 0]) :=
 D3.OK.mk3 (f17_ents α n) (show loopsOf ((bodyOf Try.f17).at [1, 1, 0, 1, 0, 0]) = [] by kernel_rfl) trivial
theorem f17_L3_ok (α : Type) (n : Nat) : LO.Sound (α := α) Try.prog ⟨23, []⟩ ⟨f17_L3H, f17_L3O, rounds (f17_L3U n) n⟩ (.loop ((bodyOf Try.f17).at [1, 1, 0, 1, 0, 0])) :=
 loop_ok (tyOf_ok _) prog_fol (f17_L3U n) (f17_L3_d α n) (by intro v f ks; kernel_rfl) n
theorem f17_d (α : Type) (n : Nat) : D3.OK Try.prog (tyOf Try.prog) ⟨23, []⟩ (f17_D α n) (bodyOf Try.f17) :=
 D3.OK.mk3 (f17_ents α n) (show loopsOf (bodyOf Try.f17) = [(3, (.loop ((bodyOf Try.f17).at [1, 1, 0, 1, 0, 0])))] by kernel_rfl) ⟨look_sound rfl (f17_L3_ok α n), trivial⟩
theorem f17_ok (n : Nat) : (f17_E n).Sound Try.prog :=
 fn_ok (tyOf_ok _) prog_fol (f17_D _ n) (show Try.prog.funcs[17]? = some Try.f17 by kernel_rfl) (by kernel_rfl) (show Try.f17.body = some (bodyOf Try.f17) by kernel_rfl) rfl rfl (Nat.le_of_ble_eq_true rfl) (f17_d _ n) (by intro x; kernel_rfl) 

def f65 (n : Nat) (a0 a1 a2 : Int) : Option Bool :=
 bif (decide (a1 ≤ a0)) then
  some (decide (a0 ≤ a2))
 else
  some false
def f65_E (n : Nat) : Ent := ⟨65, [hI, hI, hI], [.bool], fun x => f65 n x.1 x.2.1 x.2.2⟩
def f65_D (α : Type) (n : Nat) : D3 α := { reg := [], join := [], loop := [] }
theorem f65_ents (α : Type) (n : Nat) : AllS Try.prog (entsOf (f65_D α n).reg) := trivial
theorem f65_d (α : Type) (n : Nat) : D3.OK Try.prog (tyOf Try.prog) ⟨15, []⟩ (f65_D α n) (bodyOf Try.f65) :=
 D3.OK.mk3 (f65_ents α n) (show loopsOf (bodyOf Try.f65) = [] by kernel_rfl) trivial
theorem f65_ok (n : Nat) : (f65_E n).Sound Try.prog :=
 fn_ok (tyOf_ok _) prog_fol (f65_D _ n) (show Try.prog.funcs[65]? = some Try.f65 by kernel_rfl) (by kernel_rfl) (show Try.f65.body = some (bodyOf Try.f65) by kernel_rfl) rfl rfl (Nat.le_of_ble_eq_true rfl) (f65_d _ n) (by intro x; kernel_rfl) 

def f126_L4B {α : Type} (n : Nat) (s0 : LI) (s3 : Int) (f : LI → Int → Option α) (k0 : Bool → Option α) (k1 : LI → Option α) : Option α :=
 bif (decide (s3 < (s0.length : Int))) then
  gd (decide (0 ≤ s3) && decide (s3 < (s0.length : Int))) (
   ob (f65 n (s0.getD s3.toNat 0) 0 9999) fun r_1 =>
   bif (!r_1) then
    k0 false
   else
    f s0 (W (s3 + 1)))
 else
  k1 s0
abbrev f126_L4H : Tm := ⟨[(0, .d hIs), (3, .d hI)], [], [], []⟩
abbrev f126_L4X0 : Tm := ⟨[(2, .d .bool)], [], [], []⟩
abbrev f126_L4X1 : Tm := ⟨[(0, .d hIs)], [], [], []⟩
abbrev f126_L4O : List (Exit × Tm) := [(.ret, f126_L4X0), (.exit 0, f126_L4X1)]
def f126_L4U {α : Type} (n : Nat) (v : f126_L4H.den) (f : f126_L4H.den → Option α) (ks : KS α f126_L4O) : Option α := f126_L4B n v.1.1 v.1.2.1 (fun s0 s3 => f ((s0, s3, ()), ())) (fun w0 => ks.1 ((w0, ()), ())) (fun w0 => ks.2.1 ((w0, ()), ()))
def f126_L4 {α : Type} (n m : Nat) (s0 : LI) (s3 : Int) (k0 : Bool → Option α) (k1 : LI → Option α) : Option α := rounds (f126_L4U n) m ((s0, s3, ()), ()) (fun w => k0 w.1.1, fun w => k1 w.1.1, ())
theorem f126_L4_0 {α n s0 s3 k0 k1} : f126_L4 (α := α) n 0 s0 s3 k0 k1 = none := rfl
theorem f126_L4_s {α n m s0 s3 k0 k1} : f126_L4 (α := α) n (m + 1) s0 s3 k0 k1 = f126_L4B n s0 s3 (fun s0 s3 => f126_L4 n m s0 s3 k0 k1) k0 k1 := rfl
def f126 (n : Nat) (a0 : LI) : Option Bool :=
 bif (decide ((a0.length : Int) > 4096)) then
  some false
 else
  f126_L4 n n a0 0
   (fun z_2 => (
    some z_2))
   (fun z_3 => (
    bif (decide ((z_3.length : Int) ≤ 40)) then
     bif ((z_3.length : Int) == 0) then
      some true
     else
      gd (decide (0 ≤ (W ((z_3.length : Int) - 1))) && decide ((W ((z_3.length : Int) - 1)) < (z_3.length : Int))) (
       some (decide ((z_3.getD ((W ((z_3.length : Int) - 1)).toNat) 0) > 0)))
    else
     some false))
def f126_E (n : Nat) : Ent := ⟨126, [hIs], [.bool], fun x => f126 n x⟩
def f126_D (α : Type) (n : Nat) : D3 α := { reg := [(6, ⟨0, [], [(4, { ent := some (f65_E n) })]⟩)], join := [], loop := [(4, ⟨f126_L4H, f126_L4O, rounds (f126_L4U n) n⟩)] }
theorem f126_ents (α : Type) (n : Nat) : AllS Try.prog (entsOf (f126_D α n).reg) := ⟨f65_ok n, trivial⟩
theorem f126_L4_d (α : Type) (n : Nat) : D3.OK Try.prog (tyOf Try.prog) ⟨36, []⟩ (f126_D α n) ((bodyOf Try.f126).at [1, 1, 0, 1, 0, 0]) :=
 D3.OK.mk3 (f126_ents α n) (show loopsOf ((bodyOf Try.f126).at [1, 1, 0, 1, 0, 0]) = [] by kernel_rfl) trivial
theorem f126_L4_ok (α : Type) (n : Nat) : LO.Sound (α := α) Try.prog ⟨36, []⟩ ⟨f126_L4H, f126_L4O, rounds (f126_L4U n) n⟩ (.loop ((bodyOf Try.f126).at [1, 1, 0, 1, 0, 0])) :=
 loop_ok (tyOf_ok _) prog_fol (f126_L4U n) (f126_L4_d α n) (by intro v f ks; kernel_rfl) n
theorem f126_d (α : Type) (n : Nat) : D3.OK Try.prog (tyOf Try.prog) ⟨36, []⟩ (f126_D α n) (bodyOf Try.f126) :=
 D3.OK.mk3 (f126_ents α n) (show loopsOf (bodyOf Try.f126) = [(4, (.loop ((bodyOf Try.f126).at [1, 1, 0, 1, 0, 0])))] by kernel_rfl) ⟨look_sound rfl (f126_L4_ok α n), trivial⟩
theorem f126_ok (n : Nat) : (f126_E n).Sound Try.prog :=
 fn_ok (tyOf_ok _) prog_fol (f126_D _ n) (show Try.prog.funcs[126]? = some Try.f126 by kernel_rfl) (by kernel_rfl) (show Try.f126.body = some (bodyOf Try.f126) by kernel_rfl) rfl rfl (Nat.le_of_ble_eq_true rfl) (f126_d _ n) (by intro x; kernel_rfl) 

def f185_L2B {α : Type} (n : Nat) (s0 : LI) (s3 : Int) (f : LI → Int → Option α) (k0 : LI → Int → Option α) : Option α :=
 bif (decide (s3 > 0)) then
  gd (decide (0 ≤ (W (s3 - 1))) && decide ((W (s3 - 1)) < (s0.length : Int))) (
   bif ((s0.getD ((W (s3 - 1)).toNat) 0) == 0) then
    f s0 (W (s3 - 1))
   else
    k0 s0 s3)
 else
  k0 s0 s3
abbrev f185_L2H : Tm := ⟨[(0, .d hIs), (3, .d hI)], [], [], []⟩
abbrev f185_L2X0 : Tm := ⟨[(0, .d hIs), (3, .d hI)], [], [], []⟩
abbrev f185_L2O : List (Exit × Tm) := [(.exit 0, f185_L2X0)]
def f185_L2U {α : Type} (n : Nat) (v : f185_L2H.den) (f : f185_L2H.den → Option α) (ks : KS α f185_L2O) : Option α := f185_L2B n v.1.1 v.1.2.1 (fun s0 s3 => f ((s0, s3, ()), ())) (fun w0 w1 => ks.1 ((w0, w1, ()), ()))
def f185_L2 {α : Type} (n m : Nat) (s0 : LI) (s3 : Int) (k0 : LI → Int → Option α) : Option α := rounds (f185_L2U n) m ((s0, s3, ()), ()) (fun w => k0 w.1.1 w.1.2.1, ())
theorem f185_L2_0 {α n s0 s3 k0} : f185_L2 (α := α) n 0 s0 s3 k0 = none := rfl
theorem f185_L2_s {α n m s0 s3 k0} : f185_L2 (α := α) n (m + 1) s0 s3 k0 = f185_L2B n s0 s3 (fun s0 s3 => f185_L2 n m s0 s3 k0) k0 := rfl
def f185 (n : Nat) (a0 : LI) : Option LI :=
 f185_L2 n n a0 (a0.length : Int)
  (fun z_1 z_2 => (
   gd (decide (0 ≤ z_2) && decide (z_2 ≤ (z_1.length : Int))) (
    gd (decide ((0 + ((z_1.drop 0).take (z_2.toNat - 0)).length) * 8 ≤ 140737488355328)) (
     some ((z_1.drop 0).take (z_2.toNat - 0))))))
def f185_E (n : Nat) : Ent := ⟨185, [hIs], [hIs], fun x => f185 n x⟩
def f185_D (α : Type) (n : Nat) : D3 α := { reg := [(4, ⟨0, [], [(0, { sh := some hI })]⟩)], join := [], loop := [(2, ⟨f185_L2H, f185_L2O, rounds (f185_L2U n) n⟩)] }
theorem f185_ents (α : Type) (n : Nat) : AllS Try.prog (entsOf (f185_D α n).reg) := trivial
theorem f185_L2_d (α : Type) (n : Nat) : D3.OK Try.prog (tyOf Try.prog) ⟨23, []⟩ (f185_D α n) ((bodyOf Try.f185).at [1, 1, 0, 0, 0]) :=
 D3.OK.mk3 (f185_ents α n) (show loopsOf ((bodyOf Try.f185).at [1, 1, 0, 0, 0]) = [] by kernel_rfl) trivial
theorem f185_L2_ok (α : Type) (n : Nat) : LO.Sound (α := α) Try.prog ⟨23, []⟩ ⟨f185_L2H, f185_L2O, rounds (f185_L2U n) n⟩ (.loop ((bodyOf Try.f185).at [1, 1, 0, 0, 0])) :=
 loop_ok (tyOf_ok _) prog_fol (f185_L2U n) (f185_L2_d α n) (by intro v f ks; kernel_rfl) n
theorem f185_d (α : Type) (n : Nat) : D3.OK Try.prog (tyOf Try.prog) ⟨23, []⟩ (f185_D α n) (bodyOf Try.f185) :=
 D3.OK.mk3 (f185_ents α n) (show loopsOf (bodyOf Try.f185) = [(2, (.loop ((bodyOf Try.f185).at [1, 1, 0, 0, 0])))] by kernel_rfl) ⟨look_sound rfl (f185_L2_ok α n), trivial⟩
theorem f185_ok (n : Nat) : (f185_E n).Sound Try.prog :=
 fn_ok (tyOf_ok _) prog_fol (f185_D _ n) (show Try.prog.funcs[185]? = some Try.f185 by kernel_rfl) (by kernel_rfl) (show Try.f185.body = some (bodyOf Try.f185) by kernel_rfl) rfl rfl (Nat.le_of_ble_eq_true rfl) (f185_d _ n) (by intro x; kernel_rfl) 

def f175 (n : Nat) (a0 : Bool) : Option Int :=
 bif a0 then
  some 1
 else
  some 0
def f175_E (n : Nat) : Ent := ⟨175, [.bool], [hI], fun x => f175 n x⟩
def f175_D (α : Type) (n : Nat) : D3 α := { reg := [], join := [], loop := [] }
theorem f175_ents (α : Type) (n : Nat) : AllS Try.prog (entsOf (f175_D α n).reg) := trivial
theorem f175_d (α : Type) (n : Nat) : D3.OK Try.prog (tyOf Try.prog) ⟨4, []⟩ (f175_D α n) (bodyOf Try.f175) :=
 D3.OK.mk3 (f175_ents α n) (show loopsOf (bodyOf Try.f175) = [] by kernel_rfl) trivial
theorem f175_ok (n : Nat) : (f175_E n).Sound Try.prog :=
 fn_ok (tyOf_ok _) prog_fol (f175_D _ n) (show Try.prog.funcs[175]? = some Try.f175 by kernel_rfl) (by kernel_rfl) (show Try.f175.body = some (bodyOf Try.f175) by kernel_rfl) rfl rfl (Nat.le_of_ble_eq_true rfl) (f175_d _ n) (by intro x; kernel_rfl) 

def f127_L4B {α : Type} (n : Nat) (s0 s1 : LI) (s5 : Int) (f : LI → LI → Int → Option α) (k0 : Int → Option α) (k1 : Unit → Option α) : Option α :=
 bif (decide (s5 ≥ 0)) then
  gd (decide (0 ≤ s5) && decide (s5 < (s0.length : Int))) (
   gd (decide (0 ≤ s5) && decide (s5 < (s1.length : Int))) (
    bif ((s0.getD s5.toNat 0) != (s1.getD s5.toNat 0)) then
     gd (decide (0 ≤ s5) && decide (s5 < (s0.length : Int))) (
      gd (decide (0 ≤ s5) && decide (s5 < (s1.length : Int))) (
       ob (f175 n (decide ((s0.getD s5.toNat 0) > (s1.getD s5.toNat 0)))) fun r_2 =>
       k0 (W ((W (2 * r_2)) - 1))))
    else
     f s0 s1 (W (s5 - 1))))
 else
  k1 ()
abbrev f127_L4H : Tm := ⟨[(0, .d hIs), (1, .d hIs), (5, .d hI)], [], [], []⟩
abbrev f127_L4X0 : Tm := ⟨[(4, .d hI)], [], [], []⟩
abbrev f127_L4X1 : Tm := ⟨[], [], [], []⟩
abbrev f127_L4O : List (Exit × Tm) := [(.ret, f127_L4X0), (.exit 0, f127_L4X1)]
def f127_L4U {α : Type} (n : Nat) (v : f127_L4H.den) (f : f127_L4H.den → Option α) (ks : KS α f127_L4O) : Option α := f127_L4B n v.1.1 v.1.2.1 v.1.2.2.1 (fun s0 s1 s5 => f ((s0, s1, s5, ()), ())) (fun w0 => ks.1 ((w0, ()), ())) (fun _ => ks.2.1 ((), ()))
def f127_L4 {α : Type} (n m : Nat) (s0 s1 : LI) (s5 : Int) (k0 : Int → Option α) (k1 : Unit → Option α) : Option α := rounds (f127_L4U n) m ((s0, s1, s5, ()), ()) (fun w => k0 w.1.1, fun w => k1 (), ())
theorem f127_L4_0 {α n s0 s1 s5 k0 k1} : f127_L4 (α := α) n 0 s0 s1 s5 k0 k1 = none := rfl
theorem f127_L4_s {α n m s0 s1 s5 k0 k1} : f127_L4 (α := α) n (m + 1) s0 s1 s5 k0 k1 = f127_L4B n s0 s1 s5 (fun s0 s1 s5 => f127_L4 n m s0 s1 s5 k0 k1) k0 k1 := rfl
def f127 (n : Nat) (a0 a1 : LI) : Option Int :=
 bif ((a0.length : Int) != (a1.length : Int)) then
  ob (f175 n (decide ((a0.length : Int) > (a1.length : Int)))) fun r_1 =>
  some (W ((W (2 * r_1)) - 1))
 else
  f127_L4 n n a0 a1 (W ((a0.length : Int) - 1))
   (fun z_3 => (
    some z_3))
   (fun (_ : Unit) => (
    some 0))
def f127_E (n : Nat) : Ent := ⟨127, [hIs, hIs], [hI], fun x => f127 n x.1 x.2⟩
def f127_D (α : Type) (n : Nat) : D3 α := { reg := [(2, ⟨0, [], [(5, { ent := some (f175_E n) })]⟩), (6, ⟨8, [], []⟩), (7, ⟨8, [], [(9, { ent := some (f175_E n) })]⟩)], join := [], loop := [(4, ⟨f127_L4H, f127_L4O, rounds (f127_L4U n) n⟩)] }
theorem f127_ents (α : Type) (n : Nat) : AllS Try.prog (entsOf (f127_D α n).reg) := ⟨f175_ok n, f175_ok n, trivial⟩
theorem f127_L4_d (α : Type) (n : Nat) : D3.OK Try.prog (tyOf Try.prog) ⟨47, []⟩ (f127_D α n) ((bodyOf Try.f127).at [1, 1, 0, 1, 0, 0]) :=
 D3.OK.mk3 (f127_ents α n) (show loopsOf ((bodyOf Try.f127).at [1, 1, 0, 1, 0, 0]) = [] by kernel_rfl) trivial
theorem f127_L4_ok (α : Type) (n : Nat) : LO.Sound (α := α) Try.prog ⟨47, []⟩ ⟨f127_L4H, f127_L4O, rounds (f127_L4U n) n⟩ (.loop ((bodyOf Try.f127).at [1, 1, 0, 1, 0, 0])) :=
 loop_ok (tyOf_ok _) prog_fol (f127_L4U n) (f127_L4_d α n) (by intro v f ks; kernel_rfl) n
theorem f127_d (α : Type) (n : Nat) : D3.OK Try.prog (tyOf Try.prog) ⟨47, []⟩ (f127_D α n) (bodyOf Try.f127) :=
 D3.OK.mk3 (f127_ents α n) (show loopsOf (bodyOf Try.f127) = [(4, (.loop ((bodyOf Try.f127).at [1, 1, 0, 1, 0, 0])))] by kernel_rfl) ⟨look_sound rfl (f127_L4_ok α n), trivial⟩
theorem f127_ok (n : Nat) : (f127_E n).Sound Try.prog :=
 fn_ok (tyOf_ok _) prog_fol (f127_D _ n) (show Try.prog.funcs[127]? = some Try.f127 by kernel_rfl) (by kernel_rfl) (show Try.f127.body = some (bodyOf Try.f127) by kernel_rfl) rfl rfl (Nat.le_of_ble_eq_true rfl) (f127_d _ n) (by intro x; kernel_rfl) 

def f190_L2B {α : Type} (n : Nat) (s0 : Int) (b4 : LI) (f : Int → LI → Option α) (k0 : LI → Option α) : Option α :=
 bif (decide (s0 > 0)) then
  gd (decide ((b4.length + 1) * 8 ≤ 140737488355328)) (
   f (W (Int.tdiv s0 10000)) (b4 ++ [(Int.tmod s0 10000)]))
 else
  k0 b4
abbrev f190_L2H : Tm := ⟨[(0, .d hI), (3, .k (.hw 4))], [(4, .arr 3 hI false)], [10], []⟩
abbrev f190_L2X0 : Tm := ⟨[(3, .k (.hw 4))], [(4, .arr 3 hI false)], [], []⟩
abbrev f190_L2O : List (Exit × Tm) := [(.exit 0, f190_L2X0)]
def f190_L2U {α : Type} (n : Nat) (v : f190_L2H.den) (f : f190_L2H.den → Option α) (ks : KS α f190_L2O) : Option α := f190_L2B n v.1.1 v.2.1 (fun s0 b4 => f ((s0, (), ()), (b4, ()))) (fun w0 => ks.1 (((), ()), (w0, ())))
def f190_L2 {α : Type} (n m : Nat) (s0 : Int) (b4 : LI) (k0 : LI → Option α) : Option α := rounds (f190_L2U n) m ((s0, (), ()), (b4, ())) (fun w => k0 w.2.1, ())
theorem f190_L2_0 {α n s0 b4 k0} : f190_L2 (α := α) n 0 s0 b4 k0 = none := rfl
theorem f190_L2_s {α n m s0 b4 k0} : f190_L2 (α := α) n (m + 1) s0 b4 k0 = f190_L2B n s0 b4 (fun s0 b4 => f190_L2 n m s0 b4 k0) k0 := rfl
def f190 (n : Nat) (a0 : Int) : Option LI :=
 f190_L2 n n a0 []
  (fun z_1 => (
   some z_1))
def f190_E (n : Nat) : Ent := ⟨190, [hI], [hIs], fun x => f190 n x⟩
def f190_D (α : Type) (n : Nat) : D3 α := { reg := [(1, ⟨0, [], [(0, { sh := some hI })]⟩), (3, ⟨0, [], [(3, { sh := some hI })]⟩)], join := [], loop := [(2, ⟨f190_L2H, f190_L2O, rounds (f190_L2U n) n⟩)] }
theorem f190_ents (α : Type) (n : Nat) : AllS Try.prog (entsOf (f190_D α n).reg) := trivial
theorem f190_L2_d (α : Type) (n : Nat) : D3.OK Try.prog (tyOf Try.prog) ⟨15, []⟩ (f190_D α n) ((bodyOf Try.f190).at [1, 1, 0, 0, 0]) :=
 D3.OK.mk3 (f190_ents α n) (show loopsOf ((bodyOf Try.f190).at [1, 1, 0, 0, 0]) = [] by kernel_rfl) trivial
theorem f190_L2_ok (α : Type) (n : Nat) : LO.Sound (α := α) Try.prog ⟨15, []⟩ ⟨f190_L2H, f190_L2O, rounds (f190_L2U n) n⟩ (.loop ((bodyOf Try.f190).at [1, 1, 0, 0, 0])) :=
 loop_ok (tyOf_ok _) prog_fol (f190_L2U n) (f190_L2_d α n) (by intro v f ks; kernel_rfl) n
theorem f190_d (α : Type) (n : Nat) : D3.OK Try.prog (tyOf Try.prog) ⟨15, []⟩ (f190_D α n) (bodyOf Try.f190) :=
 D3.OK.mk3 (f190_ents α n) (show loopsOf (bodyOf Try.f190) = [(2, (.loop ((bodyOf Try.f190).at [1, 1, 0, 0, 0])))] by kernel_rfl) ⟨look_sound rfl (f190_L2_ok α n), trivial⟩
theorem f190_ok (n : Nat) : (f190_E n).Sound Try.prog :=
 fn_ok (tyOf_ok _) prog_fol (f190_D _ n) (show Try.prog.funcs[190]? = some Try.f190 by kernel_rfl) (by kernel_rfl) (show Try.f190.body = some (bodyOf Try.f190) by kernel_rfl) rfl rfl (Nat.le_of_ble_eq_true rfl) (f190_d _ n) (by intro x; kernel_rfl) 

def f154_L7B {α : Type} (n : Nat) (s0 s1 : LI) (s6 s7 s8 : Int) (b16 : LI) (f : LI → LI → Int → Int → Int → LI → Option α) (k0 : LI → LI → Int → LI → Option α) : Option α :=
 let J_3 := fun (_ : Unit) => (
  gd (decide (0 ≤ (W (s6 + s8))) && decide ((W (s6 + s8)) < (b16.length : Int))) (
   gd (decide ((W (s6 + s8)).toNat < b16.length)) (
    let J_2 := fun (y_1 : Int) => (
     gd (decide (0 ≤ (W (s6 + s8))) && decide ((W (s6 + s8)) < (b16.length : Int))) (
      gd (decide ((W (s6 + s8)).toNat < b16.length)) (
       f s0 s1 s6 (W (Int.tdiv y_1 10000)) (W (s8 + 1)) (b16.set ((W (s6 + s8)).toNat) (Int.tmod y_1 10000)))))
    bif (decide (s8 < (s1.length : Int))) then
     gd (decide (0 ≤ s6) && decide (s6 < (s0.length : Int))) (
      gd (decide (0 ≤ s8) && decide (s8 < (s1.length : Int))) (
       J_2 (W ((W ((b16.getD ((W (s6 + s8)).toNat) 0) + s7)) + (W ((s0.getD s6.toNat 0) * (s1.getD s8.toNat 0)))))))
    else
     J_2 (W ((b16.getD ((W (s6 + s8)).toNat) 0) + s7)))))
 bif (decide (s8 < (s1.length : Int))) then
  J_3 ()
 else
  bif (decide (s7 > 0)) then
   J_3 ()
  else
   k0 s0 s1 s6 b16
abbrev f154_L7H : Tm := ⟨[(0, .d hIs), (1, .d hIs), (5, .k (.hw 16)), (6, .d hI), (7, .d hI), (8, .d hI)], [(16, .arr 3 hI false)], [], []⟩
abbrev f154_L7X0 : Tm := ⟨[(0, .d hIs), (1, .d hIs), (5, .k (.hw 16)), (6, .d hI)], [(16, .arr 3 hI false)], [], []⟩
abbrev f154_L7O : List (Exit × Tm) := [(.exit 2, f154_L7X0)]
def f154_L7U {α : Type} (n : Nat) (v : f154_L7H.den) (f : f154_L7H.den → Option α) (ks : KS α f154_L7O) : Option α := f154_L7B n v.1.1 v.1.2.1 v.1.2.2.2.1 v.1.2.2.2.2.1 v.1.2.2.2.2.2.1 v.2.1 (fun s0 s1 s6 s7 s8 b16 => f ((s0, s1, (), s6, s7, s8, ()), (b16, ()))) (fun w0 w1 w2 w3 => ks.1 ((w0, w1, (), w2, ()), (w3, ())))
def f154_L7 {α : Type} (n m : Nat) (s0 s1 : LI) (s6 s7 s8 : Int) (b16 : LI) (k0 : LI → LI → Int → LI → Option α) : Option α := rounds (f154_L7U n) m ((s0, s1, (), s6, s7, s8, ()), (b16, ())) (fun w => k0 w.1.1 w.1.2.1 w.1.2.2.2.1 w.2.1, ())
theorem f154_L7_0 {α n s0 s1 s6 s7 s8 b16 k0} : f154_L7 (α := α) n 0 s0 s1 s6 s7 s8 b16 k0 = none := rfl
theorem f154_L7_s {α n m s0 s1 s6 s7 s8 b16 k0} : f154_L7 (α := α) n (m + 1) s0 s1 s6 s7 s8 b16 k0 = f154_L7B n s0 s1 s6 s7 s8 b16 (fun s0 s1 s6 s7 s8 b16 => f154_L7 n m s0 s1 s6 s7 s8 b16 k0) k0 := rfl
def f154_L3B {α : Type} (n : Nat) (s0 s1 : LI) (s6 : Int) (b16 : LI) (f : LI → LI → Int → LI → Option α) (k0 : LI → Option α) : Option α :=
 bif (decide (s6 < (s0.length : Int))) then
  f154_L7 n n s0 s1 s6 0 0 b16
   (fun z_1 z_2 z_3 z_4 => (
    f z_1 z_2 (W (z_3 + 1)) z_4))
 else
  k0 b16
abbrev f154_L3H : Tm := ⟨[(0, .d hIs), (1, .d hIs), (5, .k (.hw 16)), (6, .d hI)], [(16, .arr 3 hI false)], [], []⟩
abbrev f154_L3X0 : Tm := ⟨[(5, .k (.hw 16))], [(16, .arr 3 hI false)], [], []⟩
abbrev f154_L3O : List (Exit × Tm) := [(.exit 0, f154_L3X0)]
def f154_L3U {α : Type} (n : Nat) (v : f154_L3H.den) (f : f154_L3H.den → Option α) (ks : KS α f154_L3O) : Option α := f154_L3B n v.1.1 v.1.2.1 v.1.2.2.2.1 v.2.1 (fun s0 s1 s6 b16 => f ((s0, s1, (), s6, ()), (b16, ()))) (fun w0 => ks.1 (((), ()), (w0, ())))
def f154_L3 {α : Type} (n m : Nat) (s0 s1 : LI) (s6 : Int) (b16 : LI) (k0 : LI → Option α) : Option α := rounds (f154_L3U n) m ((s0, s1, (), s6, ()), (b16, ())) (fun w => k0 w.2.1, ())
theorem f154_L3_0 {α n s0 s1 s6 b16 k0} : f154_L3 (α := α) n 0 s0 s1 s6 b16 k0 = none := rfl
theorem f154_L3_s {α n m s0 s1 s6 b16 k0} : f154_L3 (α := α) n (m + 1) s0 s1 s6 b16 k0 = f154_L3B n s0 s1 s6 b16 (fun s0 s1 s6 b16 => f154_L3 n m s0 s1 s6 b16 k0) k0 := rfl
abbrev f154_J9 : Tm := ⟨[(0, .d hIs), (1, .d hIs), (5, .k (.hw 16)), (6, .d hI), (7, .d hI), (8, .d hI)], [(16, .arr 3 hI false)], [], []⟩
abbrev f154_J12 : Tm := ⟨[(0, .d hIs), (1, .d hIs), (5, .k (.hw 16)), (6, .d hI), (8, .d hI), (9, .d hI)], [(16, .arr 3 hI false)], [], []⟩
def f154 (n : Nat) (a0 a1 : LI) : Option LI :=
 gd (decide (0 ≤ (W ((W ((a0.length : Int) + (a1.length : Int))) + 1))) && decide ((W ((W ((a0.length : Int) + (a1.length : Int))) + 1)) ≤ 4611686018427387904) && decide ((8 : Int) * (W ((W ((a0.length : Int) + (a1.length : Int))) + 1)) ≤ 281474976710656)) (
  f154_L3 n n a0 a1 0 (List.replicate ((W ((W ((a0.length : Int) + (a1.length : Int))) + 1)).toNat) 0)
   (fun z_5 => (
    ob (f185 n z_5) fun r_6 =>
    some r_6)))
def f154_E (n : Nat) : Ent := ⟨154, [hIs, hIs], [hIs], fun x => f154 n x.1 x.2⟩
def f154_D (α : Type) (n : Nat) : D3 α := { reg := [(11, ⟨10, [], []⟩), (14, ⟨0, [], [(1, { ent := some (f185_E n), fz := [(65, hIs)] })]⟩)], join := [(9, f154_J9), (12, f154_J12)], loop := [(7, ⟨f154_L7H, f154_L7O, rounds (f154_L7U n) n⟩), (3, ⟨f154_L3H, f154_L3O, rounds (f154_L3U n) n⟩)] }
theorem f154_ents (α : Type) (n : Nat) : AllS Try.prog (entsOf (f154_D α n).reg) := ⟨f185_ok n, trivial⟩
theorem f154_L7_d (α : Type) (n : Nat) : D3.OK Try.prog (tyOf Try.prog) ⟨67, []⟩ (f154_D α n) ((bodyOf Try.f154).at [1, 1, 0, 1, 0, 0, 1, 0, 0, 1, 1, 0, 0]) :=
 D3.OK.mk3 (f154_ents α n) (show loopsOf ((bodyOf Try.f154).at [1, 1, 0, 1, 0, 0, 1, 0, 0, 1, 1, 0, 0]) = [] by kernel_rfl) trivial
theorem f154_L7_ok (α : Type) (n : Nat) : LO.Sound (α := α) Try.prog ⟨67, []⟩ ⟨f154_L7H, f154_L7O, rounds (f154_L7U n) n⟩ (.loop ((bodyOf Try.f154).at [1, 1, 0, 1, 0, 0, 1, 0, 0, 1, 1, 0, 0])) :=
 loop_ok (tyOf_ok _) prog_fol (f154_L7U n) (f154_L7_d α n) (by intro v f ks; kernel_rfl) n
theorem f154_L3_d (α : Type) (n : Nat) : D3.OK Try.prog (tyOf Try.prog) ⟨67, []⟩ (f154_D α n) ((bodyOf Try.f154).at [1, 1, 0, 1, 0, 0]) :=
 D3.OK.mk3 (f154_ents α n) (show loopsOf ((bodyOf Try.f154).at [1, 1, 0, 1, 0, 0]) = [(7, (.loop ((bodyOf Try.f154).at [1, 1, 0, 1, 0, 0, 1, 0, 0, 1, 1, 0, 0])))] by kernel_rfl) ⟨look_sound rfl (f154_L7_ok α n), trivial⟩
theorem f154_L3_ok (α : Type) (n : Nat) : LO.Sound (α := α) Try.prog ⟨67, []⟩ ⟨f154_L3H, f154_L3O, rounds (f154_L3U n) n⟩ (.loop ((bodyOf Try.f154).at [1, 1, 0, 1, 0, 0])) :=
 loop_ok (tyOf_ok _) prog_fol (f154_L3U n) (f154_L3_d α n) (by intro v f ks; kernel_rfl) n
theorem f154_d (α : Type) (n : Nat) : D3.OK Try.prog (tyOf Try.prog) ⟨67, []⟩ (f154_D α n) (bodyOf Try.f154) :=
 D3.OK.mk3 (f154_ents α n) (show loopsOf (bodyOf Try.f154) = [(3, (.loop ((bodyOf Try.f154).at [1, 1, 0, 1, 0, 0])))] by kernel_rfl) ⟨look_sound rfl (f154_L3_ok α n), trivial⟩
theorem f154_ok (n : Nat) : (f154_E n).Sound Try.prog :=
 fn_ok (tyOf_ok _) prog_fol (f154_D _ n) (show Try.prog.funcs[154]? = some Try.f154 by kernel_rfl) (by kernel_rfl) (show Try.f154.body = some (bodyOf Try.f154) by kernel_rfl) rfl rfl (Nat.le_of_ble_eq_true rfl) (f154_d _ n) (by intro x; kernel_rfl) 

def f189_L4B {α : Type} (n : Nat) (s0 s1 : LI) (s6 s7 : Int) (b9 : LI) (f : LI → LI → Int → Int → LI → Option α) (k0 : LI → Option α) : Option α :=
 bif (decide (s7 < (s0.length : Int))) then
  gd (decide (0 ≤ s7) && decide (s7 < (s0.length : Int))) (
   let J_3 := fun (y_1 : Int) => (
    ob (f175 n (decide (y_1 < 0))) fun r_2 =>
    gd (decide ((b9.length + 1) * 8 ≤ 140737488355328)) (
     f s0 s1 r_2 (W (s7 + 1)) (b9 ++ [(W (y_1 + (W (r_2 * 10000))))])))
   bif (decide (s7 < (s1.length : Int))) then
    gd (decide (0 ≤ s7) && decide (s7 < (s1.length : Int))) (
     J_3 (W ((W ((s0.getD s7.toNat 0) - s6)) - (s1.getD s7.toNat 0))))
   else
    J_3 (W ((s0.getD s7.toNat 0) - s6)))
 else
  k0 b9
abbrev f189_L4H : Tm := ⟨[(0, .d hIs), (1, .d hIs), (5, .k (.hw 9)), (6, .d hI), (7, .d hI)], [(9, .arr 3 hI false)], [40], []⟩
abbrev f189_L4X0 : Tm := ⟨[(5, .k (.hw 9))], [(9, .arr 3 hI false)], [], []⟩
abbrev f189_L4O : List (Exit × Tm) := [(.exit 0, f189_L4X0)]
def f189_L4U {α : Type} (n : Nat) (v : f189_L4H.den) (f : f189_L4H.den → Option α) (ks : KS α f189_L4O) : Option α := f189_L4B n v.1.1 v.1.2.1 v.1.2.2.2.1 v.1.2.2.2.2.1 v.2.1 (fun s0 s1 s6 s7 b9 => f ((s0, s1, (), s6, s7, ()), (b9, ()))) (fun w0 => ks.1 (((), ()), (w0, ())))
def f189_L4 {α : Type} (n m : Nat) (s0 s1 : LI) (s6 s7 : Int) (b9 : LI) (k0 : LI → Option α) : Option α := rounds (f189_L4U n) m ((s0, s1, (), s6, s7, ()), (b9, ())) (fun w => k0 w.2.1, ())
theorem f189_L4_0 {α n s0 s1 s6 s7 b9 k0} : f189_L4 (α := α) n 0 s0 s1 s6 s7 b9 k0 = none := rfl
theorem f189_L4_s {α n m s0 s1 s6 s7 b9 k0} : f189_L4 (α := α) n (m + 1) s0 s1 s6 s7 b9 k0 = f189_L4B n s0 s1 s6 s7 b9 (fun s0 s1 s6 s7 b9 => f189_L4 n m s0 s1 s6 s7 b9 k0) k0 := rfl
abbrev f189_J9 : Tm := ⟨[(0, .d hIs), (1, .d hIs), (5, .k (.hw 9)), (7, .d hI), (8, .d hI)], [(9, .arr 3 hI false)], [], []⟩
def f189 (n : Nat) (a0 a1 : LI) : Option LI :=
 f189_L4 n n a0 a1 0 0 []
  (fun z_4 => (
   ob (f185 n z_4) fun r_5 =>
   some r_5))
def f189_E (n : Nat) : Ent := ⟨189, [hIs, hIs], [hIs], fun x => f189 n x.1 x.2⟩
def f189_D (α : Type) (n : Nat) : D3 α := { reg := [(1, ⟨0, [], [(0, { sh := some hI })]⟩), (9, ⟨0, [], [(2, { ent := some (f175_E n) })]⟩), (10, ⟨0, [], [(5, { sh := some hI })]⟩), (11, ⟨0, [], [(1, { ent := some (f185_E n), fz := [(42, hIs)] })]⟩)], join := [(9, f189_J9)], loop := [(4, ⟨f189_L4H, f189_L4O, rounds (f189_L4U n) n⟩)] }
theorem f189_ents (α : Type) (n : Nat) : AllS Try.prog (entsOf (f189_D α n).reg) := ⟨f175_ok n, f185_ok n, trivial⟩
theorem f189_L4_d (α : Type) (n : Nat) : D3.OK Try.prog (tyOf Try.prog) ⟨44, []⟩ (f189_D α n) ((bodyOf Try.f189).at [1, 1, 1, 0, 1, 0, 0]) :=
 D3.OK.mk3 (f189_ents α n) (show loopsOf ((bodyOf Try.f189).at [1, 1, 1, 0, 1, 0, 0]) = [] by kernel_rfl) trivial
theorem f189_L4_ok (α : Type) (n : Nat) : LO.Sound (α := α) Try.prog ⟨44, []⟩ ⟨f189_L4H, f189_L4O, rounds (f189_L4U n) n⟩ (.loop ((bodyOf Try.f189).at [1, 1, 1, 0, 1, 0, 0])) :=
 loop_ok (tyOf_ok _) prog_fol (f189_L4U n) (f189_L4_d α n) (by intro v f ks; kernel_rfl) n
theorem f189_d (α : Type) (n : Nat) : D3.OK Try.prog (tyOf Try.prog) ⟨44, []⟩ (f189_D α n) (bodyOf Try.f189) :=
 D3.OK.mk3 (f189_ents α n) (show loopsOf (bodyOf Try.f189) = [(4, (.loop ((bodyOf Try.f189).at [1, 1, 1, 0, 1, 0, 0])))] by kernel_rfl) ⟨look_sound rfl (f189_L4_ok α n), trivial⟩
theorem f189_ok (n : Nat) : (f189_E n).Sound Try.prog :=
 fn_ok (tyOf_ok _) prog_fol (f189_D _ n) (show Try.prog.funcs[189]? = some Try.f189 by kernel_rfl) (by kernel_rfl) (show Try.f189.body = some (bodyOf Try.f189) by kernel_rfl) rfl rfl (Nat.le_of_ble_eq_true rfl) (f189_d _ n) (by intro x; kernel_rfl) 

def f176_L10B {α : Type} (n : Nat) (s0 s1 s7 : LI) (s8 s9 s10 : Int) (b14 : LI) (f : LI → LI → LI → Int → Int → Int → LI → Option α) (k0 : LI → LI → LI → Int → Int → LI → Option α) : Option α :=
 bif (decide ((W (s10 - s9)) > 1)) then
  ob (f190 n (W (Int.tdiv (W (s9 + s10)) 2))) fun r_3 =>
  ob (f154 n s1 r_3) fun r_4 =>
  ob (f127 n r_4 s7) fun r_5 =>
  bif (decide (r_5 ≤ 0)) then
   f s0 s1 s7 s8 (W (Int.tdiv (W (s9 + s10)) 2)) s10 b14
  else
   f s0 s1 s7 s8 s9 (W (Int.tdiv (W (s9 + s10)) 2)) b14
 else
  k0 s0 s1 s7 s8 s9 b14
abbrev f176_L10H : Tm := ⟨[(0, .d hIs), (1, .d hIs), (6, .k (.hw 14)), (7, .d hIs), (8, .d hI), (9, .d hI), (10, .d hI)], [(14, .arr 3 hI false)], [27], []⟩
abbrev f176_L10X0 : Tm := ⟨[(0, .d hIs), (1, .d hIs), (6, .k (.hw 14)), (7, .d hIs), (8, .d hI), (9, .d hI)], [(14, .arr 3 hI false)], [], []⟩
abbrev f176_L10O : List (Exit × Tm) := [(.exit 2, f176_L10X0)]
def f176_L10U {α : Type} (n : Nat) (v : f176_L10H.den) (f : f176_L10H.den → Option α) (ks : KS α f176_L10O) : Option α := f176_L10B n v.1.1 v.1.2.1 v.1.2.2.2.1 v.1.2.2.2.2.1 v.1.2.2.2.2.2.1 v.1.2.2.2.2.2.2.1 v.2.1 (fun s0 s1 s7 s8 s9 s10 b14 => f ((s0, s1, (), s7, s8, s9, s10, ()), (b14, ()))) (fun w0 w1 w2 w3 w4 w5 => ks.1 ((w0, w1, (), w2, w3, w4, ()), (w5, ())))
def f176_L10 {α : Type} (n m : Nat) (s0 s1 s7 : LI) (s8 s9 s10 : Int) (b14 : LI) (k0 : LI → LI → LI → Int → Int → LI → Option α) : Option α := rounds (f176_L10U n) m ((s0, s1, (), s7, s8, s9, s10, ()), (b14, ())) (fun w => k0 w.1.1 w.1.2.1 w.1.2.2.2.1 w.1.2.2.2.2.1 w.1.2.2.2.2.2.1 w.2.1, ())
theorem f176_L10_0 {α n s0 s1 s7 s8 s9 s10 b14 k0} : f176_L10 (α := α) n 0 s0 s1 s7 s8 s9 s10 b14 k0 = none := rfl
theorem f176_L10_s {α n m s0 s1 s7 s8 s9 s10 b14 k0} : f176_L10 (α := α) n (m + 1) s0 s1 s7 s8 s9 s10 b14 k0 = f176_L10B n s0 s1 s7 s8 s9 s10 b14 (fun s0 s1 s7 s8 s9 s10 b14 => f176_L10 n m s0 s1 s7 s8 s9 s10 b14 k0) k0 := rfl
def f176_L4B {α : Type} (n : Nat) (s0 s1 s7 : LI) (s8 : Int) (b14 : LI) (f : LI → LI → LI → Int → LI → Option α) (k0 : LI → LI → Option α) : Option α :=
 bif (decide (s8 ≥ 0)) then
  gd (decide (0 ≤ s8) && decide (s8 < (s0.length : Int))) (
   gd (decide ((1 + s7.length) * 8 ≤ 140737488355328)) (
    ob (f185 n ([(s0.getD s8.toNat 0)] ++ s7)) fun r_1 =>
    ob (f127 n r_1 s1) fun r_2 =>
    bif (decide (r_2 < 0)) then
     f s0 s1 r_1 (W (s8 - 1)) b14
    else
     f176_L10 n n s0 s1 r_1 s8 0 10000 b14
      (fun z_3 z_4 z_5 z_6 z_7 z_8 => (
       gd (decide (0 ≤ z_6) && decide (z_6 < (z_8.length : Int))) (
        gd (decide (z_6.toNat < z_8.length)) (
         ob (f190 n z_7) fun r_9 =>
         ob (f154 n z_4 r_9) fun r_10 =>
         ob (f189 n z_5 r_10) fun r_11 =>
         f z_3 z_4 r_11 (W (z_6 - 1)) (z_8.set z_6.toNat z_7)))))))
 else
  k0 s7 b14
abbrev f176_L4H : Tm := ⟨[(0, .d hIs), (1, .d hIs), (6, .k (.hw 14)), (7, .d hIs), (8, .d hI)], [(14, .arr 3 hI false)], [15, 27], [(7, hIs)]⟩
abbrev f176_L4X0 : Tm := ⟨[(6, .k (.hw 14)), (7, .d hIs)], [(14, .arr 3 hI false)], [], []⟩
abbrev f176_L4O : List (Exit × Tm) := [(.exit 0, f176_L4X0)]
def f176_L4U {α : Type} (n : Nat) (v : f176_L4H.den) (f : f176_L4H.den → Option α) (ks : KS α f176_L4O) : Option α := f176_L4B n v.1.1 v.1.2.1 v.1.2.2.2.1 v.1.2.2.2.2.1 v.2.1 (fun s0 s1 s7 s8 b14 => f ((s0, s1, (), s7, s8, ()), (b14, ()))) (fun w0 w1 => ks.1 (((), w0, ()), (w1, ())))
def f176_L4 {α : Type} (n m : Nat) (s0 s1 s7 : LI) (s8 : Int) (b14 : LI) (k0 : LI → LI → Option α) : Option α := rounds (f176_L4U n) m ((s0, s1, (), s7, s8, ()), (b14, ())) (fun w => k0 w.1.2.1 w.2.1, ())
theorem f176_L4_0 {α n s0 s1 s7 s8 b14 k0} : f176_L4 (α := α) n 0 s0 s1 s7 s8 b14 k0 = none := rfl
theorem f176_L4_s {α n m s0 s1 s7 s8 b14 k0} : f176_L4 (α := α) n (m + 1) s0 s1 s7 s8 b14 k0 = f176_L4B n s0 s1 s7 s8 b14 (fun s0 s1 s7 s8 b14 => f176_L4 n m s0 s1 s7 s8 b14 k0) k0 := rfl
def f176 (n : Nat) (a0 a1 : LI) : Option (LI × LI) :=
 gd (decide (0 ≤ (a0.length : Int)) && decide ((a0.length : Int) ≤ 4611686018427387904) && decide ((8 : Int) * (a0.length : Int) ≤ 281474976710656)) (
  f176_L4 n n a0 a1 [] (W ((a0.length : Int) - 1)) (List.replicate ((a0.length : Int).toNat) 0)
   (fun z_12 z_13 => (
    ob (f185 n z_13) fun r_14 =>
    some (r_14, z_12))))
def f176_E (n : Nat) : Ent := ⟨176, [hIs, hIs], [hIs, hIs], fun x => f176 n x.1 x.2⟩
def f176_D (α : Type) (n : Nat) : D3 α := { reg := [(2, ⟨0, [], [(0, { sh := some hI })]⟩), (6, ⟨0, [], [(4, { sh := some hI }), (7, { ent := some (f185_E n), fz := [(29, hIs)] })]⟩), (7, ⟨0, [], [(2, { ent := some (f127_E n) })]⟩), (12, ⟨0, [], [(2, { ent := some (f190_E n) }), (3, { ent := some (f154_E n) }), (5, { ent := some (f127_E n) })]⟩), (16, ⟨0, [], [(3, { ent := some (f190_E n) }), (4, { ent := some (f154_E n) }), (5, { ent := some (f189_E n) })]⟩), (17, ⟨0, [], [(1, { ent := some (f185_E n), fz := [(62, hIs)] })]⟩)], join := [], loop := [(10, ⟨f176_L10H, f176_L10O, rounds (f176_L10U n) n⟩), (4, ⟨f176_L4H, f176_L4O, rounds (f176_L4U n) n⟩)] }
theorem f176_ents (α : Type) (n : Nat) : AllS Try.prog (entsOf (f176_D α n).reg) := ⟨f185_ok n, f127_ok n, f190_ok n, f154_ok n, f127_ok n, f190_ok n, f154_ok n, f189_ok n, f185_ok n, trivial⟩
theorem f176_L10_d (α : Type) (n : Nat) : D3.OK Try.prog (tyOf Try.prog) ⟨65, []⟩ (f176_D α n) ((bodyOf Try.f176).at [1, 1, 1, 0, 1, 0, 0, 1, 0, 0, 1, 1, 1, 1, 0, 0, 0]) :=
 D3.OK.mk3 (f176_ents α n) (show loopsOf ((bodyOf Try.f176).at [1, 1, 1, 0, 1, 0, 0, 1, 0, 0, 1, 1, 1, 1, 0, 0, 0]) = [] by kernel_rfl) trivial
theorem f176_L10_ok (α : Type) (n : Nat) : LO.Sound (α := α) Try.prog ⟨65, []⟩ ⟨f176_L10H, f176_L10O, rounds (f176_L10U n) n⟩ (.loop ((bodyOf Try.f176).at [1, 1, 1, 0, 1, 0, 0, 1, 0, 0, 1, 1, 1, 1, 0, 0, 0])) :=
 loop_ok (tyOf_ok _) prog_fol (f176_L10U n) (f176_L10_d α n) (by intro v f ks; kernel_rfl) n
theorem f176_L4_d (α : Type) (n : Nat) : D3.OK Try.prog (tyOf Try.prog) ⟨65, []⟩ (f176_D α n) ((bodyOf Try.f176).at [1, 1, 1, 0, 1, 0, 0]) :=
 D3.OK.mk3 (f176_ents α n) (show loopsOf ((bodyOf Try.f176).at [1, 1, 1, 0, 1, 0, 0]) = [(10, (.loop ((bodyOf Try.f176).at [1, 1, 1, 0, 1, 0, 0, 1, 0, 0, 1, 1, 1, 1, 0, 0, 0])))] by kernel_rfl) ⟨look_sound rfl (f176_L10_ok α n), trivial⟩
theorem f176_L4_ok (α : Type) (n : Nat) : LO.Sound (α := α) Try.prog ⟨65, []⟩ ⟨f176_L4H, f176_L4O, rounds (f176_L4U n) n⟩ (.loop ((bodyOf Try.f176).at [1, 1, 1, 0, 1, 0, 0])) :=
 loop_ok (tyOf_ok _) prog_fol (f176_L4U n) (f176_L4_d α n) (by intro v f ks; kernel_rfl) n
theorem f176_d (α : Type) (n : Nat) : D3.OK Try.prog (tyOf Try.prog) ⟨65, []⟩ (f176_D α n) (bodyOf Try.f176) :=
 D3.OK.mk3 (f176_ents α n) (show loopsOf (bodyOf Try.f176) = [(4, (.loop ((bodyOf Try.f176).at [1, 1, 1, 0, 1, 0, 0])))] by kernel_rfl) ⟨look_sound rfl (f176_L4_ok α n), trivial⟩
theorem f176_ok (n : Nat) : (f176_E n).Sound Try.prog :=
 fn_ok (tyOf_ok _) prog_fol (f176_D _ n) (show Try.prog.funcs[176]? = some Try.f176 by kernel_rfl) (by kernel_rfl) (show Try.f176.body = some (bodyOf Try.f176) by kernel_rfl) rfl rfl (Nat.le_of_ble_eq_true rfl) (f176_d _ n) (by intro x; kernel_rfl) 

def f128_L1B {α : Type} (n : Nat) (s0 s1 : LI) (f : LI → LI → Option α) (k0 : LI → Option α) : Option α :=
 bif (decide ((s1.length : Int) > 0)) then
  ob (f176 n s0 s1) fun r_1 =>
  f s1 r_1.2
 else
  k0 s0
abbrev f128_L1H : Tm := ⟨[(0, .d hIs), (1, .d hIs)], [], [], []⟩
abbrev f128_L1X0 : Tm := ⟨[(0, .d hIs)], [], [], []⟩
abbrev f128_L1O : List (Exit × Tm) := [(.exit 0, f128_L1X0)]
def f128_L1U {α : Type} (n : Nat) (v : f128_L1H.den) (f : f128_L1H.den → Option α) (ks : KS α f128_L1O) : Option α := f128_L1B n v.1.1 v.1.2.1 (fun s0 s1 => f ((s0, s1, ()), ())) (fun w0 => ks.1 ((w0, ()), ()))
def f128_L1 {α : Type} (n m : Nat) (s0 s1 : LI) (k0 : LI → Option α) : Option α := rounds (f128_L1U n) m ((s0, s1, ()), ()) (fun w => k0 w.1.1, ())
theorem f128_L1_0 {α n s0 s1 k0} : f128_L1 (α := α) n 0 s0 s1 k0 = none := rfl
theorem f128_L1_s {α n m s0 s1 k0} : f128_L1 (α := α) n (m + 1) s0 s1 k0 = f128_L1B n s0 s1 (fun s0 s1 => f128_L1 n m s0 s1 k0) k0 := rfl
def f128 (n : Nat) (a0 a1 : LI) : Option LI :=
 f128_L1 n n a0 a1
  (fun z_2 => (
   gd (decide ((0 + z_2.length) * 8 ≤ 140737488355328)) (
    some z_2)))
def f128_E (n : Nat) : Ent := ⟨128, [hIs, hIs], [hIs], fun x => f128 n x.1 x.2⟩
def f128_D (α : Type) (n : Nat) : D3 α := { reg := [(2, ⟨0, [], [(2, { ent := some (f176_E n) })]⟩), (5, ⟨0, [], [(0, { sh := some hI })]⟩)], join := [], loop := [(1, ⟨f128_L1H, f128_L1O, rounds (f128_L1U n) n⟩)] }
theorem f128_ents (α : Type) (n : Nat) : AllS Try.prog (entsOf (f128_D α n).reg) := ⟨f176_ok n, trivial⟩
theorem f128_L1_d (α : Type) (n : Nat) : D3.OK Try.prog (tyOf Try.prog) ⟨21, []⟩ (f128_D α n) ((bodyOf Try.f128).at [1, 0, 0, 0]) :=
 D3.OK.mk3 (f128_ents α n) (show loopsOf ((bodyOf Try.f128).at [1, 0, 0, 0]) = [] by kernel_rfl) trivial
theorem f128_L1_ok (α : Type) (n : Nat) : LO.Sound (α := α) Try.prog ⟨21, []⟩ ⟨f128_L1H, f128_L1O, rounds (f128_L1U n) n⟩ (.loop ((bodyOf Try.f128).at [1, 0, 0, 0])) :=
 loop_ok (tyOf_ok _) prog_fol (f128_L1U n) (f128_L1_d α n) (by intro v f ks; kernel_rfl) n
theorem f128_d (α : Type) (n : Nat) : D3.OK Try.prog (tyOf Try.prog) ⟨21, []⟩ (f128_D α n) (bodyOf Try.f128) :=
 D3.OK.mk3 (f128_ents α n) (show loopsOf (bodyOf Try.f128) = [(1, (.loop ((bodyOf Try.f128).at [1, 0, 0, 0])))] by kernel_rfl) ⟨look_sound rfl (f128_L1_ok α n), trivial⟩
theorem f128_ok (n : Nat) : (f128_E n).Sound Try.prog :=
 fn_ok (tyOf_ok _) prog_fol (f128_D _ n) (show Try.prog.funcs[128]? = some Try.f128 by kernel_rfl) (by kernel_rfl) (show Try.f128.body = some (bodyOf Try.f128) by kernel_rfl) rfl rfl (Nat.le_of_ble_eq_true rfl) (f128_d _ n) (by intro x; kernel_rfl) 

abbrev f66_J3 : Tm := ⟨[(1, .k (.hp 1 0 0))], [(1, .var 33 true false [.d .bool, .d hIs, .d hIs])], [], []⟩
def f66 (n : Nat) (a0 : Rq) : Option Bool :=
 let J_5 := fun (_ : Unit) => (
  ob (f128 n a0.2.1 a0.2.2) fun r_3 =>
  ob (f127 n r_3 [1]) fun r_4 =>
  some (r_4 == 0))
 ob (f126 n a0.2.1) fun r_1 =>
 bif (!r_1) then
  some false
 else
  ob (f126 n a0.2.2) fun r_2 =>
  bif (!r_2) then
   some false
  else
   bif ((a0.2.2.length : Int) == 0) then
    some false
   else
    bif ((a0.2.1.length : Int) == 0) then
     bif a0.1 then
      some false
     else
      J_5 ()
    else
     J_5 ()
def f66_E (n : Nat) : Ent := ⟨66, [hR], [.bool], fun x => f66 n x⟩
def f66_D (α : Type) (n : Nat) : D3 α := { reg := [(1, ⟨0, [], [(2, { ent := some (f126_E n) }), (7, { ent := some (f126_E n) })]⟩), (3, ⟨0, [], [(4, { ent := some (f128_E n) }), (5, { sh := some hI }), (6, { ent := some (f127_E n) })]⟩)], join := [(3, f66_J3)], loop := [] }
theorem f66_ents (α : Type) (n : Nat) : AllS Try.prog (entsOf (f66_D α n).reg) := ⟨f126_ok n, f126_ok n, f128_ok n, f127_ok n, trivial⟩
theorem f66_d (α : Type) (n : Nat) : D3.OK Try.prog (tyOf Try.prog) ⟨37, []⟩ (f66_D α n) (bodyOf Try.f66) :=
 D3.OK.mk3 (f66_ents α n) (show loopsOf (bodyOf Try.f66) = [] by kernel_rfl) trivial
theorem f66_ok (n : Nat) : (f66_E n).Sound Try.prog :=
 fn_ok (tyOf_ok _) prog_fol (f66_D _ n) (show Try.prog.funcs[66]? = some Try.f66 by kernel_rfl) (by kernel_rfl) (show Try.f66.body = some (bodyOf Try.f66) by kernel_rfl) rfl rfl (Nat.le_of_ble_eq_true rfl) (f66_d _ n) (by intro x; kernel_rfl) 

def f16_L6B {α : Type} (n : Nat) (s0 : LR) (s5 : Int) (f : LR → Int → Option α) (k0 : Bool → Option α) (k1 : Unit → Option α) : Option α :=
 bif (decide (s5 < (s0.length : Int))) then
  gd (decide (0 ≤ s5) && decide (s5 < (s0.length : Int))) (
   let x_2 := s0.getD s5.toNat (false, [], [])
   ob (f66 n x_2) fun r_3 =>
   bif (!r_3) then
    k0 false
   else
    f s0 (W (s5 + 1)))
 else
  k1 ()
abbrev f16_L6H : Tm := ⟨[(0, .d hRs), (5, .d hI)], [], [], []⟩
abbrev f16_L6X0 : Tm := ⟨[(4, .d .bool)], [], [], []⟩
abbrev f16_L6X1 : Tm := ⟨[], [], [], []⟩
abbrev f16_L6O : List (Exit × Tm) := [(.ret, f16_L6X0), (.exit 0, f16_L6X1)]
def f16_L6U {α : Type} (n : Nat) (v : f16_L6H.den) (f : f16_L6H.den → Option α) (ks : KS α f16_L6O) : Option α := f16_L6B n v.1.1 v.1.2.1 (fun s0 s5 => f ((s0, s5, ()), ())) (fun w0 => ks.1 ((w0, ()), ())) (fun _ => ks.2.1 ((), ()))
def f16_L6 {α : Type} (n m : Nat) (s0 : LR) (s5 : Int) (k0 : Bool → Option α) (k1 : Unit → Option α) : Option α := rounds (f16_L6U n) m ((s0, s5, ()), ()) (fun w => k0 w.1.1, fun w => k1 (), ())
theorem f16_L6_0 {α n s0 s5 k0 k1} : f16_L6 (α := α) n 0 s0 s5 k0 k1 = none := rfl
theorem f16_L6_s {α n m s0 s5 k0 k1} : f16_L6 (α := α) n (m + 1) s0 s5 k0 k1 = f16_L6B n s0 s5 (fun s0 s5 => f16_L6 n m s0 s5 k0 k1) k0 k1 := rfl
def f16 (n : Nat) (a0 : LR) (a1 : Int) : Option Bool :=
 bif (decide ((a0.length : Int) > 4096)) then
  some false
 else
  ob (f65 n a1 1 4) fun r_1 =>
  bif (!r_1) then
   some false
  else
   bif ((a0.length : Int) != (W (a1 * a1))) then
    some false
   else
    f16_L6 n n a0 0
     (fun z_4 => (
      some z_4))
     (fun (_ : Unit) => (
      some true))
def f16_E (n : Nat) : Ent := ⟨16, [hRs, hI], [.bool], fun x => f16 n x.1 x.2⟩
def f16_D (α : Type) (n : Nat) : D3 α := { reg := [(3, ⟨0, [], [(1, { ent := some (f65_E n) })]⟩), (8, ⟨0, [], [(4, { ent := some (f66_E n) })]⟩)], join := [], loop := [(6, ⟨f16_L6H, f16_L6O, rounds (f16_L6U n) n⟩)] }
theorem f16_ents (α : Type) (n : Nat) : AllS Try.prog (entsOf (f16_D α n).reg) := ⟨f65_ok n, f66_ok n, trivial⟩
theorem f16_L6_d (α : Type) (n : Nat) : D3.OK Try.prog (tyOf Try.prog) ⟨32, []⟩ (f16_D α n) ((bodyOf Try.f16).at [1, 1, 1, 0, 1, 0, 0]) :=
 D3.OK.mk3 (f16_ents α n) (show loopsOf ((bodyOf Try.f16).at [1, 1, 1, 0, 1, 0, 0]) = [] by kernel_rfl) trivial
theorem f16_L6_ok (α : Type) (n : Nat) : LO.Sound (α := α) Try.prog ⟨32, []⟩ ⟨f16_L6H, f16_L6O, rounds (f16_L6U n) n⟩ (.loop ((bodyOf Try.f16).at [1, 1, 1, 0, 1, 0, 0])) :=
 loop_ok (tyOf_ok _) prog_fol (f16_L6U n) (f16_L6_d α n) (by intro v f ks; kernel_rfl) n
theorem f16_d (α : Type) (n : Nat) : D3.OK Try.prog (tyOf Try.prog) ⟨32, []⟩ (f16_D α n) (bodyOf Try.f16) :=
 D3.OK.mk3 (f16_ents α n) (show loopsOf (bodyOf Try.f16) = [(6, (.loop ((bodyOf Try.f16).at [1, 1, 1, 0, 1, 0, 0])))] by kernel_rfl) ⟨look_sound rfl (f16_L6_ok α n), trivial⟩
theorem f16_ok (n : Nat) : (f16_E n).Sound Try.prog :=
 fn_ok (tyOf_ok _) prog_fol (f16_D _ n) (show Try.prog.funcs[16]? = some Try.f16 by kernel_rfl) (by kernel_rfl) (show Try.f16.body = some (bodyOf Try.f16) by kernel_rfl) rfl rfl (Nat.le_of_ble_eq_true rfl) (f16_d _ n) (by intro x; kernel_rfl) 

def f80_L6B {α : Type} (n : Nat) (s0 : LR) (s1 s6 s7 : Int) (b8 : LR) (f : LR → Int → Int → Int → LR → Option α) (k0 : LR → Int → Int → LR → Option α) : Option α :=
 bif (decide (s7 < s1)) then
  gd (decide (0 ≤ (W ((W (s7 * s1)) + s6))) && decide ((W ((W (s7 * s1)) + s6)) < (s0.length : Int))) (
   let x_1 := s0.getD ((W ((W (s7 * s1)) + s6)).toNat) (false, [], [])
   gd (decide ((b8.length + 1) * 56 ≤ 140737488355328)) (
    f s0 s1 s6 (W (s7 + 1)) (b8 ++ [x_1])))
 else
  k0 s0 s1 s6 b8
abbrev f80_L6H : Tm := ⟨[(0, .d hRs), (1, .d hI), (5, .k (.hw 8)), (6, .d hI), (7, .d hI)], [(8, .arr 33 hR false)], [28], []⟩
abbrev f80_L6X0 : Tm := ⟨[(0, .d hRs), (1, .d hI), (5, .k (.hw 8)), (6, .d hI)], [(8, .arr 33 hR false)], [], []⟩
abbrev f80_L6O : List (Exit × Tm) := [(.exit 2, f80_L6X0)]
def f80_L6U {α : Type} (n : Nat) (v : f80_L6H.den) (f : f80_L6H.den → Option α) (ks : KS α f80_L6O) : Option α := f80_L6B n v.1.1 v.1.2.1 v.1.2.2.2.1 v.1.2.2.2.2.1 v.2.1 (fun s0 s1 s6 s7 b8 => f ((s0, s1, (), s6, s7, ()), (b8, ()))) (fun w0 w1 w2 w3 => ks.1 ((w0, w1, (), w2, ()), (w3, ())))
def f80_L6 {α : Type} (n m : Nat) (s0 : LR) (s1 s6 s7 : Int) (b8 : LR) (k0 : LR → Int → Int → LR → Option α) : Option α := rounds (f80_L6U n) m ((s0, s1, (), s6, s7, ()), (b8, ())) (fun w => k0 w.1.1 w.1.2.1 w.1.2.2.2.1 w.2.1, ())
theorem f80_L6_0 {α n s0 s1 s6 s7 b8 k0} : f80_L6 (α := α) n 0 s0 s1 s6 s7 b8 k0 = none := rfl
theorem f80_L6_s {α n m s0 s1 s6 s7 b8 k0} : f80_L6 (α := α) n (m + 1) s0 s1 s6 s7 b8 k0 = f80_L6B n s0 s1 s6 s7 b8 (fun s0 s1 s6 s7 b8 => f80_L6 n m s0 s1 s6 s7 b8 k0) k0 := rfl
def f80_L3B {α : Type} (n : Nat) (s0 : LR) (s1 s6 : Int) (b8 : LR) (f : LR → Int → Int → LR → Option α) (k0 : LR → Option α) : Option α :=
 bif (decide (s6 < s1)) then
  f80_L6 n n s0 s1 s6 0 b8
   (fun z_1 z_2 z_3 z_4 => (
    f z_1 z_2 (W (z_3 + 1)) z_4))
 else
  k0 b8
abbrev f80_L3H : Tm := ⟨[(0, .d hRs), (1, .d hI), (5, .k (.hw 8)), (6, .d hI)], [(8, .arr 33 hR false)], [], []⟩
abbrev f80_L3X0 : Tm := ⟨[(5, .k (.hw 8))], [(8, .arr 33 hR false)], [], []⟩
abbrev f80_L3O : List (Exit × Tm) := [(.exit 0, f80_L3X0)]
def f80_L3U {α : Type} (n : Nat) (v : f80_L3H.den) (f : f80_L3H.den → Option α) (ks : KS α f80_L3O) : Option α := f80_L3B n v.1.1 v.1.2.1 v.1.2.2.2.1 v.2.1 (fun s0 s1 s6 b8 => f ((s0, s1, (), s6, ()), (b8, ()))) (fun w0 => ks.1 (((), ()), (w0, ())))
def f80_L3 {α : Type} (n m : Nat) (s0 : LR) (s1 s6 : Int) (b8 : LR) (k0 : LR → Option α) : Option α := rounds (f80_L3U n) m ((s0, s1, (), s6, ()), (b8, ())) (fun w => k0 w.2.1, ())
theorem f80_L3_0 {α n s0 s1 s6 b8 k0} : f80_L3 (α := α) n 0 s0 s1 s6 b8 k0 = none := rfl
theorem f80_L3_s {α n m s0 s1 s6 b8 k0} : f80_L3 (α := α) n (m + 1) s0 s1 s6 b8 k0 = f80_L3B n s0 s1 s6 b8 (fun s0 s1 s6 b8 => f80_L3 n m s0 s1 s6 b8 k0) k0 := rfl
def f80 (n : Nat) (a0 : LR) (a1 : Int) : Option LR :=
 f80_L3 n n a0 a1 0 []
  (fun z_5 => (
   some z_5))
def f80_E (n : Nat) : Ent := ⟨80, [hRs, hI], [hRs], fun x => f80 n x.1 x.2⟩
def f80_D (α : Type) (n : Nat) : D3 α := { reg := [(1, ⟨0, [], [(0, { sh := some hR })]⟩), (8, ⟨0, [], [(9, { sh := some hR })]⟩)], join := [], loop := [(6, ⟨f80_L6H, f80_L6O, rounds (f80_L6U n) n⟩), (3, ⟨f80_L3H, f80_L3O, rounds (f80_L3U n) n⟩)] }
theorem f80_ents (α : Type) (n : Nat) : AllS Try.prog (entsOf (f80_D α n).reg) := trivial
theorem f80_L6_d (α : Type) (n : Nat) : D3.OK Try.prog (tyOf Try.prog) ⟨31, []⟩ (f80_D α n) ((bodyOf Try.f80).at [1, 1, 0, 1, 0, 0, 1, 0, 0, 1, 0, 0]) :=
 D3.OK.mk3 (f80_ents α n) (show loopsOf ((bodyOf Try.f80).at [1, 1, 0, 1, 0, 0, 1, 0, 0, 1, 0, 0]) = [] by kernel_rfl) trivial
theorem f80_L6_ok (α : Type) (n : Nat) : LO.Sound (α := α) Try.prog ⟨31, []⟩ ⟨f80_L6H, f80_L6O, rounds (f80_L6U n) n⟩ (.loop ((bodyOf Try.f80).at [1, 1, 0, 1, 0, 0, 1, 0, 0, 1, 0, 0])) :=
 loop_ok (tyOf_ok _) prog_fol (f80_L6U n) (f80_L6_d α n) (by intro v f ks; kernel_rfl) n
theorem f80_L3_d (α : Type) (n : Nat) : D3.OK Try.prog (tyOf Try.prog) ⟨31, []⟩ (f80_D α n) ((bodyOf Try.f80).at [1, 1, 0, 1, 0, 0]) :=
 D3.OK.mk3 (f80_ents α n) (show loopsOf ((bodyOf Try.f80).at [1, 1, 0, 1, 0, 0]) = [(6, (.loop ((bodyOf Try.f80).at [1, 1, 0, 1, 0, 0, 1, 0, 0, 1, 0, 0])))] by kernel_rfl) ⟨look_sound rfl (f80_L6_ok α n), trivial⟩
theorem f80_L3_ok (α : Type) (n : Nat) : LO.Sound (α := α) Try.prog ⟨31, []⟩ ⟨f80_L3H, f80_L3O, rounds (f80_L3U n) n⟩ (.loop ((bodyOf Try.f80).at [1, 1, 0, 1, 0, 0])) :=
 loop_ok (tyOf_ok _) prog_fol (f80_L3U n) (f80_L3_d α n) (by intro v f ks; kernel_rfl) n
theorem f80_d (α : Type) (n : Nat) : D3.OK Try.prog (tyOf Try.prog) ⟨31, []⟩ (f80_D α n) (bodyOf Try.f80) :=
 D3.OK.mk3 (f80_ents α n) (show loopsOf (bodyOf Try.f80) = [(3, (.loop ((bodyOf Try.f80).at [1, 1, 0, 1, 0, 0])))] by kernel_rfl) ⟨look_sound rfl (f80_L3_ok α n), trivial⟩
theorem f80_ok (n : Nat) : (f80_E n).Sound Try.prog :=
 fn_ok (tyOf_ok _) prog_fol (f80_D _ n) (show Try.prog.funcs[80]? = some Try.f80 by kernel_rfl) (by kernel_rfl) (show Try.f80.body = some (bodyOf Try.f80) by kernel_rfl) rfl rfl (Nat.le_of_ble_eq_true rfl) (f80_d _ n) (by intro x; kernel_rfl) 

def f159 (n : Nat) (a0 : Int) : Option Rq :=
 bif (decide (a0 < 0)) then
  ob (f190 n (W (0 - a0))) fun r_1 =>
  some (true, r_1, [1])
 else
  ob (f190 n a0) fun r_2 =>
  some (false, r_2, [1])
def f159_E (n : Nat) : Ent := ⟨159, [hI], [hR], fun x => f159 n x⟩
def f159_D (α : Type) (n : Nat) : D3 α := { reg := [(2, ⟨0, [], [(2, { ent := some (f190_E n) }), (3, { sh := some hI })]⟩), (3, ⟨0, [], [(1, { ent := some (f190_E n) }), (2, { sh := some hI })]⟩)], join := [], loop := [] }
theorem f159_ents (α : Type) (n : Nat) : AllS Try.prog (entsOf (f159_D α n).reg) := ⟨f190_ok n, f190_ok n, trivial⟩
theorem f159_d (α : Type) (n : Nat) : D3.OK Try.prog (tyOf Try.prog) ⟨14, []⟩ (f159_D α n) (bodyOf Try.f159) :=
 D3.OK.mk3 (f159_ents α n) (show loopsOf (bodyOf Try.f159) = [] by kernel_rfl) trivial
theorem f159_ok (n : Nat) : (f159_E n).Sound Try.prog :=
 fn_ok (tyOf_ok _) prog_fol (f159_D _ n) (show Try.prog.funcs[159]? = some Try.f159 by kernel_rfl) (by kernel_rfl) (show Try.f159.body = some (bodyOf Try.f159) by kernel_rfl) rfl rfl (Nat.le_of_ble_eq_true rfl) (f159_d _ n) (by intro x; kernel_rfl) 

def f146 (n : Nat) (a0 : Bool) (a1 a2 : LI) : Option Rq :=
 ob (f128 n a1 a2) fun r_1 =>
 ob (f176 n a1 r_1) fun r_2 =>
 ob (f176 n a2 r_1) fun r_3 =>
 bif a0 then
  some ((decide ((r_2.1.length : Int) > 0)), r_2.1, r_3.1)
 else
  some (false, r_2.1, r_3.1)
def f146_E (n : Nat) : Ent := ⟨146, [.bool, hIs, hIs], [hR], fun x => f146 n x.1 x.2.1 x.2.2⟩
def f146_D (α : Type) (n : Nat) : D3 α := { reg := [(1, ⟨0, [], [(2, { ent := some (f128_E n) })]⟩), (2, ⟨0, [], [(2, { ent := some (f176_E n) })]⟩), (3, ⟨0, [], [(2, { ent := some (f176_E n) })]⟩)], join := [], loop := [] }
theorem f146_ents (α : Type) (n : Nat) : AllS Try.prog (entsOf (f146_D α n).reg) := ⟨f128_ok n, f176_ok n, f176_ok n, trivial⟩
theorem f146_d (α : Type) (n : Nat) : D3.OK Try.prog (tyOf Try.prog) ⟨36, []⟩ (f146_D α n) (bodyOf Try.f146) :=
 D3.OK.mk3 (f146_ents α n) (show loopsOf (bodyOf Try.f146) = [] by kernel_rfl) trivial
theorem f146_ok (n : Nat) : (f146_E n).Sound Try.prog :=
 fn_ok (tyOf_ok _) prog_fol (f146_D _ n) (show Try.prog.funcs[146]? = some Try.f146 by kernel_rfl) (by kernel_rfl) (show Try.f146.body = some (bodyOf Try.f146) by kernel_rfl) rfl rfl (Nat.le_of_ble_eq_true rfl) (f146_d _ n) (by intro x; kernel_rfl) 

def f94 (n : Nat) (a0 a1 : Rq) : Option Rq :=
 ob (f154 n a0.2.1 a1.2.1) fun r_1 =>
 ob (f154 n a0.2.2 a1.2.2) fun r_2 =>
 ob (f146 n (!(a0.1 == a1.1)) r_1 r_2) fun r_3 =>
 some r_3
def f94_E (n : Nat) : Ent := ⟨94, [hR, hR], [hR], fun x => f94 n x.1 x.2⟩
def f94_D (α : Type) (n : Nat) : D3 α := { reg := [(1, ⟨15, [], [(9, { ent := some (f154_E n) }), (14, { ent := some (f154_E n) }), (15, { ent := some (f146_E n) })]⟩)], join := [], loop := [] }
theorem f94_ents (α : Type) (n : Nat) : AllS Try.prog (entsOf (f94_D α n).reg) := ⟨f154_ok n, f154_ok n, f146_ok n, trivial⟩
theorem f94_d (α : Type) (n : Nat) : D3.OK Try.prog (tyOf Try.prog) ⟨21, []⟩ (f94_D α n) (bodyOf Try.f94) :=
 D3.OK.mk3 (f94_ents α n) (show loopsOf (bodyOf Try.f94) = [] by kernel_rfl) trivial
theorem f94_ok (n : Nat) : (f94_E n).Sound Try.prog :=
 fn_ok (tyOf_ok _) prog_fol (f94_D _ n) (show Try.prog.funcs[94]? = some Try.f94 by kernel_rfl) (by kernel_rfl) (show Try.f94.body = some (bodyOf Try.f94) by kernel_rfl) rfl rfl (Nat.le_of_ble_eq_true rfl) (f94_d _ n) (by intro x; kernel_rfl) 

def f188_L4B {α : Type} (n : Nat) (s0 s1 : LI) (s6 s7 : Int) (b8 : LI) (f : LI → LI → Int → Int → LI → Option α) (k0 : LI → Option α) : Option α :=
 let J_5 := fun (_ : Unit) => (
  let J_4 := fun (y_1 : Int) => (
   let J_3 := fun (y_2 : Int) => (
    gd (decide ((b8.length + 1) * 8 ≤ 140737488355328)) (
     f s0 s1 (W (Int.tdiv y_2 10000)) (W (s7 + 1)) (b8 ++ [(Int.tmod y_2 10000)])))
   bif (decide (s7 < (s1.length : Int))) then
    gd (decide (0 ≤ s7) && decide (s7 < (s1.length : Int))) (
     J_3 (W (y_1 + (s1.getD s7.toNat 0))))
   else
    J_3 y_1)
  bif (decide (s7 < (s0.length : Int))) then
   gd (decide (0 ≤ s7) && decide (s7 < (s0.length : Int))) (
    J_4 (W (s6 + (s0.getD s7.toNat 0))))
  else
   J_4 s6)
 bif (decide (s7 < (s0.length : Int))) then
  J_5 ()
 else
  bif (decide (s7 < (s1.length : Int))) then
   J_5 ()
  else
   bif (decide (s6 > 0)) then
    J_5 ()
   else
    k0 b8
abbrev f188_L4H : Tm := ⟨[(0, .d hIs), (1, .d hIs), (5, .k (.hw 8)), (6, .d hI), (7, .d hI)], [(8, .arr 3 hI false)], [48], []⟩
abbrev f188_L4X0 : Tm := ⟨[(5, .k (.hw 8))], [(8, .arr 3 hI false)], [], []⟩
abbrev f188_L4O : List (Exit × Tm) := [(.exit 0, f188_L4X0)]
def f188_L4U {α : Type} (n : Nat) (v : f188_L4H.den) (f : f188_L4H.den → Option α) (ks : KS α f188_L4O) : Option α := f188_L4B n v.1.1 v.1.2.1 v.1.2.2.2.1 v.1.2.2.2.2.1 v.2.1 (fun s0 s1 s6 s7 b8 => f ((s0, s1, (), s6, s7, ()), (b8, ()))) (fun w0 => ks.1 (((), ()), (w0, ())))
def f188_L4 {α : Type} (n m : Nat) (s0 s1 : LI) (s6 s7 : Int) (b8 : LI) (k0 : LI → Option α) : Option α := rounds (f188_L4U n) m ((s0, s1, (), s6, s7, ()), (b8, ())) (fun w => k0 w.2.1, ())
theorem f188_L4_0 {α n s0 s1 s6 s7 b8 k0} : f188_L4 (α := α) n 0 s0 s1 s6 s7 b8 k0 = none := rfl
theorem f188_L4_s {α n m s0 s1 s6 s7 b8 k0} : f188_L4 (α := α) n (m + 1) s0 s1 s6 s7 b8 k0 = f188_L4B n s0 s1 s6 s7 b8 (fun s0 s1 s6 s7 b8 => f188_L4 n m s0 s1 s6 s7 b8 k0) k0 := rfl
abbrev f188_J6 : Tm := ⟨[(0, .d hIs), (1, .d hIs), (5, .k (.hw 8)), (6, .d hI), (7, .d hI)], [(8, .arr 3 hI false)], [], []⟩
abbrev f188_J8 : Tm := ⟨[(0, .d hIs), (1, .d hIs), (5, .k (.hw 8)), (6, .d hI), (7, .d hI)], [(8, .arr 3 hI false)], [], []⟩
abbrev f188_J10 : Tm := ⟨[(0, .d hIs), (1, .d hIs), (5, .k (.hw 8)), (6, .d hI), (7, .d hI)], [(8, .arr 3 hI false)], [], []⟩
def f188 (n : Nat) (a0 a1 : LI) : Option LI :=
 f188_L4 n n a0 a1 0 0 []
  (fun z_6 => (
   some z_6))
def f188_E (n : Nat) : Ent := ⟨188, [hIs, hIs], [hIs], fun x => f188 n x.1 x.2⟩
def f188_D (α : Type) (n : Nat) : D3 α := { reg := [(1, ⟨0, [], [(0, { sh := some hI })]⟩), (10, ⟨0, [], [(3, { sh := some hI })]⟩)], join := [(6, f188_J6), (8, f188_J8), (10, f188_J10)], loop := [(4, ⟨f188_L4H, f188_L4O, rounds (f188_L4U n) n⟩)] }
theorem f188_ents (α : Type) (n : Nat) : AllS Try.prog (entsOf (f188_D α n).reg) := trivial
theorem f188_L4_d (α : Type) (n : Nat) : D3.OK Try.prog (tyOf Try.prog) ⟨53, []⟩ (f188_D α n) ((bodyOf Try.f188).at [1, 1, 1, 0, 1, 0, 0]) :=
 D3.OK.mk3 (f188_ents α n) (show loopsOf ((bodyOf Try.f188).at [1, 1, 1, 0, 1, 0, 0]) = [] by kernel_rfl) trivial
theorem f188_L4_ok (α : Type) (n : Nat) : LO.Sound (α := α) Try.prog ⟨53, []⟩ ⟨f188_L4H, f188_L4O, rounds (f188_L4U n) n⟩ (.loop ((bodyOf Try.f188).at [1, 1, 1, 0, 1, 0, 0])) :=
 loop_ok (tyOf_ok _) prog_fol (f188_L4U n) (f188_L4_d α n) (by intro v f ks; kernel_rfl) n
theorem f188_d (α : Type) (n : Nat) : D3.OK Try.prog (tyOf Try.prog) ⟨53, []⟩ (f188_D α n) (bodyOf Try.f188) :=
 D3.OK.mk3 (f188_ents α n) (show loopsOf (bodyOf Try.f188) = [(4, (.loop ((bodyOf Try.f188).at [1, 1, 1, 0, 1, 0, 0])))] by kernel_rfl) ⟨look_sound rfl (f188_L4_ok α n), trivial⟩
theorem f188_ok (n : Nat) : (f188_E n).Sound Try.prog :=
 fn_ok (tyOf_ok _) prog_fol (f188_D _ n) (show Try.prog.funcs[188]? = some Try.f188 by kernel_rfl) (by kernel_rfl) (show Try.f188.body = some (bodyOf Try.f188) by kernel_rfl) rfl rfl (Nat.le_of_ble_eq_true rfl) (f188_d _ n) (by intro x; kernel_rfl) 

def f157 (n : Nat) (a0 a1 : Rq) : Option Rq :=
 ob (f154 n a0.2.1 a1.2.2) fun r_1 =>
 ob (f154 n a1.2.1 a0.2.2) fun r_2 =>
 ob (f154 n a0.2.2 a1.2.2) fun r_3 =>
 bif (a0.1 == a1.1) then
  ob (f188 n r_1 r_2) fun r_4 =>
  ob (f146 n a0.1 r_4 r_3) fun r_5 =>
  some r_5
 else
  ob (f127 n r_1 r_2) fun r_6 =>
  bif (decide (r_6 ≥ 0)) then
   ob (f189 n r_1 r_2) fun r_7 =>
   ob (f146 n a0.1 r_7 r_3) fun r_8 =>
   some r_8
  else
   ob (f189 n r_2 r_1) fun r_9 =>
   ob (f146 n a1.1 r_9 r_3) fun r_10 =>
   some r_10
def f157_E (n : Nat) : Ent := ⟨157, [hR, hR], [hR], fun x => f157 n x.1 x.2⟩
def f157_D (α : Type) (n : Nat) : D3 α := { reg := [(1, ⟨0, [], [(4, { ent := some (f154_E n) })]⟩), (2, ⟨0, [], [(4, { ent := some (f154_E n) })]⟩), (3, ⟨0, [], [(4, { ent := some (f154_E n) })]⟩), (5, ⟨6, [], [(4, { ent := some (f188_E n) }), (6, { ent := some (f146_E n) })]⟩), (6, ⟨0, [], [(2, { ent := some (f127_E n) })]⟩), (7, ⟨6, [], [(4, { ent := some (f189_E n) }), (6, { ent := some (f146_E n) })]⟩), (8, ⟨6, [], [(4, { ent := some (f189_E n) }), (6, { ent := some (f146_E n) })]⟩)], join := [], loop := [] }
theorem f157_ents (α : Type) (n : Nat) : AllS Try.prog (entsOf (f157_D α n).reg) := ⟨f154_ok n, f154_ok n, f154_ok n, f188_ok n, f146_ok n, f127_ok n, f189_ok n, f146_ok n, f189_ok n, f146_ok n, trivial⟩
theorem f157_d (α : Type) (n : Nat) : D3.OK Try.prog (tyOf Try.prog) ⟨53, []⟩ (f157_D α n) (bodyOf Try.f157) :=
 D3.OK.mk3 (f157_ents α n) (show loopsOf (bodyOf Try.f157) = [] by kernel_rfl) trivial
theorem f157_ok (n : Nat) : (f157_E n).Sound Try.prog :=
 fn_ok (tyOf_ok _) prog_fol (f157_D _ n) (show Try.prog.funcs[157]? = some Try.f157 by kernel_rfl) (by kernel_rfl) (show Try.f157.body = some (bodyOf Try.f157) by kernel_rfl) rfl rfl (Nat.le_of_ble_eq_true rfl) (f157_d _ n) (by intro x; kernel_rfl) 

def f101_L3B {α : Type} (n : Nat) (s0 s1 : LR) (s6 : Int) (c4_0 c5_0 : Bool) (c5_1 c5_2 : LI) (f : LR → LR → Int → Bool → Bool → LI → LI → Option α) (k0 : Bool → Bool → LI → LI → Option α) : Option α :=
 bif (decide (s6 < (s0.length : Int))) then
  gd (decide (0 ≤ s6) && decide (s6 < (s0.length : Int))) (
   let x_2 := s0.getD s6.toNat (false, [], [])
   gd (decide (0 ≤ s6) && decide (s6 < (s1.length : Int))) (
    let x_3 := s1.getD s6.toNat (false, [], [])
    ob (f94 n x_2 x_3) fun r_4 =>
    ob (f157 n (c5_0, c5_1, c5_2) r_4) fun r_5 =>
    f s0 s1 (W (s6 + 1)) c4_0 r_5.1 r_5.2.1 r_5.2.2))
 else
  k0 c4_0 c5_0 c5_1 c5_2
abbrev f101_L3H : Tm := ⟨[(0, .d hRs), (1, .d hRs), (4, .k (.hp 4 0 0)), (5, .k (.hp 5 0 0)), (6, .d hI)], [(4, .var 33 true false [.d .bool, .d .nil, .d .nil]), (5, .var 33 true false [.d .bool, .d hIs, .d hIs])], [], []⟩
abbrev f101_L3X0 : Tm := ⟨[(4, .k (.hp 4 0 0)), (5, .k (.hp 5 0 0))], [(4, .var 33 true false [.d .bool, .d .nil, .d .nil]), (5, .var 33 true false [.d .bool, .d hIs, .d hIs])], [], []⟩
abbrev f101_L3O : List (Exit × Tm) := [(.exit 0, f101_L3X0)]
def f101_L3U {α : Type} (n : Nat) (v : f101_L3H.den) (f : f101_L3H.den → Option α) (ks : KS α f101_L3O) : Option α := f101_L3B n v.1.1 v.1.2.1 v.1.2.2.2.2.1 v.2.1.1 v.2.2.1.1 v.2.2.1.2.1 v.2.2.1.2.2.1 (fun s0 s1 s6 c4_0 c5_0 c5_1 c5_2 => f ((s0, s1, (), (), s6, ()), ((c4_0, (), (), ()), (c5_0, c5_1, c5_2, ()), ()))) (fun w0 w1 w2 w3 => ks.1 (((), (), ()), ((w0, (), (), ()), (w1, w2, w3, ()), ())))
def f101_L3 {α : Type} (n m : Nat) (s0 s1 : LR) (s6 : Int) (c4_0 c5_0 : Bool) (c5_1 c5_2 : LI) (k0 : Bool → Bool → LI → LI → Option α) : Option α := rounds (f101_L3U n) m ((s0, s1, (), (), s6, ()), ((c4_0, (), (), ()), (c5_0, c5_1, c5_2, ()), ())) (fun w => k0 w.2.1.1 w.2.2.1.1 w.2.2.1.2.1 w.2.2.1.2.2.1, ())
theorem f101_L3_0 {α n s0 s1 s6 c4_0 c5_0 c5_1 c5_2 k0} : f101_L3 (α := α) n 0 s0 s1 s6 c4_0 c5_0 c5_1 c5_2 k0 = none := rfl
theorem f101_L3_s {α n m s0 s1 s6 c4_0 c5_0 c5_1 c5_2 k0} : f101_L3 (α := α) n (m + 1) s0 s1 s6 c4_0 c5_0 c5_1 c5_2 k0 = f101_L3B n s0 s1 s6 c4_0 c5_0 c5_1 c5_2 (fun s0 s1 s6 c4_0 c5_0 c5_1 c5_2 => f101_L3 n m s0 s1 s6 c4_0 c5_0 c5_1 c5_2 k0) k0 := rfl
def f101 (n : Nat) (a0 a1 : LR) : Option Rq :=
 ob (f159 n 0) fun r_1 =>
 f101_L3 n n a0 a1 0 false r_1.1 r_1.2.1 r_1.2.2
  (fun z_6 z_7 z_8 z_9 => (
   some (z_7, z_8, z_9)))
def f101_E (n : Nat) : Ent := ⟨101, [hRs, hRs], [hR], fun x => f101 n x.1 x.2⟩
def f101_D (α : Type) (n : Nat) : D3 α := { reg := [(1, ⟨0, [], [(0, { ent := some (f159_E n) })]⟩), (5, ⟨10, [], [(9, { ent := some (f94_E n) }), (10, { ent := some (f157_E n) })]⟩)], join := [], loop := [(3, ⟨f101_L3H, f101_L3O, rounds (f101_L3U n) n⟩)] }
theorem f101_ents (α : Type) (n : Nat) : AllS Try.prog (entsOf (f101_D α n).reg) := ⟨f159_ok n, f94_ok n, f157_ok n, trivial⟩
theorem f101_L3_d (α : Type) (n : Nat) : D3.OK Try.prog (tyOf Try.prog) ⟨26, []⟩ (f101_D α n) ((bodyOf Try.f101).at [1, 1, 0, 1, 0, 0]) :=
 D3.OK.mk3 (f101_ents α n) (show loopsOf ((bodyOf Try.f101).at [1, 1, 0, 1, 0, 0]) = [] by kernel_rfl) trivial
theorem f101_L3_ok (α : Type) (n : Nat) : LO.Sound (α := α) Try.prog ⟨26, []⟩ ⟨f101_L3H, f101_L3O, rounds (f101_L3U n) n⟩ (.loop ((bodyOf Try.f101).at [1, 1, 0, 1, 0, 0])) :=
 loop_ok (tyOf_ok _) prog_fol (f101_L3U n) (f101_L3_d α n) (by intro v f ks; kernel_rfl) n
theorem f101_d (α : Type) (n : Nat) : D3.OK Try.prog (tyOf Try.prog) ⟨26, []⟩ (f101_D α n) (bodyOf Try.f101) :=
 D3.OK.mk3 (f101_ents α n) (show loopsOf (bodyOf Try.f101) = [(3, (.loop ((bodyOf Try.f101).at [1, 1, 0, 1, 0, 0])))] by kernel_rfl) ⟨look_sound rfl (f101_L3_ok α n), trivial⟩
theorem f101_ok (n : Nat) : (f101_E n).Sound Try.prog :=
 fn_ok (tyOf_ok _) prog_fol (f101_D _ n) (show Try.prog.funcs[101]? = some Try.f101 by kernel_rfl) (by kernel_rfl) (show Try.f101.body = some (bodyOf Try.f101) by kernel_rfl) rfl rfl (Nat.le_of_ble_eq_true rfl) (f101_d _ n) (by intro x; kernel_rfl) 

def f139 (n : Nat) (a0 : Rq) : Option Bool :=
 bif (decide ((a0.2.1.length : Int) ≤ 40)) then
  some (decide ((a0.2.2.length : Int) ≤ 40))
 else
  some false
def f139_E (n : Nat) : Ent := ⟨139, [hR], [.bool], fun x => f139 n x⟩
def f139_D (α : Type) (n : Nat) : D3 α := { reg := [], join := [], loop := [] }
theorem f139_ents (α : Type) (n : Nat) : AllS Try.prog (entsOf (f139_D α n).reg) := trivial
theorem f139_d (α : Type) (n : Nat) : D3.OK Try.prog (tyOf Try.prog) ⟨13, []⟩ (f139_D α n) (bodyOf Try.f139) :=
 D3.OK.mk3 (f139_ents α n) (show loopsOf (bodyOf Try.f139) = [] by kernel_rfl) trivial
theorem f139_ok (n : Nat) : (f139_E n).Sound Try.prog :=
 fn_ok (tyOf_ok _) prog_fol (f139_D _ n) (show Try.prog.funcs[139]? = some Try.f139 by kernel_rfl) (by kernel_rfl) (show Try.f139.body = some (bodyOf Try.f139) by kernel_rfl) rfl rfl (Nat.le_of_ble_eq_true rfl) (f139_d _ n) (by intro x; kernel_rfl) 

abbrev f70_G1 : Tm := ⟨[(1, .k (.hp 1 0 0)), (2, .k (.hp 2 0 0))], [(1, .var 33 true false [.d .bool, .d hIs, .d hIs]), (2, .var 33 true false [.d .bool, .d .nil, .d .nil])], [], []⟩
def f70 (n : Nat) (a0 : Rq) : Option Rq :=
 gd (decide ((0 + a0.2.1.length) * 8 ≤ 140737488355328)) (
  gd (decide ((0 + a0.2.2.length) * 8 ≤ 140737488355328)) (
   some a0))
def f70_E (n : Nat) : Ent := ⟨70, [hR], [hR], fun x => f70 n x⟩
def f70_D (α : Type) (n : Nat) : D3 α := { reg := [(1, ⟨0, [], [(2, { sh := some hI }), (6, { sh := some hI })]⟩)], join := [], loop := [], any := [(1, f70_G1)] }
set_option maxHeartbeats 8000000 in
theorem f70_A1 (n : Nat) : FamAll (tyOf Try.prog) ⟨14, []⟩ [(2, { sh := some hI }), (6, { sh := some hI })] f70_G1 (regOps ((bodyOf Try.f70).at [1, 0])) := by
 refine ⟨by kernel_rfl, fun w q hq => ?_⟩
 have e : WT [(2, { sh := some hI }), (6, { sh := some hI })] (swapIdx (regOps ((bodyOf Try.f70).at [1, 0])).toList) q = (q = []) := by kernel_rfl
 rw [e] at hq
 obtain rfl := hq
 all_goals exact .inl (FamEq.mk (by kernel_rfl))
theorem f70_ents (α : Type) (n : Nat) : AllS Try.prog (entsOf (f70_D α n).reg) := trivial
theorem f70_d (α : Type) (n : Nat) : D3.OK Try.prog (tyOf Try.prog) ⟨14, []⟩ (f70_D α n) (bodyOf Try.f70) :=
 D3.OK.mk3a (f70_ents α n) (show loopsOf (bodyOf Try.f70) = [] by kernel_rfl) trivial (show anysOf (bodyOf Try.f70) = [(1, regOps ((bodyOf Try.f70).at [1, 0]))] by kernel_rfl) ⟨fun X h => (by cases h; exact f70_A1 n), trivial⟩
theorem f70_ok (n : Nat) : (f70_E n).Sound Try.prog :=
 fn_ok (tyOf_ok _) prog_fol (f70_D _ n) (show Try.prog.funcs[70]? = some Try.f70 by kernel_rfl) (by kernel_rfl) (show Try.f70.body = some (bodyOf Try.f70) by kernel_rfl) rfl rfl (Nat.le_of_ble_eq_true rfl) (f70_d _ n) (by intro x; kernel_rfl) 

def f79_L3B {α : Type} (n : Nat) (s0 : LR) (s5 : Int) (b6 : LR) (f : LR → Int → LR → Option α) (k0 : Int → LR → Option α) (k1 : LR → Option α) : Option α :=
 bif (decide (s5 < (s0.length : Int))) then
  gd (decide (0 ≤ s5) && decide (s5 < (s0.length : Int))) (
   let x_1 := s0.getD s5.toNat (false, [], [])
   ob (f139 n x_1) fun r_2 =>
   bif (!r_2) then
    k0 7 []
   else
    gd (decide (0 ≤ s5) && decide (s5 < (s0.length : Int))) (
     let x_3 := s0.getD s5.toNat (false, [], [])
     ob (f70 n x_3) fun r_4 =>
     gd (decide ((b6.length + 1) * 56 ≤ 140737488355328)) (
      f s0 (W (s5 + 1)) (b6 ++ [r_4]))))
 else
  k1 b6
abbrev f79_L3H : Tm := ⟨[(0, .d hRs), (4, .k (.hw 6)), (5, .d hI)], [(6, .arr 33 hR false)], [26], []⟩
abbrev f79_L3X0 : Tm := ⟨[(2, .k (.hw 19)), (3, .d hI)], [(19, .arr 33 hR false)], [6], []⟩
abbrev f79_L3X1 : Tm := ⟨[(4, .k (.hw 6))], [(6, .arr 33 hR false)], [], []⟩
abbrev f79_L3O : List (Exit × Tm) := [(.ret, f79_L3X0), (.exit 0, f79_L3X1)]
def f79_L3U {α : Type} (n : Nat) (v : f79_L3H.den) (f : f79_L3H.den → Option α) (ks : KS α f79_L3O) : Option α := f79_L3B n v.1.1 v.1.2.2.1 v.2.1 (fun s0 s5 b6 => f ((s0, (), s5, ()), (b6, ()))) (fun w0 w1 => ks.1 (((), w0, ()), (w1, ()))) (fun w0 => ks.2.1 (((), ()), (w0, ())))
def f79_L3 {α : Type} (n m : Nat) (s0 : LR) (s5 : Int) (b6 : LR) (k0 : Int → LR → Option α) (k1 : LR → Option α) : Option α := rounds (f79_L3U n) m ((s0, (), s5, ()), (b6, ())) (fun w => k0 w.1.2.1 w.2.1, fun w => k1 w.2.1, ())
theorem f79_L3_0 {α n s0 s5 b6 k0 k1} : f79_L3 (α := α) n 0 s0 s5 b6 k0 k1 = none := rfl
theorem f79_L3_s {α n m s0 s5 b6 k0 k1} : f79_L3 (α := α) n (m + 1) s0 s5 b6 k0 k1 = f79_L3B n s0 s5 b6 (fun s0 s5 b6 => f79_L3 n m s0 s5 b6 k0 k1) k0 k1 := rfl
def f79 (n : Nat) (a0 : LR) : Option (LR × Int) :=
 f79_L3 n n a0 0 []
  (fun z_5 z_6 => (
   some (z_6, z_5)))
  (fun z_7 => (
   some (z_7, 0)))
def f79_E (n : Nat) : Ent := ⟨79, [hRs], [hRs, hI], fun x => f79 n x⟩
def f79_D (α : Type) (n : Nat) : D3 α := { reg := [(1, ⟨0, [], [(0, { sh := some hR })]⟩), (5, ⟨0, [], [(4, { ent := some (f139_E n) })]⟩), (6, ⟨0, [], [(0, { sh := some hR })]⟩), (7, ⟨0, [], [(5, { ent := some (f70_E n) }), (6, { sh := some hR })]⟩)], join := [], loop := [(3, ⟨f79_L3H, f79_L3O, rounds (f79_L3U n) n⟩)] }
theorem f79_ents (α : Type) (n : Nat) : AllS Try.prog (entsOf (f79_D α n).reg) := ⟨f139_ok n, f70_ok n, trivial⟩
theorem f79_L3_d (α : Type) (n : Nat) : D3.OK Try.prog (tyOf Try.prog) ⟨29, []⟩ (f79_D α n) ((bodyOf Try.f79).at [1, 1, 0, 1, 0, 0]) :=
 D3.OK.mk3 (f79_ents α n) (show loopsOf ((bodyOf Try.f79).at [1, 1, 0, 1, 0, 0]) = [] by kernel_rfl) trivial
theorem f79_L3_ok (α : Type) (n : Nat) : LO.Sound (α := α) Try.prog ⟨29, []⟩ ⟨f79_L3H, f79_L3O, rounds (f79_L3U n) n⟩ (.loop ((bodyOf Try.f79).at [1, 1, 0, 1, 0, 0])) :=
 loop_ok (tyOf_ok _) prog_fol (f79_L3U n) (f79_L3_d α n) (by intro v f ks; kernel_rfl) n
theorem f79_d (α : Type) (n : Nat) : D3.OK Try.prog (tyOf Try.prog) ⟨29, []⟩ (f79_D α n) (bodyOf Try.f79) :=
 D3.OK.mk3 (f79_ents α n) (show loopsOf (bodyOf Try.f79) = [(3, (.loop ((bodyOf Try.f79).at [1, 1, 0, 1, 0, 0])))] by kernel_rfl) ⟨look_sound rfl (f79_L3_ok α n), trivial⟩
theorem f79_ok (n : Nat) : (f79_E n).Sound Try.prog :=
 fn_ok (tyOf_ok _) prog_fol (f79_D _ n) (show Try.prog.funcs[79]? = some Try.f79 by kernel_rfl) (by kernel_rfl) (show Try.f79.body = some (bodyOf Try.f79) by kernel_rfl) rfl rfl (Nat.le_of_ble_eq_true rfl) (f79_d _ n) (by intro x; kernel_rfl) 

def f47_L11B {α : Type} (n : Nat) (s0 : LR) (s2 : Int) (s8 : LR) (s10 s11 : Int) (b35 : LR) (f : LR → Int → LR → Int → Int → LR → Option α) (k0 : LR → Int → LR → Int → LR → Option α) : Option α :=
 bif (decide (s11 < s2)) then
  gd (decide (0 ≤ (W (s10 * s2))) && decide ((W (s10 * s2)) ≤ (W ((W (s10 + 1)) * s2))) && decide ((W ((W (s10 + 1)) * s2)) ≤ (s0.length : Int))) (
   gd (decide (0 ≤ (W (s11 * s2))) && decide ((W (s11 * s2)) ≤ (W ((W (s11 + 1)) * s2))) && decide ((W ((W (s11 + 1)) * s2)) ≤ (s8.length : Int))) (
    ob (f101 n ((s0.drop ((W (s10 * s2)).toNat)).take ((W ((W (s10 + 1)) * s2)).toNat - (W (s10 * s2)).toNat)) ((s8.drop ((W (s11 * s2)).toNat)).take ((W ((W (s11 + 1)) * s2)).toNat - (W (s11 * s2)).toNat))) fun r_4 =>
    gd (decide ((b35.length + 1) * 56 ≤ 140737488355328)) (
     f s0 s2 s8 s10 (W (s11 + 1)) (b35 ++ [r_4]))))
 else
  k0 s0 s2 s8 s10 b35
abbrev f47_L11H : Tm := ⟨[(0, .d hRs), (2, .d hI), (8, .d hRs), (9, .k (.hw 35)), (10, .d hI), (11, .d hI)], [(35, .arr 33 hR false)], [66], []⟩
abbrev f47_L11X0 : Tm := ⟨[(0, .d hRs), (2, .d hI), (8, .d hRs), (9, .k (.hw 35)), (10, .d hI)], [(35, .arr 33 hR false)], [], []⟩
abbrev f47_L11O : List (Exit × Tm) := [(.exit 2, f47_L11X0)]
def f47_L11U {α : Type} (n : Nat) (v : f47_L11H.den) (f : f47_L11H.den → Option α) (ks : KS α f47_L11O) : Option α := f47_L11B n v.1.1 v.1.2.1 v.1.2.2.1 v.1.2.2.2.2.1 v.1.2.2.2.2.2.1 v.2.1 (fun s0 s2 s8 s10 s11 b35 => f ((s0, s2, s8, (), s10, s11, ()), (b35, ()))) (fun w0 w1 w2 w3 w4 => ks.1 ((w0, w1, w2, (), w3, ()), (w4, ())))
def f47_L11 {α : Type} (n m : Nat) (s0 : LR) (s2 : Int) (s8 : LR) (s10 s11 : Int) (b35 : LR) (k0 : LR → Int → LR → Int → LR → Option α) : Option α := rounds (f47_L11U n) m ((s0, s2, s8, (), s10, s11, ()), (b35, ())) (fun w => k0 w.1.1 w.1.2.1 w.1.2.2.1 w.1.2.2.2.2.1 w.2.1, ())
theorem f47_L11_0 {α n s0 s2 s8 s10 s11 b35 k0} : f47_L11 (α := α) n 0 s0 s2 s8 s10 s11 b35 k0 = none := rfl
theorem f47_L11_s {α n m s0 s2 s8 s10 s11 b35 k0} : f47_L11 (α := α) n (m + 1) s0 s2 s8 s10 s11 b35 k0 = f47_L11B n s0 s2 s8 s10 s11 b35 (fun s0 s2 s8 s10 s11 b35 => f47_L11 n m s0 s2 s8 s10 s11 b35 k0) k0 := rfl
def f47_L8B {α : Type} (n : Nat) (s0 : LR) (s2 : Int) (s8 : LR) (s10 : Int) (b35 : LR) (f : LR → Int → LR → Int → LR → Option α) (k0 : LR → Option α) : Option α :=
 bif (decide (s10 < s2)) then
  f47_L11 n n s0 s2 s8 s10 0 b35
   (fun z_4 z_5 z_6 z_7 z_8 => (
    f z_4 z_5 z_6 (W (z_7 + 1)) z_8))
 else
  k0 b35
abbrev f47_L8H : Tm := ⟨[(0, .d hRs), (2, .d hI), (8, .d hRs), (9, .k (.hw 35)), (10, .d hI)], [(35, .arr 33 hR false)], [], []⟩
abbrev f47_L8X0 : Tm := ⟨[(9, .k (.hw 35))], [(35, .arr 33 hR false)], [], []⟩
abbrev f47_L8O : List (Exit × Tm) := [(.exit 0, f47_L8X0)]
def f47_L8U {α : Type} (n : Nat) (v : f47_L8H.den) (f : f47_L8H.den → Option α) (ks : KS α f47_L8O) : Option α := f47_L8B n v.1.1 v.1.2.1 v.1.2.2.1 v.1.2.2.2.2.1 v.2.1 (fun s0 s2 s8 s10 b35 => f ((s0, s2, s8, (), s10, ()), (b35, ()))) (fun w0 => ks.1 (((), ()), (w0, ())))
def f47_L8 {α : Type} (n m : Nat) (s0 : LR) (s2 : Int) (s8 : LR) (s10 : Int) (b35 : LR) (k0 : LR → Option α) : Option α := rounds (f47_L8U n) m ((s0, s2, s8, (), s10, ()), (b35, ())) (fun w => k0 w.2.1, ())
theorem f47_L8_0 {α n s0 s2 s8 s10 b35 k0} : f47_L8 (α := α) n 0 s0 s2 s8 s10 b35 k0 = none := rfl
theorem f47_L8_s {α n m s0 s2 s8 s10 b35 k0} : f47_L8 (α := α) n (m + 1) s0 s2 s8 s10 b35 k0 = f47_L8B n s0 s2 s8 s10 b35 (fun s0 s2 s8 s10 b35 => f47_L8 n m s0 s2 s8 s10 b35 k0) k0 := rfl
abbrev f47_G13 : Tm := ⟨[(0, .d hRs), (2, .d hI), (8, .d hRs), (9, .k (.hw 35)), (10, .d hI), (11, .d hI)], [(35, .arr 33 hR false)], [], []⟩
def f47 (n : Nat) (a0 a1 : LR) (a2 : Int) : Option (LR × Int) :=
 bif (decide ((a0.length : Int) > 4096)) then
  some ([], 2)
 else
  bif (decide ((a1.length : Int) > 4096)) then
   some ([], 2)
  else
   ob (f16 n a0 a2) fun r_1 =>
   bif (!r_1) then
    some ([], 1)
   else
    ob (f16 n a1 a2) fun r_2 =>
    bif (!r_2) then
     some ([], 1)
    else
     ob (f80 n a1 a2) fun r_3 =>
     f47_L8 n n a0 a2 r_3 0 []
      (fun z_9 => (
       ob (f79 n z_9) fun r_10 =>
       some (r_10.1, r_10.2)))
def f47_E (n : Nat) : Ent := ⟨47, [hRs, hRs, hI], [hRs, hI], fun x => f47 n x.1 x.2.1 x.2.2⟩
def f47_D (α : Type) (n : Nat) : D3 α := { reg := [(2, ⟨0, [], [(0, { sh := some hR })]⟩), (3, ⟨0, [], [(2, { ent := some (f16_E n) }), (7, { ent := some (f16_E n) })]⟩), (4, ⟨0, [], [(0, { sh := some hR })]⟩), (5, ⟨0, [], [(2, { ent := some (f80_E n) })]⟩), (6, ⟨0, [], [(0, { sh := some hR })]⟩), (13, ⟨0, [], [(19, { ent := some (f101_E n) }), (20, { sh := some hR })]⟩), (14, ⟨0, [], [(1, { ent := some (f79_E n), fz := [(68, hRs)] })]⟩)], join := [], loop := [(11, ⟨f47_L11H, f47_L11O, rounds (f47_L11U n) n⟩), (8, ⟨f47_L8H, f47_L8O, rounds (f47_L8U n) n⟩)], any := [(13, f47_G13)] }
set_option maxHeartbeats 8000000 in
theorem f47_A13 (n : Nat) : FamAll (tyOf Try.prog) ⟨72, []⟩ [(19, { ent := some (f101_E n) }), (20, { sh := some hR })] f47_G13 (regOps ((bodyOf Try.f47).at [1, 1, 1, 1, 1, 0, 1, 0, 0, 1, 0, 0, 1, 0, 0, 1, 0, 0])) := by
 refine ⟨by kernel_rfl, fun w q hq => ?_⟩
 have e : WT [(19, { ent := some (f101_E n) }), (20, { sh := some hR })] (swapIdx (regOps ((bodyOf Try.f47).at [1, 1, 1, 1, 1, 0, 1, 0, 0, 1, 0, 0, 1, 0, 0, 1, 0, 0])).toList) q = (∃ (y0 : HL (f101_E n).rs) (q0 : List (Nat × RV)), q = (19, .sv (resSV (f101_E n).rs y0)) :: q0 ∧ q0 = []) := by kernel_rfl
 rw [e] at hq
 obtain ⟨y0, q0, rfl, rfl⟩ := hq
 all_goals exact .inr ⟨21, by kernel_rfl, by kernel_rfl, by kernel_rfl⟩
theorem f47_ents (α : Type) (n : Nat) : AllS Try.prog (entsOf (f47_D α n).reg) := ⟨f16_ok n, f16_ok n, f80_ok n, f101_ok n, f79_ok n, trivial⟩
theorem f47_L11_d (α : Type) (n : Nat) : D3.OK Try.prog (tyOf Try.prog) ⟨72, []⟩ (f47_D α n) ((bodyOf Try.f47).at [1, 1, 1, 1, 1, 0, 1, 0, 0, 1, 0, 0, 1, 0, 0]) :=
 D3.OK.mk3a (f47_ents α n) (show loopsOf ((bodyOf Try.f47).at [1, 1, 1, 1, 1, 0, 1, 0, 0, 1, 0, 0, 1, 0, 0]) = [] by kernel_rfl) trivial (show anysOf ((bodyOf Try.f47).at [1, 1, 1, 1, 1, 0, 1, 0, 0, 1, 0, 0, 1, 0, 0]) = [(13, regOps ((bodyOf Try.f47).at [1, 1, 1, 1, 1, 0, 1, 0, 0, 1, 0, 0, 1, 0, 0, 1, 0, 0]))] by kernel_rfl) ⟨fun X h => (by cases h; exact f47_A13 n), trivial⟩
theorem f47_L11_ok (α : Type) (n : Nat) : LO.Sound (α := α) Try.prog ⟨72, []⟩ ⟨f47_L11H, f47_L11O, rounds (f47_L11U n) n⟩ (.loop ((bodyOf Try.f47).at [1, 1, 1, 1, 1, 0, 1, 0, 0, 1, 0, 0, 1, 0, 0])) :=
 loop_ok (tyOf_ok _) prog_fol (f47_L11U n) (f47_L11_d α n) (by intro v f ks; kernel_rfl) n
theorem f47_L8_d (α : Type) (n : Nat) : D3.OK Try.prog (tyOf Try.prog) ⟨72, []⟩ (f47_D α n) ((bodyOf Try.f47).at [1, 1, 1, 1, 1, 0, 1, 0, 0]) :=
 D3.OK.mk3a (f47_ents α n) (show loopsOf ((bodyOf Try.f47).at [1, 1, 1, 1, 1, 0, 1, 0, 0]) = [(11, (.loop ((bodyOf Try.f47).at [1, 1, 1, 1, 1, 0, 1, 0, 0, 1, 0, 0, 1, 0, 0])))] by kernel_rfl) ⟨look_sound rfl (f47_L11_ok α n), trivial⟩ (show anysOf ((bodyOf Try.f47).at [1, 1, 1, 1, 1, 0, 1, 0, 0]) = [] by kernel_rfl) trivial
theorem f47_L8_ok (α : Type) (n : Nat) : LO.Sound (α := α) Try.prog ⟨72, []⟩ ⟨f47_L8H, f47_L8O, rounds (f47_L8U n) n⟩ (.loop ((bodyOf Try.f47).at [1, 1, 1, 1, 1, 0, 1, 0, 0])) :=
 loop_ok (tyOf_ok _) prog_fol (f47_L8U n) (f47_L8_d α n) (by intro v f ks; kernel_rfl) n
theorem f47_d (α : Type) (n : Nat) : D3.OK Try.prog (tyOf Try.prog) ⟨72, []⟩ (f47_D α n) (bodyOf Try.f47) :=
 D3.OK.mk3a (f47_ents α n) (show loopsOf (bodyOf Try.f47) = [(8, (.loop ((bodyOf Try.f47).at [1, 1, 1, 1, 1, 0, 1, 0, 0])))] by kernel_rfl) ⟨look_sound rfl (f47_L8_ok α n), trivial⟩ (show anysOf (bodyOf Try.f47) = [] by kernel_rfl) trivial
theorem f47_ok (n : Nat) : (f47_E n).Sound Try.prog :=
 fn_ok (tyOf_ok _) prog_fol (f47_D _ n) (show Try.prog.funcs[47]? = some Try.f47 by kernel_rfl) (by kernel_rfl) (show Try.f47.body = some (bodyOf Try.f47) by kernel_rfl) rfl rfl (Nat.le_of_ble_eq_true rfl) (f47_d _ n) (by intro x; kernel_rfl) 

def f71B_L3B {α : Type} (n : Nat) (s0 : LI) (s4 : Int) (b7 : LI) (f : LI → Int → LI → Option α) (k0 : LI → Option α) : Option α :=
 bif (decide (s4 < (s0.length : Int))) then
  gd (decide (0 ≤ s4) && decide (s4 < (s0.length : Int))) (
   gd (decide (0 ≤ s4) && decide (s4 < (b7.length : Int))) (
    gd (decide (s4.toNat < b7.length)) (
     f s0 (W (s4 + 1)) (b7.set s4.toNat (s0.getD s4.toNat 0)))))
 else
  k0 b7
abbrev f71B_L3H : Tm := ⟨[(0, .d hIs), (3, .k (.hw 7)), (4, .d hI)], [(7, .arr 3 hI false)], [], []⟩
abbrev f71B_L3X0 : Tm := ⟨[(3, .k (.hw 7))], [(7, .arr 3 hI false)], [], []⟩
abbrev f71B_L3O : List (Exit × Tm) := [(.exit 0, f71B_L3X0)]
def f71B_L3U {α : Type} (n : Nat) (v : f71B_L3H.den) (f : f71B_L3H.den → Option α) (ks : KS α f71B_L3O) : Option α := f71B_L3B n v.1.1 v.1.2.2.1 v.2.1 (fun s0 s4 b7 => f ((s0, (), s4, ()), (b7, ()))) (fun w0 => ks.1 (((), ()), (w0, ())))
def f71B_L3 {α : Type} (n m : Nat) (s0 : LI) (s4 : Int) (b7 : LI) (k0 : LI → Option α) : Option α := rounds (f71B_L3U n) m ((s0, (), s4, ()), (b7, ())) (fun w => k0 w.2.1, ())
theorem f71B_L3_0 {α n s0 s4 b7 k0} : f71B_L3 (α := α) n 0 s0 s4 b7 k0 = none := rfl
theorem f71B_L3_s {α n m s0 s4 b7 k0} : f71B_L3 (α := α) n (m + 1) s0 s4 b7 k0 = f71B_L3B n s0 s4 b7 (fun s0 s4 b7 => f71B_L3 n m s0 s4 b7 k0) k0 := rfl
def f71B (n : Nat) (a0 : LI) : Option LI :=
 gd (decide (0 ≤ (a0.length : Int)) && decide ((a0.length : Int) ≤ 4611686018427387904) && decide ((8 : Int) * (a0.length : Int) ≤ 281474976710656)) (
  f71B_L3 n n a0 0 (List.replicate ((a0.length : Int).toNat) 0)
   (fun z_1 => (
    some z_1)))
def f71B_E (n : Nat) : Ent3 := ⟨71, [.im hIs], [[.one (.own 3 hI)]], fun x => f71B n x⟩
def f71B_D (α : Type) (n : Nat) : D3 α := { reg := [], join := [], loop := [(3, ⟨f71B_L3H, f71B_L3O, rounds (f71B_L3U n) n⟩)] }
theorem f71B_ents (α : Type) (n : Nat) : AllS Try.prog (entsOf (f71B_D α n).reg) := trivial
theorem f71B_L3_d (α : Type) (n : Nat) : D3.OK Try.prog (tyOf Try.prog) ⟨22, []⟩ (f71B_D α n) ((bodyOf Try.f71).at [1, 1, 0, 1, 0, 0]) :=
 D3.OK.mk3 (f71B_ents α n) (show loopsOf ((bodyOf Try.f71).at [1, 1, 0, 1, 0, 0]) = [] by kernel_rfl) trivial
theorem f71B_L3_ok (α : Type) (n : Nat) : LO.Sound (α := α) Try.prog ⟨22, []⟩ ⟨f71B_L3H, f71B_L3O, rounds (f71B_L3U n) n⟩ (.loop ((bodyOf Try.f71).at [1, 1, 0, 1, 0, 0])) :=
 loop_ok (tyOf_ok _) prog_fol (f71B_L3U n) (f71B_L3_d α n) (by intro v f ks; kernel_rfl) n
theorem f71B_d (α : Type) (n : Nat) : D3.OK Try.prog (tyOf Try.prog) ⟨22, []⟩ (f71B_D α n) (bodyOf Try.f71) :=
 D3.OK.mk3 (f71B_ents α n) (show loopsOf (bodyOf Try.f71) = [(3, (.loop ((bodyOf Try.f71).at [1, 1, 0, 1, 0, 0])))] by kernel_rfl) ⟨look_sound rfl (f71B_L3_ok α n), trivial⟩
theorem f71B_ok (n : Nat) : (f71B_E n).Sound Try.prog :=
 fn_okB (tyOf_ok _) prog_fol (f71B_D _ n) (show Try.prog.funcs[71]? = some Try.f71 by kernel_rfl) (by kernel_rfl) (show Try.f71.body = some (bodyOf Try.f71) by kernel_rfl) rfl rfl (Nat.le_of_ble_eq_true rfl) (f71B_d _ n) (by intro x; kernel_rfl) 

end Go.Ev
