/- DERIVED. What the functions compute, and that they do. -/
import Derived.Test.YtcpdoafoahaagaaEe

set_option linter.all false
set_option linter.unusedVariables false
set_option linter.unusedSimpArgs false

namespace Go.Ev
open Go Go.Proofs Go.RowKit Go.Shelf
def f98 (n : Nat) (a0 : LI) (a1 : Int) : Option Int :=
 bif (decide ((W (a1 - (a0.length : Int))) < 0)) then
  some (-1)
 else
  some (W (a1 - (a0.length : Int)))
def f98_E (n : Nat) : Ent := ⟨98, [hIs, hI], [hI], fun x => f98 n x.1 x.2⟩
def f98_D (α : Type) (n : Nat) : D3 α := { reg := [], join := [], loop := [] }
theorem f98_ents (α : Type) (n : Nat) : AllS Try.prog (entsOf (f98_D α n).reg) := trivial
theorem f98_d (α : Type) (n : Nat) : D3.OK Try.prog (tyOf Try.prog) ⟨12, []⟩ (f98_D α n) (bodyOf Try.f98) :=
 D3.OK.mk3 (f98_ents α n) (show loopsOf (bodyOf Try.f98) = [] by kernel_rfl) trivial
theorem f98_ok (n : Nat) : (f98_E n).Sound Try.prog :=
 fn_ok (tyOf_ok _) prog_fol (f98_D _ n) (show Try.prog.funcs[98]? = some Try.f98 by kernel_rfl) (by kernel_rfl) (show Try.f98.body = some (bodyOf Try.f98) by kernel_rfl) rfl rfl (Nat.le_of_ble_eq_true rfl) (f98_d _ n) (by intro x; kernel_rfl) 

def f50 (n : Nat) (a0 : Rq) (a1 : Int) : Option Int :=
 ob (f98 n a0.2.1 a1) fun r_1 =>
 bif (decide (r_1 < 0)) then
  some (-1)
 else
  ob (f98 n a0.2.2 r_1) fun r_2 =>
  bif (decide (r_2 < 0)) then
   some (-1)
  else
   some r_2
def f50_E (n : Nat) : Ent := ⟨50, [hR, hI], [hI], fun x => f50 n x.1 x.2⟩
def f50_D (α : Type) (n : Nat) : D3 α := { reg := [(1, ⟨0, [], [(3, { ent := some (f98_E n) })]⟩), (4, ⟨0, [], [(3, { ent := some (f98_E n) })]⟩)], join := [], loop := [] }
theorem f50_ents (α : Type) (n : Nat) : AllS Try.prog (entsOf (f50_D α n).reg) := ⟨f98_ok n, f98_ok n, trivial⟩
theorem f50_d (α : Type) (n : Nat) : D3.OK Try.prog (tyOf Try.prog) ⟨18, []⟩ (f50_D α n) (bodyOf Try.f50) :=
 D3.OK.mk3 (f50_ents α n) (show loopsOf (bodyOf Try.f50) = [] by kernel_rfl) trivial
theorem f50_ok (n : Nat) : (f50_E n).Sound Try.prog :=
 fn_ok (tyOf_ok _) prog_fol (f50_D _ n) (show Try.prog.funcs[50]? = some Try.f50 by kernel_rfl) (by kernel_rfl) (show Try.f50.body = some (bodyOf Try.f50) by kernel_rfl) rfl rfl (Nat.le_of_ble_eq_true rfl) (f50_d _ n) (by intro x; kernel_rfl) 

def f16_L5B {α : Type} (n : Nat) (s0 : LR) (s1 s5 : Int) (f : LR → Int → Int → Option α) (k0 k1 : Int → Option α) : Option α :=
 bif (decide (s5 < (s0.length : Int))) then
  gd (decide (0 ≤ s5) && decide (s5 < (s0.length : Int))) (
   let x_1 := s0.getD s5.toNat (false, [], [])
   ob (f50 n x_1 s1) fun r_2 =>
   bif (decide (r_2 < 0)) then
    k0 (-1)
   else
    f s0 r_2 (W (s5 + 1)))
 else
  k1 s1
abbrev f16_L5H : Tm := ⟨[(0, .d hRs), (1, .d hI), (5, .d hI)], [], [], []⟩
abbrev f16_L5X0 : Tm := ⟨[(4, .d hI)], [], [], []⟩
abbrev f16_L5X1 : Tm := ⟨[(1, .d hI)], [], [], []⟩
abbrev f16_L5O : List (Exit × Tm) := [(.ret, f16_L5X0), (.exit 0, f16_L5X1)]
def f16_L5U {α : Type} (n : Nat) (v : f16_L5H.den) (f : f16_L5H.den → Option α) (ks : KS α f16_L5O) : Option α := f16_L5B n v.1.1 v.1.2.1 v.1.2.2.1 (fun s0 s1 s5 => f ((s0, s1, s5, ()), ())) (fun w0 => ks.1 ((w0, ()), ())) (fun w0 => ks.2.1 ((w0, ()), ()))
def f16_L5 {α : Type} (n m : Nat) (s0 : LR) (s1 s5 : Int) (k0 k1 : Int → Option α) : Option α := rounds (f16_L5U n) m ((s0, s1, s5, ()), ()) (fun w => k0 w.1.1, fun w => k1 w.1.1, ())
theorem f16_L5_0 {α n s0 s1 s5 k0 k1} : f16_L5 (α := α) n 0 s0 s1 s5 k0 k1 = none := rfl
theorem f16_L5_s {α n m s0 s1 s5 k0 k1} : f16_L5 (α := α) n (m + 1) s0 s1 s5 k0 k1 = f16_L5B n s0 s1 s5 (fun s0 s1 s5 => f16_L5 n m s0 s1 s5 k0 k1) k0 k1 := rfl
def f16 (n : Nat) (a0 : LR) (a1 : Int) : Option Int :=
 bif (decide ((W (a1 - (a0.length : Int))) < 0)) then
  some (-1)
 else
  f16_L5 n n a0 (W (a1 - (a0.length : Int))) 0
   (fun z_3 => (
    some z_3))
   (fun z_4 => (
    some z_4))
def f16_E (n : Nat) : Ent := ⟨16, [hRs, hI], [hI], fun x => f16 n x.1 x.2⟩
def f16_D (α : Type) (n : Nat) : D3 α := { reg := [(7, ⟨0, [], [(5, { ent := some (f50_E n) })]⟩)], join := [], loop := [(5, ⟨f16_L5H, f16_L5O, rounds (f16_L5U n) n⟩)] }
theorem f16_ents (α : Type) (n : Nat) : AllS Try.prog (entsOf (f16_D α n).reg) := ⟨f50_ok n, trivial⟩
theorem f16_L5_d (α : Type) (n : Nat) : D3.OK Try.prog (tyOf Try.prog) ⟨27, []⟩ (f16_D α n) ((bodyOf Try.f16).at [1, 1, 1, 0, 1, 0, 0]) :=
 D3.OK.mk3 (f16_ents α n) (show loopsOf ((bodyOf Try.f16).at [1, 1, 1, 0, 1, 0, 0]) = [] by kernel_rfl) trivial
theorem f16_L5_ok (α : Type) (n : Nat) : LO.Sound (α := α) Try.prog ⟨27, []⟩ ⟨f16_L5H, f16_L5O, rounds (f16_L5U n) n⟩ (.loop ((bodyOf Try.f16).at [1, 1, 1, 0, 1, 0, 0])) :=
 loop_ok (tyOf_ok _) prog_fol (f16_L5U n) (f16_L5_d α n) (by intro v f ks; kernel_rfl) n
theorem f16_d (α : Type) (n : Nat) : D3.OK Try.prog (tyOf Try.prog) ⟨27, []⟩ (f16_D α n) (bodyOf Try.f16) :=
 D3.OK.mk3 (f16_ents α n) (show loopsOf (bodyOf Try.f16) = [(5, (.loop ((bodyOf Try.f16).at [1, 1, 1, 0, 1, 0, 0])))] by kernel_rfl) ⟨look_sound rfl (f16_L5_ok α n), trivial⟩
theorem f16_ok (n : Nat) : (f16_E n).Sound Try.prog :=
 fn_ok (tyOf_ok _) prog_fol (f16_D _ n) (show Try.prog.funcs[16]? = some Try.f16 by kernel_rfl) (by kernel_rfl) (show Try.f16.body = some (bodyOf Try.f16) by kernel_rfl) rfl rfl (Nat.le_of_ble_eq_true rfl) (f16_d _ n) (by intro x; kernel_rfl) 

def f99_L3B {α : Type} (n : Nat) (s0 : LI) (s4 : Int) (b7 : LI) (f : LI → Int → LI → Option α) (k0 : LI → Option α) : Option α :=
 bif (decide (s4 < (s0.length : Int))) then
  gd (decide (0 ≤ s4) && decide (s4 < (s0.length : Int))) (
   gd (decide (0 ≤ s4) && decide (s4 < (b7.length : Int))) (
    gd (decide (s4.toNat < b7.length)) (
     f s0 (W (s4 + 1)) (b7.set s4.toNat (s0.getD s4.toNat 0)))))
 else
  k0 b7
abbrev f99_L3H : Tm := ⟨[(0, .d hIs), (3, .k (.hw 7)), (4, .d hI)], [(7, .arr 3 hI false)], [], []⟩
abbrev f99_L3X0 : Tm := ⟨[(3, .k (.hw 7))], [(7, .arr 3 hI false)], [], []⟩
abbrev f99_L3O : List (Exit × Tm) := [(.exit 0, f99_L3X0)]
def f99_L3U {α : Type} (n : Nat) (v : f99_L3H.den) (f : f99_L3H.den → Option α) (ks : KS α f99_L3O) : Option α := f99_L3B n v.1.1 v.1.2.2.1 v.2.1 (fun s0 s4 b7 => f ((s0, (), s4, ()), (b7, ()))) (fun w0 => ks.1 (((), ()), (w0, ())))
def f99_L3 {α : Type} (n m : Nat) (s0 : LI) (s4 : Int) (b7 : LI) (k0 : LI → Option α) : Option α := rounds (f99_L3U n) m ((s0, (), s4, ()), (b7, ())) (fun w => k0 w.2.1, ())
theorem f99_L3_0 {α n s0 s4 b7 k0} : f99_L3 (α := α) n 0 s0 s4 b7 k0 = none := rfl
theorem f99_L3_s {α n m s0 s4 b7 k0} : f99_L3 (α := α) n (m + 1) s0 s4 b7 k0 = f99_L3B n s0 s4 b7 (fun s0 s4 b7 => f99_L3 n m s0 s4 b7 k0) k0 := rfl
def f99 (n : Nat) (a0 : LI) : Option LI :=
 gd (decide (0 ≤ (a0.length : Int)) && decide ((a0.length : Int) ≤ 4611686018427387904) && decide ((8 : Int) * (a0.length : Int) ≤ 281474976710656)) (
  f99_L3 n n a0 0 (List.replicate ((a0.length : Int).toNat) 0)
   (fun z_1 => (
    some z_1)))
def f99_E (n : Nat) : Ent := ⟨99, [hIs], [hIs], fun x => f99 n x⟩
def f99_D (α : Type) (n : Nat) : D3 α := { reg := [], join := [], loop := [(3, ⟨f99_L3H, f99_L3O, rounds (f99_L3U n) n⟩)] }
theorem f99_ents (α : Type) (n : Nat) : AllS Try.prog (entsOf (f99_D α n).reg) := trivial
theorem f99_L3_d (α : Type) (n : Nat) : D3.OK Try.prog (tyOf Try.prog) ⟨22, []⟩ (f99_D α n) ((bodyOf Try.f99).at [1, 1, 0, 1, 0, 0]) :=
 D3.OK.mk3 (f99_ents α n) (show loopsOf ((bodyOf Try.f99).at [1, 1, 0, 1, 0, 0]) = [] by kernel_rfl) trivial
theorem f99_L3_ok (α : Type) (n : Nat) : LO.Sound (α := α) Try.prog ⟨22, []⟩ ⟨f99_L3H, f99_L3O, rounds (f99_L3U n) n⟩ (.loop ((bodyOf Try.f99).at [1, 1, 0, 1, 0, 0])) :=
 loop_ok (tyOf_ok _) prog_fol (f99_L3U n) (f99_L3_d α n) (by intro v f ks; kernel_rfl) n
theorem f99_d (α : Type) (n : Nat) : D3.OK Try.prog (tyOf Try.prog) ⟨22, []⟩ (f99_D α n) (bodyOf Try.f99) :=
 D3.OK.mk3 (f99_ents α n) (show loopsOf (bodyOf Try.f99) = [(3, (.loop ((bodyOf Try.f99).at [1, 1, 0, 1, 0, 0])))] by kernel_rfl) ⟨look_sound rfl (f99_L3_ok α n), trivial⟩
theorem f99_ok (n : Nat) : (f99_E n).Sound Try.prog :=
 fn_ok (tyOf_ok _) prog_fol (f99_D _ n) (show Try.prog.funcs[99]? = some Try.f99 by kernel_rfl) (by kernel_rfl) (show Try.f99.body = some (bodyOf Try.f99) by kernel_rfl) rfl rfl (Nat.le_of_ble_eq_true rfl) (f99_d _ n) (by intro x; kernel_rfl) 

def f51 (n : Nat) (a0 : Rq) : Option Rq :=
 ob (f99 n a0.2.1) fun r_1 =>
 ob (f99 n a0.2.2) fun r_2 =>
 some (a0.1, r_1, r_2)
def f51_E (n : Nat) : Ent := ⟨51, [hR], [hR], fun x => f51 n x⟩
def f51_D (α : Type) (n : Nat) : D3 α := { reg := [(3, ⟨0, [], [(2, { ent := some (f99_E n) })]⟩), (4, ⟨0, [], [(2, { ent := some (f99_E n) })]⟩)], join := [], loop := [] }
theorem f51_ents (α : Type) (n : Nat) : AllS Try.prog (entsOf (f51_D α n).reg) := ⟨f99_ok n, f99_ok n, trivial⟩
theorem f51_d (α : Type) (n : Nat) : D3.OK Try.prog (tyOf Try.prog) ⟨16, []⟩ (f51_D α n) (bodyOf Try.f51) :=
 D3.OK.mk3 (f51_ents α n) (show loopsOf (bodyOf Try.f51) = [] by kernel_rfl) trivial
theorem f51_ok (n : Nat) : (f51_E n).Sound Try.prog :=
 fn_ok (tyOf_ok _) prog_fol (f51_D _ n) (show Try.prog.funcs[51]? = some Try.f51 by kernel_rfl) (by kernel_rfl) (show Try.f51.body = some (bodyOf Try.f51) by kernel_rfl) rfl rfl (Nat.le_of_ble_eq_true rfl) (f51_d _ n) (by intro x; kernel_rfl) 

def f17_L3B {α : Type} (n : Nat) (s0 : LR) (s4 : Int) (b7 : LR) (f : LR → Int → LR → Option α) (k0 : LR → Option α) : Option α :=
 bif (decide (s4 < (s0.length : Int))) then
  gd (decide (0 ≤ s4) && decide (s4 < (s0.length : Int))) (
   let x_1 := s0.getD s4.toNat (false, [], [])
   ob (f51 n x_1) fun r_2 =>
   gd (decide (0 ≤ s4) && decide (s4 < (b7.length : Int))) (
    gd (decide (s4.toNat < b7.length)) (
     f s0 (W (s4 + 1)) (b7.set s4.toNat r_2))))
 else
  k0 b7
abbrev f17_L3H : Tm := ⟨[(0, .d hRs), (3, .k (.hw 7)), (4, .d hI)], [(7, .arr 31 hR false)], [], []⟩
abbrev f17_L3X0 : Tm := ⟨[(3, .k (.hw 7))], [(7, .arr 31 hR false)], [], []⟩
abbrev f17_L3O : List (Exit × Tm) := [(.exit 0, f17_L3X0)]
def f17_L3U {α : Type} (n : Nat) (v : f17_L3H.den) (f : f17_L3H.den → Option α) (ks : KS α f17_L3O) : Option α := f17_L3B n v.1.1 v.1.2.2.1 v.2.1 (fun s0 s4 b7 => f ((s0, (), s4, ()), (b7, ()))) (fun w0 => ks.1 (((), ()), (w0, ())))
def f17_L3 {α : Type} (n m : Nat) (s0 : LR) (s4 : Int) (b7 : LR) (k0 : LR → Option α) : Option α := rounds (f17_L3U n) m ((s0, (), s4, ()), (b7, ())) (fun w => k0 w.2.1, ())
theorem f17_L3_0 {α n s0 s4 b7 k0} : f17_L3 (α := α) n 0 s0 s4 b7 k0 = none := rfl
theorem f17_L3_s {α n m s0 s4 b7 k0} : f17_L3 (α := α) n (m + 1) s0 s4 b7 k0 = f17_L3B n s0 s4 b7 (fun s0 s4 b7 => f17_L3 n m s0 s4 b7 k0) k0 := rfl
def f17 (n : Nat) (a0 : LR) : Option LR :=
 gd (decide (0 ≤ (a0.length : Int)) && decide ((a0.length : Int) ≤ 4611686018427387904) && decide ((56 : Int) * (a0.length : Int) ≤ 281474976710656)) (
  f17_L3 n n a0 0 (List.replicate ((a0.length : Int).toNat) (false, [], []))
   (fun z_3 => (
    some z_3)))
def f17_E (n : Nat) : Ent := ⟨17, [hRs], [hRs], fun x => f17 n x⟩
def f17_D (α : Type) (n : Nat) : D3 α := { reg := [(5, ⟨0, [], [(6, { ent := some (f51_E n) })]⟩)], join := [], loop := [(3, ⟨f17_L3H, f17_L3O, rounds (f17_L3U n) n⟩)] }
theorem f17_ents (α : Type) (n : Nat) : AllS Try.prog (entsOf (f17_D α n).reg) := ⟨f51_ok n, trivial⟩
theorem f17_L3_d (α : Type) (n : Nat) : D3.OK Try.prog (tyOf Try.prog) ⟨23, []⟩ (f17_D α n) ((bodyOf Try.f17).at [1, 1, 0, 1, 0, 0]) :=
 D3.OK.mk3 (f17_ents α n) (show loopsOf ((bodyOf Try.f17).at [1, 1, 0, 1, 0, 0]) = [] by kernel_rfl) trivial
theorem f17_L3_ok (α : Type) (n : Nat) : LO.Sound (α := α) Try.prog ⟨23, []⟩ ⟨f17_L3H, f17_L3O, rounds (f17_L3U n) n⟩ (.loop ((bodyOf Try.f17).at [1, 1, 0, 1, 0, 0])) :=
 loop_ok (tyOf_ok _) prog_fol (f17_L3U n) (f17_L3_d α n) (by intro v f ks; kernel_rfl) n
theorem f17_d (α : Type) (n : Nat) : D3.OK Try.prog (tyOf Try.prog) ⟨23, []⟩ (f17_D α n) (bodyOf Try.f17) :=
 D3.OK.mk3 (f17_ents α n) (show loopsOf (bodyOf Try.f17) = [(3, (.loop ((bodyOf Try.f17).at [1, 1, 0, 1, 0, 0])))] by kernel_rfl) ⟨look_sound rfl (f17_L3_ok α n), trivial⟩
theorem f17_ok (n : Nat) : (f17_E n).Sound Try.prog :=
 fn_ok (tyOf_ok _) prog_fol (f17_D _ n) (show Try.prog.funcs[17]? = some Try.f17 by kernel_rfl) (by kernel_rfl) (show Try.f17.body = some (bodyOf Try.f17) by kernel_rfl) rfl rfl (Nat.le_of_ble_eq_true rfl) (f17_d _ n) (by intro x; kernel_rfl) 

def f85 (n : Nat) (a0 a1 a2 : Int) : Option Bool :=
 bif (decide (a1 ≤ a0)) then
  some (decide (a0 ≤ a2))
 else
  some false
def f85_E (n : Nat) : Ent := ⟨85, [hI, hI, hI], [.bool], fun x => f85 n x.1 x.2.1 x.2.2⟩
def f85_D (α : Type) (n : Nat) : D3 α := { reg := [], join := [], loop := [] }
theorem f85_ents (α : Type) (n : Nat) : AllS Try.prog (entsOf (f85_D α n).reg) := trivial
theorem f85_d (α : Type) (n : Nat) : D3.OK Try.prog (tyOf Try.prog) ⟨15, []⟩ (f85_D α n) (bodyOf Try.f85) :=
 D3.OK.mk3 (f85_ents α n) (show loopsOf (bodyOf Try.f85) = [] by kernel_rfl) trivial
theorem f85_ok (n : Nat) : (f85_E n).Sound Try.prog :=
 fn_ok (tyOf_ok _) prog_fol (f85_D _ n) (show Try.prog.funcs[85]? = some Try.f85 by kernel_rfl) (by kernel_rfl) (show Try.f85.body = some (bodyOf Try.f85) by kernel_rfl) rfl rfl (Nat.le_of_ble_eq_true rfl) (f85_d _ n) (by intro x; kernel_rfl) 

def f122_L4B {α : Type} (n : Nat) (s0 : LI) (s3 : Int) (f : LI → Int → Option α) (k0 : Bool → Option α) (k1 : LI → Option α) : Option α :=
 bif (decide (s3 < (s0.length : Int))) then
  gd (decide (0 ≤ s3) && decide (s3 < (s0.length : Int))) (
   ob (f85 n (s0.getD s3.toNat 0) 0 9999) fun r_1 =>
   bif (!r_1) then
    k0 false
   else
    f s0 (W (s3 + 1)))
 else
  k1 s0
abbrev f122_L4H : Tm := ⟨[(0, .d hIs), (3, .d hI)], [], [], []⟩
abbrev f122_L4X0 : Tm := ⟨[(2, .d .bool)], [], [], []⟩
abbrev f122_L4X1 : Tm := ⟨[(0, .d hIs)], [], [], []⟩
abbrev f122_L4O : List (Exit × Tm) := [(.ret, f122_L4X0), (.exit 0, f122_L4X1)]
def f122_L4U {α : Type} (n : Nat) (v : f122_L4H.den) (f : f122_L4H.den → Option α) (ks : KS α f122_L4O) : Option α := f122_L4B n v.1.1 v.1.2.1 (fun s0 s3 => f ((s0, s3, ()), ())) (fun w0 => ks.1 ((w0, ()), ())) (fun w0 => ks.2.1 ((w0, ()), ()))
def f122_L4 {α : Type} (n m : Nat) (s0 : LI) (s3 : Int) (k0 : Bool → Option α) (k1 : LI → Option α) : Option α := rounds (f122_L4U n) m ((s0, s3, ()), ()) (fun w => k0 w.1.1, fun w => k1 w.1.1, ())
theorem f122_L4_0 {α n s0 s3 k0 k1} : f122_L4 (α := α) n 0 s0 s3 k0 k1 = none := rfl
theorem f122_L4_s {α n m s0 s3 k0 k1} : f122_L4 (α := α) n (m + 1) s0 s3 k0 k1 = f122_L4B n s0 s3 (fun s0 s3 => f122_L4 n m s0 s3 k0 k1) k0 k1 := rfl
def f122 (n : Nat) (a0 : LI) : Option Bool :=
 bif (decide ((a0.length : Int) > 4096)) then
  some false
 else
  f122_L4 n n a0 0
   (fun z_2 => (
    some z_2))
   (fun z_3 => (
    bif (decide ((z_3.length : Int) ≤ 40)) then
     bif ((z_3.length : Int) == 0) then
      some true
     else
      gd (decide (0 ≤ (W ((z_3.length : Int) - 1))) && decide ((W ((z_3.length : Int) - 1)) < (z_3.length : Int))) (
       some (decide ((z_3.getD ((W ((z_3.length : Int) - 1)).toNat) 0) > 0)))
    else
     some false))
def f122_E (n : Nat) : Ent := ⟨122, [hIs], [.bool], fun x => f122 n x⟩
def f122_D (α : Type) (n : Nat) : D3 α := { reg := [(6, ⟨0, [], [(4, { ent := some (f85_E n) })]⟩)], join := [], loop := [(4, ⟨f122_L4H, f122_L4O, rounds (f122_L4U n) n⟩)] }
theorem f122_ents (α : Type) (n : Nat) : AllS Try.prog (entsOf (f122_D α n).reg) := ⟨f85_ok n, trivial⟩
theorem f122_L4_d (α : Type) (n : Nat) : D3.OK Try.prog (tyOf Try.prog) ⟨36, []⟩ (f122_D α n) ((bodyOf Try.f122).at [1, 1, 0, 1, 0, 0]) :=
 D3.OK.mk3 (f122_ents α n) (show loopsOf ((bodyOf Try.f122).at [1, 1, 0, 1, 0, 0]) = [] by kernel_rfl) trivial
theorem f122_L4_ok (α : Type) (n : Nat) : LO.Sound (α := α) Try.prog ⟨36, []⟩ ⟨f122_L4H, f122_L4O, rounds (f122_L4U n) n⟩ (.loop ((bodyOf Try.f122).at [1, 1, 0, 1, 0, 0])) :=
 loop_ok (tyOf_ok _) prog_fol (f122_L4U n) (f122_L4_d α n) (by intro v f ks; kernel_rfl) n
theorem f122_d (α : Type) (n : Nat) : D3.OK Try.prog (tyOf Try.prog) ⟨36, []⟩ (f122_D α n) (bodyOf Try.f122) :=
 D3.OK.mk3 (f122_ents α n) (show loopsOf (bodyOf Try.f122) = [(4, (.loop ((bodyOf Try.f122).at [1, 1, 0, 1, 0, 0])))] by kernel_rfl) ⟨look_sound rfl (f122_L4_ok α n), trivial⟩
theorem f122_ok (n : Nat) : (f122_E n).Sound Try.prog :=
 fn_ok (tyOf_ok _) prog_fol (f122_D _ n) (show Try.prog.funcs[122]? = some Try.f122 by kernel_rfl) (by kernel_rfl) (show Try.f122.body = some (bodyOf Try.f122) by kernel_rfl) rfl rfl (Nat.le_of_ble_eq_true rfl) (f122_d _ n) (by intro x; kernel_rfl) 

def f149_L2B {α : Type} (n : Nat) (s0 : LI) (s3 : Int) (f : LI → Int → Option α) (k0 : LI → Int → Option α) : Option α :=
 bif (decide (s3 > 0)) then
  gd (decide (0 ≤ (W (s3 - 1))) && decide ((W (s3 - 1)) < (s0.length : Int))) (
   bif ((s0.getD ((W (s3 - 1)).toNat) 0) == 0) then
    f s0 (W (s3 - 1))
   else
    k0 s0 s3)
 else
  k0 s0 s3
abbrev f149_L2H : Tm := ⟨[(0, .d hIs), (3, .d hI)], [], [], []⟩
abbrev f149_L2X0 : Tm := ⟨[(0, .d hIs), (3, .d hI)], [], [], []⟩
abbrev f149_L2O : List (Exit × Tm) := [(.exit 0, f149_L2X0)]
def f149_L2U {α : Type} (n : Nat) (v : f149_L2H.den) (f : f149_L2H.den → Option α) (ks : KS α f149_L2O) : Option α := f149_L2B n v.1.1 v.1.2.1 (fun s0 s3 => f ((s0, s3, ()), ())) (fun w0 w1 => ks.1 ((w0, w1, ()), ()))
def f149_L2 {α : Type} (n m : Nat) (s0 : LI) (s3 : Int) (k0 : LI → Int → Option α) : Option α := rounds (f149_L2U n) m ((s0, s3, ()), ()) (fun w => k0 w.1.1 w.1.2.1, ())
theorem f149_L2_0 {α n s0 s3 k0} : f149_L2 (α := α) n 0 s0 s3 k0 = none := rfl
theorem f149_L2_s {α n m s0 s3 k0} : f149_L2 (α := α) n (m + 1) s0 s3 k0 = f149_L2B n s0 s3 (fun s0 s3 => f149_L2 n m s0 s3 k0) k0 := rfl
def f149 (n : Nat) (a0 : LI) : Option LI :=
 f149_L2 n n a0 (a0.length : Int)
  (fun z_1 z_2 => (
   gd (decide (0 ≤ z_2) && decide (z_2 ≤ (z_1.length : Int))) (
    gd (decide ((0 + ((z_1.drop 0).take (z_2.toNat - 0)).length) * 8 ≤ 140737488355328)) (
     some ((z_1.drop 0).take (z_2.toNat - 0))))))
def f149_E (n : Nat) : Ent := ⟨149, [hIs], [hIs], fun x => f149 n x⟩
def f149_D (α : Type) (n : Nat) : D3 α := { reg := [(4, ⟨0, [], [(0, { sh := some hI })]⟩)], join := [], loop := [(2, ⟨f149_L2H, f149_L2O, rounds (f149_L2U n) n⟩)] }
theorem f149_ents (α : Type) (n : Nat) : AllS Try.prog (entsOf (f149_D α n).reg) := trivial
theorem f149_L2_d (α : Type) (n : Nat) : D3.OK Try.prog (tyOf Try.prog) ⟨23, []⟩ (f149_D α n) ((bodyOf Try.f149).at [1, 1, 0, 0, 0]) :=
 D3.OK.mk3 (f149_ents α n) (show loopsOf ((bodyOf Try.f149).at [1, 1, 0, 0, 0]) = [] by kernel_rfl) trivial
theorem f149_L2_ok (α : Type) (n : Nat) : LO.Sound (α := α) Try.prog ⟨23, []⟩ ⟨f149_L2H, f149_L2O, rounds (f149_L2U n) n⟩ (.loop ((bodyOf Try.f149).at [1, 1, 0, 0, 0])) :=
 loop_ok (tyOf_ok _) prog_fol (f149_L2U n) (f149_L2_d α n) (by intro v f ks; kernel_rfl) n
theorem f149_d (α : Type) (n : Nat) : D3.OK Try.prog (tyOf Try.prog) ⟨23, []⟩ (f149_D α n) (bodyOf Try.f149) :=
 D3.OK.mk3 (f149_ents α n) (show loopsOf (bodyOf Try.f149) = [(2, (.loop ((bodyOf Try.f149).at [1, 1, 0, 0, 0])))] by kernel_rfl) ⟨look_sound rfl (f149_L2_ok α n), trivial⟩
theorem f149_ok (n : Nat) : (f149_E n).Sound Try.prog :=
 fn_ok (tyOf_ok _) prog_fol (f149_D _ n) (show Try.prog.funcs[149]? = some Try.f149 by kernel_rfl) (by kernel_rfl) (show Try.f149.body = some (bodyOf Try.f149) by kernel_rfl) rfl rfl (Nat.le_of_ble_eq_true rfl) (f149_d _ n) (by intro x; kernel_rfl) 

def f147 (n : Nat) (a0 : Bool) : Option Int :=
 bif a0 then
  some 1
 else
  some 0
def f147_E (n : Nat) : Ent := ⟨147, [.bool], [hI], fun x => f147 n x⟩
def f147_D (α : Type) (n : Nat) : D3 α := { reg := [], join := [], loop := [] }
theorem f147_ents (α : Type) (n : Nat) : AllS Try.prog (entsOf (f147_D α n).reg) := trivial
theorem f147_d (α : Type) (n : Nat) : D3.OK Try.prog (tyOf Try.prog) ⟨4, []⟩ (f147_D α n) (bodyOf Try.f147) :=
 D3.OK.mk3 (f147_ents α n) (show loopsOf (bodyOf Try.f147) = [] by kernel_rfl) trivial
theorem f147_ok (n : Nat) : (f147_E n).Sound Try.prog :=
 fn_ok (tyOf_ok _) prog_fol (f147_D _ n) (show Try.prog.funcs[147]? = some Try.f147 by kernel_rfl) (by kernel_rfl) (show Try.f147.body = some (bodyOf Try.f147) by kernel_rfl) rfl rfl (Nat.le_of_ble_eq_true rfl) (f147_d _ n) (by intro x; kernel_rfl) 

def f123_L4B {α : Type} (n : Nat) (s0 s1 : LI) (s5 : Int) (f : LI → LI → Int → Option α) (k0 : Int → Option α) (k1 : Unit → Option α) : Option α :=
 bif (decide (s5 ≥ 0)) then
  gd (decide (0 ≤ s5) && decide (s5 < (s0.length : Int))) (
   gd (decide (0 ≤ s5) && decide (s5 < (s1.length : Int))) (
    bif ((s0.getD s5.toNat 0) != (s1.getD s5.toNat 0)) then
     gd (decide (0 ≤ s5) && decide (s5 < (s0.length : Int))) (
      gd (decide (0 ≤ s5) && decide (s5 < (s1.length : Int))) (
       ob (f147 n (decide ((s0.getD s5.toNat 0) > (s1.getD s5.toNat 0)))) fun r_2 =>
       k0 (W ((W (2 * r_2)) - 1))))
    else
     f s0 s1 (W (s5 - 1))))
 else
  k1 ()
abbrev f123_L4H : Tm := ⟨[(0, .d hIs), (1, .d hIs), (5, .d hI)], [], [], []⟩
abbrev f123_L4X0 : Tm := ⟨[(4, .d hI)], [], [], []⟩
abbrev f123_L4X1 : Tm := ⟨[], [], [], []⟩
abbrev f123_L4O : List (Exit × Tm) := [(.ret, f123_L4X0), (.exit 0, f123_L4X1)]
def f123_L4U {α : Type} (n : Nat) (v : f123_L4H.den) (f : f123_L4H.den → Option α) (ks : KS α f123_L4O) : Option α := f123_L4B n v.1.1 v.1.2.1 v.1.2.2.1 (fun s0 s1 s5 => f ((s0, s1, s5, ()), ())) (fun w0 => ks.1 ((w0, ()), ())) (fun _ => ks.2.1 ((), ()))
def f123_L4 {α : Type} (n m : Nat) (s0 s1 : LI) (s5 : Int) (k0 : Int → Option α) (k1 : Unit → Option α) : Option α := rounds (f123_L4U n) m ((s0, s1, s5, ()), ()) (fun w => k0 w.1.1, fun w => k1 (), ())
theorem f123_L4_0 {α n s0 s1 s5 k0 k1} : f123_L4 (α := α) n 0 s0 s1 s5 k0 k1 = none := rfl
theorem f123_L4_s {α n m s0 s1 s5 k0 k1} : f123_L4 (α := α) n (m + 1) s0 s1 s5 k0 k1 = f123_L4B n s0 s1 s5 (fun s0 s1 s5 => f123_L4 n m s0 s1 s5 k0 k1) k0 k1 := rfl
def f123 (n : Nat) (a0 a1 : LI) : Option Int :=
 bif ((a0.length : Int) != (a1.length : Int)) then
  ob (f147 n (decide ((a0.length : Int) > (a1.length : Int)))) fun r_1 =>
  some (W ((W (2 * r_1)) - 1))
 else
  f123_L4 n n a0 a1 (W ((a0.length : Int) - 1))
   (fun z_3 => (
    some z_3))
   (fun (_ : Unit) => (
    some 0))
def f123_E (n : Nat) : Ent := ⟨123, [hIs, hIs], [hI], fun x => f123 n x.1 x.2⟩
def f123_D (α : Type) (n : Nat) : D3 α := { reg := [(2, ⟨0, [], [(5, { ent := some (f147_E n) })]⟩), (6, ⟨8, [], []⟩), (7, ⟨8, [], [(9, { ent := some (f147_E n) })]⟩)], join := [], loop := [(4, ⟨f123_L4H, f123_L4O, rounds (f123_L4U n) n⟩)] }
theorem f123_ents (α : Type) (n : Nat) : AllS Try.prog (entsOf (f123_D α n).reg) := ⟨f147_ok n, f147_ok n, trivial⟩
theorem f123_L4_d (α : Type) (n : Nat) : D3.OK Try.prog (tyOf Try.prog) ⟨47, []⟩ (f123_D α n) ((bodyOf Try.f123).at [1, 1, 0, 1, 0, 0]) :=
 D3.OK.mk3 (f123_ents α n) (show loopsOf ((bodyOf Try.f123).at [1, 1, 0, 1, 0, 0]) = [] by kernel_rfl) trivial
theorem f123_L4_ok (α : Type) (n : Nat) : LO.Sound (α := α) Try.prog ⟨47, []⟩ ⟨f123_L4H, f123_L4O, rounds (f123_L4U n) n⟩ (.loop ((bodyOf Try.f123).at [1, 1, 0, 1, 0, 0])) :=
 loop_ok (tyOf_ok _) prog_fol (f123_L4U n) (f123_L4_d α n) (by intro v f ks; kernel_rfl) n
theorem f123_d (α : Type) (n : Nat) : D3.OK Try.prog (tyOf Try.prog) ⟨47, []⟩ (f123_D α n) (bodyOf Try.f123) :=
 D3.OK.mk3 (f123_ents α n) (show loopsOf (bodyOf Try.f123) = [(4, (.loop ((bodyOf Try.f123).at [1, 1, 0, 1, 0, 0])))] by kernel_rfl) ⟨look_sound rfl (f123_L4_ok α n), trivial⟩
theorem f123_ok (n : Nat) : (f123_E n).Sound Try.prog :=
 fn_ok (tyOf_ok _) prog_fol (f123_D _ n) (show Try.prog.funcs[123]? = some Try.f123 by kernel_rfl) (by kernel_rfl) (show Try.f123.body = some (bodyOf Try.f123) by kernel_rfl) rfl rfl (Nat.le_of_ble_eq_true rfl) (f123_d _ n) (by intro x; kernel_rfl) 

def f111_L2B {α : Type} (n : Nat) (s0 : Int) (b4 : LI) (f : Int → LI → Option α) (k0 : LI → Option α) : Option α :=
 bif (decide (s0 > 0)) then
  gd (decide ((b4.length + 1) * 8 ≤ 140737488355328)) (
   f (W (Int.tdiv s0 10000)) (b4 ++ [(Int.tmod s0 10000)]))
 else
  k0 b4
abbrev f111_L2H : Tm := ⟨[(0, .d hI), (3, .k (.hw 4))], [(4, .arr 3 hI false)], [10], []⟩
abbrev f111_L2X0 : Tm := ⟨[(3, .k (.hw 4))], [(4, .arr 3 hI false)], [], []⟩
abbrev f111_L2O : List (Exit × Tm) := [(.exit 0, f111_L2X0)]
def f111_L2U {α : Type} (n : Nat) (v : f111_L2H.den) (f : f111_L2H.den → Option α) (ks : KS α f111_L2O) : Option α := f111_L2B n v.1.1 v.2.1 (fun s0 b4 => f ((s0, (), ()), (b4, ()))) (fun w0 => ks.1 (((), ()), (w0, ())))
def f111_L2 {α : Type} (n m : Nat) (s0 : Int) (b4 : LI) (k0 : LI → Option α) : Option α := rounds (f111_L2U n) m ((s0, (), ()), (b4, ())) (fun w => k0 w.2.1, ())
theorem f111_L2_0 {α n s0 b4 k0} : f111_L2 (α := α) n 0 s0 b4 k0 = none := rfl
theorem f111_L2_s {α n m s0 b4 k0} : f111_L2 (α := α) n (m + 1) s0 b4 k0 = f111_L2B n s0 b4 (fun s0 b4 => f111_L2 n m s0 b4 k0) k0 := rfl
def f111 (n : Nat) (a0 : Int) : Option LI :=
 f111_L2 n n a0 []
  (fun z_1 => (
   some z_1))
def f111_E (n : Nat) : Ent := ⟨111, [hI], [hIs], fun x => f111 n x⟩
def f111_D (α : Type) (n : Nat) : D3 α := { reg := [(1, ⟨0, [], [(0, { sh := some hI })]⟩), (3, ⟨0, [], [(3, { sh := some hI })]⟩)], join := [], loop := [(2, ⟨f111_L2H, f111_L2O, rounds (f111_L2U n) n⟩)] }
theorem f111_ents (α : Type) (n : Nat) : AllS Try.prog (entsOf (f111_D α n).reg) := trivial
theorem f111_L2_d (α : Type) (n : Nat) : D3.OK Try.prog (tyOf Try.prog) ⟨15, []⟩ (f111_D α n) ((bodyOf Try.f111).at [1, 1, 0, 0, 0]) :=
 D3.OK.mk3 (f111_ents α n) (show loopsOf ((bodyOf Try.f111).at [1, 1, 0, 0, 0]) = [] by kernel_rfl) trivial
theorem f111_L2_ok (α : Type) (n : Nat) : LO.Sound (α := α) Try.prog ⟨15, []⟩ ⟨f111_L2H, f111_L2O, rounds (f111_L2U n) n⟩ (.loop ((bodyOf Try.f111).at [1, 1, 0, 0, 0])) :=
 loop_ok (tyOf_ok _) prog_fol (f111_L2U n) (f111_L2_d α n) (by intro v f ks; kernel_rfl) n
theorem f111_d (α : Type) (n : Nat) : D3.OK Try.prog (tyOf Try.prog) ⟨15, []⟩ (f111_D α n) (bodyOf Try.f111) :=
 D3.OK.mk3 (f111_ents α n) (show loopsOf (bodyOf Try.f111) = [(2, (.loop ((bodyOf Try.f111).at [1, 1, 0, 0, 0])))] by kernel_rfl) ⟨look_sound rfl (f111_L2_ok α n), trivial⟩
theorem f111_ok (n : Nat) : (f111_E n).Sound Try.prog :=
 fn_ok (tyOf_ok _) prog_fol (f111_D _ n) (show Try.prog.funcs[111]? = some Try.f111 by kernel_rfl) (by kernel_rfl) (show Try.f111.body = some (bodyOf Try.f111) by kernel_rfl) rfl rfl (Nat.le_of_ble_eq_true rfl) (f111_d _ n) (by intro x; kernel_rfl) 

def f126_L7B {α : Type} (n : Nat) (s0 s1 : LI) (s6 s7 s8 : Int) (b16 : LI) (f : LI → LI → Int → Int → Int → LI → Option α) (k0 : LI → LI → Int → LI → Option α) : Option α :=
 let J_3 := fun (_ : Unit) => (
  gd (decide (0 ≤ (W (s6 + s8))) && decide ((W (s6 + s8)) < (b16.length : Int))) (
   gd (decide ((W (s6 + s8)).toNat < b16.length)) (
    let J_2 := fun (y_1 : Int) => (
     gd (decide (0 ≤ (W (s6 + s8))) && decide ((W (s6 + s8)) < (b16.length : Int))) (
      gd (decide ((W (s6 + s8)).toNat < b16.length)) (
       f s0 s1 s6 (W (Int.tdiv y_1 10000)) (W (s8 + 1)) (b16.set ((W (s6 + s8)).toNat) (Int.tmod y_1 10000)))))
    bif (decide (s8 < (s1.length : Int))) then
     gd (decide (0 ≤ s6) && decide (s6 < (s0.length : Int))) (
      gd (decide (0 ≤ s8) && decide (s8 < (s1.length : Int))) (
       J_2 (W ((W ((b16.getD ((W (s6 + s8)).toNat) 0) + s7)) + (W ((s0.getD s6.toNat 0) * (s1.getD s8.toNat 0)))))))
    else
     J_2 (W ((b16.getD ((W (s6 + s8)).toNat) 0) + s7)))))
 bif (decide (s8 < (s1.length : Int))) then
  J_3 ()
 else
  bif (decide (s7 > 0)) then
   J_3 ()
  else
   k0 s0 s1 s6 b16
abbrev f126_L7H : Tm := ⟨[(0, .d hIs), (1, .d hIs), (5, .k (.hw 16)), (6, .d hI), (7, .d hI), (8, .d hI)], [(16, .arr 3 hI false)], [], []⟩
abbrev f126_L7X0 : Tm := ⟨[(0, .d hIs), (1, .d hIs), (5, .k (.hw 16)), (6, .d hI)], [(16, .arr 3 hI false)], [], []⟩
abbrev f126_L7O : List (Exit × Tm) := [(.exit 2, f126_L7X0)]
def f126_L7U {α : Type} (n : Nat) (v : f126_L7H.den) (f : f126_L7H.den → Option α) (ks : KS α f126_L7O) : Option α := f126_L7B n v.1.1 v.1.2.1 v.1.2.2.2.1 v.1.2.2.2.2.1 v.1.2.2.2.2.2.1 v.2.1 (fun s0 s1 s6 s7 s8 b16 => f ((s0, s1, (), s6, s7, s8, ()), (b16, ()))) (fun w0 w1 w2 w3 => ks.1 ((w0, w1, (), w2, ()), (w3, ())))
def f126_L7 {α : Type} (n m : Nat) (s0 s1 : LI) (s6 s7 s8 : Int) (b16 : LI) (k0 : LI → LI → Int → LI → Option α) : Option α := rounds (f126_L7U n) m ((s0, s1, (), s6, s7, s8, ()), (b16, ())) (fun w => k0 w.1.1 w.1.2.1 w.1.2.2.2.1 w.2.1, ())
theorem f126_L7_0 {α n s0 s1 s6 s7 s8 b16 k0} : f126_L7 (α := α) n 0 s0 s1 s6 s7 s8 b16 k0 = none := rfl
theorem f126_L7_s {α n m s0 s1 s6 s7 s8 b16 k0} : f126_L7 (α := α) n (m + 1) s0 s1 s6 s7 s8 b16 k0 = f126_L7B n s0 s1 s6 s7 s8 b16 (fun s0 s1 s6 s7 s8 b16 => f126_L7 n m s0 s1 s6 s7 s8 b16 k0) k0 := rfl
def f126_L3B {α : Type} (n : Nat) (s0 s1 : LI) (s6 : Int) (b16 : LI) (f : LI → LI → Int → LI → Option α) (k0 : LI → Option α) : Option α :=
 bif (decide (s6 < (s0.length : Int))) then
  f126_L7 n n s0 s1 s6 0 0 b16
   (fun z_1 z_2 z_3 z_4 => (
    f z_1 z_2 (W (z_3 + 1)) z_4))
 else
  k0 b16
abbrev f126_L3H : Tm := ⟨[(0, .d hIs), (1, .d hIs), (5, .k (.hw 16)), (6, .d hI)], [(16, .arr 3 hI false)], [], []⟩
abbrev f126_L3X0 : Tm := ⟨[(5, .k (.hw 16))], [(16, .arr 3 hI false)], [], []⟩
abbrev f126_L3O : List (Exit × Tm) := [(.exit 0, f126_L3X0)]
def f126_L3U {α : Type} (n : Nat) (v : f126_L3H.den) (f : f126_L3H.den → Option α) (ks : KS α f126_L3O) : Option α := f126_L3B n v.1.1 v.1.2.1 v.1.2.2.2.1 v.2.1 (fun s0 s1 s6 b16 => f ((s0, s1, (), s6, ()), (b16, ()))) (fun w0 => ks.1 (((), ()), (w0, ())))
def f126_L3 {α : Type} (n m : Nat) (s0 s1 : LI) (s6 : Int) (b16 : LI) (k0 : LI → Option α) : Option α := rounds (f126_L3U n) m ((s0, s1, (), s6, ()), (b16, ())) (fun w => k0 w.2.1, ())
theorem f126_L3_0 {α n s0 s1 s6 b16 k0} : f126_L3 (α := α) n 0 s0 s1 s6 b16 k0 = none := rfl
theorem f126_L3_s {α n m s0 s1 s6 b16 k0} : f126_L3 (α := α) n (m + 1) s0 s1 s6 b16 k0 = f126_L3B n s0 s1 s6 b16 (fun s0 s1 s6 b16 => f126_L3 n m s0 s1 s6 b16 k0) k0 := rfl
abbrev f126_J9 : Tm := ⟨[(0, .d hIs), (1, .d hIs), (5, .k (.hw 16)), (6, .d hI), (7, .d hI), (8, .d hI)], [(16, .arr 3 hI false)], [], []⟩
abbrev f126_J12 : Tm := ⟨[(0, .d hIs), (1, .d hIs), (5, .k (.hw 16)), (6, .d hI), (8, .d hI), (9, .d hI)], [(16, .arr 3 hI false)], [], []⟩
def f126 (n : Nat) (a0 a1 : LI) : Option LI :=
 gd (decide (0 ≤ (W ((W ((a0.length : Int) + (a1.length : Int))) + 1))) && decide ((W ((W ((a0.length : Int) + (a1.length : Int))) + 1)) ≤ 4611686018427387904) && decide ((8 : Int) * (W ((W ((a0.length : Int) + (a1.length : Int))) + 1)) ≤ 281474976710656)) (
  f126_L3 n n a0 a1 0 (List.replicate ((W ((W ((a0.length : Int) + (a1.length : Int))) + 1)).toNat) 0)
   (fun z_5 => (
    ob (f149 n z_5) fun r_6 =>
    some r_6)))
def f126_E (n : Nat) : Ent := ⟨126, [hIs, hIs], [hIs], fun x => f126 n x.1 x.2⟩
def f126_D (α : Type) (n : Nat) : D3 α := { reg := [(11, ⟨10, [], []⟩), (14, ⟨0, [], [(1, { ent := some (f149_E n), fz := [(65, hIs)] })]⟩)], join := [(9, f126_J9), (12, f126_J12)], loop := [(7, ⟨f126_L7H, f126_L7O, rounds (f126_L7U n) n⟩), (3, ⟨f126_L3H, f126_L3O, rounds (f126_L3U n) n⟩)] }
theorem f126_ents (α : Type) (n : Nat) : AllS Try.prog (entsOf (f126_D α n).reg) := ⟨f149_ok n, trivial⟩
theorem f126_L7_d (α : Type) (n : Nat) : D3.OK Try.prog (tyOf Try.prog) ⟨67, []⟩ (f126_D α n) ((bodyOf Try.f126).at [1, 1, 0, 1, 0, 0, 1, 0, 0, 1, 1, 0, 0]) :=
 D3.OK.mk3 (f126_ents α n) (show loopsOf ((bodyOf Try.f126).at [1, 1, 0, 1, 0, 0, 1, 0, 0, 1, 1, 0, 0]) = [] by kernel_rfl) trivial
theorem f126_L7_ok (α : Type) (n : Nat) : LO.Sound (α := α) Try.prog ⟨67, []⟩ ⟨f126_L7H, f126_L7O, rounds (f126_L7U n) n⟩ (.loop ((bodyOf Try.f126).at [1, 1, 0, 1, 0, 0, 1, 0, 0, 1, 1, 0, 0])) :=
 loop_ok (tyOf_ok _) prog_fol (f126_L7U n) (f126_L7_d α n) (by intro v f ks; kernel_rfl) n
theorem f126_L3_d (α : Type) (n : Nat) : D3.OK Try.prog (tyOf Try.prog) ⟨67, []⟩ (f126_D α n) ((bodyOf Try.f126).at [1, 1, 0, 1, 0, 0]) :=
 D3.OK.mk3 (f126_ents α n) (show loopsOf ((bodyOf Try.f126).at [1, 1, 0, 1, 0, 0]) = [(7, (.loop ((bodyOf Try.f126).at [1, 1, 0, 1, 0, 0, 1, 0, 0, 1, 1, 0, 0])))] by kernel_rfl) ⟨look_sound rfl (f126_L7_ok α n), trivial⟩
theorem f126_L3_ok (α : Type) (n : Nat) : LO.Sound (α := α) Try.prog ⟨67, []⟩ ⟨f126_L3H, f126_L3O, rounds (f126_L3U n) n⟩ (.loop ((bodyOf Try.f126).at [1, 1, 0, 1, 0, 0])) :=
 loop_ok (tyOf_ok _) prog_fol (f126_L3U n) (f126_L3_d α n) (by intro v f ks; kernel_rfl) n
theorem f126_d (α : Type) (n : Nat) : D3.OK Try.prog (tyOf Try.prog) ⟨67, []⟩ (f126_D α n) (bodyOf Try.f126) :=
 D3.OK.mk3 (f126_ents α n) (show loopsOf (bodyOf Try.f126) = [(3, (.loop ((bodyOf Try.f126).at [1, 1, 0, 1, 0, 0])))] by kernel_rfl) ⟨look_sound rfl (f126_L3_ok α n), trivial⟩
theorem f126_ok (n : Nat) : (f126_E n).Sound Try.prog :=
 fn_ok (tyOf_ok _) prog_fol (f126_D _ n) (show Try.prog.funcs[126]? = some Try.f126 by kernel_rfl) (by kernel_rfl) (show Try.f126.body = some (bodyOf Try.f126) by kernel_rfl) rfl rfl (Nat.le_of_ble_eq_true rfl) (f126_d _ n) (by intro x; kernel_rfl) 

def f151_L4B {α : Type} (n : Nat) (s0 s1 : LI) (s6 s7 : Int) (b9 : LI) (f : LI → LI → Int → Int → LI → Option α) (k0 : LI → Option α) : Option α :=
 bif (decide (s7 < (s0.length : Int))) then
  gd (decide (0 ≤ s7) && decide (s7 < (s0.length : Int))) (
   let J_3 := fun (y_1 : Int) => (
    ob (f147 n (decide (y_1 < 0))) fun r_2 =>
    gd (decide ((b9.length + 1) * 8 ≤ 140737488355328)) (
     f s0 s1 r_2 (W (s7 + 1)) (b9 ++ [(W (y_1 + (W (r_2 * 10000))))])))
   bif (decide (s7 < (s1.length : Int))) then
    gd (decide (0 ≤ s7) && decide (s7 < (s1.length : Int))) (
     J_3 (W ((W ((s0.getD s7.toNat 0) - s6)) - (s1.getD s7.toNat 0))))
   else
    J_3 (W ((s0.getD s7.toNat 0) - s6)))
 else
  k0 b9
abbrev f151_L4H : Tm := ⟨[(0, .d hIs), (1, .d hIs), (5, .k (.hw 9)), (6, .d hI), (7, .d hI)], [(9, .arr 3 hI false)], [40], []⟩
abbrev f151_L4X0 : Tm := ⟨[(5, .k (.hw 9))], [(9, .arr 3 hI false)], [], []⟩
abbrev f151_L4O : List (Exit × Tm) := [(.exit 0, f151_L4X0)]
def f151_L4U {α : Type} (n : Nat) (v : f151_L4H.den) (f : f151_L4H.den → Option α) (ks : KS α f151_L4O) : Option α := f151_L4B n v.1.1 v.1.2.1 v.1.2.2.2.1 v.1.2.2.2.2.1 v.2.1 (fun s0 s1 s6 s7 b9 => f ((s0, s1, (), s6, s7, ()), (b9, ()))) (fun w0 => ks.1 (((), ()), (w0, ())))
def f151_L4 {α : Type} (n m : Nat) (s0 s1 : LI) (s6 s7 : Int) (b9 : LI) (k0 : LI → Option α) : Option α := rounds (f151_L4U n) m ((s0, s1, (), s6, s7, ()), (b9, ())) (fun w => k0 w.2.1, ())
theorem f151_L4_0 {α n s0 s1 s6 s7 b9 k0} : f151_L4 (α := α) n 0 s0 s1 s6 s7 b9 k0 = none := rfl
theorem f151_L4_s {α n m s0 s1 s6 s7 b9 k0} : f151_L4 (α := α) n (m + 1) s0 s1 s6 s7 b9 k0 = f151_L4B n s0 s1 s6 s7 b9 (fun s0 s1 s6 s7 b9 => f151_L4 n m s0 s1 s6 s7 b9 k0) k0 := rfl
abbrev f151_J9 : Tm := ⟨[(0, .d hIs), (1, .d hIs), (5, .k (.hw 9)), (7, .d hI), (8, .d hI)], [(9, .arr 3 hI false)], [], []⟩
def f151 (n : Nat) (a0 a1 : LI) : Option LI :=
 f151_L4 n n a0 a1 0 0 []
  (fun z_4 => (
   ob (f149 n z_4) fun r_5 =>
   some r_5))
def f151_E (n : Nat) : Ent := ⟨151, [hIs, hIs], [hIs], fun x => f151 n x.1 x.2⟩
def f151_D (α : Type) (n : Nat) : D3 α := { reg := [(1, ⟨0, [], [(0, { sh := some hI })]⟩), (9, ⟨0, [], [(2, { ent := some (f147_E n) })]⟩), (10, ⟨0, [], [(5, { sh := some hI })]⟩), (11, ⟨0, [], [(1, { ent := some (f149_E n), fz := [(42, hIs)] })]⟩)], join := [(9, f151_J9)], loop := [(4, ⟨f151_L4H, f151_L4O, rounds (f151_L4U n) n⟩)] }
theorem f151_ents (α : Type) (n : Nat) : AllS Try.prog (entsOf (f151_D α n).reg) := ⟨f147_ok n, f149_ok n, trivial⟩
theorem f151_L4_d (α : Type) (n : Nat) : D3.OK Try.prog (tyOf Try.prog) ⟨44, []⟩ (f151_D α n) ((bodyOf Try.f151).at [1, 1, 1, 0, 1, 0, 0]) :=
 D3.OK.mk3 (f151_ents α n) (show loopsOf ((bodyOf Try.f151).at [1, 1, 1, 0, 1, 0, 0]) = [] by kernel_rfl) trivial
theorem f151_L4_ok (α : Type) (n : Nat) : LO.Sound (α := α) Try.prog ⟨44, []⟩ ⟨f151_L4H, f151_L4O, rounds (f151_L4U n) n⟩ (.loop ((bodyOf Try.f151).at [1, 1, 1, 0, 1, 0, 0])) :=
 loop_ok (tyOf_ok _) prog_fol (f151_L4U n) (f151_L4_d α n) (by intro v f ks; kernel_rfl) n
theorem f151_d (α : Type) (n : Nat) : D3.OK Try.prog (tyOf Try.prog) ⟨44, []⟩ (f151_D α n) (bodyOf Try.f151) :=
 D3.OK.mk3 (f151_ents α n) (show loopsOf (bodyOf Try.f151) = [(4, (.loop ((bodyOf Try.f151).at [1, 1, 1, 0, 1, 0, 0])))] by kernel_rfl) ⟨look_sound rfl (f151_L4_ok α n), trivial⟩
theorem f151_ok (n : Nat) : (f151_E n).Sound Try.prog :=
 fn_ok (tyOf_ok _) prog_fol (f151_D _ n) (show Try.prog.funcs[151]? = some Try.f151 by kernel_rfl) (by kernel_rfl) (show Try.f151.body = some (bodyOf Try.f151) by kernel_rfl) rfl rfl (Nat.le_of_ble_eq_true rfl) (f151_d _ n) (by intro x; kernel_rfl) 

def f148_L10B {α : Type} (n : Nat) (s0 s1 s7 : LI) (s8 s9 s10 : Int) (b14 : LI) (f : LI → LI → LI → Int → Int → Int → LI → Option α) (k0 : LI → LI → LI → Int → Int → LI → Option α) : Option α :=
 bif (decide ((W (s10 - s9)) > 1)) then
  ob (f111 n (W (Int.tdiv (W (s9 + s10)) 2))) fun r_3 =>
  ob (f126 n s1 r_3) fun r_4 =>
  ob (f123 n r_4 s7) fun r_5 =>
  bif (decide (r_5 ≤ 0)) then
   f s0 s1 s7 s8 (W (Int.tdiv (W (s9 + s10)) 2)) s10 b14
  else
   f s0 s1 s7 s8 s9 (W (Int.tdiv (W (s9 + s10)) 2)) b14
 else
  k0 s0 s1 s7 s8 s9 b14
abbrev f148_L10H : Tm := ⟨[(0, .d hIs), (1, .d hIs), (6, .k (.hw 14)), (7, .d hIs), (8, .d hI), (9, .d hI), (10, .d hI)], [(14, .arr 3 hI false)], [15, 27], []⟩
abbrev f148_L10X0 : Tm := ⟨[(0, .d hIs), (1, .d hIs), (6, .k (.hw 14)), (7, .d hIs), (8, .d hI), (9, .d hI)], [(14, .arr 3 hI false)], [], []⟩
abbrev f148_L10O : List (Exit × Tm) := [(.exit 2, f148_L10X0)]
def f148_L10U {α : Type} (n : Nat) (v : f148_L10H.den) (f : f148_L10H.den → Option α) (ks : KS α f148_L10O) : Option α := f148_L10B n v.1.1 v.1.2.1 v.1.2.2.2.1 v.1.2.2.2.2.1 v.1.2.2.2.2.2.1 v.1.2.2.2.2.2.2.1 v.2.1 (fun s0 s1 s7 s8 s9 s10 b14 => f ((s0, s1, (), s7, s8, s9, s10, ()), (b14, ()))) (fun w0 w1 w2 w3 w4 w5 => ks.1 ((w0, w1, (), w2, w3, w4, ()), (w5, ())))
def f148_L10 {α : Type} (n m : Nat) (s0 s1 s7 : LI) (s8 s9 s10 : Int) (b14 : LI) (k0 : LI → LI → LI → Int → Int → LI → Option α) : Option α := rounds (f148_L10U n) m ((s0, s1, (), s7, s8, s9, s10, ()), (b14, ())) (fun w => k0 w.1.1 w.1.2.1 w.1.2.2.2.1 w.1.2.2.2.2.1 w.1.2.2.2.2.2.1 w.2.1, ())
theorem f148_L10_0 {α n s0 s1 s7 s8 s9 s10 b14 k0} : f148_L10 (α := α) n 0 s0 s1 s7 s8 s9 s10 b14 k0 = none := rfl
theorem f148_L10_s {α n m s0 s1 s7 s8 s9 s10 b14 k0} : f148_L10 (α := α) n (m + 1) s0 s1 s7 s8 s9 s10 b14 k0 = f148_L10B n s0 s1 s7 s8 s9 s10 b14 (fun s0 s1 s7 s8 s9 s10 b14 => f148_L10 n m s0 s1 s7 s8 s9 s10 b14 k0) k0 := rfl
def f148_L4B {α : Type} (n : Nat) (s0 s1 s7 : LI) (s8 : Int) (b14 : LI) (f : LI → LI → LI → Int → LI → Option α) (k0 : LI → LI → Option α) : Option α :=
 bif (decide (s8 ≥ 0)) then
  gd (decide (0 ≤ s8) && decide (s8 < (s0.length : Int))) (
   gd (decide ((1 + s7.length) * 8 ≤ 140737488355328)) (
    ob (f149 n ([(s0.getD s8.toNat 0)] ++ s7)) fun r_1 =>
    ob (f123 n r_1 s1) fun r_2 =>
    bif (decide (r_2 < 0)) then
     f s0 s1 r_1 (W (s8 - 1)) b14
    else
     f148_L10 n n s0 s1 r_1 s8 0 10000 b14
      (fun z_3 z_4 z_5 z_6 z_7 z_8 => (
       gd (decide (0 ≤ z_6) && decide (z_6 < (z_8.length : Int))) (
        gd (decide (z_6.toNat < z_8.length)) (
         ob (f111 n z_7) fun r_9 =>
         ob (f126 n z_4 r_9) fun r_10 =>
         ob (f151 n z_5 r_10) fun r_11 =>
         f z_3 z_4 r_11 (W (z_6 - 1)) (z_8.set z_6.toNat z_7)))))))
 else
  k0 s7 b14
abbrev f148_L4H : Tm := ⟨[(0, .d hIs), (1, .d hIs), (6, .k (.hw 14)), (7, .d hIs), (8, .d hI)], [(14, .arr 3 hI false)], [15, 27], [(7, hIs)]⟩
abbrev f148_L4X0 : Tm := ⟨[(6, .k (.hw 14)), (7, .d hIs)], [(14, .arr 3 hI false)], [], []⟩
abbrev f148_L4O : List (Exit × Tm) := [(.exit 0, f148_L4X0)]
def f148_L4U {α : Type} (n : Nat) (v : f148_L4H.den) (f : f148_L4H.den → Option α) (ks : KS α f148_L4O) : Option α := f148_L4B n v.1.1 v.1.2.1 v.1.2.2.2.1 v.1.2.2.2.2.1 v.2.1 (fun s0 s1 s7 s8 b14 => f ((s0, s1, (), s7, s8, ()), (b14, ()))) (fun w0 w1 => ks.1 (((), w0, ()), (w1, ())))
def f148_L4 {α : Type} (n m : Nat) (s0 s1 s7 : LI) (s8 : Int) (b14 : LI) (k0 : LI → LI → Option α) : Option α := rounds (f148_L4U n) m ((s0, s1, (), s7, s8, ()), (b14, ())) (fun w => k0 w.1.2.1 w.2.1, ())
theorem f148_L4_0 {α n s0 s1 s7 s8 b14 k0} : f148_L4 (α := α) n 0 s0 s1 s7 s8 b14 k0 = none := rfl
theorem f148_L4_s {α n m s0 s1 s7 s8 b14 k0} : f148_L4 (α := α) n (m + 1) s0 s1 s7 s8 b14 k0 = f148_L4B n s0 s1 s7 s8 b14 (fun s0 s1 s7 s8 b14 => f148_L4 n m s0 s1 s7 s8 b14 k0) k0 := rfl
def f148 (n : Nat) (a0 a1 : LI) : Option (LI × LI) :=
 gd (decide (0 ≤ (a0.length : Int)) && decide ((a0.length : Int) ≤ 4611686018427387904) && decide ((8 : Int) * (a0.length : Int) ≤ 281474976710656)) (
  f148_L4 n n a0 a1 [] (W ((a0.length : Int) - 1)) (List.replicate ((a0.length : Int).toNat) 0)
   (fun z_12 z_13 => (
    ob (f149 n z_13) fun r_14 =>
    some (r_14, z_12))))
def f148_E (n : Nat) : Ent := ⟨148, [hIs, hIs], [hIs, hIs], fun x => f148 n x.1 x.2⟩
def f148_D (α : Type) (n : Nat) : D3 α := { reg := [(2, ⟨0, [], [(0, { sh := some hI })]⟩), (6, ⟨0, [], [(4, { sh := some hI }), (7, { ent := some (f149_E n), fz := [(29, hIs)] })]⟩), (7, ⟨0, [], [(2, { ent := some (f123_E n) })]⟩), (12, ⟨0, [], [(2, { ent := some (f111_E n) }), (3, { ent := some (f126_E n) }), (5, { ent := some (f123_E n) })]⟩), (16, ⟨0, [], [(3, { ent := some (f111_E n) }), (4, { ent := some (f126_E n) }), (5, { ent := some (f151_E n) })]⟩), (17, ⟨0, [], [(1, { ent := some (f149_E n), fz := [(62, hIs)] })]⟩)], join := [], loop := [(10, ⟨f148_L10H, f148_L10O, rounds (f148_L10U n) n⟩), (4, ⟨f148_L4H, f148_L4O, rounds (f148_L4U n) n⟩)] }
theorem f148_ents (α : Type) (n : Nat) : AllS Try.prog (entsOf (f148_D α n).reg) := ⟨f149_ok n, f123_ok n, f111_ok n, f126_ok n, f123_ok n, f111_ok n, f126_ok n, f151_ok n, f149_ok n, trivial⟩
theorem f148_L10_d (α : Type) (n : Nat) : D3.OK Try.prog (tyOf Try.prog) ⟨65, []⟩ (f148_D α n) ((bodyOf Try.f148).at [1, 1, 1, 0, 1, 0, 0, 1, 0, 0, 1, 1, 1, 1, 0, 0, 0]) :=
 D3.OK.mk3 (f148_ents α n) (show loopsOf ((bodyOf Try.f148).at [1, 1, 1, 0, 1, 0, 0, 1, 0, 0, 1, 1, 1, 1, 0, 0, 0]) = [] by kernel_rfl) trivial
theorem f148_L10_ok (α : Type) (n : Nat) : LO.Sound (α := α) Try.prog ⟨65, []⟩ ⟨f148_L10H, f148_L10O, rounds (f148_L10U n) n⟩ (.loop ((bodyOf Try.f148).at [1, 1, 1, 0, 1, 0, 0, 1, 0, 0, 1, 1, 1, 1, 0, 0, 0])) :=
 loop_ok (tyOf_ok _) prog_fol (f148_L10U n) (f148_L10_d α n) (by intro v f ks; kernel_rfl) n
theorem f148_L4_d (α : Type) (n : Nat) : D3.OK Try.prog (tyOf Try.prog) ⟨65, []⟩ (f148_D α n) ((bodyOf Try.f148).at [1, 1, 1, 0, 1, 0, 0]) :=
 D3.OK.mk3 (f148_ents α n) (show loopsOf ((bodyOf Try.f148).at [1, 1, 1, 0, 1, 0, 0]) = [(10, (.loop ((bodyOf Try.f148).at [1, 1, 1, 0, 1, 0, 0, 1, 0, 0, 1, 1, 1, 1, 0, 0, 0])))] by kernel_rfl) ⟨look_sound rfl (f148_L10_ok α n), trivial⟩
theorem f148_L4_ok (α : Type) (n : Nat) : LO.Sound (α := α) Try.prog ⟨65, []⟩ ⟨f148_L4H, f148_L4O, rounds (f148_L4U n) n⟩ (.loop ((bodyOf Try.f148).at [1, 1, 1, 0, 1, 0, 0])) :=
 loop_ok (tyOf_ok _) prog_fol (f148_L4U n) (f148_L4_d α n) (by intro v f ks; kernel_rfl) n
theorem f148_d (α : Type) (n : Nat) : D3.OK Try.prog (tyOf Try.prog) ⟨65, []⟩ (f148_D α n) (bodyOf Try.f148) :=
 D3.OK.mk3 (f148_ents α n) (show loopsOf (bodyOf Try.f148) = [(4, (.loop ((bodyOf Try.f148).at [1, 1, 1, 0, 1, 0, 0])))] by kernel_rfl) ⟨look_sound rfl (f148_L4_ok α n), trivial⟩
theorem f148_ok (n : Nat) : (f148_E n).Sound Try.prog :=
 fn_ok (tyOf_ok _) prog_fol (f148_D _ n) (show Try.prog.funcs[148]? = some Try.f148 by kernel_rfl) (by kernel_rfl) (show Try.f148.body = some (bodyOf Try.f148) by kernel_rfl) rfl rfl (Nat.le_of_ble_eq_true rfl) (f148_d _ n) (by intro x; kernel_rfl) 

def f124_L1B {α : Type} (n : Nat) (s0 s1 : LI) (f : LI → LI → Option α) (k0 : LI → Option α) : Option α :=
 bif (decide ((s1.length : Int) > 0)) then
  ob (f148 n s0 s1) fun r_1 =>
  f s1 r_1.2
 else
  k0 s0
abbrev f124_L1H : Tm := ⟨[(0, .d hIs), (1, .d hIs)], [], [], []⟩
abbrev f124_L1X0 : Tm := ⟨[(0, .d hIs)], [], [], []⟩
abbrev f124_L1O : List (Exit × Tm) := [(.exit 0, f124_L1X0)]
def f124_L1U {α : Type} (n : Nat) (v : f124_L1H.den) (f : f124_L1H.den → Option α) (ks : KS α f124_L1O) : Option α := f124_L1B n v.1.1 v.1.2.1 (fun s0 s1 => f ((s0, s1, ()), ())) (fun w0 => ks.1 ((w0, ()), ()))
def f124_L1 {α : Type} (n m : Nat) (s0 s1 : LI) (k0 : LI → Option α) : Option α := rounds (f124_L1U n) m ((s0, s1, ()), ()) (fun w => k0 w.1.1, ())
theorem f124_L1_0 {α n s0 s1 k0} : f124_L1 (α := α) n 0 s0 s1 k0 = none := rfl
theorem f124_L1_s {α n m s0 s1 k0} : f124_L1 (α := α) n (m + 1) s0 s1 k0 = f124_L1B n s0 s1 (fun s0 s1 => f124_L1 n m s0 s1 k0) k0 := rfl
def f124 (n : Nat) (a0 a1 : LI) : Option LI :=
 f124_L1 n n a0 a1
  (fun z_2 => (
   gd (decide ((0 + z_2.length) * 8 ≤ 140737488355328)) (
    some z_2)))
def f124_E (n : Nat) : Ent := ⟨124, [hIs, hIs], [hIs], fun x => f124 n x.1 x.2⟩
def f124_D (α : Type) (n : Nat) : D3 α := { reg := [(2, ⟨0, [], [(2, { ent := some (f148_E n) })]⟩), (5, ⟨0, [], [(0, { sh := some hI })]⟩)], join := [], loop := [(1, ⟨f124_L1H, f124_L1O, rounds (f124_L1U n) n⟩)] }
theorem f124_ents (α : Type) (n : Nat) : AllS Try.prog (entsOf (f124_D α n).reg) := ⟨f148_ok n, trivial⟩
theorem f124_L1_d (α : Type) (n : Nat) : D3.OK Try.prog (tyOf Try.prog) ⟨21, []⟩ (f124_D α n) ((bodyOf Try.f124).at [1, 0, 0, 0]) :=
 D3.OK.mk3 (f124_ents α n) (show loopsOf ((bodyOf Try.f124).at [1, 0, 0, 0]) = [] by kernel_rfl) trivial
theorem f124_L1_ok (α : Type) (n : Nat) : LO.Sound (α := α) Try.prog ⟨21, []⟩ ⟨f124_L1H, f124_L1O, rounds (f124_L1U n) n⟩ (.loop ((bodyOf Try.f124).at [1, 0, 0, 0])) :=
 loop_ok (tyOf_ok _) prog_fol (f124_L1U n) (f124_L1_d α n) (by intro v f ks; kernel_rfl) n
theorem f124_d (α : Type) (n : Nat) : D3.OK Try.prog (tyOf Try.prog) ⟨21, []⟩ (f124_D α n) (bodyOf Try.f124) :=
 D3.OK.mk3 (f124_ents α n) (show loopsOf (bodyOf Try.f124) = [(1, (.loop ((bodyOf Try.f124).at [1, 0, 0, 0])))] by kernel_rfl) ⟨look_sound rfl (f124_L1_ok α n), trivial⟩
theorem f124_ok (n : Nat) : (f124_E n).Sound Try.prog :=
 fn_ok (tyOf_ok _) prog_fol (f124_D _ n) (show Try.prog.funcs[124]? = some Try.f124 by kernel_rfl) (by kernel_rfl) (show Try.f124.body = some (bodyOf Try.f124) by kernel_rfl) rfl rfl (Nat.le_of_ble_eq_true rfl) (f124_d _ n) (by intro x; kernel_rfl) 

abbrev f86_J3 : Tm := ⟨[(1, .k (.hp 1 0 0))], [(1, .var 31 true false [.d .bool, .d hIs, .d hIs])], [], []⟩
def f86 (n : Nat) (a0 : Rq) : Option Bool :=
 let J_5 := fun (_ : Unit) => (
  ob (f124 n a0.2.1 a0.2.2) fun r_3 =>
  ob (f123 n r_3 [1]) fun r_4 =>
  some (r_4 == 0))
 ob (f122 n a0.2.1) fun r_1 =>
 bif (!r_1) then
  some false
 else
  ob (f122 n a0.2.2) fun r_2 =>
  bif (!r_2) then
   some false
  else
   bif ((a0.2.2.length : Int) == 0) then
    some false
   else
    bif ((a0.2.1.length : Int) == 0) then
     bif a0.1 then
      some false
     else
      J_5 ()
    else
     J_5 ()
def f86_E (n : Nat) : Ent := ⟨86, [hR], [.bool], fun x => f86 n x⟩
def f86_D (α : Type) (n : Nat) : D3 α := { reg := [(1, ⟨0, [], [(2, { ent := some (f122_E n) }), (7, { ent := some (f122_E n) })]⟩), (3, ⟨0, [], [(4, { ent := some (f124_E n) }), (5, { sh := some hI }), (6, { ent := some (f123_E n) })]⟩)], join := [(3, f86_J3)], loop := [] }
theorem f86_ents (α : Type) (n : Nat) : AllS Try.prog (entsOf (f86_D α n).reg) := ⟨f122_ok n, f122_ok n, f124_ok n, f123_ok n, trivial⟩
theorem f86_d (α : Type) (n : Nat) : D3.OK Try.prog (tyOf Try.prog) ⟨37, []⟩ (f86_D α n) (bodyOf Try.f86) :=
 D3.OK.mk3 (f86_ents α n) (show loopsOf (bodyOf Try.f86) = [] by kernel_rfl) trivial
theorem f86_ok (n : Nat) : (f86_E n).Sound Try.prog :=
 fn_ok (tyOf_ok _) prog_fol (f86_D _ n) (show Try.prog.funcs[86]? = some Try.f86 by kernel_rfl) (by kernel_rfl) (show Try.f86.body = some (bodyOf Try.f86) by kernel_rfl) rfl rfl (Nat.le_of_ble_eq_true rfl) (f86_d _ n) (by intro x; kernel_rfl) 

def f41_L6B {α : Type} (n : Nat) (s0 : LR) (s5 : Int) (f : LR → Int → Option α) (k0 : Bool → Option α) (k1 : Unit → Option α) : Option α :=
 bif (decide (s5 < (s0.length : Int))) then
  gd (decide (0 ≤ s5) && decide (s5 < (s0.length : Int))) (
   let x_2 := s0.getD s5.toNat (false, [], [])
   ob (f86 n x_2) fun r_3 =>
   bif (!r_3) then
    k0 false
   else
    f s0 (W (s5 + 1)))
 else
  k1 ()
abbrev f41_L6H : Tm := ⟨[(0, .d hRs), (5, .d hI)], [], [], []⟩
abbrev f41_L6X0 : Tm := ⟨[(4, .d .bool)], [], [], []⟩
abbrev f41_L6X1 : Tm := ⟨[], [], [], []⟩
abbrev f41_L6O : List (Exit × Tm) := [(.ret, f41_L6X0), (.exit 0, f41_L6X1)]
def f41_L6U {α : Type} (n : Nat) (v : f41_L6H.den) (f : f41_L6H.den → Option α) (ks : KS α f41_L6O) : Option α := f41_L6B n v.1.1 v.1.2.1 (fun s0 s5 => f ((s0, s5, ()), ())) (fun w0 => ks.1 ((w0, ()), ())) (fun _ => ks.2.1 ((), ()))
def f41_L6 {α : Type} (n m : Nat) (s0 : LR) (s5 : Int) (k0 : Bool → Option α) (k1 : Unit → Option α) : Option α := rounds (f41_L6U n) m ((s0, s5, ()), ()) (fun w => k0 w.1.1, fun w => k1 (), ())
theorem f41_L6_0 {α n s0 s5 k0 k1} : f41_L6 (α := α) n 0 s0 s5 k0 k1 = none := rfl
theorem f41_L6_s {α n m s0 s5 k0 k1} : f41_L6 (α := α) n (m + 1) s0 s5 k0 k1 = f41_L6B n s0 s5 (fun s0 s5 => f41_L6 n m s0 s5 k0 k1) k0 k1 := rfl
def f41 (n : Nat) (a0 : LR) (a1 : Int) : Option Bool :=
 bif (decide ((a0.length : Int) > 4096)) then
  some false
 else
  ob (f85 n a1 1 4) fun r_1 =>
  bif (!r_1) then
   some false
  else
   bif ((a0.length : Int) != (W (a1 * a1))) then
    some false
   else
    f41_L6 n n a0 0
     (fun z_4 => (
      some z_4))
     (fun (_ : Unit) => (
      some true))
def f41_E (n : Nat) : Ent := ⟨41, [hRs, hI], [.bool], fun x => f41 n x.1 x.2⟩
def f41_D (α : Type) (n : Nat) : D3 α := { reg := [(3, ⟨0, [], [(1, { ent := some (f85_E n) })]⟩), (8, ⟨0, [], [(4, { ent := some (f86_E n) })]⟩)], join := [], loop := [(6, ⟨f41_L6H, f41_L6O, rounds (f41_L6U n) n⟩)] }
theorem f41_ents (α : Type) (n : Nat) : AllS Try.prog (entsOf (f41_D α n).reg) := ⟨f85_ok n, f86_ok n, trivial⟩
theorem f41_L6_d (α : Type) (n : Nat) : D3.OK Try.prog (tyOf Try.prog) ⟨32, []⟩ (f41_D α n) ((bodyOf Try.f41).at [1, 1, 1, 0, 1, 0, 0]) :=
 D3.OK.mk3 (f41_ents α n) (show loopsOf ((bodyOf Try.f41).at [1, 1, 1, 0, 1, 0, 0]) = [] by kernel_rfl) trivial
theorem f41_L6_ok (α : Type) (n : Nat) : LO.Sound (α := α) Try.prog ⟨32, []⟩ ⟨f41_L6H, f41_L6O, rounds (f41_L6U n) n⟩ (.loop ((bodyOf Try.f41).at [1, 1, 1, 0, 1, 0, 0])) :=
 loop_ok (tyOf_ok _) prog_fol (f41_L6U n) (f41_L6_d α n) (by intro v f ks; kernel_rfl) n
theorem f41_d (α : Type) (n : Nat) : D3.OK Try.prog (tyOf Try.prog) ⟨32, []⟩ (f41_D α n) (bodyOf Try.f41) :=
 D3.OK.mk3 (f41_ents α n) (show loopsOf (bodyOf Try.f41) = [(6, (.loop ((bodyOf Try.f41).at [1, 1, 1, 0, 1, 0, 0])))] by kernel_rfl) ⟨look_sound rfl (f41_L6_ok α n), trivial⟩
theorem f41_ok (n : Nat) : (f41_E n).Sound Try.prog :=
 fn_ok (tyOf_ok _) prog_fol (f41_D _ n) (show Try.prog.funcs[41]? = some Try.f41 by kernel_rfl) (by kernel_rfl) (show Try.f41.body = some (bodyOf Try.f41) by kernel_rfl) rfl rfl (Nat.le_of_ble_eq_true rfl) (f41_d _ n) (by intro x; kernel_rfl) 

def f88 (n : Nat) (a0 : Rq) : Option Rq :=
 bif (!a0.1) then
  some ((decide ((a0.2.1.length : Int) > 0)), a0.2)
 else
  some (false, a0.2)
def f88_E (n : Nat) : Ent := ⟨88, [hR], [hR], fun x => f88 n x⟩
def f88_D (α : Type) (n : Nat) : D3 α := { reg := [], join := [], loop := [] }
theorem f88_ents (α : Type) (n : Nat) : AllS Try.prog (entsOf (f88_D α n).reg) := trivial
theorem f88_d (α : Type) (n : Nat) : D3.OK Try.prog (tyOf Try.prog) ⟨14, []⟩ (f88_D α n) (bodyOf Try.f88) :=
 D3.OK.mk3 (f88_ents α n) (show loopsOf (bodyOf Try.f88) = [] by kernel_rfl) trivial
theorem f88_ok (n : Nat) : (f88_E n).Sound Try.prog :=
 fn_ok (tyOf_ok _) prog_fol (f88_D _ n) (show Try.prog.funcs[88]? = some Try.f88 by kernel_rfl) (by kernel_rfl) (show Try.f88.body = some (bodyOf Try.f88) by kernel_rfl) rfl rfl (Nat.le_of_ble_eq_true rfl) (f88_d _ n) (by intro x; kernel_rfl) 

def f150_L4B {α : Type} (n : Nat) (s0 s1 : LI) (s6 s7 : Int) (b8 : LI) (f : LI → LI → Int → Int → LI → Option α) (k0 : LI → Option α) : Option α :=
 let J_5 := fun (_ : Unit) => (
  let J_4 := fun (y_1 : Int) => (
   let J_3 := fun (y_2 : Int) => (
    gd (decide ((b8.length + 1) * 8 ≤ 140737488355328)) (
     f s0 s1 (W (Int.tdiv y_2 10000)) (W (s7 + 1)) (b8 ++ [(Int.tmod y_2 10000)])))
   bif (decide (s7 < (s1.length : Int))) then
    gd (decide (0 ≤ s7) && decide (s7 < (s1.length : Int))) (
     J_3 (W (y_1 + (s1.getD s7.toNat 0))))
   else
    J_3 y_1)
  bif (decide (s7 < (s0.length : Int))) then
   gd (decide (0 ≤ s7) && decide (s7 < (s0.length : Int))) (
    J_4 (W (s6 + (s0.getD s7.toNat 0))))
  else
   J_4 s6)
 bif (decide (s7 < (s0.length : Int))) then
  J_5 ()
 else
  bif (decide (s7 < (s1.length : Int))) then
   J_5 ()
  else
   bif (decide (s6 > 0)) then
    J_5 ()
   else
    k0 b8
abbrev f150_L4H : Tm := ⟨[(0, .d hIs), (1, .d hIs), (5, .k (.hw 8)), (6, .d hI), (7, .d hI)], [(8, .arr 3 hI false)], [48], []⟩
abbrev f150_L4X0 : Tm := ⟨[(5, .k (.hw 8))], [(8, .arr 3 hI false)], [], []⟩
abbrev f150_L4O : List (Exit × Tm) := [(.exit 0, f150_L4X0)]
def f150_L4U {α : Type} (n : Nat) (v : f150_L4H.den) (f : f150_L4H.den → Option α) (ks : KS α f150_L4O) : Option α := f150_L4B n v.1.1 v.1.2.1 v.1.2.2.2.1 v.1.2.2.2.2.1 v.2.1 (fun s0 s1 s6 s7 b8 => f ((s0, s1, (), s6, s7, ()), (b8, ()))) (fun w0 => ks.1 (((), ()), (w0, ())))
def f150_L4 {α : Type} (n m : Nat) (s0 s1 : LI) (s6 s7 : Int) (b8 : LI) (k0 : LI → Option α) : Option α := rounds (f150_L4U n) m ((s0, s1, (), s6, s7, ()), (b8, ())) (fun w => k0 w.2.1, ())
theorem f150_L4_0 {α n s0 s1 s6 s7 b8 k0} : f150_L4 (α := α) n 0 s0 s1 s6 s7 b8 k0 = none := rfl
theorem f150_L4_s {α n m s0 s1 s6 s7 b8 k0} : f150_L4 (α := α) n (m + 1) s0 s1 s6 s7 b8 k0 = f150_L4B n s0 s1 s6 s7 b8 (fun s0 s1 s6 s7 b8 => f150_L4 n m s0 s1 s6 s7 b8 k0) k0 := rfl
abbrev f150_J6 : Tm := ⟨[(0, .d hIs), (1, .d hIs), (5, .k (.hw 8)), (6, .d hI), (7, .d hI)], [(8, .arr 3 hI false)], [], []⟩
abbrev f150_J8 : Tm := ⟨[(0, .d hIs), (1, .d hIs), (5, .k (.hw 8)), (6, .d hI), (7, .d hI)], [(8, .arr 3 hI false)], [], []⟩
abbrev f150_J10 : Tm := ⟨[(0, .d hIs), (1, .d hIs), (5, .k (.hw 8)), (6, .d hI), (7, .d hI)], [(8, .arr 3 hI false)], [], []⟩
def f150 (n : Nat) (a0 a1 : LI) : Option LI :=
 f150_L4 n n a0 a1 0 0 []
  (fun z_6 => (
   some z_6))
def f150_E (n : Nat) : Ent := ⟨150, [hIs, hIs], [hIs], fun x => f150 n x.1 x.2⟩
def f150_D (α : Type) (n : Nat) : D3 α := { reg := [(1, ⟨0, [], [(0, { sh := some hI })]⟩), (10, ⟨0, [], [(3, { sh := some hI })]⟩)], join := [(6, f150_J6), (8, f150_J8), (10, f150_J10)], loop := [(4, ⟨f150_L4H, f150_L4O, rounds (f150_L4U n) n⟩)] }
theorem f150_ents (α : Type) (n : Nat) : AllS Try.prog (entsOf (f150_D α n).reg) := trivial
theorem f150_L4_d (α : Type) (n : Nat) : D3.OK Try.prog (tyOf Try.prog) ⟨53, []⟩ (f150_D α n) ((bodyOf Try.f150).at [1, 1, 1, 0, 1, 0, 0]) :=
 D3.OK.mk3 (f150_ents α n) (show loopsOf ((bodyOf Try.f150).at [1, 1, 1, 0, 1, 0, 0]) = [] by kernel_rfl) trivial
theorem f150_L4_ok (α : Type) (n : Nat) : LO.Sound (α := α) Try.prog ⟨53, []⟩ ⟨f150_L4H, f150_L4O, rounds (f150_L4U n) n⟩ (.loop ((bodyOf Try.f150).at [1, 1, 1, 0, 1, 0, 0])) :=
 loop_ok (tyOf_ok _) prog_fol (f150_L4U n) (f150_L4_d α n) (by intro v f ks; kernel_rfl) n
theorem f150_d (α : Type) (n : Nat) : D3.OK Try.prog (tyOf Try.prog) ⟨53, []⟩ (f150_D α n) (bodyOf Try.f150) :=
 D3.OK.mk3 (f150_ents α n) (show loopsOf (bodyOf Try.f150) = [(4, (.loop ((bodyOf Try.f150).at [1, 1, 1, 0, 1, 0, 0])))] by kernel_rfl) ⟨look_sound rfl (f150_L4_ok α n), trivial⟩
theorem f150_ok (n : Nat) : (f150_E n).Sound Try.prog :=
 fn_ok (tyOf_ok _) prog_fol (f150_D _ n) (show Try.prog.funcs[150]? = some Try.f150 by kernel_rfl) (by kernel_rfl) (show Try.f150.body = some (bodyOf Try.f150) by kernel_rfl) rfl rfl (Nat.le_of_ble_eq_true rfl) (f150_d _ n) (by intro x; kernel_rfl) 

def f125 (n : Nat) (a0 : Bool) (a1 a2 : LI) : Option Rq :=
 ob (f124 n a1 a2) fun r_1 =>
 ob (f148 n a1 r_1) fun r_2 =>
 ob (f148 n a2 r_1) fun r_3 =>
 bif a0 then
  some ((decide ((r_2.1.length : Int) > 0)), r_2.1, r_3.1)
 else
  some (false, r_2.1, r_3.1)
def f125_E (n : Nat) : Ent := ⟨125, [.bool, hIs, hIs], [hR], fun x => f125 n x.1 x.2.1 x.2.2⟩
def f125_D (α : Type) (n : Nat) : D3 α := { reg := [(1, ⟨0, [], [(2, { ent := some (f124_E n) })]⟩), (2, ⟨0, [], [(2, { ent := some (f148_E n) })]⟩), (3, ⟨0, [], [(2, { ent := some (f148_E n) })]⟩)], join := [], loop := [] }
theorem f125_ents (α : Type) (n : Nat) : AllS Try.prog (entsOf (f125_D α n).reg) := ⟨f124_ok n, f148_ok n, f148_ok n, trivial⟩
theorem f125_d (α : Type) (n : Nat) : D3.OK Try.prog (tyOf Try.prog) ⟨36, []⟩ (f125_D α n) (bodyOf Try.f125) :=
 D3.OK.mk3 (f125_ents α n) (show loopsOf (bodyOf Try.f125) = [] by kernel_rfl) trivial
theorem f125_ok (n : Nat) : (f125_E n).Sound Try.prog :=
 fn_ok (tyOf_ok _) prog_fol (f125_D _ n) (show Try.prog.funcs[125]? = some Try.f125 by kernel_rfl) (by kernel_rfl) (show Try.f125.body = some (bodyOf Try.f125) by kernel_rfl) rfl rfl (Nat.le_of_ble_eq_true rfl) (f125_d _ n) (by intro x; kernel_rfl) 

def f127 (n : Nat) (a0 a1 : Rq) : Option Rq :=
 ob (f126 n a0.2.1 a1.2.2) fun r_1 =>
 ob (f126 n a1.2.1 a0.2.2) fun r_2 =>
 ob (f126 n a0.2.2 a1.2.2) fun r_3 =>
 bif (a0.1 == a1.1) then
  ob (f150 n r_1 r_2) fun r_4 =>
  ob (f125 n a0.1 r_4 r_3) fun r_5 =>
  some r_5
 else
  ob (f123 n r_1 r_2) fun r_6 =>
  bif (decide (r_6 ≥ 0)) then
   ob (f151 n r_1 r_2) fun r_7 =>
   ob (f125 n a0.1 r_7 r_3) fun r_8 =>
   some r_8
  else
   ob (f151 n r_2 r_1) fun r_9 =>
   ob (f125 n a1.1 r_9 r_3) fun r_10 =>
   some r_10
def f127_E (n : Nat) : Ent := ⟨127, [hR, hR], [hR], fun x => f127 n x.1 x.2⟩
def f127_D (α : Type) (n : Nat) : D3 α := { reg := [(1, ⟨0, [], [(4, { ent := some (f126_E n) })]⟩), (2, ⟨0, [], [(4, { ent := some (f126_E n) })]⟩), (3, ⟨0, [], [(4, { ent := some (f126_E n) })]⟩), (5, ⟨6, [], [(4, { ent := some (f150_E n) }), (6, { ent := some (f125_E n) })]⟩), (6, ⟨0, [], [(2, { ent := some (f123_E n) })]⟩), (7, ⟨6, [], [(4, { ent := some (f151_E n) }), (6, { ent := some (f125_E n) })]⟩), (8, ⟨6, [], [(4, { ent := some (f151_E n) }), (6, { ent := some (f125_E n) })]⟩)], join := [], loop := [] }
theorem f127_ents (α : Type) (n : Nat) : AllS Try.prog (entsOf (f127_D α n).reg) := ⟨f126_ok n, f126_ok n, f126_ok n, f150_ok n, f125_ok n, f123_ok n, f151_ok n, f125_ok n, f151_ok n, f125_ok n, trivial⟩
theorem f127_d (α : Type) (n : Nat) : D3.OK Try.prog (tyOf Try.prog) ⟨53, []⟩ (f127_D α n) (bodyOf Try.f127) :=
 D3.OK.mk3 (f127_ents α n) (show loopsOf (bodyOf Try.f127) = [] by kernel_rfl) trivial
theorem f127_ok (n : Nat) : (f127_E n).Sound Try.prog :=
 fn_ok (tyOf_ok _) prog_fol (f127_D _ n) (show Try.prog.funcs[127]? = some Try.f127 by kernel_rfl) (by kernel_rfl) (show Try.f127.body = some (bodyOf Try.f127) by kernel_rfl) rfl rfl (Nat.le_of_ble_eq_true rfl) (f127_d _ n) (by intro x; kernel_rfl) 

def f91 (n : Nat) (a0 a1 : Rq) : Option Rq :=
 ob (f88 n a1) fun r_1 =>
 ob (f127 n a0 r_1) fun r_2 =>
 some r_2
def f91_E (n : Nat) : Ent := ⟨91, [hR, hR], [hR], fun x => f91 n x.1 x.2⟩
def f91_D (α : Type) (n : Nat) : D3 α := { reg := [(1, ⟨3, [], [(2, { ent := some (f88_E n) }), (3, { ent := some (f127_E n) })]⟩)], join := [], loop := [] }
theorem f91_ents (α : Type) (n : Nat) : AllS Try.prog (entsOf (f91_D α n).reg) := ⟨f88_ok n, f127_ok n, trivial⟩
theorem f91_d (α : Type) (n : Nat) : D3.OK Try.prog (tyOf Try.prog) ⟨9, []⟩ (f91_D α n) (bodyOf Try.f91) :=
 D3.OK.mk3 (f91_ents α n) (show loopsOf (bodyOf Try.f91) = [] by kernel_rfl) trivial
theorem f91_ok (n : Nat) : (f91_E n).Sound Try.prog :=
 fn_ok (tyOf_ok _) prog_fol (f91_D _ n) (show Try.prog.funcs[91]? = some Try.f91 by kernel_rfl) (by kernel_rfl) (show Try.f91.body = some (bodyOf Try.f91) by kernel_rfl) rfl rfl (Nat.le_of_ble_eq_true rfl) (f91_d _ n) (by intro x; kernel_rfl) 

def f87 (n : Nat) (a0 : Rq) : Option Bool :=
 some ((a0.2.1.length : Int) == 0)
def f87_E (n : Nat) : Ent := ⟨87, [hR], [.bool], fun x => f87 n x⟩
def f87_D (α : Type) (n : Nat) : D3 α := { reg := [], join := [], loop := [] }
theorem f87_ents (α : Type) (n : Nat) : AllS Try.prog (entsOf (f87_D α n).reg) := trivial
theorem f87_d (α : Type) (n : Nat) : D3.OK Try.prog (tyOf Try.prog) ⟨7, []⟩ (f87_D α n) (bodyOf Try.f87) :=
 D3.OK.mk3 (f87_ents α n) (show loopsOf (bodyOf Try.f87) = [] by kernel_rfl) trivial
theorem f87_ok (n : Nat) : (f87_E n).Sound Try.prog :=
 fn_ok (tyOf_ok _) prog_fol (f87_D _ n) (show Try.prog.funcs[87]? = some Try.f87 by kernel_rfl) (by kernel_rfl) (show Try.f87.body = some (bodyOf Try.f87) by kernel_rfl) rfl rfl (Nat.le_of_ble_eq_true rfl) (f87_d _ n) (by intro x; kernel_rfl) 

def f101 (n : Nat) (a0 : Rq) : Option Int :=
 ob (f87 n a0) fun r_1 =>
 bif r_1 then
  some 0
 else
  bif a0.1 then
   some (-1)
  else
   some 1
def f101_E (n : Nat) : Ent := ⟨101, [hR], [hI], fun x => f101 n x⟩
def f101_D (α : Type) (n : Nat) : D3 α := { reg := [(1, ⟨0, [], [(1, { ent := some (f87_E n) })]⟩)], join := [], loop := [] }
theorem f101_ents (α : Type) (n : Nat) : AllS Try.prog (entsOf (f101_D α n).reg) := ⟨f87_ok n, trivial⟩
theorem f101_d (α : Type) (n : Nat) : D3.OK Try.prog (tyOf Try.prog) ⟨9, []⟩ (f101_D α n) (bodyOf Try.f101) :=
 D3.OK.mk3 (f101_ents α n) (show loopsOf (bodyOf Try.f101) = [] by kernel_rfl) trivial
theorem f101_ok (n : Nat) : (f101_E n).Sound Try.prog :=
 fn_ok (tyOf_ok _) prog_fol (f101_D _ n) (show Try.prog.funcs[101]? = some Try.f101 by kernel_rfl) (by kernel_rfl) (show Try.f101.body = some (bodyOf Try.f101) by kernel_rfl) rfl rfl (Nat.le_of_ble_eq_true rfl) (f101_d _ n) (by intro x; kernel_rfl) 

def f100 (n : Nat) (a0 a1 : Rq) : Option Int :=
 ob (f91 n a0 a1) fun r_1 =>
 ob (f101 n r_1) fun r_2 =>
 some r_2
def f100_E (n : Nat) : Ent := ⟨100, [hR, hR], [hI], fun x => f100 n x.1 x.2⟩
def f100_D (α : Type) (n : Nat) : D3 α := { reg := [(1, ⟨0, [], [(2, { ent := some (f91_E n) }), (3, { ent := some (f101_E n) })]⟩)], join := [], loop := [] }
theorem f100_ents (α : Type) (n : Nat) : AllS Try.prog (entsOf (f100_D α n).reg) := ⟨f91_ok n, f101_ok n, trivial⟩
theorem f100_d (α : Type) (n : Nat) : D3.OK Try.prog (tyOf Try.prog) ⟨9, []⟩ (f100_D α n) (bodyOf Try.f100) :=
 D3.OK.mk3 (f100_ents α n) (show loopsOf (bodyOf Try.f100) = [] by kernel_rfl) trivial
theorem f100_ok (n : Nat) : (f100_E n).Sound Try.prog :=
 fn_ok (tyOf_ok _) prog_fol (f100_D _ n) (show Try.prog.funcs[100]? = some Try.f100 by kernel_rfl) (by kernel_rfl) (show Try.f100.body = some (bodyOf Try.f100) by kernel_rfl) rfl rfl (Nat.le_of_ble_eq_true rfl) (f100_d _ n) (by intro x; kernel_rfl) 

def f64 (n : Nat) (a0 : Int) : Option Rq :=
 bif (decide (a0 < 0)) then
  ob (f111 n (W (0 - a0))) fun r_1 =>
  some (true, r_1, [1])
 else
  ob (f111 n a0) fun r_2 =>
  some (false, r_2, [1])
def f64_E (n : Nat) : Ent := ⟨64, [hI], [hR], fun x => f64 n x⟩
def f64_D (α : Type) (n : Nat) : D3 α := { reg := [(2, ⟨0, [], [(2, { ent := some (f111_E n) }), (3, { sh := some hI })]⟩), (3, ⟨0, [], [(1, { ent := some (f111_E n) }), (2, { sh := some hI })]⟩)], join := [], loop := [] }
theorem f64_ents (α : Type) (n : Nat) : AllS Try.prog (entsOf (f64_D α n).reg) := ⟨f111_ok n, f111_ok n, trivial⟩
theorem f64_d (α : Type) (n : Nat) : D3.OK Try.prog (tyOf Try.prog) ⟨14, []⟩ (f64_D α n) (bodyOf Try.f64) :=
 D3.OK.mk3 (f64_ents α n) (show loopsOf (bodyOf Try.f64) = [] by kernel_rfl) trivial
theorem f64_ok (n : Nat) : (f64_E n).Sound Try.prog :=
 fn_ok (tyOf_ok _) prog_fol (f64_D _ n) (show Try.prog.funcs[64]? = some Try.f64 by kernel_rfl) (by kernel_rfl) (show Try.f64.body = some (bodyOf Try.f64) by kernel_rfl) rfl rfl (Nat.le_of_ble_eq_true rfl) (f64_d _ n) (by intro x; kernel_rfl) 

def f43_L3B {α : Type} (n : Nat) (s0 s4 : Int) (b5 : LR) (f : Int → Int → LR → Option α) (k0 : LR → Option α) : Option α :=
 bif (decide (s4 < s0)) then
  ob (f64 n 0) fun r_1 =>
  gd (decide ((b5.length + 1) * 56 ≤ 140737488355328)) (
   f s0 (W (s4 + 1)) (b5 ++ [r_1]))
 else
  k0 b5
abbrev f43_L3H : Tm := ⟨[(0, .d hI), (3, .k (.hw 5)), (4, .d hI)], [(5, .arr 31 hR false)], [13], []⟩
abbrev f43_L3X0 : Tm := ⟨[(3, .k (.hw 5))], [(5, .arr 31 hR false)], [], []⟩
abbrev f43_L3O : List (Exit × Tm) := [(.exit 0, f43_L3X0)]
def f43_L3U {α : Type} (n : Nat) (v : f43_L3H.den) (f : f43_L3H.den → Option α) (ks : KS α f43_L3O) : Option α := f43_L3B n v.1.1 v.1.2.2.1 v.2.1 (fun s0 s4 b5 => f ((s0, (), s4, ()), (b5, ()))) (fun w0 => ks.1 (((), ()), (w0, ())))
def f43_L3 {α : Type} (n m : Nat) (s0 s4 : Int) (b5 : LR) (k0 : LR → Option α) : Option α := rounds (f43_L3U n) m ((s0, (), s4, ()), (b5, ())) (fun w => k0 w.2.1, ())
theorem f43_L3_0 {α n s0 s4 b5 k0} : f43_L3 (α := α) n 0 s0 s4 b5 k0 = none := rfl
theorem f43_L3_s {α n m s0 s4 b5 k0} : f43_L3 (α := α) n (m + 1) s0 s4 b5 k0 = f43_L3B n s0 s4 b5 (fun s0 s4 b5 => f43_L3 n m s0 s4 b5 k0) k0 := rfl
def f43 (n : Nat) (a0 : Int) : Option LR :=
 f43_L3 n n a0 0 []
  (fun z_2 => (
   some z_2))
def f43_E (n : Nat) : Ent := ⟨43, [hI], [hRs], fun x => f43 n x⟩
def f43_D (α : Type) (n : Nat) : D3 α := { reg := [(1, ⟨0, [], [(0, { sh := some hR })]⟩), (5, ⟨0, [], [(1, { ent := some (f64_E n) }), (2, { sh := some hR })]⟩)], join := [], loop := [(3, ⟨f43_L3H, f43_L3O, rounds (f43_L3U n) n⟩)] }
theorem f43_ents (α : Type) (n : Nat) : AllS Try.prog (entsOf (f43_D α n).reg) := ⟨f64_ok n, trivial⟩
theorem f43_L3_d (α : Type) (n : Nat) : D3.OK Try.prog (tyOf Try.prog) ⟨16, []⟩ (f43_D α n) ((bodyOf Try.f43).at [1, 1, 0, 1, 0, 0]) :=
 D3.OK.mk3 (f43_ents α n) (show loopsOf ((bodyOf Try.f43).at [1, 1, 0, 1, 0, 0]) = [] by kernel_rfl) trivial
theorem f43_L3_ok (α : Type) (n : Nat) : LO.Sound (α := α) Try.prog ⟨16, []⟩ ⟨f43_L3H, f43_L3O, rounds (f43_L3U n) n⟩ (.loop ((bodyOf Try.f43).at [1, 1, 0, 1, 0, 0])) :=
 loop_ok (tyOf_ok _) prog_fol (f43_L3U n) (f43_L3_d α n) (by intro v f ks; kernel_rfl) n
theorem f43_d (α : Type) (n : Nat) : D3.OK Try.prog (tyOf Try.prog) ⟨16, []⟩ (f43_D α n) (bodyOf Try.f43) :=
 D3.OK.mk3 (f43_ents α n) (show loopsOf (bodyOf Try.f43) = [(3, (.loop ((bodyOf Try.f43).at [1, 1, 0, 1, 0, 0])))] by kernel_rfl) ⟨look_sound rfl (f43_L3_ok α n), trivial⟩
theorem f43_ok (n : Nat) : (f43_E n).Sound Try.prog :=
 fn_ok (tyOf_ok _) prog_fol (f43_D _ n) (show Try.prog.funcs[43]? = some Try.f43 by kernel_rfl) (by kernel_rfl) (show Try.f43.body = some (bodyOf Try.f43) by kernel_rfl) rfl rfl (Nat.le_of_ble_eq_true rfl) (f43_d _ n) (by intro x; kernel_rfl) 

def f89 (n : Nat) (a0 a1 : Rq) : Option Rq :=
 ob (f126 n a0.2.1 a1.2.1) fun r_1 =>
 ob (f126 n a0.2.2 a1.2.2) fun r_2 =>
 ob (f125 n (!(a0.1 == a1.1)) r_1 r_2) fun r_3 =>
 some r_3
def f89_E (n : Nat) : Ent := ⟨89, [hR, hR], [hR], fun x => f89 n x.1 x.2⟩
def f89_D (α : Type) (n : Nat) : D3 α := { reg := [(1, ⟨15, [], [(9, { ent := some (f126_E n) }), (14, { ent := some (f126_E n) }), (15, { ent := some (f125_E n) })]⟩)], join := [], loop := [] }
theorem f89_ents (α : Type) (n : Nat) : AllS Try.prog (entsOf (f89_D α n).reg) := ⟨f126_ok n, f126_ok n, f125_ok n, trivial⟩
theorem f89_d (α : Type) (n : Nat) : D3.OK Try.prog (tyOf Try.prog) ⟨21, []⟩ (f89_D α n) (bodyOf Try.f89) :=
 D3.OK.mk3 (f89_ents α n) (show loopsOf (bodyOf Try.f89) = [] by kernel_rfl) trivial
theorem f89_ok (n : Nat) : (f89_E n).Sound Try.prog :=
 fn_ok (tyOf_ok _) prog_fol (f89_D _ n) (show Try.prog.funcs[89]? = some Try.f89 by kernel_rfl) (by kernel_rfl) (show Try.f89.body = some (bodyOf Try.f89) by kernel_rfl) rfl rfl (Nat.le_of_ble_eq_true rfl) (f89_d _ n) (by intro x; kernel_rfl) 

def f90 (n : Nat) (a0 a1 : Rq) : Option Rq :=
 ob (f126 n a0.2.1 a1.2.2) fun r_1 =>
 ob (f126 n a0.2.2 a1.2.1) fun r_2 =>
 ob (f125 n (!(a0.1 == a1.1)) r_1 r_2) fun r_3 =>
 some r_3
def f90_E (n : Nat) : Ent := ⟨90, [hR, hR], [hR], fun x => f90 n x.1 x.2⟩
def f90_D (α : Type) (n : Nat) : D3 α := { reg := [(1, ⟨15, [], [(9, { ent := some (f126_E n) }), (14, { ent := some (f126_E n) }), (15, { ent := some (f125_E n) })]⟩)], join := [], loop := [] }
theorem f90_ents (α : Type) (n : Nat) : AllS Try.prog (entsOf (f90_D α n).reg) := ⟨f126_ok n, f126_ok n, f125_ok n, trivial⟩
theorem f90_d (α : Type) (n : Nat) : D3.OK Try.prog (tyOf Try.prog) ⟨21, []⟩ (f90_D α n) (bodyOf Try.f90) :=
 D3.OK.mk3 (f90_ents α n) (show loopsOf (bodyOf Try.f90) = [] by kernel_rfl) trivial
theorem f90_ok (n : Nat) : (f90_E n).Sound Try.prog :=
 fn_ok (tyOf_ok _) prog_fol (f90_D _ n) (show Try.prog.funcs[90]? = some Try.f90 by kernel_rfl) (by kernel_rfl) (show Try.f90.body = some (bodyOf Try.f90) by kernel_rfl) rfl rfl (Nat.le_of_ble_eq_true rfl) (f90_d _ n) (by intro x; kernel_rfl) 

def f42_L9B {α : Type} (n : Nat) (s7 s9 s10 : Int) (c6_0 c8_0 : Bool) (c8_1 c8_2 : LI) (b19 b22 : LR) (f : Int → Int → Int → Bool → Bool → LI → LI → LR → LR → Option α) (k0 : Int → Int → Int → Bool → Bool → LI → LI → LR → LR → Option α) : Option α :=
 bif (decide (s10 < s7)) then
  gd (decide (0 ≤ (W ((W (s10 * s7)) + s9))) && decide ((W ((W (s10 * s7)) + s9)) < (b19.length : Int))) (
   gd (decide ((W ((W (s10 * s7)) + s9)).toNat < b19.length)) (
    let x_2 := b19.getD ((W ((W (s10 * s7)) + s9)).toNat) (false, [], [])
    ob (f87 n x_2) fun r_3 =>
    bif r_3 then
     f s7 s9 (W (s10 + 1)) c6_0 c8_0 c8_1 c8_2 b19 b22
    else
     k0 s7 s9 s10 c6_0 c8_0 c8_1 c8_2 b19 b22))
 else
  k0 s7 s9 s10 c6_0 c8_0 c8_1 c8_2 b19 b22
abbrev f42_L9H : Tm := ⟨[(0, .k (.hw 19)), (1, .k (.hw 22)), (6, .k (.hp 6 0 0)), (7, .d hI), (8, .k (.hp 8 0 0)), (9, .d hI), (10, .d hI)], [(6, .var 31 true false [.d .bool, .d .nil, .d .nil]), (8, .var 31 true false [.d .bool, .d hIs, .d hIs]), (19, .arr 31 hR false), (22, .arr 31 hR false)], [], []⟩
abbrev f42_L9X0 : Tm := ⟨[(0, .k (.hw 19)), (1, .k (.hw 22)), (6, .k (.hp 6 0 0)), (7, .d hI), (8, .k (.hp 8 0 0)), (9, .d hI), (10, .d hI)], [(6, .var 31 true false [.d .bool, .d .nil, .d .nil]), (8, .var 31 true false [.d .bool, .d hIs, .d hIs]), (19, .arr 31 hR false), (22, .arr 31 hR false)], [], []⟩
abbrev f42_L9O : List (Exit × Tm) := [(.exit 2, f42_L9X0)]
def f42_L9U {α : Type} (n : Nat) (v : f42_L9H.den) (f : f42_L9H.den → Option α) (ks : KS α f42_L9O) : Option α := f42_L9B n v.1.2.2.2.1 v.1.2.2.2.2.2.1 v.1.2.2.2.2.2.2.1 v.2.1.1 v.2.2.1.1 v.2.2.1.2.1 v.2.2.1.2.2.1 v.2.2.2.1 v.2.2.2.2.1 (fun s7 s9 s10 c6_0 c8_0 c8_1 c8_2 b19 b22 => f (((), (), (), s7, (), s9, s10, ()), ((c6_0, (), (), ()), (c8_0, c8_1, c8_2, ()), b19, b22, ()))) (fun w0 w1 w2 w3 w4 w5 w6 w7 w8 => ks.1 (((), (), (), w0, (), w1, w2, ()), ((w3, (), (), ()), (w4, w5, w6, ()), w7, w8, ())))
def f42_L9 {α : Type} (n m : Nat) (s7 s9 s10 : Int) (c6_0 c8_0 : Bool) (c8_1 c8_2 : LI) (b19 b22 : LR) (k0 : Int → Int → Int → Bool → Bool → LI → LI → LR → LR → Option α) : Option α := rounds (f42_L9U n) m (((), (), (), s7, (), s9, s10, ()), ((c6_0, (), (), ()), (c8_0, c8_1, c8_2, ()), b19, b22, ())) (fun w => k0 w.1.2.2.2.1 w.1.2.2.2.2.2.1 w.1.2.2.2.2.2.2.1 w.2.1.1 w.2.2.1.1 w.2.2.1.2.1 w.2.2.1.2.2.1 w.2.2.2.1 w.2.2.2.2.1, ())
theorem f42_L9_0 {α n s7 s9 s10 c6_0 c8_0 c8_1 c8_2 b19 b22 k0} : f42_L9 (α := α) n 0 s7 s9 s10 c6_0 c8_0 c8_1 c8_2 b19 b22 k0 = none := rfl
theorem f42_L9_s {α n m s7 s9 s10 c6_0 c8_0 c8_1 c8_2 b19 b22 k0} : f42_L9 (α := α) n (m + 1) s7 s9 s10 c6_0 c8_0 c8_1 c8_2 b19 b22 k0 = f42_L9B n s7 s9 s10 c6_0 c8_0 c8_1 c8_2 b19 b22 (fun s7 s9 s10 c6_0 c8_0 c8_1 c8_2 b19 b22 => f42_L9 n m s7 s9 s10 c6_0 c8_0 c8_1 c8_2 b19 b22 k0) k0 := rfl
def f42_L16B {α : Type} (n : Nat) (s7 s9 s10 s11 : Int) (c6_0 c8_0 : Bool) (c8_1 c8_2 : LI) (b19 b22 : LR) (f : Int → Int → Int → Int → Bool → Bool → LI → LI → LR → LR → Option α) (k0 : Int → Int → Int → Bool → Bool → LI → LI → LR → LR → Option α) : Option α :=
 bif (decide (s11 < s7)) then
  gd (decide (0 ≤ (W ((W (s10 * s7)) + s11))) && decide ((W ((W (s10 * s7)) + s11)) < (b19.length : Int))) (
   gd (decide ((W ((W (s10 * s7)) + s11)).toNat < b19.length)) (
    let x_15 := b19.getD ((W ((W (s10 * s7)) + s11)).toNat) (false, [], [])
    gd (decide (0 ≤ (W ((W (s9 * s7)) + s11))) && decide ((W ((W (s9 * s7)) + s11)) < (b19.length : Int))) (
     gd (decide ((W ((W (s9 * s7)) + s11)).toNat < b19.length)) (
      let x_16 := b19.getD ((W ((W (s9 * s7)) + s11)).toNat) (false, [], [])
      gd (decide (0 ≤ (W ((W (s10 * s7)) + s11))) && decide ((W ((W (s10 * s7)) + s11)) < (b19.length : Int))) (
       gd (decide ((W ((W (s10 * s7)) + s11)).toNat < b19.length)) (
        gd (decide (0 ≤ (W ((W (s9 * s7)) + s11))) && decide ((W ((W (s9 * s7)) + s11)) < (((b19.set ((W ((W (s10 * s7)) + s11)).toNat) x_16).length : Nat) : Int))) (
         gd (decide ((W ((W (s9 * s7)) + s11)).toNat < (b19.set ((W ((W (s10 * s7)) + s11)).toNat) x_16).length)) (
          f s7 s9 s10 (W (s11 + 1)) c6_0 c8_0 c8_1 c8_2 ((b19.set ((W ((W (s10 * s7)) + s11)).toNat) x_16).set ((W ((W (s9 * s7)) + s11)).toNat) x_15) b22))))))))
 else
  k0 s7 s9 s10 c6_0 c8_0 c8_1 c8_2 b19 b22
abbrev f42_L16H : Tm := ⟨[(0, .k (.hw 19)), (1, .k (.hw 22)), (6, .k (.hp 6 0 0)), (7, .d hI), (8, .k (.hp 8 0 0)), (9, .d hI), (10, .d hI), (11, .d hI)], [(6, .var 31 true false [.d .bool, .d .nil, .d .nil]), (8, .var 31 true false [.d .bool, .d hIs, .d hIs]), (19, .arr 31 hR false), (22, .arr 31 hR false)], [12], []⟩
abbrev f42_L16X0 : Tm := ⟨[(0, .k (.hw 19)), (1, .k (.hw 22)), (6, .k (.hp 6 0 0)), (7, .d hI), (8, .k (.hp 8 0 0)), (9, .d hI), (10, .d hI)], [(6, .var 31 true false [.d .bool, .d .nil, .d .nil]), (8, .var 31 true false [.d .bool, .d hIs, .d hIs]), (19, .arr 31 hR false), (22, .arr 31 hR false)], [], []⟩
abbrev f42_L16O : List (Exit × Tm) := [(.exit 4, f42_L16X0)]
def f42_L16U {α : Type} (n : Nat) (v : f42_L16H.den) (f : f42_L16H.den → Option α) (ks : KS α f42_L16O) : Option α := f42_L16B n v.1.2.2.2.1 v.1.2.2.2.2.2.1 v.1.2.2.2.2.2.2.1 v.1.2.2.2.2.2.2.2.1 v.2.1.1 v.2.2.1.1 v.2.2.1.2.1 v.2.2.1.2.2.1 v.2.2.2.1 v.2.2.2.2.1 (fun s7 s9 s10 s11 c6_0 c8_0 c8_1 c8_2 b19 b22 => f (((), (), (), s7, (), s9, s10, s11, ()), ((c6_0, (), (), ()), (c8_0, c8_1, c8_2, ()), b19, b22, ()))) (fun w0 w1 w2 w3 w4 w5 w6 w7 w8 => ks.1 (((), (), (), w0, (), w1, w2, ()), ((w3, (), (), ()), (w4, w5, w6, ()), w7, w8, ())))
def f42_L16 {α : Type} (n m : Nat) (s7 s9 s10 s11 : Int) (c6_0 c8_0 : Bool) (c8_1 c8_2 : LI) (b19 b22 : LR) (k0 : Int → Int → Int → Bool → Bool → LI → LI → LR → LR → Option α) : Option α := rounds (f42_L16U n) m (((), (), (), s7, (), s9, s10, s11, ()), ((c6_0, (), (), ()), (c8_0, c8_1, c8_2, ()), b19, b22, ())) (fun w => k0 w.1.2.2.2.1 w.1.2.2.2.2.2.1 w.1.2.2.2.2.2.2.1 w.2.1.1 w.2.2.1.1 w.2.2.1.2.1 w.2.2.1.2.2.1 w.2.2.2.1 w.2.2.2.2.1, ())
theorem f42_L16_0 {α n s7 s9 s10 s11 c6_0 c8_0 c8_1 c8_2 b19 b22 k0} : f42_L16 (α := α) n 0 s7 s9 s10 s11 c6_0 c8_0 c8_1 c8_2 b19 b22 k0 = none := rfl
theorem f42_L16_s {α n m s7 s9 s10 s11 c6_0 c8_0 c8_1 c8_2 b19 b22 k0} : f42_L16 (α := α) n (m + 1) s7 s9 s10 s11 c6_0 c8_0 c8_1 c8_2 b19 b22 k0 = f42_L16B n s7 s9 s10 s11 c6_0 c8_0 c8_1 c8_2 b19 b22 (fun s7 s9 s10 s11 c6_0 c8_0 c8_1 c8_2 b19 b22 => f42_L16 n m s7 s9 s10 s11 c6_0 c8_0 c8_1 c8_2 b19 b22 k0) k0 := rfl
def f42_L30B {α : Type} (n : Nat) (s7 s9 s14 s16 : Int) (c6_0 c8_0 : Bool) (c8_1 c8_2 : LI) (c15_0 : Bool) (c15_1 c15_2 : LI) (b19 b22 : LR) (f : Int → Int → Int → Int → Bool → Bool → LI → LI → Bool → LI → LI → LR → LR → Option α) (k0 : Int → Int → Int → Bool → Bool → LI → LI → Bool → LI → LI → LR → LR → Option α) : Option α :=
 bif (decide (s16 < s7)) then
  gd (decide (0 ≤ (W ((W (s14 * s7)) + s16))) && decide ((W ((W (s14 * s7)) + s16)) < (b19.length : Int))) (
   gd (decide ((W ((W (s14 * s7)) + s16)).toNat < b19.length)) (
    let x_39 := b19.getD ((W ((W (s14 * s7)) + s16)).toNat) (false, [], [])
    gd (decide (0 ≤ (W ((W (s9 * s7)) + s16))) && decide ((W ((W (s9 * s7)) + s16)) < (b19.length : Int))) (
     gd (decide ((W ((W (s9 * s7)) + s16)).toNat < b19.length)) (
      let x_40 := b19.getD ((W ((W (s9 * s7)) + s16)).toNat) (false, [], [])
      ob (f89 n (c15_0, c15_1, c15_2) x_40) fun r_41 =>
      ob (f91 n x_39 r_41) fun r_42 =>
      gd (decide (0 ≤ (W ((W (s14 * s7)) + s16))) && decide ((W ((W (s14 * s7)) + s16)) < (b19.length : Int))) (
       gd (decide ((W ((W (s14 * s7)) + s16)).toNat < b19.length)) (
        f s7 s9 s14 (W (s16 + 1)) c6_0 c8_0 c8_1 c8_2 c15_0 c15_1 c15_2 (b19.set ((W ((W (s14 * s7)) + s16)).toNat) r_42) b22))))))
 else
  k0 s7 s9 s14 c6_0 c8_0 c8_1 c8_2 c15_0 c15_1 c15_2 b19 b22
abbrev f42_L30H : Tm := ⟨[(0, .k (.hw 19)), (1, .k (.hw 22)), (6, .k (.hp 6 0 0)), (7, .d hI), (8, .k (.hp 8 0 0)), (9, .d hI), (14, .d hI), (15, .k (.hp 15 0 0)), (16, .d hI)], [(6, .var 31 true false [.d .bool, .d .nil, .d .nil]), (8, .var 31 true false [.d .bool, .d hIs, .d hIs]), (15, .var 31 true false [.d .bool, .d hIs, .d hIs]), (19, .arr 31 hR false), (22, .arr 31 hR false)], [], []⟩
abbrev f42_L30X0 : Tm := ⟨[(0, .k (.hw 19)), (1, .k (.hw 22)), (6, .k (.hp 6 0 0)), (7, .d hI), (8, .k (.hp 8 0 0)), (9, .d hI), (14, .d hI), (15, .k (.hp 15 0 0))], [(6, .var 31 true false [.d .bool, .d .nil, .d .nil]), (8, .var 31 true false [.d .bool, .d hIs, .d hIs]), (15, .var 31 true false [.d .bool, .d hIs, .d hIs]), (19, .arr 31 hR false), (22, .arr 31 hR false)], [], []⟩
abbrev f42_L30O : List (Exit × Tm) := [(.exit 8, f42_L30X0)]
def f42_L30U {α : Type} (n : Nat) (v : f42_L30H.den) (f : f42_L30H.den → Option α) (ks : KS α f42_L30O) : Option α := f42_L30B n v.1.2.2.2.1 v.1.2.2.2.2.2.1 v.1.2.2.2.2.2.2.1 v.1.2.2.2.2.2.2.2.2.1 v.2.1.1 v.2.2.1.1 v.2.2.1.2.1 v.2.2.1.2.2.1 v.2.2.2.1.1 v.2.2.2.1.2.1 v.2.2.2.1.2.2.1 v.2.2.2.2.1 v.2.2.2.2.2.1 (fun s7 s9 s14 s16 c6_0 c8_0 c8_1 c8_2 c15_0 c15_1 c15_2 b19 b22 => f (((), (), (), s7, (), s9, s14, (), s16, ()), ((c6_0, (), (), ()), (c8_0, c8_1, c8_2, ()), (c15_0, c15_1, c15_2, ()), b19, b22, ()))) (fun w0 w1 w2 w3 w4 w5 w6 w7 w8 w9 w10 w11 => ks.1 (((), (), (), w0, (), w1, w2, (), ()), ((w3, (), (), ()), (w4, w5, w6, ()), (w7, w8, w9, ()), w10, w11, ())))
def f42_L30 {α : Type} (n m : Nat) (s7 s9 s14 s16 : Int) (c6_0 c8_0 : Bool) (c8_1 c8_2 : LI) (c15_0 : Bool) (c15_1 c15_2 : LI) (b19 b22 : LR) (k0 : Int → Int → Int → Bool → Bool → LI → LI → Bool → LI → LI → LR → LR → Option α) : Option α := rounds (f42_L30U n) m (((), (), (), s7, (), s9, s14, (), s16, ()), ((c6_0, (), (), ()), (c8_0, c8_1, c8_2, ()), (c15_0, c15_1, c15_2, ()), b19, b22, ())) (fun w => k0 w.1.2.2.2.1 w.1.2.2.2.2.2.1 w.1.2.2.2.2.2.2.1 w.2.1.1 w.2.2.1.1 w.2.2.1.2.1 w.2.2.1.2.2.1 w.2.2.2.1.1 w.2.2.2.1.2.1 w.2.2.2.1.2.2.1 w.2.2.2.2.1 w.2.2.2.2.2.1, ())
theorem f42_L30_0 {α n s7 s9 s14 s16 c6_0 c8_0 c8_1 c8_2 c15_0 c15_1 c15_2 b19 b22 k0} : f42_L30 (α := α) n 0 s7 s9 s14 s16 c6_0 c8_0 c8_1 c8_2 c15_0 c15_1 c15_2 b19 b22 k0 = none := rfl
theorem f42_L30_s {α n m s7 s9 s14 s16 c6_0 c8_0 c8_1 c8_2 c15_0 c15_1 c15_2 b19 b22 k0} : f42_L30 (α := α) n (m + 1) s7 s9 s14 s16 c6_0 c8_0 c8_1 c8_2 c15_0 c15_1 c15_2 b19 b22 k0 = f42_L30B n s7 s9 s14 s16 c6_0 c8_0 c8_1 c8_2 c15_0 c15_1 c15_2 b19 b22 (fun s7 s9 s14 s16 c6_0 c8_0 c8_1 c8_2 c15_0 c15_1 c15_2 b19 b22 => f42_L30 n m s7 s9 s14 s16 c6_0 c8_0 c8_1 c8_2 c15_0 c15_1 c15_2 b19 b22 k0) k0 := rfl
def f42_L26B {α : Type} (n : Nat) (s7 s9 s14 : Int) (c6_0 c8_0 : Bool) (c8_1 c8_2 : LI) (b19 b22 : LR) (f : Int → Int → Int → Bool → Bool → LI → LI → LR → LR → Option α) (k0 : Int → Int → Bool → Bool → LI → LI → LR → LR → Option α) : Option α :=
 bif (decide (s14 < s7)) then
  gd (decide (0 ≤ (W ((W (s14 * s7)) + s9))) && decide ((W ((W (s14 * s7)) + s9)) < (b19.length : Int))) (
   gd (decide ((W ((W (s14 * s7)) + s9)).toNat < b19.length)) (
    let x_36 := b19.getD ((W ((W (s14 * s7)) + s9)).toNat) (false, [], [])
    gd (decide (0 ≤ (W ((W (s9 * s7)) + s9))) && decide ((W ((W (s9 * s7)) + s9)) < (b19.length : Int))) (
     gd (decide ((W ((W (s9 * s7)) + s9)).toNat < b19.length)) (
      let x_37 := b19.getD ((W ((W (s9 * s7)) + s9)).toNat) (false, [], [])
      ob (f90 n x_36 x_37) fun r_38 =>
      f42_L30 n n s7 s9 s14 s9 c6_0 c8_0 c8_1 c8_2 r_38.1 r_38.2.1 r_38.2.2 b19 b22
       (fun z_39 z_40 z_41 z_42 z_43 z_44 z_45 z_46 z_47 z_48 z_49 z_50 => (
        gd (decide (0 ≤ z_41) && decide (z_41 < (z_50.length : Int))) (
         gd (decide (z_41.toNat < z_50.length)) (
          let x_51 := z_50.getD z_41.toNat (false, [], [])
          gd (decide (0 ≤ z_40) && decide (z_40 < (z_50.length : Int))) (
           gd (decide (z_40.toNat < z_50.length)) (
            let x_52 := z_50.getD z_40.toNat (false, [], [])
            ob (f89 n (z_46, z_47, z_48) x_52) fun r_53 =>
            ob (f91 n x_51 r_53) fun r_54 =>
            gd (decide (0 ≤ z_41) && decide (z_41 < (z_50.length : Int))) (
             gd (decide (z_41.toNat < z_50.length)) (
              f z_39 z_40 (W (z_41 + 1)) z_42 z_43 z_44 z_45 z_49 (z_50.set z_41.toNat r_54)))))))))))))
 else
  k0 s7 s9 c6_0 c8_0 c8_1 c8_2 b19 b22
abbrev f42_L26H : Tm := ⟨[(0, .k (.hw 19)), (1, .k (.hw 22)), (6, .k (.hp 6 0 0)), (7, .d hI), (8, .k (.hp 8 0 0)), (9, .d hI), (14, .d hI)], [(6, .var 31 true false [.d .bool, .d .nil, .d .nil]), (8, .var 31 true false [.d .bool, .d hIs, .d hIs]), (19, .arr 31 hR false), (22, .arr 31 hR false)], [15], []⟩
abbrev f42_L26X0 : Tm := ⟨[(0, .k (.hw 19)), (1, .k (.hw 22)), (6, .k (.hp 6 0 0)), (7, .d hI), (8, .k (.hp 8 0 0)), (9, .d hI)], [(6, .var 31 true false [.d .bool, .d .nil, .d .nil]), (8, .var 31 true false [.d .bool, .d hIs, .d hIs]), (19, .arr 31 hR false), (22, .arr 31 hR false)], [], []⟩
abbrev f42_L26O : List (Exit × Tm) := [(.exit 6, f42_L26X0)]
def f42_L26U {α : Type} (n : Nat) (v : f42_L26H.den) (f : f42_L26H.den → Option α) (ks : KS α f42_L26O) : Option α := f42_L26B n v.1.2.2.2.1 v.1.2.2.2.2.2.1 v.1.2.2.2.2.2.2.1 v.2.1.1 v.2.2.1.1 v.2.2.1.2.1 v.2.2.1.2.2.1 v.2.2.2.1 v.2.2.2.2.1 (fun s7 s9 s14 c6_0 c8_0 c8_1 c8_2 b19 b22 => f (((), (), (), s7, (), s9, s14, ()), ((c6_0, (), (), ()), (c8_0, c8_1, c8_2, ()), b19, b22, ()))) (fun w0 w1 w2 w3 w4 w5 w6 w7 => ks.1 (((), (), (), w0, (), w1, ()), ((w2, (), (), ()), (w3, w4, w5, ()), w6, w7, ())))
def f42_L26 {α : Type} (n m : Nat) (s7 s9 s14 : Int) (c6_0 c8_0 : Bool) (c8_1 c8_2 : LI) (b19 b22 : LR) (k0 : Int → Int → Bool → Bool → LI → LI → LR → LR → Option α) : Option α := rounds (f42_L26U n) m (((), (), (), s7, (), s9, s14, ()), ((c6_0, (), (), ()), (c8_0, c8_1, c8_2, ()), b19, b22, ())) (fun w => k0 w.1.2.2.2.1 w.1.2.2.2.2.2.1 w.2.1.1 w.2.2.1.1 w.2.2.1.2.1 w.2.2.1.2.2.1 w.2.2.2.1 w.2.2.2.2.1, ())
theorem f42_L26_0 {α n s7 s9 s14 c6_0 c8_0 c8_1 c8_2 b19 b22 k0} : f42_L26 (α := α) n 0 s7 s9 s14 c6_0 c8_0 c8_1 c8_2 b19 b22 k0 = none := rfl
theorem f42_L26_s {α n m s7 s9 s14 c6_0 c8_0 c8_1 c8_2 b19 b22 k0} : f42_L26 (α := α) n (m + 1) s7 s9 s14 c6_0 c8_0 c8_1 c8_2 b19 b22 k0 = f42_L26B n s7 s9 s14 c6_0 c8_0 c8_1 c8_2 b19 b22 (fun s7 s9 s14 c6_0 c8_0 c8_1 c8_2 b19 b22 => f42_L26 n m s7 s9 s14 c6_0 c8_0 c8_1 c8_2 b19 b22 k0) k0 := rfl
def f42_L6B {α : Type} (n : Nat) (s7 s9 : Int) (c6_0 c8_0 : Bool) (c8_1 c8_2 : LI) (b19 b22 : LR) (f : Int → Int → Bool → Bool → LI → LI → LR → LR → Option α) (k0 : Bool → LI → LI → LR → LR → Option α) (k1 : Bool → Bool → LI → LI → LR → LR → Option α) : Option α :=
 bif (decide (s9 < s7)) then
  f42_L9 n n s7 s9 s9 c6_0 c8_0 c8_1 c8_2 b19 b22
   (fun z_2 z_3 z_4 z_5 z_6 z_7 z_8 z_9 z_10 => (
    bif (z_4 == z_2) then
     ob (f64 n 0) fun r_11 =>
     k0 r_11.1 r_11.2.1 r_11.2.2 z_9 z_10
    else
     let J_42 := fun (y_24 : Int) (y_25 : Int) (y_26 : Bool) (y_27 : Bool) (y_28 : LI) (y_29 : LI) (y_30 : LR) (y_31 : LR) => (
      gd (decide (0 ≤ (W ((W (y_25 * y_24)) + y_25))) && decide ((W ((W (y_25 * y_24)) + y_25)) < (y_30.length : Int))) (
       gd (decide ((W ((W (y_25 * y_24)) + y_25)).toNat < y_30.length)) (
        let x_32 := y_30.getD ((W ((W (y_25 * y_24)) + y_25)).toNat) (false, [], [])
        ob (f89 n (y_27, y_28, y_29) x_32) fun r_33 =>
        f42_L26 n n y_24 y_25 (W (y_25 + 1)) y_26 r_33.1 r_33.2.1 r_33.2.2 y_30 y_31
         (fun z_34 z_35 z_36 z_37 z_38 z_39 z_40 z_41 => (
          f z_34 (W (z_35 + 1)) z_36 z_37 z_38 z_39 z_40 z_41)))))
     bif (decide (z_4 > z_3)) then
      ob (f88 n (z_6, z_7, z_8)) fun r_12 =>
      f42_L16 n n z_2 z_3 z_4 0 z_5 r_12.1 r_12.2.1 r_12.2.2 z_9 z_10
       (fun z_13 z_14 z_15 z_16 z_17 z_18 z_19 z_20 z_21 => (
        gd (decide (0 ≤ z_15) && decide (z_15 < (z_21.length : Int))) (
         gd (decide (z_15.toNat < z_21.length)) (
          let x_22 := z_21.getD z_15.toNat (false, [], [])
          gd (decide (0 ≤ z_14) && decide (z_14 < (z_21.length : Int))) (
           gd (decide (z_14.toNat < z_21.length)) (
            let x_23 := z_21.getD z_14.toNat (false, [], [])
            gd (decide (0 ≤ z_15) && decide (z_15 < (z_21.length : Int))) (
             gd (decide (z_15.toNat < z_21.length)) (
              gd (decide (0 ≤ z_14) && decide (z_14 < (((z_21.set z_15.toNat x_23).length : Nat) : Int))) (
               gd (decide (z_14.toNat < (z_21.set z_15.toNat x_23).length)) (
                J_42 z_13 z_14 z_16 z_17 z_18 z_19 z_20 ((z_21.set z_15.toNat x_23).set z_14.toNat x_22)))))))))))
     else
      J_42 z_2 z_3 z_5 z_6 z_7 z_8 z_9 z_10))
 else
  k1 c6_0 c8_0 c8_1 c8_2 b19 b22
abbrev f42_L6H : Tm := ⟨[(0, .k (.hw 19)), (1, .k (.hw 22)), (6, .k (.hp 6 0 0)), (7, .d hI), (8, .k (.hp 8 0 0)), (9, .d hI)], [(6, .var 31 true false [.d .bool, .d .nil, .d .nil]), (8, .var 31 true false [.d .bool, .d hIs, .d hIs]), (19, .arr 31 hR false), (22, .arr 31 hR false)], [], []⟩
abbrev f42_L6X0 : Tm := ⟨[(4, .k (.hw 19)), (5, .k (.hw 22)), (6, .k (.hp 6 0 0))], [(6, .var 31 true false [.d .bool, .d hIs, .d hIs]), (19, .arr 31 hR false), (22, .arr 31 hR false)], [8], []⟩
abbrev f42_L6X1 : Tm := ⟨[(0, .k (.hw 19)), (1, .k (.hw 22)), (6, .k (.hp 6 0 0)), (8, .k (.hp 8 0 0))], [(6, .var 31 true false [.d .bool, .d .nil, .d .nil]), (8, .var 31 true false [.d .bool, .d hIs, .d hIs]), (19, .arr 31 hR false), (22, .arr 31 hR false)], [], []⟩
abbrev f42_L6O : List (Exit × Tm) := [(.ret, f42_L6X0), (.exit 0, f42_L6X1)]
def f42_L6U {α : Type} (n : Nat) (v : f42_L6H.den) (f : f42_L6H.den → Option α) (ks : KS α f42_L6O) : Option α := f42_L6B n v.1.2.2.2.1 v.1.2.2.2.2.2.1 v.2.1.1 v.2.2.1.1 v.2.2.1.2.1 v.2.2.1.2.2.1 v.2.2.2.1 v.2.2.2.2.1 (fun s7 s9 c6_0 c8_0 c8_1 c8_2 b19 b22 => f (((), (), (), s7, (), s9, ()), ((c6_0, (), (), ()), (c8_0, c8_1, c8_2, ()), b19, b22, ()))) (fun w0 w1 w2 w3 w4 => ks.1 (((), (), (), ()), ((w0, w1, w2, ()), w3, w4, ()))) (fun w0 w1 w2 w3 w4 w5 => ks.2.1 (((), (), (), (), ()), ((w0, (), (), ()), (w1, w2, w3, ()), w4, w5, ())))
def f42_L6 {α : Type} (n m : Nat) (s7 s9 : Int) (c6_0 c8_0 : Bool) (c8_1 c8_2 : LI) (b19 b22 : LR) (k0 : Bool → LI → LI → LR → LR → Option α) (k1 : Bool → Bool → LI → LI → LR → LR → Option α) : Option α := rounds (f42_L6U n) m (((), (), (), s7, (), s9, ()), ((c6_0, (), (), ()), (c8_0, c8_1, c8_2, ()), b19, b22, ())) (fun w => k0 w.2.1.1 w.2.1.2.1 w.2.1.2.2.1 w.2.2.1 w.2.2.2.1, fun w => k1 w.2.1.1 w.2.2.1.1 w.2.2.1.2.1 w.2.2.1.2.2.1 w.2.2.2.1 w.2.2.2.2.1, ())
theorem f42_L6_0 {α n s7 s9 c6_0 c8_0 c8_1 c8_2 b19 b22 k0 k1} : f42_L6 (α := α) n 0 s7 s9 c6_0 c8_0 c8_1 c8_2 b19 b22 k0 k1 = none := rfl
theorem f42_L6_s {α n m s7 s9 c6_0 c8_0 c8_1 c8_2 b19 b22 k0 k1} : f42_L6 (α := α) n (m + 1) s7 s9 c6_0 c8_0 c8_1 c8_2 b19 b22 k0 k1 = f42_L6B n s7 s9 c6_0 c8_0 c8_1 c8_2 b19 b22 (fun s7 s9 c6_0 c8_0 c8_1 c8_2 b19 b22 => f42_L6 n m s7 s9 c6_0 c8_0 c8_1 c8_2 b19 b22 k0 k1) k0 k1 := rfl
abbrev f42_G28 : Tm := ⟨[(0, .k (.hw 19)), (1, .k (.hw 22)), (6, .k (.hp 6 0 0)), (7, .d hI), (8, .k (.hp 8 0 0)), (9, .d hI), (14, .d hI)], [(6, .var 31 true false [.d .bool, .d .nil, .d .nil]), (8, .var 31 true false [.d .bool, .d hIs, .d hIs]), (19, .arr 31 hR false), (22, .arr 31 hR false)], [], []⟩
abbrev f42_J24 : Tm := ⟨[(0, .k (.hw 19)), (1, .k (.hw 22)), (6, .k (.hp 6 0 0)), (7, .d hI), (8, .k (.hp 8 0 0)), (9, .d hI)], [(6, .var 31 true false [.d .bool, .d .nil, .d .nil]), (8, .var 31 true false [.d .bool, .d hIs, .d hIs]), (19, .arr 31 hR false), (22, .arr 31 hR false)], [13], []⟩
def f42 (n : Nat) (a0 a1 : LR) : Option (LR × LR × Rq) :=
 gd (decide ((0 + a0.length) * 56 ≤ 140737488355328)) (
  gd (decide ((0 + a1.length) * 56 ≤ 140737488355328)) (
   ob (f64 n 1) fun r_1 =>
   f42_L6 n n (a1.length : Int) 0 false r_1.1 r_1.2.1 r_1.2.2 a0 a1
    (fun z_43 z_44 z_45 z_46 z_47 => (
     some (z_46, z_47, (z_43, z_44, z_45))))
    (fun z_48 z_49 z_50 z_51 z_52 z_53 => (
     some (z_52, z_53, (z_49, z_50, z_51))))))
def f42_E (n : Nat) : Ent := ⟨42, [hRs, hRs], [hRs, hRs, hR], fun x => f42 n x.1 x.2⟩
def f42_D (α : Type) (n : Nat) : D3 α := { reg := [(2, ⟨0, [], [(0, { sh := some hR })]⟩), (3, ⟨0, [], [(0, { sh := some hR })]⟩), (4, ⟨0, [], [(0, { ent := some (f64_E n) })]⟩), (9, ⟨0, [], [(12, { ent := some (f87_E n) })]⟩), (12, ⟨0, [], [(2, { ent := some (f64_E n) })]⟩), (14, ⟨0, [], [(1, { ent := some (f88_E n) })]⟩), (24, ⟨9, [], [(9, { ent := some (f89_E n) })]⟩), (28, ⟨0, [], [(16, { ent := some (f90_E n) })]⟩), (32, ⟨25, [], [(23, { ent := some (f89_E n) }), (24, { ent := some (f91_E n) })]⟩), (33, ⟨13, [], [(11, { ent := some (f89_E n) }), (12, { ent := some (f91_E n) })]⟩), (34, ⟨5, [], []⟩)], join := [(24, f42_J24)], loop := [(9, ⟨f42_L9H, f42_L9O, rounds (f42_L9U n) n⟩), (16, ⟨f42_L16H, f42_L16O, rounds (f42_L16U n) n⟩), (30, ⟨f42_L30H, f42_L30O, rounds (f42_L30U n) n⟩), (26, ⟨f42_L26H, f42_L26O, rounds (f42_L26U n) n⟩), (6, ⟨f42_L6H, f42_L6O, rounds (f42_L6U n) n⟩)], any := [(28, f42_G28)] }
set_option maxHeartbeats 8000000 in
theorem f42_A28 (n : Nat) : FamAll (tyOf Try.prog) ⟨193, []⟩ [(16, { ent := some (f90_E n) })] f42_G28 (regOps ((bodyOf Try.f42).at [1, 1, 1, 1, 1, 0, 1, 0, 0, 1, 0, 0, 1, 1, 1, 1, 1, 1, 0, 0, 1, 0, 0, 0])) := by
 refine ⟨by kernel_rfl, fun w q hq => ?_⟩
 have e : WT [(16, { ent := some (f90_E n) })] (swapIdx (regOps ((bodyOf Try.f42).at [1, 1, 1, 1, 1, 0, 1, 0, 0, 1, 0, 0, 1, 1, 1, 1, 1, 1, 0, 0, 1, 0, 0, 0])).toList) q = (∃ (y0 : HL (f90_E n).rs) (q0 : List (Nat × RV)), q = (16, .sv (resSV (f90_E n).rs y0)) :: q0 ∧ q0 = []) := by kernel_rfl
 rw [e] at hq
 obtain ⟨y0, q0, rfl, rfl⟩ := hq
 all_goals exact .inr ⟨18, by kernel_rfl, by kernel_rfl, by kernel_rfl⟩
theorem f42_ents (α : Type) (n : Nat) : AllS Try.prog (entsOf (f42_D α n).reg) := ⟨f64_ok n, f87_ok n, f64_ok n, f88_ok n, f89_ok n, f90_ok n, f89_ok n, f91_ok n, f89_ok n, f91_ok n, trivial⟩
theorem f42_L9_d (α : Type) (n : Nat) : D3.OK Try.prog (tyOf Try.prog) ⟨193, []⟩ (f42_D α n) ((bodyOf Try.f42).at [1, 1, 1, 1, 1, 0, 1, 0, 0, 1, 0, 0, 1, 0, 0, 0]) :=
 D3.OK.mk3a (f42_ents α n) (show loopsOf ((bodyOf Try.f42).at [1, 1, 1, 1, 1, 0, 1, 0, 0, 1, 0, 0, 1, 0, 0, 0]) = [] by kernel_rfl) trivial (show anysOf ((bodyOf Try.f42).at [1, 1, 1, 1, 1, 0, 1, 0, 0, 1, 0, 0, 1, 0, 0, 0]) = [] by kernel_rfl) trivial
theorem f42_L9_ok (α : Type) (n : Nat) : LO.Sound (α := α) Try.prog ⟨193, []⟩ ⟨f42_L9H, f42_L9O, rounds (f42_L9U n) n⟩ (.loop ((bodyOf Try.f42).at [1, 1, 1, 1, 1, 0, 1, 0, 0, 1, 0, 0, 1, 0, 0, 0])) :=
 loop_ok (tyOf_ok _) prog_fol (f42_L9U n) (f42_L9_d α n) (by intro v f ks; kernel_rfl) n
theorem f42_L16_d (α : Type) (n : Nat) : D3.OK Try.prog (tyOf Try.prog) ⟨193, []⟩ (f42_D α n) ((bodyOf Try.f42).at [1, 1, 1, 1, 1, 0, 1, 0, 0, 1, 0, 0, 1, 1, 1, 0, 1, 0, 1, 0, 1, 0, 0]) :=
 D3.OK.mk3a (f42_ents α n) (show loopsOf ((bodyOf Try.f42).at [1, 1, 1, 1, 1, 0, 1, 0, 0, 1, 0, 0, 1, 1, 1, 0, 1, 0, 1, 0, 1, 0, 0]) = [] by kernel_rfl) trivial (show anysOf ((bodyOf Try.f42).at [1, 1, 1, 1, 1, 0, 1, 0, 0, 1, 0, 0, 1, 1, 1, 0, 1, 0, 1, 0, 1, 0, 0]) = [] by kernel_rfl) trivial
theorem f42_L16_ok (α : Type) (n : Nat) : LO.Sound (α := α) Try.prog ⟨193, []⟩ ⟨f42_L16H, f42_L16O, rounds (f42_L16U n) n⟩ (.loop ((bodyOf Try.f42).at [1, 1, 1, 1, 1, 0, 1, 0, 0, 1, 0, 0, 1, 1, 1, 0, 1, 0, 1, 0, 1, 0, 0])) :=
 loop_ok (tyOf_ok _) prog_fol (f42_L16U n) (f42_L16_d α n) (by intro v f ks; kernel_rfl) n
theorem f42_L30_d (α : Type) (n : Nat) : D3.OK Try.prog (tyOf Try.prog) ⟨193, []⟩ (f42_D α n) ((bodyOf Try.f42).at [1, 1, 1, 1, 1, 0, 1, 0, 0, 1, 0, 0, 1, 1, 1, 1, 1, 1, 0, 0, 1, 0, 0, 1, 0, 1, 0, 0]) :=
 D3.OK.mk3a (f42_ents α n) (show loopsOf ((bodyOf Try.f42).at [1, 1, 1, 1, 1, 0, 1, 0, 0, 1, 0, 0, 1, 1, 1, 1, 1, 1, 0, 0, 1, 0, 0, 1, 0, 1, 0, 0]) = [] by kernel_rfl) trivial (show anysOf ((bodyOf Try.f42).at [1, 1, 1, 1, 1, 0, 1, 0, 0, 1, 0, 0, 1, 1, 1, 1, 1, 1, 0, 0, 1, 0, 0, 1, 0, 1, 0, 0]) = [(32, regOps ((bodyOf Try.f42).at [1, 1, 1, 1, 1, 0, 1, 0, 0, 1, 0, 0, 1, 1, 1, 1, 1, 1, 0, 0, 1, 0, 0, 1, 0, 1, 0, 0, 1, 0, 0]))] by kernel_rfl) ⟨fun X h => (by cases h), trivial⟩
theorem f42_L30_ok (α : Type) (n : Nat) : LO.Sound (α := α) Try.prog ⟨193, []⟩ ⟨f42_L30H, f42_L30O, rounds (f42_L30U n) n⟩ (.loop ((bodyOf Try.f42).at [1, 1, 1, 1, 1, 0, 1, 0, 0, 1, 0, 0, 1, 1, 1, 1, 1, 1, 0, 0, 1, 0, 0, 1, 0, 1, 0, 0])) :=
 loop_ok (tyOf_ok _) prog_fol (f42_L30U n) (f42_L30_d α n) (by intro v f ks; kernel_rfl) n
theorem f42_L26_d (α : Type) (n : Nat) : D3.OK Try.prog (tyOf Try.prog) ⟨193, []⟩ (f42_D α n) ((bodyOf Try.f42).at [1, 1, 1, 1, 1, 0, 1, 0, 0, 1, 0, 0, 1, 1, 1, 1, 1, 1, 0, 0]) :=
 D3.OK.mk3a (f42_ents α n) (show loopsOf ((bodyOf Try.f42).at [1, 1, 1, 1, 1, 0, 1, 0, 0, 1, 0, 0, 1, 1, 1, 1, 1, 1, 0, 0]) = [(30, (.loop ((bodyOf Try.f42).at [1, 1, 1, 1, 1, 0, 1, 0, 0, 1, 0, 0, 1, 1, 1, 1, 1, 1, 0, 0, 1, 0, 0, 1, 0, 1, 0, 0])))] by kernel_rfl) ⟨look_sound rfl (f42_L30_ok α n), trivial⟩ (show anysOf ((bodyOf Try.f42).at [1, 1, 1, 1, 1, 0, 1, 0, 0, 1, 0, 0, 1, 1, 1, 1, 1, 1, 0, 0]) = [(28, regOps ((bodyOf Try.f42).at [1, 1, 1, 1, 1, 0, 1, 0, 0, 1, 0, 0, 1, 1, 1, 1, 1, 1, 0, 0, 1, 0, 0, 0])), (33, regOps ((bodyOf Try.f42).at [1, 1, 1, 1, 1, 0, 1, 0, 0, 1, 0, 0, 1, 1, 1, 1, 1, 1, 0, 0, 1, 0, 0, 1, 1]))] by kernel_rfl) ⟨fun X h => (by cases h; exact f42_A28 n), fun X h => (by cases h), trivial⟩
theorem f42_L26_ok (α : Type) (n : Nat) : LO.Sound (α := α) Try.prog ⟨193, []⟩ ⟨f42_L26H, f42_L26O, rounds (f42_L26U n) n⟩ (.loop ((bodyOf Try.f42).at [1, 1, 1, 1, 1, 0, 1, 0, 0, 1, 0, 0, 1, 1, 1, 1, 1, 1, 0, 0])) :=
 loop_ok (tyOf_ok _) prog_fol (f42_L26U n) (f42_L26_d α n) (by intro v f ks; kernel_rfl) n
theorem f42_L6_d (α : Type) (n : Nat) : D3.OK Try.prog (tyOf Try.prog) ⟨193, []⟩ (f42_D α n) ((bodyOf Try.f42).at [1, 1, 1, 1, 1, 0, 1, 0, 0]) :=
 D3.OK.mk3a (f42_ents α n) (show loopsOf ((bodyOf Try.f42).at [1, 1, 1, 1, 1, 0, 1, 0, 0]) = [(9, (.loop ((bodyOf Try.f42).at [1, 1, 1, 1, 1, 0, 1, 0, 0, 1, 0, 0, 1, 0, 0, 0]))), (16, (.loop ((bodyOf Try.f42).at [1, 1, 1, 1, 1, 0, 1, 0, 0, 1, 0, 0, 1, 1, 1, 0, 1, 0, 1, 0, 1, 0, 0]))), (26, (.loop ((bodyOf Try.f42).at [1, 1, 1, 1, 1, 0, 1, 0, 0, 1, 0, 0, 1, 1, 1, 1, 1, 1, 0, 0])))] by kernel_rfl) ⟨look_sound rfl (f42_L9_ok α n), look_sound rfl (f42_L16_ok α n), look_sound rfl (f42_L26_ok α n), trivial⟩ (show anysOf ((bodyOf Try.f42).at [1, 1, 1, 1, 1, 0, 1, 0, 0]) = [(24, regOps ((bodyOf Try.f42).at [1, 1, 1, 1, 1, 0, 1, 0, 0, 1, 0, 0, 1, 1, 1, 1, 0]))] by kernel_rfl) ⟨fun X h => (by cases h), trivial⟩
theorem f42_L6_ok (α : Type) (n : Nat) : LO.Sound (α := α) Try.prog ⟨193, []⟩ ⟨f42_L6H, f42_L6O, rounds (f42_L6U n) n⟩ (.loop ((bodyOf Try.f42).at [1, 1, 1, 1, 1, 0, 1, 0, 0])) :=
 loop_ok (tyOf_ok _) prog_fol (f42_L6U n) (f42_L6_d α n) (by intro v f ks; kernel_rfl) n
theorem f42_d (α : Type) (n : Nat) : D3.OK Try.prog (tyOf Try.prog) ⟨193, []⟩ (f42_D α n) (bodyOf Try.f42) :=
 D3.OK.mk3a (f42_ents α n) (show loopsOf (bodyOf Try.f42) = [(6, (.loop ((bodyOf Try.f42).at [1, 1, 1, 1, 1, 0, 1, 0, 0])))] by kernel_rfl) ⟨look_sound rfl (f42_L6_ok α n), trivial⟩ (show anysOf (bodyOf Try.f42) = [(34, regOps ((bodyOf Try.f42).at [1, 1, 1, 1, 1, 1, 0]))] by kernel_rfl) ⟨fun X h => (by cases h), trivial⟩
theorem f42_ok (n : Nat) : (f42_E n).Sound Try.prog :=
 fn_ok (tyOf_ok _) prog_fol (f42_D _ n) (show Try.prog.funcs[42]? = some Try.f42 by kernel_rfl) (by kernel_rfl) (show Try.f42.body = some (bodyOf Try.f42) by kernel_rfl) rfl rfl (Nat.le_of_ble_eq_true rfl) (f42_d _ n) (by intro x; kernel_rfl) 

end Go.Ev
