/- DERIVED. What the functions compute, and that they do. -/
import Derived.Test.YtcoilfmbghghpaaPxa

set_option linter.all false
set_option linter.unusedVariables false
set_option linter.unusedSimpArgs false

namespace Go.Ev
open Go Go.Proofs Go.RowKit Go.Shelf
def f22B (n : Nat) (a0 : Rq) : Option (Bool × LI × LI) :=
 ob (f71B n a0.2.1) fun r_1 =>
 ob (f71B n a0.2.2) fun r_2 =>
 some (a0.1, r_1, r_2)
def f22B_E (n : Nat) : Ent3 := ⟨22, [.im hR], [[.mix [.im .bool, .own 3 hI, .own 3 hI]]], fun x => f22B n x⟩
def f22B_D (α : Type) (n : Nat) : D3 α := { reg := [(3, ⟨0, [], [(2, { entB := some (f71B_E n), hb := 310 })]⟩), (4, ⟨0, [], [(2, { entB := some (f71B_E n), hb := 320 })]⟩)], join := [], loop := [] }
theorem f22B_ents (α : Type) (n : Nat) : AllS Try.prog (entsOf (f22B_D α n).reg) := ⟨f71B_ok n, f71B_ok n, trivial⟩
theorem f22B_d (α : Type) (n : Nat) : D3.OK Try.prog (tyOf Try.prog) ⟨16, []⟩ (f22B_D α n) (bodyOf Try.f22) :=
 D3.OK.mk3 (f22B_ents α n) (show loopsOf (bodyOf Try.f22) = [] by kernel_rfl) trivial
theorem f22B_ok (n : Nat) : (f22B_E n).Sound Try.prog :=
 fn_okB (tyOf_ok _) prog_fol (f22B_D _ n) (show Try.prog.funcs[22]? = some Try.f22 by kernel_rfl) (by kernel_rfl) (show Try.f22.body = some (bodyOf Try.f22) by kernel_rfl) rfl rfl (Nat.le_of_ble_eq_true rfl) (f22B_d _ n) (by intro x; kernel_rfl) 

def f17B_L3B {α : Type} (n : Nat) (s0 : LR) (s4 : Int) (b7 : LR) (f : LR → Int → LR → Option α) (k0 : LR → Option α) : Option α :=
 bif (decide (s4 < (s0.length : Int))) then
  gd (decide (0 ≤ s4) && decide (s4 < (s0.length : Int))) (
   let x_1 := s0.getD s4.toNat (false, [], [])
   ob (f22B n x_1) fun r_2 =>
   gd (decide (0 ≤ s4) && decide (s4 < (b7.length : Int))) (
    gd (decide (s4.toNat < b7.length)) (
     f s0 (W (s4 + 1)) (b7.set s4.toNat r_2))))
 else
  k0 b7
abbrev f17B_L3H : Tm := ⟨[(0, .d hRs), (3, .k (.hw 7)), (4, .d hI)], [(7, .tree 33 hR false)], [], []⟩
abbrev f17B_L3X0 : Tm := ⟨[(3, .k (.hw 7))], [(7, .tree 33 hR false)], [], []⟩
abbrev f17B_L3O : List (Exit × Tm) := [(.exit 0, f17B_L3X0)]
def f17B_L3U {α : Type} (n : Nat) (v : f17B_L3H.den) (f : f17B_L3H.den → Option α) (ks : KS α f17B_L3O) : Option α := f17B_L3B n v.1.1 v.1.2.2.1 v.2.1 (fun s0 s4 b7 => f ((s0, (), s4, ()), (b7, ()))) (fun w0 => ks.1 (((), ()), (w0, ())))
def f17B_L3 {α : Type} (n m : Nat) (s0 : LR) (s4 : Int) (b7 : LR) (k0 : LR → Option α) : Option α := rounds (f17B_L3U n) m ((s0, (), s4, ()), (b7, ())) (fun w => k0 w.2.1, ())
theorem f17B_L3_0 {α n s0 s4 b7 k0} : f17B_L3 (α := α) n 0 s0 s4 b7 k0 = none := rfl
theorem f17B_L3_s {α n m s0 s4 b7 k0} : f17B_L3 (α := α) n (m + 1) s0 s4 b7 k0 = f17B_L3B n s0 s4 b7 (fun s0 s4 b7 => f17B_L3 n m s0 s4 b7 k0) k0 := rfl
def f17B (n : Nat) (a0 : LR) : Option LR :=
 gd (decide (0 ≤ (a0.length : Int)) && decide ((a0.length : Int) ≤ 4611686018427387904) && decide ((56 : Int) * (a0.length : Int) ≤ 281474976710656)) (
  f17B_L3 n n a0 0 (List.replicate ((a0.length : Int).toNat) (false, [], []))
   (fun z_3 => (
    some z_3)))
def f17B_E (n : Nat) : Ent3 := ⟨17, [.im hRs], [[.one (.tree 33 hR)]], fun x => f17B n x⟩
def f17B_D (α : Type) (n : Nat) : D3 α := { reg := [(1, ⟨0, [], [(2, { tr := some hR })]⟩), (5, ⟨0, [], [(6, { entB := some (f22B_E n), hb := 310 })]⟩)], join := [], loop := [(3, ⟨f17B_L3H, f17B_L3O, rounds (f17B_L3U n) n⟩)] }
theorem f17B_ents (α : Type) (n : Nat) : AllS Try.prog (entsOf (f17B_D α n).reg) := ⟨f22B_ok n, trivial⟩
theorem f17B_L3_d (α : Type) (n : Nat) : D3.OK Try.prog (tyOf Try.prog) ⟨23, []⟩ (f17B_D α n) ((bodyOf Try.f17).at [1, 1, 0, 1, 0, 0]) :=
 D3.OK.mk3 (f17B_ents α n) (show loopsOf ((bodyOf Try.f17).at [1, 1, 0, 1, 0, 0]) = [] by kernel_rfl) trivial
theorem f17B_L3_ok (α : Type) (n : Nat) : LO.Sound (α := α) Try.prog ⟨23, []⟩ ⟨f17B_L3H, f17B_L3O, rounds (f17B_L3U n) n⟩ (.loop ((bodyOf Try.f17).at [1, 1, 0, 1, 0, 0])) :=
 loop_ok (tyOf_ok _) prog_fol (f17B_L3U n) (f17B_L3_d α n) (by intro v f ks; kernel_rfl) n
theorem f17B_d (α : Type) (n : Nat) : D3.OK Try.prog (tyOf Try.prog) ⟨23, []⟩ (f17B_D α n) (bodyOf Try.f17) :=
 D3.OK.mk3 (f17B_ents α n) (show loopsOf (bodyOf Try.f17) = [(3, (.loop ((bodyOf Try.f17).at [1, 1, 0, 1, 0, 0])))] by kernel_rfl) ⟨look_sound rfl (f17B_L3_ok α n), trivial⟩
theorem f17B_ok (n : Nat) : (f17B_E n).Sound Try.prog :=
 fn_okB (tyOf_ok _) prog_fol (f17B_D _ n) (show Try.prog.funcs[17]? = some Try.f17 by kernel_rfl) (by kernel_rfl) (show Try.f17.body = some (bodyOf Try.f17) by kernel_rfl) rfl rfl (Nat.le_of_ble_eq_true rfl) (f17B_d _ n) (by intro x; kernel_rfl) 

def f178_L2B {α : Type} (n : Nat) (s0 : Int) (s7 : LI) (s8 s9 : Int) (f : Int → LI → Int → Int → Option α) (k0 : Int → Option α) (k1 : Unit → Option α) : Option α :=
 bif (decide (s9 < s8)) then
  gd (decide (0 ≤ s9) && decide (s9 < (s7.length : Int))) (
   bif (decide ((s7.getD s9.toNat 0) > s0)) then
    k0 2
   else
    f s0 s7 s8 (W (s9 + 1)))
 else
  k1 ()
abbrev f178_L2H : Tm := ⟨[(0, .d hI), (7, .d hIs), (8, .d hI), (9, .d hI)], [], [], []⟩
abbrev f178_L2X0 : Tm := ⟨[(4, .d hI)], [], [], []⟩
abbrev f178_L2X1 : Tm := ⟨[], [], [], []⟩
abbrev f178_L2O : List (Exit × Tm) := [(.ret, f178_L2X0), (.exit 0, f178_L2X1)]
def f178_L2U {α : Type} (n : Nat) (v : f178_L2H.den) (f : f178_L2H.den → Option α) (ks : KS α f178_L2O) : Option α := f178_L2B n v.1.1 v.1.2.1 v.1.2.2.1 v.1.2.2.2.1 (fun s0 s7 s8 s9 => f ((s0, s7, s8, s9, ()), ())) (fun w0 => ks.1 ((w0, ()), ())) (fun _ => ks.2.1 ((), ()))
def f178_L2 {α : Type} (n m : Nat) (s0 : Int) (s7 : LI) (s8 s9 : Int) (k0 : Int → Option α) (k1 : Unit → Option α) : Option α := rounds (f178_L2U n) m ((s0, s7, s8, s9, ()), ()) (fun w => k0 w.1.1, fun w => k1 (), ())
theorem f178_L2_0 {α n s0 s7 s8 s9 k0 k1} : f178_L2 (α := α) n 0 s0 s7 s8 s9 k0 k1 = none := rfl
theorem f178_L2_s {α n m s0 s7 s8 s9 k0 k1} : f178_L2 (α := α) n (m + 1) s0 s7 s8 s9 k0 k1 = f178_L2B n s0 s7 s8 s9 (fun s0 s7 s8 s9 => f178_L2 n m s0 s7 s8 s9 k0 k1) k0 k1 := rfl
def f178 (n : Nat) (a0 : Int) (a1 : LI) : Option Int :=
 f178_L2 n n a0 a1 (a1.length : Int) 0
  (fun z_1 => (
   some z_1))
  (fun (_ : Unit) => (
   some 0))
def f178_E (n : Nat) : Ent := ⟨178, [hI, hIs], [hI], fun x => f178 n x.1 x.2⟩
def f178_D (α : Type) (n : Nat) : D3 α := { reg := [], join := [], loop := [(2, ⟨f178_L2H, f178_L2O, rounds (f178_L2U n) n⟩)] }
theorem f178_ents (α : Type) (n : Nat) : AllS Try.prog (entsOf (f178_D α n).reg) := trivial
theorem f178_L2_d (α : Type) (n : Nat) : D3.OK Try.prog (tyOf Try.prog) ⟨17, []⟩ (f178_D α n) ((bodyOf Try.f178).at [1, 0, 1, 0, 0]) :=
 D3.OK.mk3 (f178_ents α n) (show loopsOf ((bodyOf Try.f178).at [1, 0, 1, 0, 0]) = [] by kernel_rfl) trivial
theorem f178_L2_ok (α : Type) (n : Nat) : LO.Sound (α := α) Try.prog ⟨17, []⟩ ⟨f178_L2H, f178_L2O, rounds (f178_L2U n) n⟩ (.loop ((bodyOf Try.f178).at [1, 0, 1, 0, 0])) :=
 loop_ok (tyOf_ok _) prog_fol (f178_L2U n) (f178_L2_d α n) (by intro v f ks; kernel_rfl) n
theorem f178_d (α : Type) (n : Nat) : D3.OK Try.prog (tyOf Try.prog) ⟨17, []⟩ (f178_D α n) (bodyOf Try.f178) :=
 D3.OK.mk3 (f178_ents α n) (show loopsOf (bodyOf Try.f178) = [(2, (.loop ((bodyOf Try.f178).at [1, 0, 1, 0, 0])))] by kernel_rfl) ⟨look_sound rfl (f178_L2_ok α n), trivial⟩
theorem f178_ok (n : Nat) : (f178_E n).Sound Try.prog :=
 fn_ok (tyOf_ok _) prog_fol (f178_D _ n) (show Try.prog.funcs[178]? = some Try.f178 by kernel_rfl) (by kernel_rfl) (show Try.f178.body = some (bodyOf Try.f178) by kernel_rfl) rfl rfl (Nat.le_of_ble_eq_true rfl) (f178_d _ n) (by intro x; kernel_rfl) 

def f133_L3B {α : Type} (n : Nat) (s7 : List LR) (s8 s9 : Int) (b6 : LI) (f : (List LR) → Int → Int → LI → Option α) (k0 : LI → Option α) : Option α :=
 bif (decide (s9 < s8)) then
  gd (decide (0 ≤ s9) && decide (s9 < (s7.length : Int))) (
   gd (decide ((b6.length + 1) * 8 ≤ 140737488355328)) (
    f s7 s8 (W (s9 + 1)) (b6 ++ [(((s7.getD s9.toNat []).length : Nat) : Int)])))
 else
  k0 b6
abbrev f133_L3H : Tm := ⟨[(3, .k (.hw 6)), (7, .d (.sl hRs)), (8, .d hI), (9, .d hI)], [(6, .arr 3 hI false)], [16], []⟩
abbrev f133_L3X0 : Tm := ⟨[(3, .k (.hw 6))], [(6, .arr 3 hI false)], [], []⟩
abbrev f133_L3O : List (Exit × Tm) := [(.exit 0, f133_L3X0)]
def f133_L3U {α : Type} (n : Nat) (v : f133_L3H.den) (f : f133_L3H.den → Option α) (ks : KS α f133_L3O) : Option α := f133_L3B n v.1.2.1 v.1.2.2.1 v.1.2.2.2.1 v.2.1 (fun s7 s8 s9 b6 => f (((), s7, s8, s9, ()), (b6, ()))) (fun w0 => ks.1 (((), ()), (w0, ())))
def f133_L3 {α : Type} (n m : Nat) (s7 : List LR) (s8 s9 : Int) (b6 : LI) (k0 : LI → Option α) : Option α := rounds (f133_L3U n) m (((), s7, s8, s9, ()), (b6, ())) (fun w => k0 w.2.1, ())
theorem f133_L3_0 {α n s7 s8 s9 b6 k0} : f133_L3 (α := α) n 0 s7 s8 s9 b6 k0 = none := rfl
theorem f133_L3_s {α n m s7 s8 s9 b6 k0} : f133_L3 (α := α) n (m + 1) s7 s8 s9 b6 k0 = f133_L3B n s7 s8 s9 b6 (fun s7 s8 s9 b6 => f133_L3 n m s7 s8 s9 b6 k0) k0 := rfl
def f133 (n : Nat) (a0 : List LR) : Option Int :=
 f133_L3 n n a0 (a0.length : Int) 0 []
  (fun z_1 => (
   ob (f178 n 4096 z_1) fun r_2 =>
   some r_2))
def f133_E (n : Nat) : Ent := ⟨133, [(.sl hRs)], [hI], fun x => f133 n x⟩
def f133_D (α : Type) (n : Nat) : D3 α := { reg := [(1, ⟨0, [], [(0, { sh := some hI })]⟩), (5, ⟨0, [], [(3, { sh := some hI })]⟩), (7, ⟨0, [], [(1, { ent := some (f178_E n) })]⟩)], join := [], loop := [(3, ⟨f133_L3H, f133_L3O, rounds (f133_L3U n) n⟩)] }
theorem f133_ents (α : Type) (n : Nat) : AllS Try.prog (entsOf (f133_D α n).reg) := ⟨f178_ok n, trivial⟩
theorem f133_L3_d (α : Type) (n : Nat) : D3.OK Try.prog (tyOf Try.prog) ⟨21, []⟩ (f133_D α n) ((bodyOf Try.f133).at [1, 1, 0, 1, 0, 0]) :=
 D3.OK.mk3 (f133_ents α n) (show loopsOf ((bodyOf Try.f133).at [1, 1, 0, 1, 0, 0]) = [] by kernel_rfl) trivial
theorem f133_L3_ok (α : Type) (n : Nat) : LO.Sound (α := α) Try.prog ⟨21, []⟩ ⟨f133_L3H, f133_L3O, rounds (f133_L3U n) n⟩ (.loop ((bodyOf Try.f133).at [1, 1, 0, 1, 0, 0])) :=
 loop_ok (tyOf_ok _) prog_fol (f133_L3U n) (f133_L3_d α n) (by intro v f ks; kernel_rfl) n
theorem f133_d (α : Type) (n : Nat) : D3.OK Try.prog (tyOf Try.prog) ⟨21, []⟩ (f133_D α n) (bodyOf Try.f133) :=
 D3.OK.mk3 (f133_ents α n) (show loopsOf (bodyOf Try.f133) = [(3, (.loop ((bodyOf Try.f133).at [1, 1, 0, 1, 0, 0])))] by kernel_rfl) ⟨look_sound rfl (f133_L3_ok α n), trivial⟩
theorem f133_ok (n : Nat) : (f133_E n).Sound Try.prog :=
 fn_ok (tyOf_ok _) prog_fol (f133_D _ n) (show Try.prog.funcs[133]? = some Try.f133 by kernel_rfl) (by kernel_rfl) (show Try.f133.body = some (bodyOf Try.f133) by kernel_rfl) rfl rfl (Nat.le_of_ble_eq_true rfl) (f133_d _ n) (by intro x; kernel_rfl) 

def f67 (n : Nat) (a0 a1 a2 : Int) : Option Bool :=
 bif (decide (a1 ≤ a0)) then
  some (decide (a0 ≤ a2))
 else
  some false
def f67_E (n : Nat) : Ent := ⟨67, [hI, hI, hI], [.bool], fun x => f67 n x.1 x.2.1 x.2.2⟩
def f67_D (α : Type) (n : Nat) : D3 α := { reg := [], join := [], loop := [] }
theorem f67_ents (α : Type) (n : Nat) : AllS Try.prog (entsOf (f67_D α n).reg) := trivial
theorem f67_d (α : Type) (n : Nat) : D3.OK Try.prog (tyOf Try.prog) ⟨15, []⟩ (f67_D α n) (bodyOf Try.f67) :=
 D3.OK.mk3 (f67_ents α n) (show loopsOf (bodyOf Try.f67) = [] by kernel_rfl) trivial
theorem f67_ok (n : Nat) : (f67_E n).Sound Try.prog :=
 fn_ok (tyOf_ok _) prog_fol (f67_D _ n) (show Try.prog.funcs[67]? = some Try.f67 by kernel_rfl) (by kernel_rfl) (show Try.f67.body = some (bodyOf Try.f67) by kernel_rfl) rfl rfl (Nat.le_of_ble_eq_true rfl) (f67_d _ n) (by intro x; kernel_rfl) 

def f180 (n : Nat) (a0 : Int) : Option Bool :=
 bif (decide (a0 < 0)) then
  some true
 else
  some (decide (a0 ≥ 10000))
def f180_E (n : Nat) : Ent := ⟨180, [hI], [.bool], fun x => f180 n x⟩
def f180_D (α : Type) (n : Nat) : D3 α := { reg := [], join := [], loop := [] }
theorem f180_ents (α : Type) (n : Nat) : AllS Try.prog (entsOf (f180_D α n).reg) := trivial
theorem f180_d (α : Type) (n : Nat) : D3.OK Try.prog (tyOf Try.prog) ⟨9, []⟩ (f180_D α n) (bodyOf Try.f180) :=
 D3.OK.mk3 (f180_ents α n) (show loopsOf (bodyOf Try.f180) = [] by kernel_rfl) trivial
theorem f180_ok (n : Nat) : (f180_E n).Sound Try.prog :=
 fn_ok (tyOf_ok _) prog_fol (f180_D _ n) (show Try.prog.funcs[180]? = some Try.f180 by kernel_rfl) (by kernel_rfl) (show Try.f180.body = some (bodyOf Try.f180) by kernel_rfl) rfl rfl (Nat.le_of_ble_eq_true rfl) (f180_d _ n) (by intro x; kernel_rfl) 

def f195c180_L2B {α : Type} (n : Nat) (s0 : LI) (s7 s8 : Int) (f : LI → Int → Int → Option α) (k0 : Int → Option α) (k1 : Unit → Option α) : Option α :=
 bif (decide (s8 < s7)) then
  gd (decide (0 ≤ s8) && decide (s8 < (s0.length : Int))) (
   ob (f180 n (s0.getD s8.toNat 0)) fun r_1 =>
   bif r_1 then
    k0 s8
   else
    f s0 s7 (W (s8 + 1)))
 else
  k1 ()
abbrev f195c180_L2H : Tm := ⟨[(0, .d hIs), (1, .d (.fn 180)), (7, .d hI), (8, .d hI)], [], [], []⟩
abbrev f195c180_L2X0 : Tm := ⟨[(4, .d hI)], [], [], []⟩
abbrev f195c180_L2X1 : Tm := ⟨[], [], [], []⟩
abbrev f195c180_L2O : List (Exit × Tm) := [(.ret, f195c180_L2X0), (.exit 0, f195c180_L2X1)]
def f195c180_L2U {α : Type} (n : Nat) (v : f195c180_L2H.den) (f : f195c180_L2H.den → Option α) (ks : KS α f195c180_L2O) : Option α := f195c180_L2B n v.1.1 v.1.2.2.1 v.1.2.2.2.1 (fun s0 s7 s8 => f ((s0, (), s7, s8, ()), ())) (fun w0 => ks.1 ((w0, ()), ())) (fun _ => ks.2.1 ((), ()))
def f195c180_L2 {α : Type} (n m : Nat) (s0 : LI) (s7 s8 : Int) (k0 : Int → Option α) (k1 : Unit → Option α) : Option α := rounds (f195c180_L2U n) m ((s0, (), s7, s8, ()), ()) (fun w => k0 w.1.1, fun w => k1 (), ())
theorem f195c180_L2_0 {α n s0 s7 s8 k0 k1} : f195c180_L2 (α := α) n 0 s0 s7 s8 k0 k1 = none := rfl
theorem f195c180_L2_s {α n m s0 s7 s8 k0 k1} : f195c180_L2 (α := α) n (m + 1) s0 s7 s8 k0 k1 = f195c180_L2B n s0 s7 s8 (fun s0 s7 s8 => f195c180_L2 n m s0 s7 s8 k0 k1) k0 k1 := rfl
def f195c180 (n : Nat) (a0 : LI) (a1 : Unit) : Option Int :=
 f195c180_L2 n n a0 (a0.length : Int) 0
  (fun z_2 => (
   some z_2))
  (fun (_ : Unit) => (
   some (-1)))
def f195c180_E (n : Nat) : Ent := ⟨195, [hIs, (.fn 180)], [hI], fun x => f195c180 n x.1 x.2⟩
def f195c180_D (α : Type) (n : Nat) : D3 α := { reg := [(4, ⟨0, [], [(5, { ent := some (f180_E n) })]⟩)], join := [], loop := [(2, ⟨f195c180_L2H, f195c180_L2O, rounds (f195c180_L2U n) n⟩)] }
theorem f195c180_ents (α : Type) (n : Nat) : AllS Try.prog (entsOf (f195c180_D α n).reg) := ⟨f180_ok n, trivial⟩
theorem f195c180_L2_d (α : Type) (n : Nat) : D3.OK Try.prog (tyOf Try.prog) ⟨19, []⟩ (f195c180_D α n) ((bodyOf Try.f195).at [1, 0, 1, 0, 0]) :=
 D3.OK.mk3 (f195c180_ents α n) (show loopsOf ((bodyOf Try.f195).at [1, 0, 1, 0, 0]) = [] by kernel_rfl) trivial
theorem f195c180_L2_ok (α : Type) (n : Nat) : LO.Sound (α := α) Try.prog ⟨19, []⟩ ⟨f195c180_L2H, f195c180_L2O, rounds (f195c180_L2U n) n⟩ (.loop ((bodyOf Try.f195).at [1, 0, 1, 0, 0])) :=
 loop_ok (tyOf_ok _) prog_fol (f195c180_L2U n) (f195c180_L2_d α n) (by intro v f ks; kernel_rfl) n
theorem f195c180_d (α : Type) (n : Nat) : D3.OK Try.prog (tyOf Try.prog) ⟨19, []⟩ (f195c180_D α n) (bodyOf Try.f195) :=
 D3.OK.mk3 (f195c180_ents α n) (show loopsOf (bodyOf Try.f195) = [(2, (.loop ((bodyOf Try.f195).at [1, 0, 1, 0, 0])))] by kernel_rfl) ⟨look_sound rfl (f195c180_L2_ok α n), trivial⟩
theorem f195c180_ok (n : Nat) : (f195c180_E n).Sound Try.prog :=
 fn_ok (tyOf_ok _) prog_fol (f195c180_D _ n) (show Try.prog.funcs[195]? = some Try.f195 by kernel_rfl) (by kernel_rfl) (show Try.f195.body = some (bodyOf Try.f195) by kernel_rfl) rfl rfl (Nat.le_of_ble_eq_true rfl) (f195c180_d _ n) (by intro x; kernel_rfl) 

def f179c180 (n : Nat) (a0 : LI) (a1 : Unit) : Option Bool :=
 ob (f195c180 n a0 a1) fun r_1 =>
 some (decide (r_1 ≥ 0))
def f179c180_E (n : Nat) : Ent := ⟨179, [hIs, (.fn 180)], [.bool], fun x => f179c180 n x.1 x.2⟩
def f179c180_D (α : Type) (n : Nat) : D3 α := { reg := [(1, ⟨0, [], [(2, { ent := some (f195c180_E n) })]⟩)], join := [], loop := [] }
theorem f179c180_ents (α : Type) (n : Nat) : AllS Try.prog (entsOf (f179c180_D α n).reg) := ⟨f195c180_ok n, trivial⟩
theorem f179c180_d (α : Type) (n : Nat) : D3.OK Try.prog (tyOf Try.prog) ⟨9, []⟩ (f179c180_D α n) (bodyOf Try.f179) :=
 D3.OK.mk3 (f179c180_ents α n) (show loopsOf (bodyOf Try.f179) = [] by kernel_rfl) trivial
theorem f179c180_ok (n : Nat) : (f179c180_E n).Sound Try.prog :=
 fn_ok (tyOf_ok _) prog_fol (f179c180_D _ n) (show Try.prog.funcs[179]? = some Try.f179 by kernel_rfl) (by kernel_rfl) (show Try.f179.body = some (bodyOf Try.f179) by kernel_rfl) rfl rfl (Nat.le_of_ble_eq_true rfl) (f179c180_d _ n) (by intro x; kernel_rfl) 

def f134 (n : Nat) (a0 : LI) : Option Bool :=
 bif (decide ((a0.length : Int) > 40)) then
  some false
 else
  bif (decide ((a0.length : Int) > 0)) then
   gd (decide (0 ≤ (W ((a0.length : Int) - 1))) && decide ((W ((a0.length : Int) - 1)) < (a0.length : Int))) (
    bif ((a0.getD ((W ((a0.length : Int) - 1)).toNat) 0) == 0) then
     some false
    else
     ob (f179c180 n a0 ()) fun r_1 =>
     some (!r_1))
  else
   ob (f179c180 n a0 ()) fun r_2 =>
   some (!r_2)
def f134_E (n : Nat) : Ent := ⟨134, [hIs], [.bool], fun x => f134 n x⟩
def f134_D (α : Type) (n : Nat) : D3 α := { reg := [(4, ⟨0, [], [(1, { ent := some (f179c180_E n) })]⟩)], join := [], loop := [] }
theorem f134_ents (α : Type) (n : Nat) : AllS Try.prog (entsOf (f134_D α n).reg) := ⟨f179c180_ok n, trivial⟩
theorem f134_d (α : Type) (n : Nat) : D3.OK Try.prog (tyOf Try.prog) ⟨23, []⟩ (f134_D α n) (bodyOf Try.f134) :=
 D3.OK.mk3 (f134_ents α n) (show loopsOf (bodyOf Try.f134) = [] by kernel_rfl) trivial
theorem f134_ok (n : Nat) : (f134_E n).Sound Try.prog :=
 fn_ok (tyOf_ok _) prog_fol (f134_D _ n) (show Try.prog.funcs[134]? = some Try.f134 by kernel_rfl) (by kernel_rfl) (show Try.f134.body = some (bodyOf Try.f134) by kernel_rfl) rfl rfl (Nat.le_of_ble_eq_true rfl) (f134_d _ n) (by intro x; kernel_rfl) 

def f135 (n : Nat) (a0 : Rq) : Option Bool :=
 some ((a0.2.1.length : Int) == 0)
def f135_E (n : Nat) : Ent := ⟨135, [hR], [.bool], fun x => f135 n x⟩
def f135_D (α : Type) (n : Nat) : D3 α := { reg := [], join := [], loop := [] }
theorem f135_ents (α : Type) (n : Nat) : AllS Try.prog (entsOf (f135_D α n).reg) := trivial
theorem f135_d (α : Type) (n : Nat) : D3.OK Try.prog (tyOf Try.prog) ⟨7, []⟩ (f135_D α n) (bodyOf Try.f135) :=
 D3.OK.mk3 (f135_ents α n) (show loopsOf (bodyOf Try.f135) = [] by kernel_rfl) trivial
theorem f135_ok (n : Nat) : (f135_E n).Sound Try.prog :=
 fn_ok (tyOf_ok _) prog_fol (f135_D _ n) (show Try.prog.funcs[135]? = some Try.f135 by kernel_rfl) (by kernel_rfl) (show Try.f135.body = some (bodyOf Try.f135) by kernel_rfl) rfl rfl (Nat.le_of_ble_eq_true rfl) (f135_d _ n) (by intro x; kernel_rfl) 

def f181 (n : Nat) (a0 : LI) : Option LI :=
 some a0
def f181_E (n : Nat) : Ent := ⟨181, [hIs], [(.clo 196 (.ref hIs))], fun x => f181 n x⟩
def f181_D (α : Type) (n : Nat) : D3 α := { reg := [(1, ⟨0, [], [(0, { sh := some (.ref hIs) })]⟩)], join := [], loop := [] }
theorem f181_ents (α : Type) (n : Nat) : AllS Try.prog (entsOf (f181_D α n).reg) := trivial
theorem f181_d (α : Type) (n : Nat) : D3.OK Try.prog (tyOf Try.prog) ⟨4, []⟩ (f181_D α n) (bodyOf Try.f181) :=
 D3.OK.mk3 (f181_ents α n) (show loopsOf (bodyOf Try.f181) = [] by kernel_rfl) trivial
theorem f181_ok (n : Nat) : (f181_E n).Sound Try.prog :=
 fn_ok (tyOf_ok _) prog_fol (f181_D _ n) (show Try.prog.funcs[181]? = some Try.f181 by kernel_rfl) (by kernel_rfl) (show Try.f181.body = some (bodyOf Try.f181) by kernel_rfl) rfl rfl (Nat.le_of_ble_eq_true rfl) (f181_d _ n) (by intro x; kernel_rfl) 

def f136_L6B {α : Type} (n : Nat) (i : Nat) (z : Int) (s18 : LI) (c3_0 : LI) (c4_0 : Int) (f : LI → LI → Int → Option α) (k0 : Int → Option α) (k1 : Int → Option α) : Option α :=
 gd (decide (0 ≤ (i : Int)) && decide ((i : Int) < (c3_0.length : Int))) (
  bif (z != (c3_0.getD ((i : Int).toNat) 0)) then
   gd (decide (0 ≤ (i : Int)) && decide ((i : Int) < (c3_0.length : Int))) (
    bif (decide (z < (c3_0.getD ((i : Int).toNat) 0))) then
     k1 (-1)
    else
     k1 1)
  else
   f s18 c3_0 c4_0)
abbrev f136_L6H : Tm := ⟨[(3, .k (.hp 3 0 0)), (4, .k (.hp 4 0 0)), (18, .d (.clo 196 (.ref hIs)))], [(3, .var 29 true false [.d hIs]), (4, .var 3 true false [.d hI])], [], []⟩
abbrev f136_L6X0 : Tm := ⟨[(4, .k (.hp 4 0 0))], [(4, .var 3 true false [.d hI])], [3], []⟩
abbrev f136_L6X1 : Tm := ⟨[(4, .k (.hp 4 0 0))], [(4, .var 3 true false [.d hI])], [3], []⟩
abbrev f136_L6O : List (Exit × Tm) := [(.normal, f136_L6X0), (.ret, f136_L6X1)]
def f136_L6Z (v : f136_L6H.den) : List Int := (fun s18 c3_0 c4_0 => s18) v.1.2.2.1 v.2.1.1 v.2.2.1.1
def f136_L6U {α : Type} (n : Nat) (i : Nat) (z : Int) (v : f136_L6H.den) (f : f136_L6H.den → Option α) (ks : KS α f136_L6O) : Option α := f136_L6B n i z v.1.2.2.1 v.2.1.1 v.2.2.1.1 (fun s18 c3_0 c4_0 => f (((), (), s18, ()), ((c3_0, ()), (c4_0, ()), ()))) (fun w0 => ks.1 (((), ()), ((w0, ()), ()))) (fun w0 => ks.2.1 (((), ()), ((w0, ()), ())))
def f136_L6N {α : Type} (v : f136_L6H.den) (ks : KS α f136_L6O) : Option α := (fun s18 c3_0 c4_0 => ks.1 (((), ()), ((c4_0, ()), ()))) v.1.2.2.1 v.2.1.1 v.2.2.1.1
def f136_L6 {α : Type} (n : Nat) (s18 : LI) (c3_0 : LI) (c4_0 : Int) (k0 : Int → Option α) (k1 : Int → Option α) : Option α := rangeR f136_L6Z (f136_L6U n) f136_L6N (((), (), s18, ()), ((c3_0, ()), (c4_0, ()), ())) (fun w => k0 w.2.1.1, fun w => k1 w.2.1.1, ())
def f136_L6R {α : Type} (n : Nat) (zs : List Int) (i : Nat) (s18 : LI) (c3_0 : LI) (c4_0 : Int) (k0 : Int → Option α) (k1 : Int → Option α) : Option α := rangeB f136_L6Z (f136_L6U n) zs i (((), (), s18, ()), ((c3_0, ()), (c4_0, ()), ())) (fun v => f136_L6N v (fun w => k0 w.2.1.1, fun w => k1 w.2.1.1, ())) (fun w => k0 w.2.1.1, fun w => k1 w.2.1.1, ())
theorem f136_L6_e {α : Type} (n : Nat) (s18 : LI) (c3_0 : LI) (c4_0 : Int) (k0 : Int → Option α) (k1 : Int → Option α) : f136_L6 (α := α) n s18 c3_0 c4_0 k0 k1 = gd (decide (s18.length ≤ 4611686018427387904)) (f136_L6R n s18 s18.length s18 c3_0 c4_0 k0 k1) := rfl
theorem f136_L6_0 {α : Type} (n : Nat) (zs : List Int) (s18 : LI) (c3_0 : LI) (c4_0 : Int) (k0 : Int → Option α) (k1 : Int → Option α) : f136_L6R (α := α) n zs 0 s18 c3_0 c4_0 k0 k1 = k0 c4_0 := rfl
theorem f136_L6_s {α : Type} (n : Nat) (zs : List Int) (i : Nat) (s18 : LI) (c3_0 : LI) (c4_0 : Int) (k0 : Int → Option α) (k1 : Int → Option α) : f136_L6R (α := α) n zs (i + 1) s18 c3_0 c4_0 k0 k1 = f136_L6B n i (zs.getD i 0) s18 c3_0 c4_0 (fun s18 c3_0 c4_0 => gd (decide (s18 = zs)) (f136_L6R n zs i s18 c3_0 c4_0 k0 k1)) k0 k1 := rfl
def f136 (n : Nat) (a0 a1 : LI) : Option Int :=
 bif ((a0.length : Int) != (a1.length : Int)) then
  bif (decide ((a0.length : Int) < (a1.length : Int))) then
   some (-1)
  else
   some 1
 else
  ob (f181 n a0) fun r_1 =>
  f136_L6 n r_1 a1 0
   (fun z_2 => (
    some 0))
   (fun z_3 => (
    some z_3))
def f136_E (n : Nat) : Ent := ⟨136, [hIs, hIs], [hI], fun x => f136 n x.1 x.2⟩
def f136_D (α : Type) (n : Nat) : D3 α := { reg := [(5, ⟨0, [], [(1, { ent := some (f181_E n) })]⟩)], join := [], loop := [(6, ⟨f136_L6H, f136_L6O, rangeR f136_L6Z (f136_L6U n) f136_L6N⟩)] }
theorem f136_ents (α : Type) (n : Nat) : AllS Try.prog (entsOf (f136_D α n).reg) := ⟨f181_ok n, trivial⟩
theorem f136_L6A_d (α : Type) (n : Nat) : D3.OK Try.prog (tyOf Try.prog) ⟨33, []⟩ (f136_D α n) ((bodyOf Try.f136).at [1, 1, 0, 1, 0, 0]) :=
 D3.OK.mk3 (f136_ents α n) (show loopsOf ((bodyOf Try.f136).at [1, 1, 0, 1, 0, 0]) = [] by kernel_rfl) trivial
theorem f136_L6B_d (α : Type) (n : Nat) : D3.OK Try.prog (tyOf Try.prog) ⟨33, []⟩ (f136_D α n) ((bodyOf Try.f136).at [1, 1, 0, 1, 0, 1]) :=
 D3.OK.mk3 (f136_ents α n) (show loopsOf ((bodyOf Try.f136).at [1, 1, 0, 1, 0, 1]) = [] by kernel_rfl) trivial
theorem f136_L6_ok (α : Type) (n : Nat) : LO.Sound (α := α) Try.prog ⟨33, []⟩ ⟨f136_L6H, f136_L6O, rangeR f136_L6Z (f136_L6U n) f136_L6N⟩ (.rangeFunc (.tmp 18) #[19, 20] ((bodyOf Try.f136).at [1, 1, 0, 1, 0, 0]) ((bodyOf Try.f136).at [1, 1, 0, 1, 0, 1])) :=
 range_ok (tyOf_ok _) prog_fol f136_L6Z (f136_L6U n) f136_L6N back_ok rfl rfl rfl rfl (f136_L6A_d α n) (f136_L6B_d α n) (by intro v; rfl) (by intro i z v f ks; kernel_rfl) (by intro v ks; kernel_rfl)
theorem f136_d (α : Type) (n : Nat) : D3.OK Try.prog (tyOf Try.prog) ⟨33, []⟩ (f136_D α n) (bodyOf Try.f136) :=
 D3.OK.mk3 (f136_ents α n) (show loopsOf (bodyOf Try.f136) = [(6, (.rangeFunc (.tmp 18) #[19, 20] ((bodyOf Try.f136).at [1, 1, 0, 1, 0, 0]) ((bodyOf Try.f136).at [1, 1, 0, 1, 0, 1])))] by kernel_rfl) ⟨look_sound rfl (f136_L6_ok α n), trivial⟩
theorem f136_ok (n : Nat) : (f136_E n).Sound Try.prog :=
 fn_ok (tyOf_ok _) prog_fol (f136_D _ n) (show Try.prog.funcs[136]? = some Try.f136 by kernel_rfl) (by kernel_rfl) (show Try.f136.body = some (bodyOf Try.f136) by kernel_rfl) rfl rfl (Nat.le_of_ble_eq_true rfl) (f136_d _ n) (by intro x; kernel_rfl) 

def f132G (n : Nat) (a0 : LI) : Option LI :=
 gd ((!a0.isEmpty)) (
  gd (decide ((0 + a0.length) * 8 ≤ 140737488355328)) (
   some a0))
def f132G_E (n : Nat) : Ent := ⟨132, [hIs], [hIs], fun x => f132G n x⟩
def f132G_D (α : Type) (n : Nat) : D3 α := { reg := [(3, ⟨0, [], [(0, { sh := some hI })]⟩)], join := [], loop := [] }
theorem f132G_ents (α : Type) (n : Nat) : AllS Try.prog (entsOf (f132G_D α n).reg) := trivial
theorem f132G_d (α : Type) (n : Nat) : D3.OK Try.prog (tyOf Try.prog) ⟨8, []⟩ (f132G_D α n) (bodyOf Try.f132) :=
 D3.OK.mk3 (f132G_ents α n) (show loopsOf (bodyOf Try.f132) = [] by kernel_rfl) trivial
theorem f132G_ok (n : Nat) : (f132G_E n).Sound Try.prog :=
 fn_ok (tyOf_ok _) prog_fol (f132G_D _ n) (show Try.prog.funcs[132]? = some Try.f132 by kernel_rfl) (by kernel_rfl) (show Try.f132.body = some (bodyOf Try.f132) by kernel_rfl) rfl rfl (Nat.le_of_ble_eq_true rfl) (f132G_d _ n) (by intro x; kernel_rfl) 

set_option maxRecDepth 100000 in
set_option maxHeartbeats 2000000 in
theorem clone_nil (ad : Option Addr) (cap : Nat) (hc : ad = none → cap = 0) (w : World) : Calls Try.prog 132 #[.slice ad 0 cap] w fun e w' => (∃ a c, e = .returned (.slice a 0 c) ∧ (a = none → c = 0)) ∧ w.grownBy w' none := by
 refine (callsIn_wide (n := 3)).1 ?_
 refine callsIn_of_wp Try.func132 rfl trivial ?_ rfl
 simp only [Try.ntmps132, List.size_toArray, List.length_cons, List.length_nil, Nat.reduceAdd, Nat.reduceSub, Array.replicate_succ, Array.replicate_zero, List.push_toArray, List.append_toArray, List.nil_append, List.cons_append]
 have hi : ∃ i, Try.prog.info? 3 = some i := ⟨_, rfl⟩
 obtain ⟨i3, hi3⟩ := hi
 have hap : ∀ (base : Option Addr) (sCap : Nat) (a : Option Addr) (cp : Nat) (w : World), (Builtin.append_ #[29, 29] 29 #[.slice base 0 sCap, .slice a 0 cp]).run Try.prog w = .ok (.slice base 0 sCap) w := fun base sCap a cp w =>
  run_append_none w 29 29 3 i3 Try.underlying29 hi3 base 0 sCap (Nat.zero_le _) a cp
 cases ad with
 | none =>
  obtain rfl := hc rfl
  have hb : ∀ w, (binOp BinOp.eql 29 (.slice none 0 0) (.slice none 0 0)).run Try.prog w = .ok (.bool true) w := fun w => by kernel_rfl
  gi_wp2
  refine bodyPost_ret (results_tmp rfl _ _ _) rfl ?_
  exact ⟨⟨none, 0, rfl, fun _ => rfl⟩, ⟨rfl, rfl, rfl, Nat.le_refl _, fun _ _ _ => rfl⟩⟩
 | some ad =>
  have hb : ∀ w, (binOp BinOp.eql 29 (.slice (some ad) 0 cap) (.slice none 0 0)).run Try.prog w = .ok (.bool false) w := fun w => by kernel_rfl
  gi_wp2
  refine bodyPost_ret (results_tmp rfl _ _ _) rfl ?_
  exact ⟨⟨_, 0, rfl, fun _ => rfl⟩, World.grownBy_alloc w _ none⟩
def f132 (n : Nat) (a0 : List Int) : Option (List Int) := bif a0.isEmpty then some [] else f132G n a0
def f132_E (n : Nat) : Ent := ⟨132, [hIs], [hIs], fun x => f132 n x⟩
theorem f132_nil (nt : Nat) : FDen Try.prog 132 nt [] [] [.one (.i (.sl 0 false 1 []))] (.v (.one (.i (.sl 0 false 1 [])))) nt [] := by
 refine ⟨⟨Try.f132, by kernel_rfl, by kernel_rfl, by kernel_rfl⟩, fun w E vs hin hv => ?_⟩
 obtain ⟨hl, hget⟩ := hv
 match vs, hl with
 | [v], _ =>
  have h1 : Rv w E v (.one (.i (.sl 0 false 1 []))) := hget 0 v _ rfl rfl
  cases h1 with
  | one h1 =>
   cases h1 with
   | i h1 =>
    cases h1 with
    | sl _ _ _ _ _ _ _ hne => exact absurd rfl hne
    | nil _ _ cap a _ hn hc =>
     refine (clone_nil a cap hc w).mono ?_
     rintro e w' ⟨⟨a', c', rfl, hc'⟩, hg⟩
     exact ⟨_, E, rfl, .v (.one (.i (.nil 0 1 c' a' false (fun e => by cases e) hc'))), ⟨hg.os, hg.tape, hg.output, hg.size, fun b hb _ => hg.block b hb (by simp)⟩,
      ⟨fun b hb => Nat.lt_of_lt_of_le (hin.wf.alt b hb) hg.size, hin.wf.tag, hin.wf.inj, fun b h hb => by cases hin.odom b h hb⟩, fun _ _ => Iff.rfl, Nat.le_refl _, fun _ _ => rfl, fun t g ht h => absurd (hin.wf.tag t g h).1 (Nat.not_lt.2 ht),
      fun h b hb => (by cases hb), fun h h' b b' g g' z z' hb => (by cases hb), fun h b g z hb => (by cases hb), fun h b hb => (by cases hb), fun g h hg => (by cases hin.odom g h hg)⟩
theorem f132_ok (n : Nat) : (f132_E n).Sound Try.prog := by
 intro nt x r h
 cases x with
 | cons z l => exact f132G_ok n nt (z :: l) r h
 | nil =>
  have h : some ([] : List Int) = some r := h
  obtain rfl := Option.some.inj h
  exact f132_nil nt

def f186_L2B {α : Type} (n : Nat) (s0 : LI) (s3 : Int) (f : LI → Int → Option α) (k0 : LI → Int → Option α) : Option α :=
 bif (decide (s3 > 0)) then
  gd (decide (0 ≤ (W (s3 - 1))) && decide ((W (s3 - 1)) < (s0.length : Int))) (
   bif ((s0.getD ((W (s3 - 1)).toNat) 0) == 0) then
    f s0 (W (s3 - 1))
   else
    k0 s0 s3)
 else
  k0 s0 s3
abbrev f186_L2H : Tm := ⟨[(0, .d hIs), (3, .d hI)], [], [], []⟩
abbrev f186_L2X0 : Tm := ⟨[(0, .d hIs), (3, .d hI)], [], [], []⟩
abbrev f186_L2O : List (Exit × Tm) := [(.exit 0, f186_L2X0)]
def f186_L2U {α : Type} (n : Nat) (v : f186_L2H.den) (f : f186_L2H.den → Option α) (ks : KS α f186_L2O) : Option α := f186_L2B n v.1.1 v.1.2.1 (fun s0 s3 => f ((s0, s3, ()), ())) (fun w0 w1 => ks.1 ((w0, w1, ()), ()))
def f186_L2 {α : Type} (n m : Nat) (s0 : LI) (s3 : Int) (k0 : LI → Int → Option α) : Option α := rounds (f186_L2U n) m ((s0, s3, ()), ()) (fun w => k0 w.1.1 w.1.2.1, ())
theorem f186_L2_0 {α n s0 s3 k0} : f186_L2 (α := α) n 0 s0 s3 k0 = none := rfl
theorem f186_L2_s {α n m s0 s3 k0} : f186_L2 (α := α) n (m + 1) s0 s3 k0 = f186_L2B n s0 s3 (fun s0 s3 => f186_L2 n m s0 s3 k0) k0 := rfl
def f186 (n : Nat) (a0 : LI) : Option LI :=
 f186_L2 n n a0 (a0.length : Int)
  (fun z_1 z_2 => (
   gd (decide (0 ≤ z_2) && decide (z_2 ≤ (z_1.length : Int))) (
    some ((z_1.drop 0).take (z_2.toNat - 0)))))
def f186_E (n : Nat) : Ent := ⟨186, [hIs], [hIs], fun x => f186 n x⟩
def f186_D (α : Type) (n : Nat) : D3 α := { reg := [], join := [], loop := [(2, ⟨f186_L2H, f186_L2O, rounds (f186_L2U n) n⟩)] }
theorem f186_ents (α : Type) (n : Nat) : AllS Try.prog (entsOf (f186_D α n).reg) := trivial
theorem f186_L2_d (α : Type) (n : Nat) : D3.OK Try.prog (tyOf Try.prog) ⟨21, []⟩ (f186_D α n) ((bodyOf Try.f186).at [1, 1, 0, 0, 0]) :=
 D3.OK.mk3 (f186_ents α n) (show loopsOf ((bodyOf Try.f186).at [1, 1, 0, 0, 0]) = [] by kernel_rfl) trivial
theorem f186_L2_ok (α : Type) (n : Nat) : LO.Sound (α := α) Try.prog ⟨21, []⟩ ⟨f186_L2H, f186_L2O, rounds (f186_L2U n) n⟩ (.loop ((bodyOf Try.f186).at [1, 1, 0, 0, 0])) :=
 loop_ok (tyOf_ok _) prog_fol (f186_L2U n) (f186_L2_d α n) (by intro v f ks; kernel_rfl) n
theorem f186_d (α : Type) (n : Nat) : D3.OK Try.prog (tyOf Try.prog) ⟨21, []⟩ (f186_D α n) (bodyOf Try.f186) :=
 D3.OK.mk3 (f186_ents α n) (show loopsOf (bodyOf Try.f186) = [(2, (.loop ((bodyOf Try.f186).at [1, 1, 0, 0, 0])))] by kernel_rfl) ⟨look_sound rfl (f186_L2_ok α n), trivial⟩
theorem f186_ok (n : Nat) : (f186_E n).Sound Try.prog :=
 fn_ok (tyOf_ok _) prog_fol (f186_D _ n) (show Try.prog.funcs[186]? = some Try.f186 by kernel_rfl) (by kernel_rfl) (show Try.f186.body = some (bodyOf Try.f186) by kernel_rfl) rfl rfl (Nat.le_of_ble_eq_true rfl) (f186_d _ n) (by intro x; kernel_rfl) 

def f163_L2B {α : Type} (n : Nat) (s0 : Int) (b4 : LI) (f : Int → LI → Option α) (k0 : LI → Option α) : Option α :=
 bif (decide (s0 > 0)) then
  gd (decide ((b4.length + 1) * 8 ≤ 140737488355328)) (
   f (W (Int.tdiv s0 10000)) (b4 ++ [(Int.tmod s0 10000)]))
 else
  k0 b4
abbrev f163_L2H : Tm := ⟨[(0, .d hI), (3, .k (.hw 4))], [(4, .arr 3 hI false)], [12], []⟩
abbrev f163_L2X0 : Tm := ⟨[(3, .k (.hw 4))], [(4, .arr 3 hI false)], [], []⟩
abbrev f163_L2O : List (Exit × Tm) := [(.exit 0, f163_L2X0)]
def f163_L2U {α : Type} (n : Nat) (v : f163_L2H.den) (f : f163_L2H.den → Option α) (ks : KS α f163_L2O) : Option α := f163_L2B n v.1.1 v.2.1 (fun s0 b4 => f ((s0, (), ()), (b4, ()))) (fun w0 => ks.1 (((), ()), (w0, ())))
def f163_L2 {α : Type} (n m : Nat) (s0 : Int) (b4 : LI) (k0 : LI → Option α) : Option α := rounds (f163_L2U n) m ((s0, (), ()), (b4, ())) (fun w => k0 w.2.1, ())
theorem f163_L2_0 {α n s0 b4 k0} : f163_L2 (α := α) n 0 s0 b4 k0 = none := rfl
theorem f163_L2_s {α n m s0 b4 k0} : f163_L2 (α := α) n (m + 1) s0 b4 k0 = f163_L2B n s0 b4 (fun s0 b4 => f163_L2 n m s0 b4 k0) k0 := rfl
def f163 (n : Nat) (a0 : Int) : Option LI :=
 f163_L2 n n a0 []
  (fun z_1 => (
   some z_1))
def f163_E (n : Nat) : Ent := ⟨163, [hI], [hIs], fun x => f163 n x⟩
def f163_D (α : Type) (n : Nat) : D3 α := { reg := [(1, ⟨0, [], [(0, { sh := some hI })]⟩), (4, ⟨0, [], [(3, { sh := some hI })]⟩)], join := [], loop := [(2, ⟨f163_L2H, f163_L2O, rounds (f163_L2U n) n⟩)] }
theorem f163_ents (α : Type) (n : Nat) : AllS Try.prog (entsOf (f163_D α n).reg) := trivial
theorem f163_L2_d (α : Type) (n : Nat) : D3.OK Try.prog (tyOf Try.prog) ⟨15, []⟩ (f163_D α n) ((bodyOf Try.f163).at [1, 1, 0, 0, 0]) :=
 D3.OK.mk3 (f163_ents α n) (show loopsOf ((bodyOf Try.f163).at [1, 1, 0, 0, 0]) = [] by kernel_rfl) trivial
theorem f163_L2_ok (α : Type) (n : Nat) : LO.Sound (α := α) Try.prog ⟨15, []⟩ ⟨f163_L2H, f163_L2O, rounds (f163_L2U n) n⟩ (.loop ((bodyOf Try.f163).at [1, 1, 0, 0, 0])) :=
 loop_ok (tyOf_ok _) prog_fol (f163_L2U n) (f163_L2_d α n) (by intro v f ks; kernel_rfl) n
theorem f163_d (α : Type) (n : Nat) : D3.OK Try.prog (tyOf Try.prog) ⟨15, []⟩ (f163_D α n) (bodyOf Try.f163) :=
 D3.OK.mk3 (f163_ents α n) (show loopsOf (bodyOf Try.f163) = [(2, (.loop ((bodyOf Try.f163).at [1, 1, 0, 0, 0])))] by kernel_rfl) ⟨look_sound rfl (f163_L2_ok α n), trivial⟩
theorem f163_ok (n : Nat) : (f163_E n).Sound Try.prog :=
 fn_ok (tyOf_ok _) prog_fol (f163_D _ n) (show Try.prog.funcs[163]? = some Try.f163 by kernel_rfl) (by kernel_rfl) (show Try.f163.body = some (bodyOf Try.f163) by kernel_rfl) rfl rfl (Nat.le_of_ble_eq_true rfl) (f163_d _ n) (by intro x; kernel_rfl) 

def f132B (n : Nat) (a0 : LI) : Option LI :=
 gd ((!a0.isEmpty)) (
  gd (decide ((0 + a0.length) * 8 ≤ 140737488355328)) (
   some a0))
def f132B_E (n : Nat) : Ent3 := ⟨132, [.im hIs], [[.one (.own 3 hI)]], fun x => f132B n x⟩
def f132B_D (α : Type) (n : Nat) : D3 α := { reg := [(3, ⟨0, [], [(0, { sh := some hI })]⟩)], join := [], loop := [] }
theorem f132B_ents (α : Type) (n : Nat) : AllS Try.prog (entsOf (f132B_D α n).reg) := trivial
theorem f132B_d (α : Type) (n : Nat) : D3.OK Try.prog (tyOf Try.prog) ⟨8, []⟩ (f132B_D α n) (bodyOf Try.f132) :=
 D3.OK.mk3 (f132B_ents α n) (show loopsOf (bodyOf Try.f132) = [] by kernel_rfl) trivial
theorem f132B_ok (n : Nat) : (f132B_E n).Sound Try.prog :=
 fn_okB (tyOf_ok _) prog_fol (f132B_D _ n) (show Try.prog.funcs[132]? = some Try.f132 by kernel_rfl) (by kernel_rfl) (show Try.f132.body = some (bodyOf Try.f132) by kernel_rfl) rfl rfl (Nat.le_of_ble_eq_true rfl) (f132B_d _ n) (by intro x; kernel_rfl) 

def f197B_L6B {α : Type} (n : Nat) (s0o s0l : Nat) (s1 : LI) (s5 s7 s8 s50 s51 : Int) (b1000 : LI) (f : Nat → Nat → LI → Int → Int → Int → Int → Int → LI → Option α) (k0 : Nat → Nat → LI → Int → Int → Int → LI → Option α) : Option α :=
 bif (decide (s51 < s50)) then
  gd (decide (0 ≤ s51) && decide (s51 < (s0l : Int))) (
   gd (decide ((s0o + s51.toNat) < b1000.length)) (
    let J_4 := fun (y_1 : Int) => (
     let J_3 := fun (y_2 : Int) => (
      gd (decide (0 ≤ s51) && decide (s51 < (s0l : Int))) (
       gd (decide ((s0o + s51.toNat) < b1000.length)) (
        f s0o s0l s1 s5 s7 y_2 s50 (W (s51 + 1)) (b1000.set (s0o + s51.toNat) (W (y_1 - (W (y_2 * 10000))))))))
     bif (decide (y_1 < 0)) then
      J_3 (W (Int.tdiv (W ((W (y_1 - 10000)) + 1)) 10000))
     else
      J_3 0)
    bif (decide (s51 < s5)) then
     gd (decide (0 ≤ s51) && decide (s51 < (s1.length : Int))) (
      J_4 (W ((W ((b1000.getD (s0o + s51.toNat) 0) + s8)) - (W (s7 * (s1.getD s51.toNat 0))))))
    else
     J_4 (W ((b1000.getD (s0o + s51.toNat) 0) + s8))))
 else
  k0 s0o s0l s1 s5 s7 s8 b1000
abbrev f197B_L6H : Tm := ⟨[(0, .hs 1000), (1, .d hIs), (5, .d hI), (7, .d hI), (8, .d hI), (50, .d hI), (51, .d hI)], [(1000, .arr 3 hI false)], [], []⟩
abbrev f197B_L6X0 : Tm := ⟨[(0, .hs 1000), (1, .d hIs), (5, .d hI), (7, .d hI), (8, .d hI)], [(1000, .arr 3 hI false)], [], []⟩
abbrev f197B_L6O : List (Exit × Tm) := [(.exit 0, f197B_L6X0)]
def f197B_L6U {α : Type} (n : Nat) (v : f197B_L6H.den) (f : f197B_L6H.den → Option α) (ks : KS α f197B_L6O) : Option α := f197B_L6B n v.1.1.1 v.1.1.2 v.1.2.1 v.1.2.2.1 v.1.2.2.2.1 v.1.2.2.2.2.1 v.1.2.2.2.2.2.1 v.1.2.2.2.2.2.2.1 v.2.1 (fun s0o s0l s1 s5 s7 s8 s50 s51 b1000 => f (((s0o, s0l), s1, s5, s7, s8, s50, s51, ()), (b1000, ()))) (fun w0 w1 w2 w3 w4 w5 w6 => ks.1 (((w0, w1), w2, w3, w4, w5, ()), (w6, ())))
def f197B_L6 {α : Type} (n m : Nat) (s0o s0l : Nat) (s1 : LI) (s5 s7 s8 s50 s51 : Int) (b1000 : LI) (k0 : Nat → Nat → LI → Int → Int → Int → LI → Option α) : Option α := rounds (f197B_L6U n) m (((s0o, s0l), s1, s5, s7, s8, s50, s51, ()), (b1000, ())) (fun w => k0 w.1.1.1 w.1.1.2 w.1.2.1 w.1.2.2.1 w.1.2.2.2.1 w.1.2.2.2.2.1 w.2.1, ())
theorem f197B_L6_0 {α n s0o s0l s1 s5 s7 s8 s50 s51 b1000 k0} : f197B_L6 (α := α) n 0 s0o s0l s1 s5 s7 s8 s50 s51 b1000 k0 = none := rfl
theorem f197B_L6_s {α n m s0o s0l s1 s5 s7 s8 s50 s51 b1000 k0} : f197B_L6 (α := α) n (m + 1) s0o s0l s1 s5 s7 s8 s50 s51 b1000 k0 = f197B_L6B n s0o s0l s1 s5 s7 s8 s50 s51 b1000 (fun s0o s0l s1 s5 s7 s8 s50 s51 b1000 => f197B_L6 n m s0o s0l s1 s5 s7 s8 s50 s51 b1000 k0) k0 := rfl
def f197B_L20B {α : Type} (n : Nat) (s0o s0l : Nat) (s1 : LI) (s5 s7 s8 s11 s90 s91 : Int) (b1000 : LI) (f : Nat → Nat → LI → Int → Int → Int → Int → Int → Int → LI → Option α) (k0 : Nat → Nat → LI → Int → Int → Int → Int → LI → Option α) : Option α :=
 bif (decide (s91 < s90)) then
  gd (decide (0 ≤ s91) && decide (s91 < (s0l : Int))) (
   gd (decide ((s0o + s91.toNat) < b1000.length)) (
    let J_13 := fun (y_12 : Int) => (
     gd (decide (0 ≤ s91) && decide (s91 < (s0l : Int))) (
      gd (decide ((s0o + s91.toNat) < b1000.length)) (
       f s0o s0l s1 s5 s7 s8 (W (Int.tdiv y_12 10000)) s90 (W (s91 + 1)) (b1000.set (s0o + s91.toNat) (Int.tmod y_12 10000)))))
    bif (decide (s91 < s5)) then
     gd (decide (0 ≤ s91) && decide (s91 < (s1.length : Int))) (
      J_13 (W ((W ((b1000.getD (s0o + s91.toNat) 0) + s11)) + (s1.getD s91.toNat 0))))
    else
     J_13 (W ((b1000.getD (s0o + s91.toNat) 0) + s11))))
 else
  k0 s0o s0l s1 s5 s7 s8 s11 b1000
abbrev f197B_L20H : Tm := ⟨[(0, .hs 1000), (1, .d hIs), (5, .d hI), (7, .d hI), (8, .d hI), (11, .d hI), (90, .d hI), (91, .d hI)], [(1000, .arr 3 hI false)], [], []⟩
abbrev f197B_L20X0 : Tm := ⟨[(0, .hs 1000), (1, .d hIs), (5, .d hI), (7, .d hI), (8, .d hI), (11, .d hI)], [(1000, .arr 3 hI false)], [], []⟩
abbrev f197B_L20O : List (Exit × Tm) := [(.exit 4, f197B_L20X0)]
def f197B_L20U {α : Type} (n : Nat) (v : f197B_L20H.den) (f : f197B_L20H.den → Option α) (ks : KS α f197B_L20O) : Option α := f197B_L20B n v.1.1.1 v.1.1.2 v.1.2.1 v.1.2.2.1 v.1.2.2.2.1 v.1.2.2.2.2.1 v.1.2.2.2.2.2.1 v.1.2.2.2.2.2.2.1 v.1.2.2.2.2.2.2.2.1 v.2.1 (fun s0o s0l s1 s5 s7 s8 s11 s90 s91 b1000 => f (((s0o, s0l), s1, s5, s7, s8, s11, s90, s91, ()), (b1000, ()))) (fun w0 w1 w2 w3 w4 w5 w6 w7 => ks.1 (((w0, w1), w2, w3, w4, w5, w6, ()), (w7, ())))
def f197B_L20 {α : Type} (n m : Nat) (s0o s0l : Nat) (s1 : LI) (s5 s7 s8 s11 s90 s91 : Int) (b1000 : LI) (k0 : Nat → Nat → LI → Int → Int → Int → Int → LI → Option α) : Option α := rounds (f197B_L20U n) m (((s0o, s0l), s1, s5, s7, s8, s11, s90, s91, ()), (b1000, ())) (fun w => k0 w.1.1.1 w.1.1.2 w.1.2.1 w.1.2.2.1 w.1.2.2.2.1 w.1.2.2.2.2.1 w.1.2.2.2.2.2.1 w.2.1, ())
theorem f197B_L20_0 {α n s0o s0l s1 s5 s7 s8 s11 s90 s91 b1000 k0} : f197B_L20 (α := α) n 0 s0o s0l s1 s5 s7 s8 s11 s90 s91 b1000 k0 = none := rfl
theorem f197B_L20_s {α n m s0o s0l s1 s5 s7 s8 s11 s90 s91 b1000 k0} : f197B_L20 (α := α) n (m + 1) s0o s0l s1 s5 s7 s8 s11 s90 s91 b1000 k0 = f197B_L20B n s0o s0l s1 s5 s7 s8 s11 s90 s91 b1000 (fun s0o s0l s1 s5 s7 s8 s11 s90 s91 b1000 => f197B_L20 n m s0o s0l s1 s5 s7 s8 s11 s90 s91 b1000 k0) k0 := rfl
def f197B_L16B {α : Type} (n : Nat) (s0o s0l : Nat) (s1 : LI) (s5 s7 s8 : Int) (b1000 : LI) (f : Nat → Nat → LI → Int → Int → Int → LI → Option α) (k0 : Int → LI → Option α) : Option α :=
 bif (decide (s8 < 0)) then
  f197B_L20 n n s0o s0l s1 s5 (W (s7 - 1)) s8 0 (s0l : Int) 0 b1000
   (fun z_12 z_13 z_14 z_15 z_16 z_17 z_18 z_19 => (
    f z_12 z_13 z_14 z_15 z_16 (W (z_17 + z_18)) z_19))
 else
  k0 s7 b1000
abbrev f197B_L16H : Tm := ⟨[(0, .hs 1000), (1, .d hIs), (5, .d hI), (7, .d hI), (8, .d hI)], [(1000, .arr 3 hI false)], [], []⟩
abbrev f197B_L16X0 : Tm := ⟨[(7, .d hI)], [(1000, .arr 3 hI false)], [], []⟩
abbrev f197B_L16O : List (Exit × Tm) := [(.exit 2, f197B_L16X0)]
def f197B_L16U {α : Type} (n : Nat) (v : f197B_L16H.den) (f : f197B_L16H.den → Option α) (ks : KS α f197B_L16O) : Option α := f197B_L16B n v.1.1.1 v.1.1.2 v.1.2.1 v.1.2.2.1 v.1.2.2.2.1 v.1.2.2.2.2.1 v.2.1 (fun s0o s0l s1 s5 s7 s8 b1000 => f (((s0o, s0l), s1, s5, s7, s8, ()), (b1000, ()))) (fun w0 w1 => ks.1 ((w0, ()), (w1, ())))
def f197B_L16 {α : Type} (n m : Nat) (s0o s0l : Nat) (s1 : LI) (s5 s7 s8 : Int) (b1000 : LI) (k0 : Int → LI → Option α) : Option α := rounds (f197B_L16U n) m (((s0o, s0l), s1, s5, s7, s8, ()), (b1000, ())) (fun w => k0 w.1.1 w.2.1, ())
theorem f197B_L16_0 {α n s0o s0l s1 s5 s7 s8 b1000 k0} : f197B_L16 (α := α) n 0 s0o s0l s1 s5 s7 s8 b1000 k0 = none := rfl
theorem f197B_L16_s {α n m s0o s0l s1 s5 s7 s8 b1000 k0} : f197B_L16 (α := α) n (m + 1) s0o s0l s1 s5 s7 s8 b1000 k0 = f197B_L16B n s0o s0l s1 s5 s7 s8 b1000 (fun s0o s0l s1 s5 s7 s8 b1000 => f197B_L16 n m s0o s0l s1 s5 s7 s8 b1000 k0) k0 := rfl
abbrev f197B_J11 : Tm := ⟨[(0, .hs 1000), (1, .d hIs), (5, .d hI), (7, .d hI), (9, .d hI), (10, .d hI), (50, .d hI), (51, .d hI)], [(1000, .arr 3 hI false)], [], []⟩
abbrev f197B_J14 : Tm := ⟨[(0, .hs 1000), (1, .d hIs), (5, .d hI), (7, .d hI), (8, .d hI), (9, .d hI), (10, .d hI), (50, .d hI), (51, .d hI)], [(1000, .arr 3 hI false)], [], []⟩
abbrev f197B_J25 : Tm := ⟨[(0, .hs 1000), (1, .d hIs), (5, .d hI), (7, .d hI), (8, .d hI), (12, .d hI), (13, .d hI), (90, .d hI), (91, .d hI)], [(1000, .arr 3 hI false)], [], []⟩
def f197B (n : Nat) (a0 : LI × Nat × Nat) (a1 : LI) : Option (Int × LI) :=
 gd (decide (0 ≤ (a1.length : Int)) && decide ((a1.length : Int) < (a0.2.2 : Int))) (
  gd (decide ((a0.2.1 + (a1.length : Int).toNat) < a0.1.length)) (
   gd (decide (0 ≤ (W ((a1.length : Int) - 1))) && decide ((W ((a1.length : Int) - 1)) < (a0.2.2 : Int))) (
    gd (decide ((a0.2.1 + (W ((a1.length : Int) - 1)).toNat) < a0.1.length)) (
     gd (decide (0 ≤ (W ((a1.length : Int) - 2))) && decide ((W ((a1.length : Int) - 2)) < (a0.2.2 : Int))) (
      gd (decide ((a0.2.1 + (W ((a1.length : Int) - 2)).toNat) < a0.1.length)) (
       gd (decide (0 ≤ (W ((a1.length : Int) - 1))) && decide ((W ((a1.length : Int) - 1)) < (a1.length : Int))) (
        gd (decide (0 ≤ (W ((a1.length : Int) - 2))) && decide ((W ((a1.length : Int) - 2)) < (a1.length : Int))) (
         gd (decide ((W ((W ((a1.getD ((W ((a1.length : Int) - 1)).toNat) 0) * 10000)) + (a1.getD ((W ((a1.length : Int) - 2)).toNat) 0))) ≠ 0)) (
          f197B_L6 n n a0.2.1 a0.2.2 a1 (a1.length : Int) (min (W (Int.tdiv (W ((W ((W ((W ((a0.1.getD (a0.2.1 + (a1.length : Int).toNat) 0) * 10000)) + (a0.1.getD (a0.2.1 + (W ((a1.length : Int) - 1)).toNat) 0))) * 10000)) + (a0.1.getD (a0.2.1 + (W ((a1.length : Int) - 2)).toNat) 0))) (W ((W ((a1.getD ((W ((a1.length : Int) - 1)).toNat) 0) * 10000)) + (a1.getD ((W ((a1.length : Int) - 2)).toNat) 0))))) 9999) 0 (a0.2.2 : Int) 0 a0.1
           (fun z_5 z_6 z_7 z_8 z_9 z_10 z_11 => (
            f197B_L16 n n z_5 z_6 z_7 z_8 z_9 z_10 z_11
             (fun z_20 z_21 => (
              some (z_20, z_21))))))))))))))
def f197B_E (n : Nat) : Ent3 := ⟨197, [.one (.win 3 hI), .im hIs], [[.im hI]], fun x => f197B n x.1 x.2⟩
def f197B_D (α : Type) (n : Nat) : D3 α := { reg := [(2, ⟨17, [], []⟩), (3, ⟨13, [], []⟩)], join := [(11, f197B_J11), (14, f197B_J14), (25, f197B_J25)], loop := [(6, ⟨f197B_L6H, f197B_L6O, rounds (f197B_L6U n) n⟩), (20, ⟨f197B_L20H, f197B_L20O, rounds (f197B_L20U n) n⟩), (16, ⟨f197B_L16H, f197B_L16O, rounds (f197B_L16U n) n⟩)] }
theorem f197B_ents (α : Type) (n : Nat) : AllS Try.prog (entsOf (f197B_D α n).reg) := trivial
theorem f197B_L6_d (α : Type) (n : Nat) : D3.OK Try.prog (tyOf Try.prog) ⟨121, []⟩ (f197B_D α n) ((bodyOf Try.f197).at [1, 1, 1, 1, 1, 0, 1, 0, 0]) :=
 D3.OK.mk3 (f197B_ents α n) (show loopsOf ((bodyOf Try.f197).at [1, 1, 1, 1, 1, 0, 1, 0, 0]) = [] by kernel_rfl) trivial
theorem f197B_L6_ok (α : Type) (n : Nat) : LO.Sound (α := α) Try.prog ⟨121, []⟩ ⟨f197B_L6H, f197B_L6O, rounds (f197B_L6U n) n⟩ (.loop ((bodyOf Try.f197).at [1, 1, 1, 1, 1, 0, 1, 0, 0])) :=
 loop_ok (tyOf_ok _) prog_fol (f197B_L6U n) (f197B_L6_d α n) (by intro v f ks; kernel_rfl) n
theorem f197B_L20_d (α : Type) (n : Nat) : D3.OK Try.prog (tyOf Try.prog) ⟨121, []⟩ (f197B_D α n) ((bodyOf Try.f197).at [1, 1, 1, 1, 1, 1, 0, 0, 0, 1, 0, 1, 1, 0, 1, 0, 0]) :=
 D3.OK.mk3 (f197B_ents α n) (show loopsOf ((bodyOf Try.f197).at [1, 1, 1, 1, 1, 1, 0, 0, 0, 1, 0, 1, 1, 0, 1, 0, 0]) = [] by kernel_rfl) trivial
theorem f197B_L20_ok (α : Type) (n : Nat) : LO.Sound (α := α) Try.prog ⟨121, []⟩ ⟨f197B_L20H, f197B_L20O, rounds (f197B_L20U n) n⟩ (.loop ((bodyOf Try.f197).at [1, 1, 1, 1, 1, 1, 0, 0, 0, 1, 0, 1, 1, 0, 1, 0, 0])) :=
 loop_ok (tyOf_ok _) prog_fol (f197B_L20U n) (f197B_L20_d α n) (by intro v f ks; kernel_rfl) n
theorem f197B_L16_d (α : Type) (n : Nat) : D3.OK Try.prog (tyOf Try.prog) ⟨121, []⟩ (f197B_D α n) ((bodyOf Try.f197).at [1, 1, 1, 1, 1, 1, 0, 0, 0]) :=
 D3.OK.mk3 (f197B_ents α n) (show loopsOf ((bodyOf Try.f197).at [1, 1, 1, 1, 1, 1, 0, 0, 0]) = [(20, (.loop ((bodyOf Try.f197).at [1, 1, 1, 1, 1, 1, 0, 0, 0, 1, 0, 1, 1, 0, 1, 0, 0])))] by kernel_rfl) ⟨look_sound rfl (f197B_L20_ok α n), trivial⟩
theorem f197B_L16_ok (α : Type) (n : Nat) : LO.Sound (α := α) Try.prog ⟨121, []⟩ ⟨f197B_L16H, f197B_L16O, rounds (f197B_L16U n) n⟩ (.loop ((bodyOf Try.f197).at [1, 1, 1, 1, 1, 1, 0, 0, 0])) :=
 loop_ok (tyOf_ok _) prog_fol (f197B_L16U n) (f197B_L16_d α n) (by intro v f ks; kernel_rfl) n
theorem f197B_d (α : Type) (n : Nat) : D3.OK Try.prog (tyOf Try.prog) ⟨121, []⟩ (f197B_D α n) (bodyOf Try.f197) :=
 D3.OK.mk3 (f197B_ents α n) (show loopsOf (bodyOf Try.f197) = [(6, (.loop ((bodyOf Try.f197).at [1, 1, 1, 1, 1, 0, 1, 0, 0]))), (16, (.loop ((bodyOf Try.f197).at [1, 1, 1, 1, 1, 1, 0, 0, 0])))] by kernel_rfl) ⟨look_sound rfl (f197B_L6_ok α n), look_sound rfl (f197B_L16_ok α n), trivial⟩
theorem f197B_ok (n : Nat) : (f197B_E n).Sound Try.prog :=
 fn_okB (tyOf_ok _) prog_fol (f197B_D _ n) (show Try.prog.funcs[197]? = some Try.f197 by kernel_rfl) (by kernel_rfl) (show Try.f197.body = some (bodyOf Try.f197) by kernel_rfl) rfl rfl (Nat.le_of_ble_eq_true rfl) (f197B_d _ n) (by intro x; kernel_rfl) 

def f182_L7B {α : Type} (n : Nat) (i : Nat) (z : Int) (s29 : LI) (c3_0 : LI) (c8_0 : Int) (b27 : LI) (f : LI → LI → Int → LI → Option α) (k0 : Int → LI → Option α) : Option α :=
 gd (decide (0 < (c3_0.length : Int))) (
  gd (decide ((c3_0.getD 0 0) ≠ 0)) (
   gd (decide (0 < (c3_0.length : Int))) (
    gd (decide ((c3_0.getD 0 0) ≠ 0)) (
     gd (decide (0 ≤ (i : Int)) && decide ((i : Int) < (b27.length : Int))) (
      gd (decide ((i : Int).toNat < b27.length)) (
       f s29 c3_0 (Int.tmod (W ((W (c8_0 * 10000)) + z)) (c3_0.getD 0 0)) (b27.set ((i : Int).toNat) (W (Int.tdiv (W ((W (c8_0 * 10000)) + z)) (c3_0.getD 0 0))))))))))
abbrev f182_L7H : Tm := ⟨[(3, .k (.hp 3 0 0)), (7, .k (.hp 7 0 0)), (8, .k (.hp 8 0 0)), (29, .d (.clo 196 (.ref hIs)))], [(3, .var 29 true false [.d hIs]), (7, .var 29 false false [.k (.hw 27)]), (8, .var 3 true false [.d hI]), (27, .arr 3 hI false)], [], []⟩
abbrev f182_L7X0 : Tm := ⟨[(7, .k (.hp 7 0 0)), (8, .k (.hp 8 0 0))], [(7, .var 29 false false [.k (.hw 27)]), (8, .var 3 true false [.d hI]), (27, .arr 3 hI false)], [3], []⟩
abbrev f182_L7O : List (Exit × Tm) := [(.normal, f182_L7X0)]
def f182_L7Z (v : f182_L7H.den) : List Int := (fun s29 c3_0 c8_0 b27 => s29) v.1.2.2.2.1 v.2.1.1 v.2.2.2.1.1 v.2.2.2.2.1
def f182_L7U {α : Type} (n : Nat) (i : Nat) (z : Int) (v : f182_L7H.den) (f : f182_L7H.den → Option α) (ks : KS α f182_L7O) : Option α := f182_L7B n i z v.1.2.2.2.1 v.2.1.1 v.2.2.2.1.1 v.2.2.2.2.1 (fun s29 c3_0 c8_0 b27 => f (((), (), (), s29, ()), ((c3_0, ()), ((), ()), (c8_0, ()), b27, ()))) (fun w0 w1 => ks.1 (((), (), ()), (((), ()), (w0, ()), w1, ())))
def f182_L7N {α : Type} (v : f182_L7H.den) (ks : KS α f182_L7O) : Option α := (fun s29 c3_0 c8_0 b27 => ks.1 (((), (), ()), (((), ()), (c8_0, ()), b27, ()))) v.1.2.2.2.1 v.2.1.1 v.2.2.2.1.1 v.2.2.2.2.1
def f182_L7 {α : Type} (n : Nat) (s29 : LI) (c3_0 : LI) (c8_0 : Int) (b27 : LI) (k0 : Int → LI → Option α) : Option α := rangeR f182_L7Z (f182_L7U n) f182_L7N (((), (), (), s29, ()), ((c3_0, ()), ((), ()), (c8_0, ()), b27, ())) (fun w => k0 w.2.2.1.1 w.2.2.2.1, ())
def f182_L7R {α : Type} (n : Nat) (zs : List Int) (i : Nat) (s29 : LI) (c3_0 : LI) (c8_0 : Int) (b27 : LI) (k0 : Int → LI → Option α) : Option α := rangeB f182_L7Z (f182_L7U n) zs i (((), (), (), s29, ()), ((c3_0, ()), ((), ()), (c8_0, ()), b27, ())) (fun v => f182_L7N v (fun w => k0 w.2.2.1.1 w.2.2.2.1, ())) (fun w => k0 w.2.2.1.1 w.2.2.2.1, ())
theorem f182_L7_e {α : Type} (n : Nat) (s29 : LI) (c3_0 : LI) (c8_0 : Int) (b27 : LI) (k0 : Int → LI → Option α) : f182_L7 (α := α) n s29 c3_0 c8_0 b27 k0 = gd (decide (s29.length ≤ 4611686018427387904)) (f182_L7R n s29 s29.length s29 c3_0 c8_0 b27 k0) := rfl
theorem f182_L7_0 {α : Type} (n : Nat) (zs : List Int) (s29 : LI) (c3_0 : LI) (c8_0 : Int) (b27 : LI) (k0 : Int → LI → Option α) : f182_L7R (α := α) n zs 0 s29 c3_0 c8_0 b27 k0 = k0 c8_0 b27 := rfl
theorem f182_L7_s {α : Type} (n : Nat) (zs : List Int) (i : Nat) (s29 : LI) (c3_0 : LI) (c8_0 : Int) (b27 : LI) (k0 : Int → LI → Option α) : f182_L7R (α := α) n zs (i + 1) s29 c3_0 c8_0 b27 k0 = f182_L7B n i (zs.getD i 0) s29 c3_0 c8_0 b27 (fun s29 c3_0 c8_0 b27 => gd (decide (s29 = zs)) (f182_L7R n zs i s29 c3_0 c8_0 b27 k0)) k0 := rfl
def f182_L14B {α : Type} (n : Nat) (s6 s13 : Int) (c3_0 b62 b310 : LI) (f : Int → Int → LI → LI → LI → Option α) (k0 : LI → LI → Option α) : Option α :=
 bif (decide (s13 ≥ 0)) then
  gd (decide (0 ≤ s13) && decide (s13 ≤ (W ((W (s13 + s6)) + 1))) && decide ((W ((W (s13 + s6)) + 1)) ≤ (b310.length : Int))) (
   ob (f197B n (b310, s13.toNat, ((W ((W (s13 + s6)) + 1)).toNat - s13.toNat)) c3_0) fun r_9 =>
   gd (Nat.beq r_9.2.length b310.length && true) (
    gd (decide (0 ≤ s13) && decide (s13 < (b62.length : Int))) (
     gd (decide (s13.toNat < b62.length)) (
      f s6 (W (s13 - 1)) c3_0 (b62.set s13.toNat r_9.1) r_9.2))))
 else
  k0 b62 b310
abbrev f182_L14H : Tm := ⟨[(3, .k (.hp 3 0 0)), (6, .d hI), (11, .k (.hw 310)), (12, .k (.hw 62)), (13, .d hI)], [(3, .var 29 true false [.d hIs]), (62, .arr 3 hI false), (310, .arr 3 hI false)], [55], []⟩
abbrev f182_L14X0 : Tm := ⟨[(11, .k (.hw 310)), (12, .k (.hw 62))], [(62, .arr 3 hI false), (310, .arr 3 hI false)], [3], []⟩
abbrev f182_L14O : List (Exit × Tm) := [(.exit 2, f182_L14X0)]
def f182_L14U {α : Type} (n : Nat) (v : f182_L14H.den) (f : f182_L14H.den → Option α) (ks : KS α f182_L14O) : Option α := f182_L14B n v.1.2.1 v.1.2.2.2.2.1 v.2.1.1 v.2.2.1 v.2.2.2.1 (fun s6 s13 c3_0 b62 b310 => f (((), s6, (), (), s13, ()), ((c3_0, ()), b62, b310, ()))) (fun w0 w1 => ks.1 (((), (), ()), (w0, w1, ())))
def f182_L14 {α : Type} (n m : Nat) (s6 s13 : Int) (c3_0 b62 b310 : LI) (k0 : LI → LI → Option α) : Option α := rounds (f182_L14U n) m (((), s6, (), (), s13, ()), ((c3_0, ()), b62, b310, ())) (fun w => k0 w.2.1 w.2.2.1, ())
theorem f182_L14_0 {α n s6 s13 c3_0 b62 b310 k0} : f182_L14 (α := α) n 0 s6 s13 c3_0 b62 b310 k0 = none := rfl
theorem f182_L14_s {α n m s6 s13 c3_0 b62 b310 k0} : f182_L14 (α := α) n (m + 1) s6 s13 c3_0 b62 b310 k0 = f182_L14B n s6 s13 c3_0 b62 b310 (fun s6 s13 c3_0 b62 b310 => f182_L14 n m s6 s13 c3_0 b62 b310 k0) k0 := rfl
abbrev f182_G10 : Tm := ⟨[(3, .k (.hp 3 0 0)), (7, .k (.hp 7 0 0)), (8, .k (.hp 8 0 0)), (9, .d hI), (10, .d hI), (29, .d (.clo 196 (.ref hIs))), (30, .d hI), (31, .d hI)], [(3, .var 29 true false [.d hIs]), (7, .var 29 false false [.k (.hw 27)]), (8, .var 3 true false [.d hI]), (27, .arr 3 hI false)], [], []⟩
abbrev f182_G11 : Tm := ⟨[(7, .k (.hp 7 0 0)), (8, .k (.hp 8 0 0))], [(7, .var 29 false false [.k (.hw 27)]), (8, .var 3 true false [.d hI]), (27, .arr 3 hI false)], [], []⟩
abbrev f182_G12 : Tm := ⟨[(0, .d hIs), (3, .k (.hp 3 0 0)), (6, .d hI)], [(3, .var 29 true false [.d hIs])], [], []⟩
abbrev f182_G16 : Tm := ⟨[(3, .k (.hp 3 0 0)), (6, .d hI), (11, .k (.hw 310)), (12, .k (.hw 62)), (13, .d hI)], [(3, .var 29 true false [.d hIs]), (62, .arr 3 hI false), (310, .arr 3 hI false)], [], []⟩
def f182 (n : Nat) (a0 a1 : LI) : Option (LI × LI) :=
 ob (f136 n a0 a1) fun r_1 =>
 bif (decide (r_1 < 0)) then
  ob (f132 n a0) fun r_2 =>
  some ([], r_2)
 else
  bif ((a1.length : Int) == 1) then
   gd (decide (0 ≤ (a0.length : Int)) && decide ((a0.length : Int) ≤ 4611686018427387904) && decide ((8 : Int) * (a0.length : Int) ≤ 281474976710656)) (
    ob (f181 n a0) fun r_3 =>
    f182_L7 n r_3 a1 0 (List.replicate ((a0.length : Int).toNat) 0)
     (fun z_4 z_5 => (
      ob (f186 n z_5) fun r_6 =>
      ob (f163 n z_4) fun r_7 =>
      some (r_6, r_7))))
  else
   ob (f132B n a0) fun r_8 =>
   gd (decide ((r_8.length + 1) * 8 ≤ 140737488355328)) (
    gd (decide (0 ≤ (W ((W ((a0.length : Int) - (a1.length : Int))) + 1))) && decide ((W ((W ((a0.length : Int) - (a1.length : Int))) + 1)) ≤ 4611686018427387904) && decide ((8 : Int) * (W ((W ((a0.length : Int) - (a1.length : Int))) + 1)) ≤ 281474976710656)) (
     f182_L14 n n (a1.length : Int) (W ((a0.length : Int) - (a1.length : Int))) a1 (List.replicate ((W ((W ((a0.length : Int) - (a1.length : Int))) + 1)).toNat) 0) (r_8 ++ [0])
      (fun z_10 z_11 => (
       ob (f186 n z_10) fun r_12 =>
       ob (f186 n z_11) fun r_13 =>
       some (r_12, r_13)))))
def f182_E (n : Nat) : Ent := ⟨182, [hIs, hIs], [hIs, hIs], fun x => f182 n x.1 x.2⟩
def f182_D (α : Type) (n : Nat) : D3 α := { reg := [(1, ⟨0, [], [(2, { ent := some (f136_E n) })]⟩), (2, ⟨0, [], [(0, { sh := some hI }), (2, { ent := some (f132_E n) })]⟩), (6, ⟨0, [], [(1, { ent := some (f181_E n) })]⟩), (11, ⟨0, [], [(1, { ent := some (f186_E n), fz := [(49, hIs)] }), (3, { ent := some (f163_E n) })]⟩), (12, ⟨0, [], [(1, { entB := some (f132B_E n), hb := 310 }), (2, { sh := some hI })]⟩), (16, ⟨0, [], [(10, { entB := some (f197B_E n), hb := 320 })]⟩), (17, ⟨0, [], [(1, { ent := some (f186_E n), fz := [(83, hIs)] }), (3, { ent := some (f186_E n), fz := [(85, hIs)] })]⟩)], join := [], loop := [(7, ⟨f182_L7H, f182_L7O, rangeR f182_L7Z (f182_L7U n) f182_L7N⟩), (14, ⟨f182_L14H, f182_L14O, rounds (f182_L14U n) n⟩)], any := [(10, f182_G10), (11, f182_G11), (12, f182_G12), (16, f182_G16)] }
set_option maxHeartbeats 8000000 in
theorem f182_A10 (n : Nat) : FamAll (tyOf Try.prog) ⟨87, []⟩ [] f182_G10 (regOps ((bodyOf Try.f182).at [1, 1, 1, 0, 1, 0, 1, 0, 1, 0, 1, 0, 1])) := by
 refine ⟨by kernel_rfl, fun w q hq => ?_⟩
 have e : WT [] (swapIdx (regOps ((bodyOf Try.f182).at [1, 1, 1, 0, 1, 0, 1, 0, 1, 0, 1, 0, 1])).toList) q = (q = []) := by kernel_rfl
 rw [e] at hq
 obtain rfl := hq
 all_goals exact .inr ⟨14, by kernel_rfl, by kernel_rfl, by kernel_rfl⟩
set_option maxHeartbeats 8000000 in
theorem f182_A11 (n : Nat) : FamAll (tyOf Try.prog) ⟨87, []⟩ [(1, { ent := some (f186_E n), fz := [(49, hIs)] }), (3, { ent := some (f163_E n) })] f182_G11 (regOps ((bodyOf Try.f182).at [1, 1, 1, 0, 1, 0, 1, 1, 0])) := by
 refine ⟨by kernel_rfl, fun w q hq => ?_⟩
 have e : WT [(1, { ent := some (f186_E n), fz := [(49, hIs)] }), (3, { ent := some (f163_E n) })] (swapIdx (regOps ((bodyOf Try.f182).at [1, 1, 1, 0, 1, 0, 1, 1, 0])).toList) q = (∃ (y0 : HL (f186_E n).rs) (q0 : List (Nat × RV)), q = (1, .sv (resSV (f186_E n).rs y0)) :: q0 ∧ ∃ (y1 : HL (f163_E n).rs) (q1 : List (Nat × RV)), q0 = (3, .sv (resSV (f163_E n).rs y1)) :: q1 ∧ q1 = []) := by kernel_rfl
 rw [e] at hq
 obtain ⟨y0, q0, rfl, y1, q1, rfl, rfl⟩ := hq
 all_goals exact .inl (FamEq.mk (by kernel_rfl))
set_option maxHeartbeats 8000000 in
theorem f182_A12 (n : Nat) : FamAll (tyOf Try.prog) ⟨87, []⟩ [(1, { entB := some (f132B_E n), hb := 310 }), (2, { sh := some hI })] f182_G12 (regOps ((bodyOf Try.f182).at [1, 1, 1, 1, 0])) := by
 refine ⟨by kernel_rfl, fun w q hq => ?_⟩
 have e : WT [(1, { entB := some (f132B_E n), hb := 310 }), (2, { sh := some hI })] (swapIdx (regOps ((bodyOf Try.f182).at [1, 1, 1, 1, 0])).toList) q = (∃ (y0 : HF (ownsP 1000 (f132B_E n).ts) (f132B_E n).forms) (q0 : List (Nat × RV)), q = (1, .bx (f132B_E n) y0) :: q0 ∧ q0 = []) := by kernel_rfl
 rw [e] at hq
 obtain ⟨y0, q0, rfl, rfl⟩ := hq
 all_goals exact .inl (FamEq.mk (by kernel_rfl))
set_option maxHeartbeats 8000000 in
theorem f182_A16 (n : Nat) : FamAll (tyOf Try.prog) ⟨87, []⟩ [(10, { entB := some (f197B_E n), hb := 320 })] f182_G16 (regOps ((bodyOf Try.f182).at [1, 1, 1, 1, 1, 0, 1, 0, 0, 1, 0, 0])) := by
 refine ⟨by kernel_rfl, fun w q hq => ?_⟩
 have e : WT [(10, { entB := some (f197B_E n), hb := 320 })] (swapIdx (regOps ((bodyOf Try.f182).at [1, 1, 1, 1, 1, 0, 1, 0, 0, 1, 0, 0])).toList) q = (∃ (y0 : HF (ownsP 1000 (f197B_E n).ts) (f197B_E n).forms) (q0 : List (Nat × RV)), q = (10, .bx (f197B_E n) y0) :: q0 ∧ q0 = []) := by kernel_rfl
 rw [e] at hq
 obtain ⟨y0, q0, rfl, rfl⟩ := hq
 all_goals exact .inl (FamEq.mk (by kernel_rfl))
theorem f182_ents (α : Type) (n : Nat) : AllS Try.prog (entsOf (f182_D α n).reg) := ⟨f136_ok n, f132_ok n, f181_ok n, f186_ok n, f163_ok n, f132B_ok n, f197B_ok n, f186_ok n, f186_ok n, trivial⟩
theorem f182_L7A_d (α : Type) (n : Nat) : D3.OK Try.prog (tyOf Try.prog) ⟨87, []⟩ (f182_D α n) ((bodyOf Try.f182).at [1, 1, 1, 0, 1, 0, 1, 0, 1, 0, 0]) :=
 D3.OK.mk3a (f182_ents α n) (show loopsOf ((bodyOf Try.f182).at [1, 1, 1, 0, 1, 0, 1, 0, 1, 0, 0]) = [] by kernel_rfl) trivial (show anysOf ((bodyOf Try.f182).at [1, 1, 1, 0, 1, 0, 1, 0, 1, 0, 0]) = [] by kernel_rfl) trivial
theorem f182_L7B_d (α : Type) (n : Nat) : D3.OK Try.prog (tyOf Try.prog) ⟨87, []⟩ (f182_D α n) ((bodyOf Try.f182).at [1, 1, 1, 0, 1, 0, 1, 0, 1, 0, 1]) :=
 D3.OK.mk3a (f182_ents α n) (show loopsOf ((bodyOf Try.f182).at [1, 1, 1, 0, 1, 0, 1, 0, 1, 0, 1]) = [] by kernel_rfl) trivial (show anysOf ((bodyOf Try.f182).at [1, 1, 1, 0, 1, 0, 1, 0, 1, 0, 1]) = [(10, regOps ((bodyOf Try.f182).at [1, 1, 1, 0, 1, 0, 1, 0, 1, 0, 1, 0, 1]))] by kernel_rfl) ⟨fun X h => (by cases h; exact f182_A10 n), trivial⟩
theorem f182_L7_ok (α : Type) (n : Nat) : LO.Sound (α := α) Try.prog ⟨87, []⟩ ⟨f182_L7H, f182_L7O, rangeR f182_L7Z (f182_L7U n) f182_L7N⟩ (.rangeFunc (.tmp 29) #[30, 31] ((bodyOf Try.f182).at [1, 1, 1, 0, 1, 0, 1, 0, 1, 0, 0]) ((bodyOf Try.f182).at [1, 1, 1, 0, 1, 0, 1, 0, 1, 0, 1])) :=
 range_ok (tyOf_ok _) prog_fol f182_L7Z (f182_L7U n) f182_L7N back_ok rfl rfl rfl rfl (f182_L7A_d α n) (f182_L7B_d α n) (by intro v; rfl) (by intro i z v f ks; kernel_rfl) (by intro v ks; kernel_rfl)
theorem f182_L14_d (α : Type) (n : Nat) : D3.OK Try.prog (tyOf Try.prog) ⟨87, []⟩ (f182_D α n) ((bodyOf Try.f182).at [1, 1, 1, 1, 1, 0, 1, 0, 0]) :=
 D3.OK.mk3a (f182_ents α n) (show loopsOf ((bodyOf Try.f182).at [1, 1, 1, 1, 1, 0, 1, 0, 0]) = [] by kernel_rfl) trivial (show anysOf ((bodyOf Try.f182).at [1, 1, 1, 1, 1, 0, 1, 0, 0]) = [(16, regOps ((bodyOf Try.f182).at [1, 1, 1, 1, 1, 0, 1, 0, 0, 1, 0, 0]))] by kernel_rfl) ⟨fun X h => (by cases h; exact f182_A16 n), trivial⟩
theorem f182_L14_ok (α : Type) (n : Nat) : LO.Sound (α := α) Try.prog ⟨87, []⟩ ⟨f182_L14H, f182_L14O, rounds (f182_L14U n) n⟩ (.loop ((bodyOf Try.f182).at [1, 1, 1, 1, 1, 0, 1, 0, 0])) :=
 loop_ok (tyOf_ok _) prog_fol (f182_L14U n) (f182_L14_d α n) (by intro v f ks; kernel_rfl) n
theorem f182_d (α : Type) (n : Nat) : D3.OK Try.prog (tyOf Try.prog) ⟨87, []⟩ (f182_D α n) (bodyOf Try.f182) :=
 D3.OK.mk3a (f182_ents α n) (show loopsOf (bodyOf Try.f182) = [(7, (.rangeFunc (.tmp 29) #[30, 31] ((bodyOf Try.f182).at [1, 1, 1, 0, 1, 0, 1, 0, 1, 0, 0]) ((bodyOf Try.f182).at [1, 1, 1, 0, 1, 0, 1, 0, 1, 0, 1]))), (14, (.loop ((bodyOf Try.f182).at [1, 1, 1, 1, 1, 0, 1, 0, 0])))] by kernel_rfl) ⟨look_sound rfl (f182_L7_ok α n), look_sound rfl (f182_L14_ok α n), trivial⟩ (show anysOf (bodyOf Try.f182) = [(11, regOps ((bodyOf Try.f182).at [1, 1, 1, 0, 1, 0, 1, 1, 0])), (12, regOps ((bodyOf Try.f182).at [1, 1, 1, 1, 0]))] by kernel_rfl) ⟨fun X h => (by cases h; exact f182_A11 n), fun X h => (by cases h; exact f182_A12 n), trivial⟩
theorem f182_ok (n : Nat) : (f182_E n).Sound Try.prog :=
 fn_ok (tyOf_ok _) prog_fol (f182_D _ n) (show Try.prog.funcs[182]? = some Try.f182 by kernel_rfl) (by kernel_rfl) (show Try.f182.body = some (bodyOf Try.f182) by kernel_rfl) rfl rfl (Nat.le_of_ble_eq_true rfl) (f182_d _ n) (by intro x; kernel_rfl) 

def f137_L1B {α : Type} (n : Nat) (s0 s1 : LI) (f : LI → LI → Option α) (k0 : LI → Option α) : Option α :=
 bif (decide ((s1.length : Int) > 0)) then
  ob (f182 n s0 s1) fun r_1 =>
  f s1 r_1.2
 else
  k0 s0
abbrev f137_L1H : Tm := ⟨[(0, .d hIs), (1, .d hIs)], [], [], []⟩
abbrev f137_L1X0 : Tm := ⟨[(0, .d hIs)], [], [], []⟩
abbrev f137_L1O : List (Exit × Tm) := [(.exit 0, f137_L1X0)]
def f137_L1U {α : Type} (n : Nat) (v : f137_L1H.den) (f : f137_L1H.den → Option α) (ks : KS α f137_L1O) : Option α := f137_L1B n v.1.1 v.1.2.1 (fun s0 s1 => f ((s0, s1, ()), ())) (fun w0 => ks.1 ((w0, ()), ()))
def f137_L1 {α : Type} (n m : Nat) (s0 s1 : LI) (k0 : LI → Option α) : Option α := rounds (f137_L1U n) m ((s0, s1, ()), ()) (fun w => k0 w.1.1, ())
theorem f137_L1_0 {α n s0 s1 k0} : f137_L1 (α := α) n 0 s0 s1 k0 = none := rfl
theorem f137_L1_s {α n m s0 s1 k0} : f137_L1 (α := α) n (m + 1) s0 s1 k0 = f137_L1B n s0 s1 (fun s0 s1 => f137_L1 n m s0 s1 k0) k0 := rfl
def f137 (n : Nat) (a0 a1 : LI) : Option LI :=
 f137_L1 n n a0 a1
  (fun z_2 => (
   some z_2))
def f137_E (n : Nat) : Ent := ⟨137, [hIs, hIs], [hIs], fun x => f137 n x.1 x.2⟩
def f137_D (α : Type) (n : Nat) : D3 α := { reg := [(2, ⟨0, [], [(2, { ent := some (f182_E n) })]⟩)], join := [], loop := [(1, ⟨f137_L1H, f137_L1O, rounds (f137_L1U n) n⟩)] }
theorem f137_ents (α : Type) (n : Nat) : AllS Try.prog (entsOf (f137_D α n).reg) := ⟨f182_ok n, trivial⟩
theorem f137_L1_d (α : Type) (n : Nat) : D3.OK Try.prog (tyOf Try.prog) ⟨19, []⟩ (f137_D α n) ((bodyOf Try.f137).at [1, 0, 0, 0]) :=
 D3.OK.mk3 (f137_ents α n) (show loopsOf ((bodyOf Try.f137).at [1, 0, 0, 0]) = [] by kernel_rfl) trivial
theorem f137_L1_ok (α : Type) (n : Nat) : LO.Sound (α := α) Try.prog ⟨19, []⟩ ⟨f137_L1H, f137_L1O, rounds (f137_L1U n) n⟩ (.loop ((bodyOf Try.f137).at [1, 0, 0, 0])) :=
 loop_ok (tyOf_ok _) prog_fol (f137_L1U n) (f137_L1_d α n) (by intro v f ks; kernel_rfl) n
theorem f137_d (α : Type) (n : Nat) : D3.OK Try.prog (tyOf Try.prog) ⟨19, []⟩ (f137_D α n) (bodyOf Try.f137) :=
 D3.OK.mk3 (f137_ents α n) (show loopsOf (bodyOf Try.f137) = [(1, (.loop ((bodyOf Try.f137).at [1, 0, 0, 0])))] by kernel_rfl) ⟨look_sound rfl (f137_L1_ok α n), trivial⟩
theorem f137_ok (n : Nat) : (f137_E n).Sound Try.prog :=
 fn_ok (tyOf_ok _) prog_fol (f137_D _ n) (show Try.prog.funcs[137]? = some Try.f137 by kernel_rfl) (by kernel_rfl) (show Try.f137.body = some (bodyOf Try.f137) by kernel_rfl) rfl rfl (Nat.le_of_ble_eq_true rfl) (f137_d _ n) (by intro x; kernel_rfl) 

def f138 (n : Nat)  : Option LI :=
 some [1]
def f138_E (n : Nat) : Ent := ⟨138, [], [hIs], fun _ => f138 n⟩
def f138_D (α : Type) (n : Nat) : D3 α := { reg := [(1, ⟨0, [], [(0, { sh := some hI })]⟩)], join := [], loop := [] }
theorem f138_ents (α : Type) (n : Nat) : AllS Try.prog (entsOf (f138_D α n).reg) := trivial
theorem f138_d (α : Type) (n : Nat) : D3.OK Try.prog (tyOf Try.prog) ⟨2, []⟩ (f138_D α n) (bodyOf Try.f138) :=
 D3.OK.mk3 (f138_ents α n) (show loopsOf (bodyOf Try.f138) = [] by kernel_rfl) trivial
theorem f138_ok (n : Nat) : (f138_E n).Sound Try.prog :=
 fn_ok (tyOf_ok _) prog_fol (f138_D _ n) (show Try.prog.funcs[138]? = some Try.f138 by kernel_rfl) (by kernel_rfl) (show Try.f138.body = some (bodyOf Try.f138) by kernel_rfl) rfl rfl (Nat.le_of_ble_eq_true rfl) (f138_d _ n) (by intro x; kernel_rfl) 

abbrev f78_J3 : Tm := ⟨[(1, .k (.hp 1 0 0))], [(1, .var 33 true false [.d .bool, .d hIs, .d hIs])], [], []⟩
def f78 (n : Nat) (a0 : Rq) : Option Bool :=
 let J_7 := fun (_ : Unit) => (
  ob (f137 n a0.2.1 a0.2.2) fun r_4 =>
  ob (f138 n) fun r_5 =>
  ob (f136 n r_4 r_5) fun r_6 =>
  some (r_6 == 0))
 ob (f134 n a0.2.1) fun r_1 =>
 bif (!r_1) then
  some false
 else
  ob (f134 n a0.2.2) fun r_2 =>
  bif (!r_2) then
   some false
  else
   bif ((a0.2.2.length : Int) == 0) then
    some false
   else
    bif a0.1 then
     ob (f135 n a0) fun r_3 =>
     bif r_3 then
      some false
     else
      J_7 ()
    else
     J_7 ()
def f78_E (n : Nat) : Ent := ⟨78, [hR], [.bool], fun x => f78 n x⟩
def f78_D (α : Type) (n : Nat) : D3 α := { reg := [(1, ⟨0, [], [(2, { ent := some (f134_E n) }), (7, { ent := some (f134_E n) }), (21, { ent := some (f135_E n) })]⟩), (3, ⟨0, [], [(4, { ent := some (f137_E n) }), (5, { ent := some (f138_E n) }), (6, { ent := some (f136_E n) })]⟩)], join := [(3, f78_J3)], loop := [] }
theorem f78_ents (α : Type) (n : Nat) : AllS Try.prog (entsOf (f78_D α n).reg) := ⟨f134_ok n, f134_ok n, f135_ok n, f137_ok n, f138_ok n, f136_ok n, trivial⟩
theorem f78_d (α : Type) (n : Nat) : D3.OK Try.prog (tyOf Try.prog) ⟨35, []⟩ (f78_D α n) (bodyOf Try.f78) :=
 D3.OK.mk3 (f78_ents α n) (show loopsOf (bodyOf Try.f78) = [] by kernel_rfl) trivial
theorem f78_ok (n : Nat) : (f78_E n).Sound Try.prog :=
 fn_ok (tyOf_ok _) prog_fol (f78_D _ n) (show Try.prog.funcs[78]? = some Try.f78 by kernel_rfl) (by kernel_rfl) (show Try.f78.body = some (bodyOf Try.f78) by kernel_rfl) rfl rfl (Nat.le_of_ble_eq_true rfl) (f78_d _ n) (by intro x; kernel_rfl) 

def f131 (n : Nat) (a0 : Rq) : Option Bool :=
 ob (f78 n a0) fun r_1 =>
 some (!r_1)
def f131_E (n : Nat) : Ent := ⟨131, [hR], [.bool], fun x => f131 n x⟩
def f131_D (α : Type) (n : Nat) : D3 α := { reg := [(1, ⟨0, [], [(1, { ent := some (f78_E n) })]⟩)], join := [], loop := [] }
theorem f131_ents (α : Type) (n : Nat) : AllS Try.prog (entsOf (f131_D α n).reg) := ⟨f78_ok n, trivial⟩
theorem f131_d (α : Type) (n : Nat) : D3.OK Try.prog (tyOf Try.prog) ⟨6, []⟩ (f131_D α n) (bodyOf Try.f131) :=
 D3.OK.mk3 (f131_ents α n) (show loopsOf (bodyOf Try.f131) = [] by kernel_rfl) trivial
theorem f131_ok (n : Nat) : (f131_E n).Sound Try.prog :=
 fn_ok (tyOf_ok _) prog_fol (f131_D _ n) (show Try.prog.funcs[131]? = some Try.f131 by kernel_rfl) (by kernel_rfl) (show Try.f131.body = some (bodyOf Try.f131) by kernel_rfl) rfl rfl (Nat.le_of_ble_eq_true rfl) (f131_d _ n) (by intro x; kernel_rfl) 

def f177c131_L2B {α : Type} (n : Nat) (s0 : LR) (s7 s8 : Int) (f : LR → Int → Int → Option α) (k0 : Int → Option α) (k1 : Unit → Option α) : Option α :=
 bif (decide (s8 < s7)) then
  gd (decide (0 ≤ s8) && decide (s8 < (s0.length : Int))) (
   let x_1 := s0.getD s8.toNat (false, [], [])
   ob (f131 n x_1) fun r_2 =>
   bif r_2 then
    k0 s8
   else
    f s0 s7 (W (s8 + 1)))
 else
  k1 ()
abbrev f177c131_L2H : Tm := ⟨[(0, .d hRs), (1, .d (.fn 131)), (7, .d hI), (8, .d hI)], [], [], []⟩
abbrev f177c131_L2X0 : Tm := ⟨[(4, .d hI)], [], [], []⟩
abbrev f177c131_L2X1 : Tm := ⟨[], [], [], []⟩
abbrev f177c131_L2O : List (Exit × Tm) := [(.ret, f177c131_L2X0), (.exit 0, f177c131_L2X1)]
def f177c131_L2U {α : Type} (n : Nat) (v : f177c131_L2H.den) (f : f177c131_L2H.den → Option α) (ks : KS α f177c131_L2O) : Option α := f177c131_L2B n v.1.1 v.1.2.2.1 v.1.2.2.2.1 (fun s0 s7 s8 => f ((s0, (), s7, s8, ()), ())) (fun w0 => ks.1 ((w0, ()), ())) (fun _ => ks.2.1 ((), ()))
def f177c131_L2 {α : Type} (n m : Nat) (s0 : LR) (s7 s8 : Int) (k0 : Int → Option α) (k1 : Unit → Option α) : Option α := rounds (f177c131_L2U n) m ((s0, (), s7, s8, ()), ()) (fun w => k0 w.1.1, fun w => k1 (), ())
theorem f177c131_L2_0 {α n s0 s7 s8 k0 k1} : f177c131_L2 (α := α) n 0 s0 s7 s8 k0 k1 = none := rfl
theorem f177c131_L2_s {α n m s0 s7 s8 k0 k1} : f177c131_L2 (α := α) n (m + 1) s0 s7 s8 k0 k1 = f177c131_L2B n s0 s7 s8 (fun s0 s7 s8 => f177c131_L2 n m s0 s7 s8 k0 k1) k0 k1 := rfl
def f177c131 (n : Nat) (a0 : LR) (a1 : Unit) : Option Int :=
 f177c131_L2 n n a0 (a0.length : Int) 0
  (fun z_3 => (
   some z_3))
  (fun (_ : Unit) => (
   some (-1)))
def f177c131_E (n : Nat) : Ent := ⟨177, [hRs, (.fn 131)], [hI], fun x => f177c131 n x.1 x.2⟩
def f177c131_D (α : Type) (n : Nat) : D3 α := { reg := [(4, ⟨0, [], [(5, { ent := some (f131_E n) })]⟩)], join := [], loop := [(2, ⟨f177c131_L2H, f177c131_L2O, rounds (f177c131_L2U n) n⟩)] }
theorem f177c131_ents (α : Type) (n : Nat) : AllS Try.prog (entsOf (f177c131_D α n).reg) := ⟨f131_ok n, trivial⟩
theorem f177c131_L2_d (α : Type) (n : Nat) : D3.OK Try.prog (tyOf Try.prog) ⟨19, []⟩ (f177c131_D α n) ((bodyOf Try.f177).at [1, 0, 1, 0, 0]) :=
 D3.OK.mk3 (f177c131_ents α n) (show loopsOf ((bodyOf Try.f177).at [1, 0, 1, 0, 0]) = [] by kernel_rfl) trivial
theorem f177c131_L2_ok (α : Type) (n : Nat) : LO.Sound (α := α) Try.prog ⟨19, []⟩ ⟨f177c131_L2H, f177c131_L2O, rounds (f177c131_L2U n) n⟩ (.loop ((bodyOf Try.f177).at [1, 0, 1, 0, 0])) :=
 loop_ok (tyOf_ok _) prog_fol (f177c131_L2U n) (f177c131_L2_d α n) (by intro v f ks; kernel_rfl) n
theorem f177c131_d (α : Type) (n : Nat) : D3.OK Try.prog (tyOf Try.prog) ⟨19, []⟩ (f177c131_D α n) (bodyOf Try.f177) :=
 D3.OK.mk3 (f177c131_ents α n) (show loopsOf (bodyOf Try.f177) = [(2, (.loop ((bodyOf Try.f177).at [1, 0, 1, 0, 0])))] by kernel_rfl) ⟨look_sound rfl (f177c131_L2_ok α n), trivial⟩
theorem f177c131_ok (n : Nat) : (f177c131_E n).Sound Try.prog :=
 fn_ok (tyOf_ok _) prog_fol (f177c131_D _ n) (show Try.prog.funcs[177]? = some Try.f177 by kernel_rfl) (by kernel_rfl) (show Try.f177.body = some (bodyOf Try.f177) by kernel_rfl) rfl rfl (Nat.le_of_ble_eq_true rfl) (f177c131_d _ n) (by intro x; kernel_rfl) 

def f130c131 (n : Nat) (a0 : LR) (a1 : Unit) : Option Bool :=
 ob (f177c131 n a0 a1) fun r_1 =>
 some (decide (r_1 ≥ 0))
def f130c131_E (n : Nat) : Ent := ⟨130, [hRs, (.fn 131)], [.bool], fun x => f130c131 n x.1 x.2⟩
def f130c131_D (α : Type) (n : Nat) : D3 α := { reg := [(1, ⟨0, [], [(2, { ent := some (f177c131_E n) })]⟩)], join := [], loop := [] }
theorem f130c131_ents (α : Type) (n : Nat) : AllS Try.prog (entsOf (f130c131_D α n).reg) := ⟨f177c131_ok n, trivial⟩
theorem f130c131_d (α : Type) (n : Nat) : D3.OK Try.prog (tyOf Try.prog) ⟨9, []⟩ (f130c131_D α n) (bodyOf Try.f130) :=
 D3.OK.mk3 (f130c131_ents α n) (show loopsOf (bodyOf Try.f130) = [] by kernel_rfl) trivial
theorem f130c131_ok (n : Nat) : (f130c131_E n).Sound Try.prog :=
 fn_ok (tyOf_ok _) prog_fol (f130c131_D _ n) (show Try.prog.funcs[130]? = some Try.f130 by kernel_rfl) (by kernel_rfl) (show Try.f130.body = some (bodyOf Try.f130) by kernel_rfl) rfl rfl (Nat.le_of_ble_eq_true rfl) (f130c131_d _ n) (by intro x; kernel_rfl) 

def f129 (n : Nat) (a0 : Bool) (a1 : Int) : Option Int :=
 bif a0 then
  some 0
 else
  some a1
def f129_E (n : Nat) : Ent := ⟨129, [.bool, hI], [hI], fun x => f129 n x.1 x.2⟩
def f129_D (α : Type) (n : Nat) : D3 α := { reg := [], join := [], loop := [] }
theorem f129_ents (α : Type) (n : Nat) : AllS Try.prog (entsOf (f129_D α n).reg) := trivial
theorem f129_d (α : Type) (n : Nat) : D3.OK Try.prog (tyOf Try.prog) ⟨7, []⟩ (f129_D α n) (bodyOf Try.f129) :=
 D3.OK.mk3 (f129_ents α n) (show loopsOf (bodyOf Try.f129) = [] by kernel_rfl) trivial
theorem f129_ok (n : Nat) : (f129_E n).Sound Try.prog :=
 fn_ok (tyOf_ok _) prog_fol (f129_D _ n) (show Try.prog.funcs[129]? = some Try.f129 by kernel_rfl) (by kernel_rfl) (show Try.f129.body = some (bodyOf Try.f129) by kernel_rfl) rfl rfl (Nat.le_of_ble_eq_true rfl) (f129_d _ n) (by intro x; kernel_rfl) 

def f68 (n : Nat) (a0 : LR) : Option Int :=
 ob (f130c131 n a0 ()) fun r_1 =>
 ob (f129 n (!r_1) 1) fun r_2 =>
 some r_2
def f68_E (n : Nat) : Ent := ⟨68, [hRs], [hI], fun x => f68 n x⟩
def f68_D (α : Type) (n : Nat) : D3 α := { reg := [(1, ⟨0, [], [(1, { ent := some (f130c131_E n) }), (3, { ent := some (f129_E n) })]⟩)], join := [], loop := [] }
theorem f68_ents (α : Type) (n : Nat) : AllS Try.prog (entsOf (f68_D α n).reg) := ⟨f130c131_ok n, f129_ok n, trivial⟩
theorem f68_d (α : Type) (n : Nat) : D3.OK Try.prog (tyOf Try.prog) ⟨7, []⟩ (f68_D α n) (bodyOf Try.f68) :=
 D3.OK.mk3 (f68_ents α n) (show loopsOf (bodyOf Try.f68) = [] by kernel_rfl) trivial
theorem f68_ok (n : Nat) : (f68_E n).Sound Try.prog :=
 fn_ok (tyOf_ok _) prog_fol (f68_D _ n) (show Try.prog.funcs[68]? = some Try.f68 by kernel_rfl) (by kernel_rfl) (show Try.f68.body = some (bodyOf Try.f68) by kernel_rfl) rfl rfl (Nat.le_of_ble_eq_true rfl) (f68_d _ n) (by intro x; kernel_rfl) 

def f18 (n : Nat) (a0 : LR) (a1 : Int) : Option Bool :=
 ob (f67 n a1 1 4) fun r_1 =>
 bif r_1 then
  bif ((a0.length : Int) == (W (a1 * a1))) then
   ob (f68 n a0) fun r_2 =>
   some (r_2 == 0)
  else
   some false
 else
  some false
def f18_E (n : Nat) : Ent := ⟨18, [hRs, hI], [.bool], fun x => f18 n x.1 x.2⟩
def f18_D (α : Type) (n : Nat) : D3 α := { reg := [(1, ⟨0, [], [(1, { ent := some (f67_E n) }), (12, { ent := some (f68_E n) })]⟩)], join := [], loop := [] }
theorem f18_ents (α : Type) (n : Nat) : AllS Try.prog (entsOf (f18_D α n).reg) := ⟨f67_ok n, f68_ok n, trivial⟩
theorem f18_d (α : Type) (n : Nat) : D3.OK Try.prog (tyOf Try.prog) ⟨20, []⟩ (f18_D α n) (bodyOf Try.f18) :=
 D3.OK.mk3 (f18_ents α n) (show loopsOf (bodyOf Try.f18) = [] by kernel_rfl) trivial
theorem f18_ok (n : Nat) : (f18_E n).Sound Try.prog :=
 fn_ok (tyOf_ok _) prog_fol (f18_D _ n) (show Try.prog.funcs[18]? = some Try.f18 by kernel_rfl) (by kernel_rfl) (show Try.f18.body = some (bodyOf Try.f18) by kernel_rfl) rfl rfl (Nat.le_of_ble_eq_true rfl) (f18_d _ n) (by intro x; kernel_rfl) 

def f141 (n : Nat) (a0 : LR) (a1 : Int) : Option Bool :=
 ob (f18 n a0 a1) fun r_1 =>
 some (!r_1)
def f141_E (n : Nat) : Ent := ⟨141, [hRs, (.ref hI)], [.bool], fun x => f141 n x.1 x.2⟩
def f141_D (α : Type) (n : Nat) : D3 α := { reg := [(1, ⟨0, [], [(2, { ent := some (f18_E n) })]⟩)], join := [], loop := [] }
theorem f141_ents (α : Type) (n : Nat) : AllS Try.prog (entsOf (f141_D α n).reg) := ⟨f18_ok n, trivial⟩
theorem f141_d (α : Type) (n : Nat) : D3.OK Try.prog (tyOf Try.prog) ⟨8, []⟩ (f141_D α n) (bodyOf Try.f141) :=
 D3.OK.mk3 (f141_ents α n) (show loopsOf (bodyOf Try.f141) = [] by kernel_rfl) trivial
theorem f141_ok (n : Nat) : (f141_E n).Sound Try.prog :=
 fn_ok (tyOf_ok _) prog_fol (f141_D _ n) (show Try.prog.funcs[141]? = some Try.f141 by kernel_rfl) (by kernel_rfl) (show Try.f141.body = some (bodyOf Try.f141) by kernel_rfl) rfl rfl (Nat.le_of_ble_eq_true rfl) (f141_d _ n) (by intro x; kernel_rfl) 

def f183c141_L2B {α : Type} (n : Nat) (s0 : List LR) (s1 s7 s8 : Int) (f : (List LR) → Int → Int → Int → Option α) (k0 : Int → Option α) (k1 : Unit → Option α) : Option α :=
 bif (decide (s8 < s7)) then
  gd (decide (0 ≤ s8) && decide (s8 < (s0.length : Int))) (
   ob (f141 n (s0.getD s8.toNat []) s1) fun r_1 =>
   bif r_1 then
    k0 s8
   else
    f s0 s1 s7 (W (s8 + 1)))
 else
  k1 ()
abbrev f183c141_L2H : Tm := ⟨[(0, .d (.sl hRs)), (1, .d (.clo 141 (.ref hI))), (7, .d hI), (8, .d hI)], [], [], []⟩
abbrev f183c141_L2X0 : Tm := ⟨[(4, .d hI)], [], [], []⟩
abbrev f183c141_L2X1 : Tm := ⟨[], [], [], []⟩
abbrev f183c141_L2O : List (Exit × Tm) := [(.ret, f183c141_L2X0), (.exit 0, f183c141_L2X1)]
def f183c141_L2U {α : Type} (n : Nat) (v : f183c141_L2H.den) (f : f183c141_L2H.den → Option α) (ks : KS α f183c141_L2O) : Option α := f183c141_L2B n v.1.1 v.1.2.1 v.1.2.2.1 v.1.2.2.2.1 (fun s0 s1 s7 s8 => f ((s0, s1, s7, s8, ()), ())) (fun w0 => ks.1 ((w0, ()), ())) (fun _ => ks.2.1 ((), ()))
def f183c141_L2 {α : Type} (n m : Nat) (s0 : List LR) (s1 s7 s8 : Int) (k0 : Int → Option α) (k1 : Unit → Option α) : Option α := rounds (f183c141_L2U n) m ((s0, s1, s7, s8, ()), ()) (fun w => k0 w.1.1, fun w => k1 (), ())
theorem f183c141_L2_0 {α n s0 s1 s7 s8 k0 k1} : f183c141_L2 (α := α) n 0 s0 s1 s7 s8 k0 k1 = none := rfl
theorem f183c141_L2_s {α n m s0 s1 s7 s8 k0 k1} : f183c141_L2 (α := α) n (m + 1) s0 s1 s7 s8 k0 k1 = f183c141_L2B n s0 s1 s7 s8 (fun s0 s1 s7 s8 => f183c141_L2 n m s0 s1 s7 s8 k0 k1) k0 k1 := rfl
def f183c141 (n : Nat) (a0 : List LR) (a1 : Int) : Option Int :=
 f183c141_L2 n n a0 a1 (a0.length : Int) 0
  (fun z_2 => (
   some z_2))
  (fun (_ : Unit) => (
   some (-1)))
def f183c141_E (n : Nat) : Ent := ⟨183, [(.sl hRs), (.clo 141 (.ref hI))], [hI], fun x => f183c141 n x.1 x.2⟩
def f183c141_D (α : Type) (n : Nat) : D3 α := { reg := [(4, ⟨0, [], [(5, { ent := some (f141_E n) })]⟩)], join := [], loop := [(2, ⟨f183c141_L2H, f183c141_L2O, rounds (f183c141_L2U n) n⟩)] }
theorem f183c141_ents (α : Type) (n : Nat) : AllS Try.prog (entsOf (f183c141_D α n).reg) := ⟨f141_ok n, trivial⟩
theorem f183c141_L2_d (α : Type) (n : Nat) : D3.OK Try.prog (tyOf Try.prog) ⟨19, []⟩ (f183c141_D α n) ((bodyOf Try.f183).at [1, 0, 1, 0, 0]) :=
 D3.OK.mk3 (f183c141_ents α n) (show loopsOf ((bodyOf Try.f183).at [1, 0, 1, 0, 0]) = [] by kernel_rfl) trivial
theorem f183c141_L2_ok (α : Type) (n : Nat) : LO.Sound (α := α) Try.prog ⟨19, []⟩ ⟨f183c141_L2H, f183c141_L2O, rounds (f183c141_L2U n) n⟩ (.loop ((bodyOf Try.f183).at [1, 0, 1, 0, 0])) :=
 loop_ok (tyOf_ok _) prog_fol (f183c141_L2U n) (f183c141_L2_d α n) (by intro v f ks; kernel_rfl) n
theorem f183c141_d (α : Type) (n : Nat) : D3.OK Try.prog (tyOf Try.prog) ⟨19, []⟩ (f183c141_D α n) (bodyOf Try.f183) :=
 D3.OK.mk3 (f183c141_ents α n) (show loopsOf (bodyOf Try.f183) = [(2, (.loop ((bodyOf Try.f183).at [1, 0, 1, 0, 0])))] by kernel_rfl) ⟨look_sound rfl (f183c141_L2_ok α n), trivial⟩
theorem f183c141_ok (n : Nat) : (f183c141_E n).Sound Try.prog :=
 fn_ok (tyOf_ok _) prog_fol (f183c141_D _ n) (show Try.prog.funcs[183]? = some Try.f183 by kernel_rfl) (by kernel_rfl) (show Try.f183.body = some (bodyOf Try.f183) by kernel_rfl) rfl rfl (Nat.le_of_ble_eq_true rfl) (f183c141_d _ n) (by intro x; kernel_rfl) 

def f140c141 (n : Nat) (a0 : List LR) (a1 : Int) : Option Bool :=
 ob (f183c141 n a0 a1) fun r_1 =>
 some (decide (r_1 ≥ 0))
def f140c141_E (n : Nat) : Ent := ⟨140, [(.sl hRs), (.clo 141 (.ref hI))], [.bool], fun x => f140c141 n x.1 x.2⟩
def f140c141_D (α : Type) (n : Nat) : D3 α := { reg := [(1, ⟨0, [], [(2, { ent := some (f183c141_E n) })]⟩)], join := [], loop := [] }
theorem f140c141_ents (α : Type) (n : Nat) : AllS Try.prog (entsOf (f140c141_D α n).reg) := ⟨f183c141_ok n, trivial⟩
theorem f140c141_d (α : Type) (n : Nat) : D3.OK Try.prog (tyOf Try.prog) ⟨9, []⟩ (f140c141_D α n) (bodyOf Try.f140) :=
 D3.OK.mk3 (f140c141_ents α n) (show loopsOf (bodyOf Try.f140) = [] by kernel_rfl) trivial
theorem f140c141_ok (n : Nat) : (f140c141_E n).Sound Try.prog :=
 fn_ok (tyOf_ok _) prog_fol (f140c141_D _ n) (show Try.prog.funcs[140]? = some Try.f140 by kernel_rfl) (by kernel_rfl) (show Try.f140.body = some (bodyOf Try.f140) by kernel_rfl) rfl rfl (Nat.le_of_ble_eq_true rfl) (f140c141_d _ n) (by intro x; kernel_rfl) 

def f95_L2B {α : Type} (n : Nat) (s5 : LI) (s6 s7 : Int) (f : LI → Int → Int → Option α) (k0 : Int → Option α) (k1 : Unit → Option α) : Option α :=
 bif (decide (s7 < s6)) then
  gd (decide (0 ≤ s7) && decide (s7 < (s5.length : Int))) (
   bif ((s5.getD s7.toNat 0) != 0) then
    k0 (s5.getD s7.toNat 0)
   else
    f s5 s6 (W (s7 + 1)))
 else
  k1 ()
abbrev f95_L2H : Tm := ⟨[(5, .d hIs), (6, .d hI), (7, .d hI)], [], [], []⟩
abbrev f95_L2X0 : Tm := ⟨[(2, .d hI)], [], [], []⟩
abbrev f95_L2X1 : Tm := ⟨[], [], [], []⟩
abbrev f95_L2O : List (Exit × Tm) := [(.ret, f95_L2X0), (.exit 0, f95_L2X1)]
def f95_L2U {α : Type} (n : Nat) (v : f95_L2H.den) (f : f95_L2H.den → Option α) (ks : KS α f95_L2O) : Option α := f95_L2B n v.1.1 v.1.2.1 v.1.2.2.1 (fun s5 s6 s7 => f ((s5, s6, s7, ()), ())) (fun w0 => ks.1 ((w0, ()), ())) (fun _ => ks.2.1 ((), ()))
def f95_L2 {α : Type} (n m : Nat) (s5 : LI) (s6 s7 : Int) (k0 : Int → Option α) (k1 : Unit → Option α) : Option α := rounds (f95_L2U n) m ((s5, s6, s7, ()), ()) (fun w => k0 w.1.1, fun w => k1 (), ())
theorem f95_L2_0 {α n s5 s6 s7 k0 k1} : f95_L2 (α := α) n 0 s5 s6 s7 k0 k1 = none := rfl
theorem f95_L2_s {α n m s5 s6 s7 k0 k1} : f95_L2 (α := α) n (m + 1) s5 s6 s7 k0 k1 = f95_L2B n s5 s6 s7 (fun s5 s6 s7 => f95_L2 n m s5 s6 s7 k0 k1) k0 k1 := rfl
def f95 (n : Nat) (a0 : LI) : Option Int :=
 f95_L2 n n a0 (a0.length : Int) 0
  (fun z_1 => (
   some z_1))
  (fun (_ : Unit) => (
   some 0))
def f95_E (n : Nat) : Ent := ⟨95, [hIs], [hI], fun x => f95 n x⟩
def f95_D (α : Type) (n : Nat) : D3 α := { reg := [], join := [], loop := [(2, ⟨f95_L2H, f95_L2O, rounds (f95_L2U n) n⟩)] }
theorem f95_ents (α : Type) (n : Nat) : AllS Try.prog (entsOf (f95_D α n).reg) := trivial
theorem f95_L2_d (α : Type) (n : Nat) : D3.OK Try.prog (tyOf Try.prog) ⟨15, []⟩ (f95_D α n) ((bodyOf Try.f95).at [1, 0, 1, 0, 0]) :=
 D3.OK.mk3 (f95_ents α n) (show loopsOf ((bodyOf Try.f95).at [1, 0, 1, 0, 0]) = [] by kernel_rfl) trivial
theorem f95_L2_ok (α : Type) (n : Nat) : LO.Sound (α := α) Try.prog ⟨15, []⟩ ⟨f95_L2H, f95_L2O, rounds (f95_L2U n) n⟩ (.loop ((bodyOf Try.f95).at [1, 0, 1, 0, 0])) :=
 loop_ok (tyOf_ok _) prog_fol (f95_L2U n) (f95_L2_d α n) (by intro v f ks; kernel_rfl) n
theorem f95_d (α : Type) (n : Nat) : D3.OK Try.prog (tyOf Try.prog) ⟨15, []⟩ (f95_D α n) (bodyOf Try.f95) :=
 D3.OK.mk3 (f95_ents α n) (show loopsOf (bodyOf Try.f95) = [(2, (.loop ((bodyOf Try.f95).at [1, 0, 1, 0, 0])))] by kernel_rfl) ⟨look_sound rfl (f95_L2_ok α n), trivial⟩
theorem f95_ok (n : Nat) : (f95_E n).Sound Try.prog :=
 fn_ok (tyOf_ok _) prog_fol (f95_D _ n) (show Try.prog.funcs[95]? = some Try.f95 by kernel_rfl) (by kernel_rfl) (show Try.f95.body = some (bodyOf Try.f95) by kernel_rfl) rfl rfl (Nat.le_of_ble_eq_true rfl) (f95_d _ n) (by intro x; kernel_rfl) 

def f81 (n : Nat) (a0 : Int) (a1 : List LR) : Option Int :=
 ob (f133 n a1) fun r_1 =>
 ob (f140c141 n a1 a0) fun r_2 =>
 ob (f129 n (!r_2) 1) fun r_3 =>
 ob (f95 n [r_1, r_3]) fun r_4 =>
 some r_4
def f81_E (n : Nat) : Ent := ⟨81, [hI, (.sl hRs)], [hI], fun x => f81 n x.1 x.2⟩
def f81_D (α : Type) (n : Nat) : D3 α := { reg := [(1, ⟨0, [], [(1, { ent := some (f133_E n) }), (3, { sh := some (.ref hI) }), (4, { ent := some (f140c141_E n) }), (6, { ent := some (f129_E n) }), (7, { sh := some hI }), (8, { ent := some (f95_E n) })]⟩)], join := [], loop := [] }
theorem f81_ents (α : Type) (n : Nat) : AllS Try.prog (entsOf (f81_D α n).reg) := ⟨f133_ok n, f140c141_ok n, f129_ok n, f95_ok n, trivial⟩
theorem f81_d (α : Type) (n : Nat) : D3.OK Try.prog (tyOf Try.prog) ⟨14, []⟩ (f81_D α n) (bodyOf Try.f81) :=
 D3.OK.mk3 (f81_ents α n) (show loopsOf (bodyOf Try.f81) = [] by kernel_rfl) trivial
theorem f81_ok (n : Nat) : (f81_E n).Sound Try.prog :=
 fn_ok (tyOf_ok _) prog_fol (f81_D _ n) (show Try.prog.funcs[81]? = some Try.f81 by kernel_rfl) (by kernel_rfl) (show Try.f81.body = some (bodyOf Try.f81) by kernel_rfl) rfl rfl (Nat.le_of_ble_eq_true rfl) (f81_d _ n) (by intro x; kernel_rfl) 

def f142 (n : Nat) (a0 : Int) (a1 : LR) (a2 : Int) : Option Rq :=
 gd (decide (a2 ≠ 0)) (
  gd (decide (a2 ≠ 0)) (
   gd (decide (0 ≤ (W ((W ((Int.tmod a0 a2) * a2)) + (W (Int.tdiv a0 a2))))) && decide ((W ((W ((Int.tmod a0 a2) * a2)) + (W (Int.tdiv a0 a2)))) < (a1.length : Int))) (
    let x_1 := a1.getD ((W ((W ((Int.tmod a0 a2) * a2)) + (W (Int.tdiv a0 a2)))).toNat) (false, [], [])
    some x_1)))
def f142_E (n : Nat) : Ent := ⟨142, [hI, (.ref hRs), (.ref hI)], [hR], fun x => f142 n x.1 x.2.1 x.2.2⟩
def f142_D (α : Type) (n : Nat) : D3 α := { reg := [(1, ⟨10, [], []⟩)], join := [], loop := [] }
theorem f142_ents (α : Type) (n : Nat) : AllS Try.prog (entsOf (f142_D α n).reg) := trivial
theorem f142_d (α : Type) (n : Nat) : D3.OK Try.prog (tyOf Try.prog) ⟨17, []⟩ (f142_D α n) (bodyOf Try.f142) :=
 D3.OK.mk3 (f142_ents α n) (show loopsOf (bodyOf Try.f142) = [] by kernel_rfl) trivial
theorem f142_ok (n : Nat) : (f142_E n).Sound Try.prog :=
 fn_ok (tyOf_ok _) prog_fol (f142_D _ n) (show Try.prog.funcs[142]? = some Try.f142 by kernel_rfl) (by kernel_rfl) (show Try.f142.body = some (bodyOf Try.f142) by kernel_rfl) rfl rfl (Nat.le_of_ble_eq_true rfl) (f142_d _ n) (by intro x; kernel_rfl) 

def f72 (n : Nat) (a0 : Rq) : Option Rq :=
 ob (f132 n a0.2.1) fun r_1 =>
 ob (f132 n a0.2.2) fun r_2 =>
 some (a0.1, r_1, r_2)
def f72_E (n : Nat) : Ent := ⟨72, [hR], [hR], fun x => f72 n x⟩
def f72_D (α : Type) (n : Nat) : D3 α := { reg := [(1, ⟨8, [], [(4, { ent := some (f132_E n) }), (7, { ent := some (f132_E n) })]⟩)], join := [], loop := [] }
theorem f72_ents (α : Type) (n : Nat) : AllS Try.prog (entsOf (f72_D α n).reg) := ⟨f132_ok n, f132_ok n, trivial⟩
theorem f72_d (α : Type) (n : Nat) : D3.OK Try.prog (tyOf Try.prog) ⟨12, []⟩ (f72_D α n) (bodyOf Try.f72) :=
 D3.OK.mk3 (f72_ents α n) (show loopsOf (bodyOf Try.f72) = [] by kernel_rfl) trivial
theorem f72_ok (n : Nat) : (f72_E n).Sound Try.prog :=
 fn_ok (tyOf_ok _) prog_fol (f72_D _ n) (show Try.prog.funcs[72]? = some Try.f72 by kernel_rfl) (by kernel_rfl) (show Try.f72.body = some (bodyOf Try.f72) by kernel_rfl) rfl rfl (Nat.le_of_ble_eq_true rfl) (f72_d _ n) (by intro x; kernel_rfl) 

def f97c142_L3B {α : Type} (n : Nat) (s1 : LR × Int) (s8 s9 : Int) (b7 : LR) (f : (LR × Int) → Int → Int → LR → Option α) (k0 : LR → Option α) : Option α :=
 bif (decide (s9 < s8)) then
  ob (f142 n s9 s1.1 s1.2) fun r_1 =>
  ob (f72 n r_1) fun r_2 =>
  gd (decide ((b7.length + 1) * 56 ≤ 140737488355328)) (
   f s1 s8 (W (s9 + 1)) (b7 ++ [r_2]))
 else
  k0 b7
abbrev f97c142_L3H : Tm := ⟨[(1, .d (.clo 142 (.pair (.ref hRs) (.ref hI)))), (5, .k (.hw 7)), (8, .d hI), (9, .d hI)], [(7, .arr 33 hR false)], [17], []⟩
abbrev f97c142_L3X0 : Tm := ⟨[(5, .k (.hw 7))], [(7, .arr 33 hR false)], [], []⟩
abbrev f97c142_L3O : List (Exit × Tm) := [(.exit 0, f97c142_L3X0)]
def f97c142_L3U {α : Type} (n : Nat) (v : f97c142_L3H.den) (f : f97c142_L3H.den → Option α) (ks : KS α f97c142_L3O) : Option α := f97c142_L3B n v.1.1 v.1.2.2.1 v.1.2.2.2.1 v.2.1 (fun s1 s8 s9 b7 => f ((s1, (), s8, s9, ()), (b7, ()))) (fun w0 => ks.1 (((), ()), (w0, ())))
def f97c142_L3 {α : Type} (n m : Nat) (s1 : LR × Int) (s8 s9 : Int) (b7 : LR) (k0 : LR → Option α) : Option α := rounds (f97c142_L3U n) m ((s1, (), s8, s9, ()), (b7, ())) (fun w => k0 w.2.1, ())
theorem f97c142_L3_0 {α n s1 s8 s9 b7 k0} : f97c142_L3 (α := α) n 0 s1 s8 s9 b7 k0 = none := rfl
theorem f97c142_L3_s {α n m s1 s8 s9 b7 k0} : f97c142_L3 (α := α) n (m + 1) s1 s8 s9 b7 k0 = f97c142_L3B n s1 s8 s9 b7 (fun s1 s8 s9 b7 => f97c142_L3 n m s1 s8 s9 b7 k0) k0 := rfl
def f97c142 (n : Nat) (a0 : Int) (a1 : LR × Int) : Option LR :=
 f97c142_L3 n n a1 a0 0 []
  (fun z_3 => (
   some z_3))
def f97c142_E (n : Nat) : Ent := ⟨97, [hI, (.clo 142 (.pair (.ref hRs) (.ref hI)))], [hRs], fun x => f97c142 n x.1 x.2⟩
def f97c142_D (α : Type) (n : Nat) : D3 α := { reg := [(1, ⟨0, [], [(0, { sh := some hR })]⟩), (5, ⟨0, [], [(3, { ent := some (f142_E n) }), (4, { ent := some (f72_E n) }), (5, { sh := some hR })]⟩)], join := [], loop := [(3, ⟨f97c142_L3H, f97c142_L3O, rounds (f97c142_L3U n) n⟩)] }
theorem f97c142_ents (α : Type) (n : Nat) : AllS Try.prog (entsOf (f97c142_D α n).reg) := ⟨f142_ok n, f72_ok n, trivial⟩
theorem f97c142_L3_d (α : Type) (n : Nat) : D3.OK Try.prog (tyOf Try.prog) ⟨21, []⟩ (f97c142_D α n) ((bodyOf Try.f97).at [1, 1, 0, 1, 0, 0]) :=
 D3.OK.mk3 (f97c142_ents α n) (show loopsOf ((bodyOf Try.f97).at [1, 1, 0, 1, 0, 0]) = [] by kernel_rfl) trivial
theorem f97c142_L3_ok (α : Type) (n : Nat) : LO.Sound (α := α) Try.prog ⟨21, []⟩ ⟨f97c142_L3H, f97c142_L3O, rounds (f97c142_L3U n) n⟩ (.loop ((bodyOf Try.f97).at [1, 1, 0, 1, 0, 0])) :=
 loop_ok (tyOf_ok _) prog_fol (f97c142_L3U n) (f97c142_L3_d α n) (by intro v f ks; kernel_rfl) n
theorem f97c142_d (α : Type) (n : Nat) : D3.OK Try.prog (tyOf Try.prog) ⟨21, []⟩ (f97c142_D α n) (bodyOf Try.f97) :=
 D3.OK.mk3 (f97c142_ents α n) (show loopsOf (bodyOf Try.f97) = [(3, (.loop ((bodyOf Try.f97).at [1, 1, 0, 1, 0, 0])))] by kernel_rfl) ⟨look_sound rfl (f97c142_L3_ok α n), trivial⟩
theorem f97c142_ok (n : Nat) : (f97c142_E n).Sound Try.prog :=
 fn_ok (tyOf_ok _) prog_fol (f97c142_D _ n) (show Try.prog.funcs[97]? = some Try.f97 by kernel_rfl) (by kernel_rfl) (show Try.f97.body = some (bodyOf Try.f97) by kernel_rfl) rfl rfl (Nat.le_of_ble_eq_true rfl) (f97c142_d _ n) (by intro x; kernel_rfl) 

end Go.Ev
