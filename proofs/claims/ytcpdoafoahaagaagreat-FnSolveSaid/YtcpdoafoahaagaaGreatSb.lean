/- DERIVED. What the functions compute, and that they do. -/
import Derived.Test.YtcpdoafoahaagaaGreatSa

set_option linter.all false
set_option linter.unusedVariables false
set_option linter.unusedSimpArgs false

namespace Go.Ev
open Go Go.Proofs Go.RowKit Go.Shelf
def f183_L1B {α : Type} (n : Nat) (s0 s1 : LI) (f : LI → LI → Option α) (k0 : LI → Option α) : Option α :=
 bif (decide ((s1.length : Int) > 0)) then
  ob (f184 n s0 s1) fun r_1 =>
  f s1 r_1.2
 else
  k0 s0
abbrev f183_L1H : Tm := ⟨[(0, .d hIs), (1, .d hIs)], [], [], []⟩
abbrev f183_L1X0 : Tm := ⟨[(0, .d hIs)], [], [], []⟩
abbrev f183_L1O : List (Exit × Tm) := [(.exit 0, f183_L1X0)]
def f183_L1U {α : Type} (n : Nat) (v : f183_L1H.den) (f : f183_L1H.den → Option α) (ks : KS α f183_L1O) : Option α := f183_L1B n v.1.1 v.1.2.1 (fun s0 s1 => f ((s0, s1, ()), ())) (fun w0 => ks.1 ((w0, ()), ()))
def f183_L1 {α : Type} (n m : Nat) (s0 s1 : LI) (k0 : LI → Option α) : Option α := rounds (f183_L1U n) m ((s0, s1, ()), ()) (fun w => k0 w.1.1, ())
theorem f183_L1_0 {α n s0 s1 k0} : f183_L1 (α := α) n 0 s0 s1 k0 = none := rfl
theorem f183_L1_s {α n m s0 s1 k0} : f183_L1 (α := α) n (m + 1) s0 s1 k0 = f183_L1B n s0 s1 (fun s0 s1 => f183_L1 n m s0 s1 k0) k0 := rfl
def f183 (n : Nat) (a0 a1 : LI) : Option LI :=
 f183_L1 n n a0 a1
  (fun z_2 => (
   some z_2))
def f183_E (n : Nat) : Ent := ⟨183, [hIs, hIs], [hIs], fun x => f183 n x.1 x.2⟩
def f183_D (α : Type) (n : Nat) : D3 α := { reg := [(2, ⟨0, [], [(2, { ent := some (f184_E n) })]⟩)], join := [], loop := [(1, ⟨f183_L1H, f183_L1O, rounds (f183_L1U n) n⟩)] }
theorem f183_ents (α : Type) (n : Nat) : AllS Tryz.prog (entsOf (f183_D α n).reg) := ⟨f184_ok n, trivial⟩
theorem f183_L1_d (α : Type) (n : Nat) : D3.OK Tryz.prog (tyOf Tryz.prog) ⟨19, []⟩ (f183_D α n) ((bodyOf Tryz.f183).at [1, 0, 0, 0]) :=
 D3.OK.mk3 (f183_ents α n) (show loopsOf ((bodyOf Tryz.f183).at [1, 0, 0, 0]) = [] by kernel_rfl) trivial
theorem f183_L1_ok (α : Type) (n : Nat) : LO.Sound (α := α) Tryz.prog ⟨19, []⟩ ⟨f183_L1H, f183_L1O, rounds (f183_L1U n) n⟩ (.loop ((bodyOf Tryz.f183).at [1, 0, 0, 0])) :=
 loop_ok (tyOf_ok _) prog_fol (f183_L1U n) (f183_L1_d α n) (by intro v f ks; kernel_rfl) n
theorem f183_d (α : Type) (n : Nat) : D3.OK Tryz.prog (tyOf Tryz.prog) ⟨19, []⟩ (f183_D α n) (bodyOf Tryz.f183) :=
 D3.OK.mk3 (f183_ents α n) (show loopsOf (bodyOf Tryz.f183) = [(1, (.loop ((bodyOf Tryz.f183).at [1, 0, 0, 0])))] by kernel_rfl) ⟨look_sound rfl (f183_L1_ok α n), trivial⟩
theorem f183_ok (n : Nat) : (f183_E n).Sound Tryz.prog :=
 fn_ok (tyOf_ok _) prog_fol (f183_D _ n) (show Tryz.prog.funcs[183]? = some Tryz.f183 by kernel_rfl) (by kernel_rfl) (show Tryz.f183.body = some (bodyOf Tryz.f183) by kernel_rfl) rfl rfl (Nat.le_of_ble_eq_true rfl) (f183_d _ n) (by intro x; kernel_rfl) 

def f161 (n : Nat)  : Option LI :=
 some [1]
def f161_E (n : Nat) : Ent := ⟨161, [], [hIs], fun _ => f161 n⟩
def f161_D (α : Type) (n : Nat) : D3 α := { reg := [(1, ⟨0, [], [(0, { sh := some hI })]⟩)], join := [], loop := [] }
theorem f161_ents (α : Type) (n : Nat) : AllS Tryz.prog (entsOf (f161_D α n).reg) := trivial
theorem f161_d (α : Type) (n : Nat) : D3.OK Tryz.prog (tyOf Tryz.prog) ⟨2, []⟩ (f161_D α n) (bodyOf Tryz.f161) :=
 D3.OK.mk3 (f161_ents α n) (show loopsOf (bodyOf Tryz.f161) = [] by kernel_rfl) trivial
theorem f161_ok (n : Nat) : (f161_E n).Sound Tryz.prog :=
 fn_ok (tyOf_ok _) prog_fol (f161_D _ n) (show Tryz.prog.funcs[161]? = some Tryz.f161 by kernel_rfl) (by kernel_rfl) (show Tryz.f161.body = some (bodyOf Tryz.f161) by kernel_rfl) rfl rfl (Nat.le_of_ble_eq_true rfl) (f161_d _ n) (by intro x; kernel_rfl) 

abbrev f163_J3 : Tm := ⟨[(1, .k (.hp 1 0 0))], [(1, .var 30 true false [.d .bool, .d hIs, .d hIs])], [], []⟩
def f163 (n : Nat) (a0 : Rq) : Option Bool :=
 let J_7 := fun (_ : Unit) => (
  ob (f183 n a0.2.1 a0.2.2) fun r_4 =>
  ob (f161 n) fun r_5 =>
  ob (f170 n r_4 r_5) fun r_6 =>
  some (r_6 == 0))
 ob (f197 n a0.2.1) fun r_1 =>
 bif (!r_1) then
  some false
 else
  ob (f197 n a0.2.2) fun r_2 =>
  bif (!r_2) then
   some false
  else
   bif ((a0.2.2.length : Int) == 0) then
    some false
   else
    bif a0.1 then
     ob (f74 n a0) fun r_3 =>
     bif r_3 then
      some false
     else
      J_7 ()
    else
     J_7 ()
def f163_E (n : Nat) : Ent := ⟨163, [hR], [.bool], fun x => f163 n x⟩
def f163_D (α : Type) (n : Nat) : D3 α := { reg := [(1, ⟨0, [], [(2, { ent := some (f197_E n) }), (7, { ent := some (f197_E n) }), (21, { ent := some (f74_E n) })]⟩), (3, ⟨0, [], [(4, { ent := some (f183_E n) }), (5, { ent := some (f161_E n) }), (6, { ent := some (f170_E n) })]⟩)], join := [(3, f163_J3)], loop := [] }
theorem f163_ents (α : Type) (n : Nat) : AllS Tryz.prog (entsOf (f163_D α n).reg) := ⟨f197_ok n, f197_ok n, f74_ok n, f183_ok n, f161_ok n, f170_ok n, trivial⟩
theorem f163_d (α : Type) (n : Nat) : D3.OK Tryz.prog (tyOf Tryz.prog) ⟨35, []⟩ (f163_D α n) (bodyOf Tryz.f163) :=
 D3.OK.mk3 (f163_ents α n) (show loopsOf (bodyOf Tryz.f163) = [] by kernel_rfl) trivial
theorem f163_ok (n : Nat) : (f163_E n).Sound Tryz.prog :=
 fn_ok (tyOf_ok _) prog_fol (f163_D _ n) (show Tryz.prog.funcs[163]? = some Tryz.f163 by kernel_rfl) (by kernel_rfl) (show Tryz.f163.body = some (bodyOf Tryz.f163) by kernel_rfl) rfl rfl (Nat.le_of_ble_eq_true rfl) (f163_d _ n) (by intro x; kernel_rfl) 

def f162 (n : Nat) (a0 : Rq) : Option Bool :=
 ob (f163 n a0) fun r_1 =>
 some (!r_1)
def f162_E (n : Nat) : Ent := ⟨162, [hR], [.bool], fun x => f162 n x⟩
def f162_D (α : Type) (n : Nat) : D3 α := { reg := [(1, ⟨0, [], [(1, { ent := some (f163_E n) })]⟩)], join := [], loop := [] }
theorem f162_ents (α : Type) (n : Nat) : AllS Tryz.prog (entsOf (f162_D α n).reg) := ⟨f163_ok n, trivial⟩
theorem f162_d (α : Type) (n : Nat) : D3.OK Tryz.prog (tyOf Tryz.prog) ⟨6, []⟩ (f162_D α n) (bodyOf Tryz.f162) :=
 D3.OK.mk3 (f162_ents α n) (show loopsOf (bodyOf Tryz.f162) = [] by kernel_rfl) trivial
theorem f162_ok (n : Nat) : (f162_E n).Sound Tryz.prog :=
 fn_ok (tyOf_ok _) prog_fol (f162_D _ n) (show Tryz.prog.funcs[162]? = some Tryz.f162 by kernel_rfl) (by kernel_rfl) (show Tryz.f162.body = some (bodyOf Tryz.f162) by kernel_rfl) rfl rfl (Nat.le_of_ble_eq_true rfl) (f162_d _ n) (by intro x; kernel_rfl) 

def f175c162_L2B {α : Type} (n : Nat) (s0 : LR) (s7 s8 : Int) (f : LR → Int → Int → Option α) (k0 : Int → Option α) (k1 : Unit → Option α) : Option α :=
 bif (decide (s8 < s7)) then
  gd (decide (0 ≤ s8) && decide (s8 < (s0.length : Int))) (
   let x_1 := s0.getD s8.toNat (false, [], [])
   ob (f162 n x_1) fun r_2 =>
   bif r_2 then
    k0 s8
   else
    f s0 s7 (W (s8 + 1)))
 else
  k1 ()
abbrev f175c162_L2H : Tm := ⟨[(0, .d hRs), (1, .d (.fn 162)), (7, .d hI), (8, .d hI)], [], [], []⟩
abbrev f175c162_L2X0 : Tm := ⟨[(4, .d hI)], [], [], []⟩
abbrev f175c162_L2X1 : Tm := ⟨[], [], [], []⟩
abbrev f175c162_L2O : List (Exit × Tm) := [(.ret, f175c162_L2X0), (.exit 0, f175c162_L2X1)]
def f175c162_L2U {α : Type} (n : Nat) (v : f175c162_L2H.den) (f : f175c162_L2H.den → Option α) (ks : KS α f175c162_L2O) : Option α := f175c162_L2B n v.1.1 v.1.2.2.1 v.1.2.2.2.1 (fun s0 s7 s8 => f ((s0, (), s7, s8, ()), ())) (fun w0 => ks.1 ((w0, ()), ())) (fun _ => ks.2.1 ((), ()))
def f175c162_L2 {α : Type} (n m : Nat) (s0 : LR) (s7 s8 : Int) (k0 : Int → Option α) (k1 : Unit → Option α) : Option α := rounds (f175c162_L2U n) m ((s0, (), s7, s8, ()), ()) (fun w => k0 w.1.1, fun w => k1 (), ())
theorem f175c162_L2_0 {α n s0 s7 s8 k0 k1} : f175c162_L2 (α := α) n 0 s0 s7 s8 k0 k1 = none := rfl
theorem f175c162_L2_s {α n m s0 s7 s8 k0 k1} : f175c162_L2 (α := α) n (m + 1) s0 s7 s8 k0 k1 = f175c162_L2B n s0 s7 s8 (fun s0 s7 s8 => f175c162_L2 n m s0 s7 s8 k0 k1) k0 k1 := rfl
def f175c162 (n : Nat) (a0 : LR) (a1 : Unit) : Option Int :=
 f175c162_L2 n n a0 (a0.length : Int) 0
  (fun z_3 => (
   some z_3))
  (fun (_ : Unit) => (
   some (-1)))
def f175c162_E (n : Nat) : Ent := ⟨175, [hRs, (.fn 162)], [hI], fun x => f175c162 n x.1 x.2⟩
def f175c162_D (α : Type) (n : Nat) : D3 α := { reg := [(4, ⟨0, [], [(5, { ent := some (f162_E n) })]⟩)], join := [], loop := [(2, ⟨f175c162_L2H, f175c162_L2O, rounds (f175c162_L2U n) n⟩)] }
theorem f175c162_ents (α : Type) (n : Nat) : AllS Tryz.prog (entsOf (f175c162_D α n).reg) := ⟨f162_ok n, trivial⟩
theorem f175c162_L2_d (α : Type) (n : Nat) : D3.OK Tryz.prog (tyOf Tryz.prog) ⟨19, []⟩ (f175c162_D α n) ((bodyOf Tryz.f175).at [1, 0, 1, 0, 0]) :=
 D3.OK.mk3 (f175c162_ents α n) (show loopsOf ((bodyOf Tryz.f175).at [1, 0, 1, 0, 0]) = [] by kernel_rfl) trivial
theorem f175c162_L2_ok (α : Type) (n : Nat) : LO.Sound (α := α) Tryz.prog ⟨19, []⟩ ⟨f175c162_L2H, f175c162_L2O, rounds (f175c162_L2U n) n⟩ (.loop ((bodyOf Tryz.f175).at [1, 0, 1, 0, 0])) :=
 loop_ok (tyOf_ok _) prog_fol (f175c162_L2U n) (f175c162_L2_d α n) (by intro v f ks; kernel_rfl) n
theorem f175c162_d (α : Type) (n : Nat) : D3.OK Tryz.prog (tyOf Tryz.prog) ⟨19, []⟩ (f175c162_D α n) (bodyOf Tryz.f175) :=
 D3.OK.mk3 (f175c162_ents α n) (show loopsOf (bodyOf Tryz.f175) = [(2, (.loop ((bodyOf Tryz.f175).at [1, 0, 1, 0, 0])))] by kernel_rfl) ⟨look_sound rfl (f175c162_L2_ok α n), trivial⟩
theorem f175c162_ok (n : Nat) : (f175c162_E n).Sound Tryz.prog :=
 fn_ok (tyOf_ok _) prog_fol (f175c162_D _ n) (show Tryz.prog.funcs[175]? = some Tryz.f175 by kernel_rfl) (by kernel_rfl) (show Tryz.f175.body = some (bodyOf Tryz.f175) by kernel_rfl) rfl rfl (Nat.le_of_ble_eq_true rfl) (f175c162_d _ n) (by intro x; kernel_rfl) 

def f111c162 (n : Nat) (a0 : LR) (a1 : Unit) : Option Bool :=
 ob (f175c162 n a0 a1) fun r_1 =>
 some (decide (r_1 ≥ 0))
def f111c162_E (n : Nat) : Ent := ⟨111, [hRs, (.fn 162)], [.bool], fun x => f111c162 n x.1 x.2⟩
def f111c162_D (α : Type) (n : Nat) : D3 α := { reg := [(1, ⟨0, [], [(2, { ent := some (f175c162_E n) })]⟩)], join := [], loop := [] }
theorem f111c162_ents (α : Type) (n : Nat) : AllS Tryz.prog (entsOf (f111c162_D α n).reg) := ⟨f175c162_ok n, trivial⟩
theorem f111c162_d (α : Type) (n : Nat) : D3.OK Tryz.prog (tyOf Tryz.prog) ⟨9, []⟩ (f111c162_D α n) (bodyOf Tryz.f111) :=
 D3.OK.mk3 (f111c162_ents α n) (show loopsOf (bodyOf Tryz.f111) = [] by kernel_rfl) trivial
theorem f111c162_ok (n : Nat) : (f111c162_E n).Sound Tryz.prog :=
 fn_ok (tyOf_ok _) prog_fol (f111c162_D _ n) (show Tryz.prog.funcs[111]? = some Tryz.f111 by kernel_rfl) (by kernel_rfl) (show Tryz.f111.body = some (bodyOf Tryz.f111) by kernel_rfl) rfl rfl (Nat.le_of_ble_eq_true rfl) (f111c162_d _ n) (by intro x; kernel_rfl) 

def f69 (n : Nat) (a0 : Bool) (a1 : Int) : Option Int :=
 bif a0 then
  some 0
 else
  some a1
def f69_E (n : Nat) : Ent := ⟨69, [.bool, hI], [hI], fun x => f69 n x.1 x.2⟩
def f69_D (α : Type) (n : Nat) : D3 α := { reg := [], join := [], loop := [] }
theorem f69_ents (α : Type) (n : Nat) : AllS Tryz.prog (entsOf (f69_D α n).reg) := trivial
theorem f69_d (α : Type) (n : Nat) : D3.OK Tryz.prog (tyOf Tryz.prog) ⟨7, []⟩ (f69_D α n) (bodyOf Tryz.f69) :=
 D3.OK.mk3 (f69_ents α n) (show loopsOf (bodyOf Tryz.f69) = [] by kernel_rfl) trivial
theorem f69_ok (n : Nat) : (f69_E n).Sound Tryz.prog :=
 fn_ok (tyOf_ok _) prog_fol (f69_D _ n) (show Tryz.prog.funcs[69]? = some Tryz.f69 by kernel_rfl) (by kernel_rfl) (show Tryz.f69.body = some (bodyOf Tryz.f69) by kernel_rfl) rfl rfl (Nat.le_of_ble_eq_true rfl) (f69_d _ n) (by intro x; kernel_rfl) 

def f94 (n : Nat) (a0 : LR) : Option Int :=
 ob (f111c162 n a0 ()) fun r_1 =>
 ob (f69 n (!r_1) 1) fun r_2 =>
 some r_2
def f94_E (n : Nat) : Ent := ⟨94, [hRs], [hI], fun x => f94 n x⟩
def f94_D (α : Type) (n : Nat) : D3 α := { reg := [(1, ⟨0, [], [(1, { ent := some (f111c162_E n) }), (3, { ent := some (f69_E n) })]⟩)], join := [], loop := [] }
theorem f94_ents (α : Type) (n : Nat) : AllS Tryz.prog (entsOf (f94_D α n).reg) := ⟨f111c162_ok n, f69_ok n, trivial⟩
theorem f94_d (α : Type) (n : Nat) : D3.OK Tryz.prog (tyOf Tryz.prog) ⟨7, []⟩ (f94_D α n) (bodyOf Tryz.f94) :=
 D3.OK.mk3 (f94_ents α n) (show loopsOf (bodyOf Tryz.f94) = [] by kernel_rfl) trivial
theorem f94_ok (n : Nat) : (f94_E n).Sound Tryz.prog :=
 fn_ok (tyOf_ok _) prog_fol (f94_D _ n) (show Tryz.prog.funcs[94]? = some Tryz.f94 by kernel_rfl) (by kernel_rfl) (show Tryz.f94.body = some (bodyOf Tryz.f94) by kernel_rfl) rfl rfl (Nat.le_of_ble_eq_true rfl) (f94_d _ n) (by intro x; kernel_rfl) 

def f109 (n : Nat) (a0 : LR) : Option Bool :=
 bif (decide ((a0.length : Int) ≥ 1)) then
  bif (decide ((a0.length : Int) ≤ 4)) then
   ob (f94 n a0) fun r_1 =>
   some (r_1 == 0)
  else
   some false
 else
  some false
def f109_E (n : Nat) : Ent := ⟨109, [hRs], [.bool], fun x => f109 n x⟩
def f109_D (α : Type) (n : Nat) : D3 α := { reg := [(1, ⟨0, [], [(10, { ent := some (f94_E n) })]⟩)], join := [], loop := [] }
theorem f109_ents (α : Type) (n : Nat) : AllS Tryz.prog (entsOf (f109_D α n).reg) := ⟨f94_ok n, trivial⟩
theorem f109_d (α : Type) (n : Nat) : D3.OK Tryz.prog (tyOf Tryz.prog) ⟨16, []⟩ (f109_D α n) (bodyOf Tryz.f109) :=
 D3.OK.mk3 (f109_ents α n) (show loopsOf (bodyOf Tryz.f109) = [] by kernel_rfl) trivial
theorem f109_ok (n : Nat) : (f109_E n).Sound Tryz.prog :=
 fn_ok (tyOf_ok _) prog_fol (f109_D _ n) (show Tryz.prog.funcs[109]? = some Tryz.f109 by kernel_rfl) (by kernel_rfl) (show Tryz.f109.body = some (bodyOf Tryz.f109) by kernel_rfl) rfl rfl (Nat.le_of_ble_eq_true rfl) (f109_d _ n) (by intro x; kernel_rfl) 

def f70 (n : Nat) (a0 a1 a2 : Int) : Option Bool :=
 bif (decide (a1 ≤ a0)) then
  some (decide (a0 ≤ a2))
 else
  some false
def f70_E (n : Nat) : Ent := ⟨70, [hI, hI, hI], [.bool], fun x => f70 n x.1 x.2.1 x.2.2⟩
def f70_D (α : Type) (n : Nat) : D3 α := { reg := [], join := [], loop := [] }
theorem f70_ents (α : Type) (n : Nat) : AllS Tryz.prog (entsOf (f70_D α n).reg) := trivial
theorem f70_d (α : Type) (n : Nat) : D3.OK Tryz.prog (tyOf Tryz.prog) ⟨15, []⟩ (f70_D α n) (bodyOf Tryz.f70) :=
 D3.OK.mk3 (f70_ents α n) (show loopsOf (bodyOf Tryz.f70) = [] by kernel_rfl) trivial
theorem f70_ok (n : Nat) : (f70_E n).Sound Tryz.prog :=
 fn_ok (tyOf_ok _) prog_fol (f70_D _ n) (show Tryz.prog.funcs[70]? = some Tryz.f70 by kernel_rfl) (by kernel_rfl) (show Tryz.f70.body = some (bodyOf Tryz.f70) by kernel_rfl) rfl rfl (Nat.le_of_ble_eq_true rfl) (f70_d _ n) (by intro x; kernel_rfl) 

def f125 (n : Nat) (a0 : LR) (a1 : Int) : Option Bool :=
 ob (f70 n a1 1 4) fun r_1 =>
 bif r_1 then
  bif ((a0.length : Int) == (W (a1 * a1))) then
   ob (f94 n a0) fun r_2 =>
   some (r_2 == 0)
  else
   some false
 else
  some false
def f125_E (n : Nat) : Ent := ⟨125, [hRs, hI], [.bool], fun x => f125 n x.1 x.2⟩
def f125_D (α : Type) (n : Nat) : D3 α := { reg := [(1, ⟨0, [], [(1, { ent := some (f70_E n) }), (12, { ent := some (f94_E n) })]⟩)], join := [], loop := [] }
theorem f125_ents (α : Type) (n : Nat) : AllS Tryz.prog (entsOf (f125_D α n).reg) := ⟨f70_ok n, f94_ok n, trivial⟩
theorem f125_d (α : Type) (n : Nat) : D3.OK Tryz.prog (tyOf Tryz.prog) ⟨20, []⟩ (f125_D α n) (bodyOf Tryz.f125) :=
 D3.OK.mk3 (f125_ents α n) (show loopsOf (bodyOf Tryz.f125) = [] by kernel_rfl) trivial
theorem f125_ok (n : Nat) : (f125_E n).Sound Tryz.prog :=
 fn_ok (tyOf_ok _) prog_fol (f125_D _ n) (show Tryz.prog.funcs[125]? = some Tryz.f125 by kernel_rfl) (by kernel_rfl) (show Tryz.f125.body = some (bodyOf Tryz.f125) by kernel_rfl) rfl rfl (Nat.le_of_ble_eq_true rfl) (f125_d _ n) (by intro x; kernel_rfl) 

def f124 (n : Nat) (a0 : LR) (a1 : Int) : Option Bool :=
 ob (f125 n a0 a1) fun r_1 =>
 some (!r_1)
def f124_E (n : Nat) : Ent := ⟨124, [hRs, (.ref hI)], [.bool], fun x => f124 n x.1 x.2⟩
def f124_D (α : Type) (n : Nat) : D3 α := { reg := [(1, ⟨0, [], [(2, { ent := some (f125_E n) })]⟩)], join := [], loop := [] }
theorem f124_ents (α : Type) (n : Nat) : AllS Tryz.prog (entsOf (f124_D α n).reg) := ⟨f125_ok n, trivial⟩
theorem f124_d (α : Type) (n : Nat) : D3.OK Tryz.prog (tyOf Tryz.prog) ⟨8, []⟩ (f124_D α n) (bodyOf Tryz.f124) :=
 D3.OK.mk3 (f124_ents α n) (show loopsOf (bodyOf Tryz.f124) = [] by kernel_rfl) trivial
theorem f124_ok (n : Nat) : (f124_E n).Sound Tryz.prog :=
 fn_ok (tyOf_ok _) prog_fol (f124_D _ n) (show Tryz.prog.funcs[124]? = some Tryz.f124 by kernel_rfl) (by kernel_rfl) (show Tryz.f124.body = some (bodyOf Tryz.f124) by kernel_rfl) rfl rfl (Nat.le_of_ble_eq_true rfl) (f124_d _ n) (by intro x; kernel_rfl) 

def f126c124_L2B {α : Type} (n : Nat) (s0 : List LR) (s1 s7 s8 : Int) (f : (List LR) → Int → Int → Int → Option α) (k0 : Int → Option α) (k1 : Unit → Option α) : Option α :=
 bif (decide (s8 < s7)) then
  gd (decide (0 ≤ s8) && decide (s8 < (s0.length : Int))) (
   ob (f124 n (s0.getD s8.toNat []) s1) fun r_1 =>
   bif r_1 then
    k0 s8
   else
    f s0 s1 s7 (W (s8 + 1)))
 else
  k1 ()
abbrev f126c124_L2H : Tm := ⟨[(0, .d (.sl hRs)), (1, .d (.clo 124 (.ref hI))), (7, .d hI), (8, .d hI)], [], [], []⟩
abbrev f126c124_L2X0 : Tm := ⟨[(4, .d hI)], [], [], []⟩
abbrev f126c124_L2X1 : Tm := ⟨[], [], [], []⟩
abbrev f126c124_L2O : List (Exit × Tm) := [(.ret, f126c124_L2X0), (.exit 0, f126c124_L2X1)]
def f126c124_L2U {α : Type} (n : Nat) (v : f126c124_L2H.den) (f : f126c124_L2H.den → Option α) (ks : KS α f126c124_L2O) : Option α := f126c124_L2B n v.1.1 v.1.2.1 v.1.2.2.1 v.1.2.2.2.1 (fun s0 s1 s7 s8 => f ((s0, s1, s7, s8, ()), ())) (fun w0 => ks.1 ((w0, ()), ())) (fun _ => ks.2.1 ((), ()))
def f126c124_L2 {α : Type} (n m : Nat) (s0 : List LR) (s1 s7 s8 : Int) (k0 : Int → Option α) (k1 : Unit → Option α) : Option α := rounds (f126c124_L2U n) m ((s0, s1, s7, s8, ()), ()) (fun w => k0 w.1.1, fun w => k1 (), ())
theorem f126c124_L2_0 {α n s0 s1 s7 s8 k0 k1} : f126c124_L2 (α := α) n 0 s0 s1 s7 s8 k0 k1 = none := rfl
theorem f126c124_L2_s {α n m s0 s1 s7 s8 k0 k1} : f126c124_L2 (α := α) n (m + 1) s0 s1 s7 s8 k0 k1 = f126c124_L2B n s0 s1 s7 s8 (fun s0 s1 s7 s8 => f126c124_L2 n m s0 s1 s7 s8 k0 k1) k0 k1 := rfl
def f126c124 (n : Nat) (a0 : List LR) (a1 : Int) : Option Int :=
 f126c124_L2 n n a0 a1 (a0.length : Int) 0
  (fun z_2 => (
   some z_2))
  (fun (_ : Unit) => (
   some (-1)))
def f126c124_E (n : Nat) : Ent := ⟨126, [(.sl hRs), (.clo 124 (.ref hI))], [hI], fun x => f126c124 n x.1 x.2⟩
def f126c124_D (α : Type) (n : Nat) : D3 α := { reg := [(4, ⟨0, [], [(5, { ent := some (f124_E n) })]⟩)], join := [], loop := [(2, ⟨f126c124_L2H, f126c124_L2O, rounds (f126c124_L2U n) n⟩)] }
theorem f126c124_ents (α : Type) (n : Nat) : AllS Tryz.prog (entsOf (f126c124_D α n).reg) := ⟨f124_ok n, trivial⟩
theorem f126c124_L2_d (α : Type) (n : Nat) : D3.OK Tryz.prog (tyOf Tryz.prog) ⟨19, []⟩ (f126c124_D α n) ((bodyOf Tryz.f126).at [1, 0, 1, 0, 0]) :=
 D3.OK.mk3 (f126c124_ents α n) (show loopsOf ((bodyOf Tryz.f126).at [1, 0, 1, 0, 0]) = [] by kernel_rfl) trivial
theorem f126c124_L2_ok (α : Type) (n : Nat) : LO.Sound (α := α) Tryz.prog ⟨19, []⟩ ⟨f126c124_L2H, f126c124_L2O, rounds (f126c124_L2U n) n⟩ (.loop ((bodyOf Tryz.f126).at [1, 0, 1, 0, 0])) :=
 loop_ok (tyOf_ok _) prog_fol (f126c124_L2U n) (f126c124_L2_d α n) (by intro v f ks; kernel_rfl) n
theorem f126c124_d (α : Type) (n : Nat) : D3.OK Tryz.prog (tyOf Tryz.prog) ⟨19, []⟩ (f126c124_D α n) (bodyOf Tryz.f126) :=
 D3.OK.mk3 (f126c124_ents α n) (show loopsOf (bodyOf Tryz.f126) = [(2, (.loop ((bodyOf Tryz.f126).at [1, 0, 1, 0, 0])))] by kernel_rfl) ⟨look_sound rfl (f126c124_L2_ok α n), trivial⟩
theorem f126c124_ok (n : Nat) : (f126c124_E n).Sound Tryz.prog :=
 fn_ok (tyOf_ok _) prog_fol (f126c124_D _ n) (show Tryz.prog.funcs[126]? = some Tryz.f126 by kernel_rfl) (by kernel_rfl) (show Tryz.f126.body = some (bodyOf Tryz.f126) by kernel_rfl) rfl rfl (Nat.le_of_ble_eq_true rfl) (f126c124_d _ n) (by intro x; kernel_rfl) 

def f123c124 (n : Nat) (a0 : List LR) (a1 : Int) : Option Bool :=
 ob (f126c124 n a0 a1) fun r_1 =>
 some (decide (r_1 ≥ 0))
def f123c124_E (n : Nat) : Ent := ⟨123, [(.sl hRs), (.clo 124 (.ref hI))], [.bool], fun x => f123c124 n x.1 x.2⟩
def f123c124_D (α : Type) (n : Nat) : D3 α := { reg := [(1, ⟨0, [], [(2, { ent := some (f126c124_E n) })]⟩)], join := [], loop := [] }
theorem f123c124_ents (α : Type) (n : Nat) : AllS Tryz.prog (entsOf (f123c124_D α n).reg) := ⟨f126c124_ok n, trivial⟩
theorem f123c124_d (α : Type) (n : Nat) : D3.OK Tryz.prog (tyOf Tryz.prog) ⟨9, []⟩ (f123c124_D α n) (bodyOf Tryz.f123) :=
 D3.OK.mk3 (f123c124_ents α n) (show loopsOf (bodyOf Tryz.f123) = [] by kernel_rfl) trivial
theorem f123c124_ok (n : Nat) : (f123c124_E n).Sound Tryz.prog :=
 fn_ok (tyOf_ok _) prog_fol (f123c124_D _ n) (show Tryz.prog.funcs[123]? = some Tryz.f123 by kernel_rfl) (by kernel_rfl) (show Tryz.f123.body = some (bodyOf Tryz.f123) by kernel_rfl) rfl rfl (Nat.le_of_ble_eq_true rfl) (f123c124_d _ n) (by intro x; kernel_rfl) 

def f68_L2B {α : Type} (n : Nat) (s5 : LI) (s6 s7 : Int) (f : LI → Int → Int → Option α) (k0 : Int → Option α) (k1 : Unit → Option α) : Option α :=
 bif (decide (s7 < s6)) then
  gd (decide (0 ≤ s7) && decide (s7 < (s5.length : Int))) (
   bif ((s5.getD s7.toNat 0) != 0) then
    k0 (s5.getD s7.toNat 0)
   else
    f s5 s6 (W (s7 + 1)))
 else
  k1 ()
abbrev f68_L2H : Tm := ⟨[(5, .d hIs), (6, .d hI), (7, .d hI)], [], [], []⟩
abbrev f68_L2X0 : Tm := ⟨[(2, .d hI)], [], [], []⟩
abbrev f68_L2X1 : Tm := ⟨[], [], [], []⟩
abbrev f68_L2O : List (Exit × Tm) := [(.ret, f68_L2X0), (.exit 0, f68_L2X1)]
def f68_L2U {α : Type} (n : Nat) (v : f68_L2H.den) (f : f68_L2H.den → Option α) (ks : KS α f68_L2O) : Option α := f68_L2B n v.1.1 v.1.2.1 v.1.2.2.1 (fun s5 s6 s7 => f ((s5, s6, s7, ()), ())) (fun w0 => ks.1 ((w0, ()), ())) (fun _ => ks.2.1 ((), ()))
def f68_L2 {α : Type} (n m : Nat) (s5 : LI) (s6 s7 : Int) (k0 : Int → Option α) (k1 : Unit → Option α) : Option α := rounds (f68_L2U n) m ((s5, s6, s7, ()), ()) (fun w => k0 w.1.1, fun w => k1 (), ())
theorem f68_L2_0 {α n s5 s6 s7 k0 k1} : f68_L2 (α := α) n 0 s5 s6 s7 k0 k1 = none := rfl
theorem f68_L2_s {α n m s5 s6 s7 k0 k1} : f68_L2 (α := α) n (m + 1) s5 s6 s7 k0 k1 = f68_L2B n s5 s6 s7 (fun s5 s6 s7 => f68_L2 n m s5 s6 s7 k0 k1) k0 k1 := rfl
def f68 (n : Nat) (a0 : LI) : Option Int :=
 f68_L2 n n a0 (a0.length : Int) 0
  (fun z_1 => (
   some z_1))
  (fun (_ : Unit) => (
   some 0))
def f68_E (n : Nat) : Ent := ⟨68, [hIs], [hI], fun x => f68 n x⟩
def f68_D (α : Type) (n : Nat) : D3 α := { reg := [], join := [], loop := [(2, ⟨f68_L2H, f68_L2O, rounds (f68_L2U n) n⟩)] }
theorem f68_ents (α : Type) (n : Nat) : AllS Tryz.prog (entsOf (f68_D α n).reg) := trivial
theorem f68_L2_d (α : Type) (n : Nat) : D3.OK Tryz.prog (tyOf Tryz.prog) ⟨15, []⟩ (f68_D α n) ((bodyOf Tryz.f68).at [1, 0, 1, 0, 0]) :=
 D3.OK.mk3 (f68_ents α n) (show loopsOf ((bodyOf Tryz.f68).at [1, 0, 1, 0, 0]) = [] by kernel_rfl) trivial
theorem f68_L2_ok (α : Type) (n : Nat) : LO.Sound (α := α) Tryz.prog ⟨15, []⟩ ⟨f68_L2H, f68_L2O, rounds (f68_L2U n) n⟩ (.loop ((bodyOf Tryz.f68).at [1, 0, 1, 0, 0])) :=
 loop_ok (tyOf_ok _) prog_fol (f68_L2U n) (f68_L2_d α n) (by intro v f ks; kernel_rfl) n
theorem f68_d (α : Type) (n : Nat) : D3.OK Tryz.prog (tyOf Tryz.prog) ⟨15, []⟩ (f68_D α n) (bodyOf Tryz.f68) :=
 D3.OK.mk3 (f68_ents α n) (show loopsOf (bodyOf Tryz.f68) = [(2, (.loop ((bodyOf Tryz.f68).at [1, 0, 1, 0, 0])))] by kernel_rfl) ⟨look_sound rfl (f68_L2_ok α n), trivial⟩
theorem f68_ok (n : Nat) : (f68_E n).Sound Tryz.prog :=
 fn_ok (tyOf_ok _) prog_fol (f68_D _ n) (show Tryz.prog.funcs[68]? = some Tryz.f68 by kernel_rfl) (by kernel_rfl) (show Tryz.f68.body = some (bodyOf Tryz.f68) by kernel_rfl) rfl rfl (Nat.le_of_ble_eq_true rfl) (f68_d _ n) (by intro x; kernel_rfl) 

def f55 (n : Nat) (a0 : Int) (a1 : List LR) : Option Int :=
 ob (f98 n a1) fun r_1 =>
 ob (f123c124 n a1 a0) fun r_2 =>
 ob (f69 n (!r_2) 1) fun r_3 =>
 ob (f68 n [r_1, r_3]) fun r_4 =>
 some r_4
def f55_E (n : Nat) : Ent := ⟨55, [hI, (.sl hRs)], [hI], fun x => f55 n x.1 x.2⟩
def f55_D (α : Type) (n : Nat) : D3 α := { reg := [(1, ⟨0, [], [(1, { ent := some (f98_E n) }), (3, { sh := some (.ref hI) }), (4, { ent := some (f123c124_E n) }), (6, { ent := some (f69_E n) }), (7, { sh := some hI }), (8, { ent := some (f68_E n) })]⟩)], join := [], loop := [] }
theorem f55_ents (α : Type) (n : Nat) : AllS Tryz.prog (entsOf (f55_D α n).reg) := ⟨f98_ok n, f123c124_ok n, f69_ok n, f68_ok n, trivial⟩
theorem f55_d (α : Type) (n : Nat) : D3.OK Tryz.prog (tyOf Tryz.prog) ⟨14, []⟩ (f55_D α n) (bodyOf Tryz.f55) :=
 D3.OK.mk3 (f55_ents α n) (show loopsOf (bodyOf Tryz.f55) = [] by kernel_rfl) trivial
theorem f55_ok (n : Nat) : (f55_E n).Sound Tryz.prog :=
 fn_ok (tyOf_ok _) prog_fol (f55_D _ n) (show Tryz.prog.funcs[55]? = some Tryz.f55 by kernel_rfl) (by kernel_rfl) (show Tryz.f55.body = some (bodyOf Tryz.f55) by kernel_rfl) rfl rfl (Nat.le_of_ble_eq_true rfl) (f55_d _ n) (by intro x; kernel_rfl) 

def f49 (n : Nat) (a0 a1 : LR) : Option Int :=
 ob (f98 n [a0, a1]) fun r_1 =>
 ob (f109 n a1) fun r_2 =>
 ob (f69 n r_2 1) fun r_3 =>
 ob (f55 n (a1.length : Int) [a0]) fun r_4 =>
 ob (f68 n [r_1, r_3, r_4]) fun r_5 =>
 some r_5
def f49_E (n : Nat) : Ent := ⟨49, [hRs, hRs], [hI], fun x => f49 n x.1 x.2⟩
def f49_D (α : Type) (n : Nat) : D3 α := { reg := [(1, ⟨0, [], [(2, { sh := some hRs }), (3, { ent := some (f98_E n) }), (5, { ent := some (f109_E n) }), (6, { ent := some (f69_E n) }), (10, { sh := some hRs }), (11, { ent := some (f55_E n) }), (12, { sh := some hI }), (13, { ent := some (f68_E n) })]⟩)], join := [], loop := [] }
theorem f49_ents (α : Type) (n : Nat) : AllS Tryz.prog (entsOf (f49_D α n).reg) := ⟨f98_ok n, f109_ok n, f69_ok n, f55_ok n, f68_ok n, trivial⟩
theorem f49_d (α : Type) (n : Nat) : D3.OK Tryz.prog (tyOf Tryz.prog) ⟨19, []⟩ (f49_D α n) (bodyOf Tryz.f49) :=
 D3.OK.mk3 (f49_ents α n) (show loopsOf (bodyOf Tryz.f49) = [] by kernel_rfl) trivial
theorem f49_ok (n : Nat) : (f49_E n).Sound Tryz.prog :=
 fn_ok (tyOf_ok _) prog_fol (f49_D _ n) (show Tryz.prog.funcs[49]? = some Tryz.f49 by kernel_rfl) (by kernel_rfl) (show Tryz.f49.body = some (bodyOf Tryz.f49) by kernel_rfl) rfl rfl (Nat.le_of_ble_eq_true rfl) (f49_d _ n) (by intro x; kernel_rfl) 

def f128B (n : Nat) (a0 : LR) : Option LR :=
 gd ((!a0.isEmpty)) (
  gd (decide ((0 + a0.length) * 56 ≤ 140737488355328)) (
   some a0))
def f128B_E (n : Nat) : Ent3 := ⟨128, [.im hRs], [[.one (.own 30 hR)]], fun x => f128B n x⟩
def f128B_D (α : Type) (n : Nat) : D3 α := { reg := [(3, ⟨0, [], [(0, { sh := some hR })]⟩)], join := [], loop := [] }
theorem f128B_ents (α : Type) (n : Nat) : AllS Tryz.prog (entsOf (f128B_D α n).reg) := trivial
theorem f128B_d (α : Type) (n : Nat) : D3.OK Tryz.prog (tyOf Tryz.prog) ⟨8, []⟩ (f128B_D α n) (bodyOf Tryz.f128) :=
 D3.OK.mk3 (f128B_ents α n) (show loopsOf (bodyOf Tryz.f128) = [] by kernel_rfl) trivial
theorem f128B_ok (n : Nat) : (f128B_E n).Sound Tryz.prog :=
 fn_okB (tyOf_ok _) prog_fol (f128B_D _ n) (show Tryz.prog.funcs[128]? = some Tryz.f128 by kernel_rfl) (by kernel_rfl) (show Tryz.f128.body = some (bodyOf Tryz.f128) by kernel_rfl) rfl rfl (Nat.le_of_ble_eq_true rfl) (f128B_d _ n) (by intro x; kernel_rfl) 

def f58B1_L3B {α : Type} (n : Nat) (s0 : LR) (s1 : Int) (s2 : LR) (s11 s12 : Int) (b10 : List LR) (f : LR → Int → LR → Int → Int → (List LR) → Option α) (k0 : (List LR) → Option α) : Option α :=
 bif (decide (s12 < s11)) then
  gd (decide (0 ≤ (W (s12 * s1))) && decide ((W (s12 * s1)) ≤ (W ((W (s12 + 1)) * s1))) && decide ((W ((W (s12 + 1)) * s1)) ≤ (s0.length : Int))) (
   ob (f128B n ((s0.drop ((W (s12 * s1)).toNat)).take ((W ((W (s12 + 1)) * s1)).toNat - (W (s12 * s1)).toNat))) fun r_1 =>
   gd ((!s2.isEmpty)) (
    gd (decide (0 ≤ s12) && decide (s12 < (s2.length : Int))) (
     let x_2 := s2.getD s12.toNat (false, [], [])
     gd (decide ((r_1.length + 1) * 56 ≤ 140737488355328)) (
      gd (decide ((b10.length + 1) * 24 ≤ 140737488355328)) (
       f s0 s1 s2 s11 (W (s12 + 1)) (b10 ++ [(r_1 ++ [x_2])]))))))
 else
  k0 b10
abbrev f58B1_L3H : Tm := ⟨[(0, .d hRs), (1, .d hI), (2, .d hRs), (7, .k (.hw 10)), (11, .d hI), (12, .d hI)], [(10, .arr 24 hRs false)], [32, 36, 310], []⟩
abbrev f58B1_L3X0 : Tm := ⟨[(7, .k (.hw 10))], [(10, .arr 24 hRs false)], [], []⟩
abbrev f58B1_L3O : List (Exit × Tm) := [(.exit 0, f58B1_L3X0)]
def f58B1_L3U {α : Type} (n : Nat) (v : f58B1_L3H.den) (f : f58B1_L3H.den → Option α) (ks : KS α f58B1_L3O) : Option α := f58B1_L3B n v.1.1 v.1.2.1 v.1.2.2.1 v.1.2.2.2.2.1 v.1.2.2.2.2.2.1 v.2.1 (fun s0 s1 s2 s11 s12 b10 => f ((s0, s1, s2, (), s11, s12, ()), (b10, ()))) (fun w0 => ks.1 (((), ()), (w0, ())))
def f58B1_L3 {α : Type} (n m : Nat) (s0 : LR) (s1 : Int) (s2 : LR) (s11 s12 : Int) (b10 : List LR) (k0 : (List LR) → Option α) : Option α := rounds (f58B1_L3U n) m ((s0, s1, s2, (), s11, s12, ()), (b10, ())) (fun w => k0 w.2.1, ())
theorem f58B1_L3_0 {α n s0 s1 s2 s11 s12 b10 k0} : f58B1_L3 (α := α) n 0 s0 s1 s2 s11 s12 b10 k0 = none := rfl
theorem f58B1_L3_s {α n m s0 s1 s2 s11 s12 b10 k0} : f58B1_L3 (α := α) n (m + 1) s0 s1 s2 s11 s12 b10 k0 = f58B1_L3B n s0 s1 s2 s11 s12 b10 (fun s0 s1 s2 s11 s12 b10 => f58B1_L3 n m s0 s1 s2 s11 s12 b10 k0) k0 := rfl
def f58B1 (n : Nat) (a0 : LR) (a1 : Int) (a2 : LR) : Option (List LR) :=
 f58B1_L3 n n a0 a1 a2 a1 0 []
  (fun z_3 => (
   some z_3))
def f58B1_E (n : Nat) : Ent3 := ⟨58, [.im hRs, .im hI, .im hRs], [[.one (.own 24 hRs)]], fun x => f58B1 n x.1 x.2.1 x.2.2⟩
def f58B1_D (α : Type) (n : Nat) : D3 α := { reg := [(1, ⟨0, [], [(0, { sh := some hRs })]⟩), (5, ⟨0, [], [(9, { entB := some (f128B_E n), hb := 310 })]⟩), (7, ⟨0, [], [(5, { sh := some hR })]⟩), (8, ⟨0, [], [(2, { sh := some hRs, fz := [(35, hRs)] })]⟩)], join := [], loop := [(3, ⟨f58B1_L3H, f58B1_L3O, rounds (f58B1_L3U n) n⟩)] }
theorem f58B1_ents (α : Type) (n : Nat) : AllS Tryz.prog (entsOf (f58B1_D α n).reg) := ⟨f128B_ok n, trivial⟩
theorem f58B1_L3_d (α : Type) (n : Nat) : D3.OK Tryz.prog (tyOf Tryz.prog) ⟨40, []⟩ (f58B1_D α n) ((bodyOf Tryz.f58).at [1, 1, 0, 1, 0, 0]) :=
 D3.OK.mk3 (f58B1_ents α n) (show loopsOf ((bodyOf Tryz.f58).at [1, 1, 0, 1, 0, 0]) = [] by kernel_rfl) trivial
theorem f58B1_L3_ok (α : Type) (n : Nat) : LO.Sound (α := α) Tryz.prog ⟨40, []⟩ ⟨f58B1_L3H, f58B1_L3O, rounds (f58B1_L3U n) n⟩ (.loop ((bodyOf Tryz.f58).at [1, 1, 0, 1, 0, 0])) :=
 loop_ok (tyOf_ok _) prog_fol (f58B1_L3U n) (f58B1_L3_d α n) (by intro v f ks; kernel_rfl) n
theorem f58B1_d (α : Type) (n : Nat) : D3.OK Tryz.prog (tyOf Tryz.prog) ⟨40, []⟩ (f58B1_D α n) (bodyOf Tryz.f58) :=
 D3.OK.mk3 (f58B1_ents α n) (show loopsOf (bodyOf Tryz.f58) = [(3, (.loop ((bodyOf Tryz.f58).at [1, 1, 0, 1, 0, 0])))] by kernel_rfl) ⟨look_sound rfl (f58B1_L3_ok α n), trivial⟩
theorem f58B1_ok (n : Nat) : (f58B1_E n).Sound Tryz.prog :=
 fn_okB (tyOf_ok _) prog_fol (f58B1_D _ n) (show Tryz.prog.funcs[58]? = some Tryz.f58 by kernel_rfl) (by kernel_rfl) (show Tryz.f58.body = some (bodyOf Tryz.f58) by kernel_rfl) rfl rfl (Nat.le_of_ble_eq_true rfl) (f58B1_d _ n) (by intro x; kernel_rfl) 

def f92 (n : Nat) (a0 : Int) : Option Rq :=
 bif (decide (a0 < 0)) then
  ob (f160 n (W (0 - a0))) fun r_1 =>
  ob (f161 n) fun r_2 =>
  some (true, r_1, r_2)
 else
  ob (f160 n a0) fun r_3 =>
  ob (f161 n) fun r_4 =>
  some (false, r_3, r_4)
def f92_E (n : Nat) : Ent := ⟨92, [hI], [hR], fun x => f92 n x⟩
def f92_D (α : Type) (n : Nat) : D3 α := { reg := [(2, ⟨0, [], [(2, { ent := some (f160_E n) }), (3, { ent := some (f161_E n) })]⟩), (3, ⟨0, [], [(1, { ent := some (f160_E n) }), (2, { ent := some (f161_E n) })]⟩)], join := [], loop := [] }
theorem f92_ents (α : Type) (n : Nat) : AllS Tryz.prog (entsOf (f92_D α n).reg) := ⟨f160_ok n, f161_ok n, f160_ok n, f161_ok n, trivial⟩
theorem f92_d (α : Type) (n : Nat) : D3.OK Tryz.prog (tyOf Tryz.prog) ⟨14, []⟩ (f92_D α n) (bodyOf Tryz.f92) :=
 D3.OK.mk3 (f92_ents α n) (show loopsOf (bodyOf Tryz.f92) = [] by kernel_rfl) trivial
theorem f92_ok (n : Nat) : (f92_E n).Sound Tryz.prog :=
 fn_ok (tyOf_ok _) prog_fol (f92_D _ n) (show Tryz.prog.funcs[92]? = some Tryz.f92 by kernel_rfl) (by kernel_rfl) (show Tryz.f92.body = some (bodyOf Tryz.f92) by kernel_rfl) rfl rfl (Nat.le_of_ble_eq_true rfl) (f92_d _ n) (by intro x; kernel_rfl) 

def f127 (n : Nat) (a0 : LR) (a1 : Int) : Option Bool :=
 gd (decide (0 ≤ a1) && decide (a1 < (a0.length : Int))) (
  let x_1 := a0.getD a1.toNat (false, [], [])
  ob (f74 n x_1) fun r_2 =>
  some (!r_2))
def f127_E (n : Nat) : Ent := ⟨127, [hRs, (.ref hI)], [.bool], fun x => f127 n x.1 x.2⟩
def f127_D (α : Type) (n : Nat) : D3 α := { reg := [(1, ⟨0, [], [(4, { ent := some (f74_E n) })]⟩)], join := [], loop := [] }
theorem f127_ents (α : Type) (n : Nat) : AllS Tryz.prog (entsOf (f127_D α n).reg) := ⟨f74_ok n, trivial⟩
theorem f127_d (α : Type) (n : Nat) : D3.OK Tryz.prog (tyOf Tryz.prog) ⟨10, []⟩ (f127_D α n) (bodyOf Tryz.f127) :=
 D3.OK.mk3 (f127_ents α n) (show loopsOf (bodyOf Tryz.f127) = [] by kernel_rfl) trivial
theorem f127_ok (n : Nat) : (f127_E n).Sound Tryz.prog :=
 fn_ok (tyOf_ok _) prog_fol (f127_D _ n) (show Tryz.prog.funcs[127]? = some Tryz.f127 by kernel_rfl) (by kernel_rfl) (show Tryz.f127.body = some (bodyOf Tryz.f127) by kernel_rfl) rfl rfl (Nat.le_of_ble_eq_true rfl) (f127_d _ n) (by intro x; kernel_rfl) 

def f126c127_L2B {α : Type} (n : Nat) (s0 : List LR) (s1 s7 s8 : Int) (f : (List LR) → Int → Int → Int → Option α) (k0 : Int → Option α) (k1 : Unit → Option α) : Option α :=
 bif (decide (s8 < s7)) then
  gd (decide (0 ≤ s8) && decide (s8 < (s0.length : Int))) (
   ob (f127 n (s0.getD s8.toNat []) s1) fun r_1 =>
   bif r_1 then
    k0 s8
   else
    f s0 s1 s7 (W (s8 + 1)))
 else
  k1 ()
abbrev f126c127_L2H : Tm := ⟨[(0, .d (.sl hRs)), (1, .d (.clo 127 (.ref hI))), (7, .d hI), (8, .d hI)], [], [], []⟩
abbrev f126c127_L2X0 : Tm := ⟨[(4, .d hI)], [], [], []⟩
abbrev f126c127_L2X1 : Tm := ⟨[], [], [], []⟩
abbrev f126c127_L2O : List (Exit × Tm) := [(.ret, f126c127_L2X0), (.exit 0, f126c127_L2X1)]
def f126c127_L2U {α : Type} (n : Nat) (v : f126c127_L2H.den) (f : f126c127_L2H.den → Option α) (ks : KS α f126c127_L2O) : Option α := f126c127_L2B n v.1.1 v.1.2.1 v.1.2.2.1 v.1.2.2.2.1 (fun s0 s1 s7 s8 => f ((s0, s1, s7, s8, ()), ())) (fun w0 => ks.1 ((w0, ()), ())) (fun _ => ks.2.1 ((), ()))
def f126c127_L2 {α : Type} (n m : Nat) (s0 : List LR) (s1 s7 s8 : Int) (k0 : Int → Option α) (k1 : Unit → Option α) : Option α := rounds (f126c127_L2U n) m ((s0, s1, s7, s8, ()), ()) (fun w => k0 w.1.1, fun w => k1 (), ())
theorem f126c127_L2_0 {α n s0 s1 s7 s8 k0 k1} : f126c127_L2 (α := α) n 0 s0 s1 s7 s8 k0 k1 = none := rfl
theorem f126c127_L2_s {α n m s0 s1 s7 s8 k0 k1} : f126c127_L2 (α := α) n (m + 1) s0 s1 s7 s8 k0 k1 = f126c127_L2B n s0 s1 s7 s8 (fun s0 s1 s7 s8 => f126c127_L2 n m s0 s1 s7 s8 k0 k1) k0 k1 := rfl
def f126c127 (n : Nat) (a0 : List LR) (a1 : Int) : Option Int :=
 f126c127_L2 n n a0 a1 (a0.length : Int) 0
  (fun z_2 => (
   some z_2))
  (fun (_ : Unit) => (
   some (-1)))
def f126c127_E (n : Nat) : Ent := ⟨126, [(.sl hRs), (.clo 127 (.ref hI))], [hI], fun x => f126c127 n x.1 x.2⟩
def f126c127_D (α : Type) (n : Nat) : D3 α := { reg := [(4, ⟨0, [], [(5, { ent := some (f127_E n) })]⟩)], join := [], loop := [(2, ⟨f126c127_L2H, f126c127_L2O, rounds (f126c127_L2U n) n⟩)] }
theorem f126c127_ents (α : Type) (n : Nat) : AllS Tryz.prog (entsOf (f126c127_D α n).reg) := ⟨f127_ok n, trivial⟩
theorem f126c127_L2_d (α : Type) (n : Nat) : D3.OK Tryz.prog (tyOf Tryz.prog) ⟨19, []⟩ (f126c127_D α n) ((bodyOf Tryz.f126).at [1, 0, 1, 0, 0]) :=
 D3.OK.mk3 (f126c127_ents α n) (show loopsOf ((bodyOf Tryz.f126).at [1, 0, 1, 0, 0]) = [] by kernel_rfl) trivial
theorem f126c127_L2_ok (α : Type) (n : Nat) : LO.Sound (α := α) Tryz.prog ⟨19, []⟩ ⟨f126c127_L2H, f126c127_L2O, rounds (f126c127_L2U n) n⟩ (.loop ((bodyOf Tryz.f126).at [1, 0, 1, 0, 0])) :=
 loop_ok (tyOf_ok _) prog_fol (f126c127_L2U n) (f126c127_L2_d α n) (by intro v f ks; kernel_rfl) n
theorem f126c127_d (α : Type) (n : Nat) : D3.OK Tryz.prog (tyOf Tryz.prog) ⟨19, []⟩ (f126c127_D α n) (bodyOf Tryz.f126) :=
 D3.OK.mk3 (f126c127_ents α n) (show loopsOf (bodyOf Tryz.f126) = [(2, (.loop ((bodyOf Tryz.f126).at [1, 0, 1, 0, 0])))] by kernel_rfl) ⟨look_sound rfl (f126c127_L2_ok α n), trivial⟩
theorem f126c127_ok (n : Nat) : (f126c127_E n).Sound Tryz.prog :=
 fn_ok (tyOf_ok _) prog_fol (f126c127_D _ n) (show Tryz.prog.funcs[126]? = some Tryz.f126 by kernel_rfl) (by kernel_rfl) (show Tryz.f126.body = some (bodyOf Tryz.f126) by kernel_rfl) rfl rfl (Nat.le_of_ble_eq_true rfl) (f126c127_d _ n) (by intro x; kernel_rfl) 

def f77 (n : Nat) (a0 : Rq) : Option Rq :=
 bif (!a0.1) then
  ob (f74 n a0) fun r_1 =>
  ob (f145 n a0.2.1) fun r_2 =>
  ob (f145 n a0.2.2) fun r_3 =>
  some ((!r_1), r_2, r_3)
 else
  ob (f145 n a0.2.1) fun r_4 =>
  ob (f145 n a0.2.2) fun r_5 =>
  some (false, r_4, r_5)
def f77_E (n : Nat) : Ent := ⟨77, [hR], [hR], fun x => f77 n x⟩
def f77_D (α : Type) (n : Nat) : D3 α := { reg := [(1, ⟨14, [], [(5, { ent := some (f74_E n) }), (10, { ent := some (f145_E n) }), (13, { ent := some (f145_E n) })]⟩)], join := [], loop := [] }
theorem f77_ents (α : Type) (n : Nat) : AllS Tryz.prog (entsOf (f77_D α n).reg) := ⟨f74_ok n, f145_ok n, f145_ok n, trivial⟩
theorem f77_d (α : Type) (n : Nat) : D3.OK Tryz.prog (tyOf Tryz.prog) ⟨18, []⟩ (f77_D α n) (bodyOf Tryz.f77) :=
 D3.OK.mk3 (f77_ents α n) (show loopsOf (bodyOf Tryz.f77) = [] by kernel_rfl) trivial
theorem f77_ok (n : Nat) : (f77_E n).Sound Tryz.prog :=
 fn_ok (tyOf_ok _) prog_fol (f77_D _ n) (show Tryz.prog.funcs[77]? = some Tryz.f77 by kernel_rfl) (by kernel_rfl) (show Tryz.f77.body = some (bodyOf Tryz.f77) by kernel_rfl) rfl rfl (Nat.le_of_ble_eq_true rfl) (f77_d _ n) (by intro x; kernel_rfl) 

def f143_L7B {α : Type} (n : Nat) (s1 : LI) (s6 s7 s8 s9 : Int) (s16 : LI) (s17 s18 : Int) (b15 : LI) (f : LI → Int → Int → Int → Int → LI → Int → Int → LI → Option α) (k0 : LI → LI → Int → Int → LI → Option α) : Option α :=
 let J_3 := fun (_ : Unit) => (
  let J_2 := fun (y_1 : Int) => (
   gd (decide (0 ≤ (W (s6 + s9))) && decide ((W (s6 + s9)) < (b15.length : Int))) (
    gd (decide ((W (s6 + s9)).toNat < b15.length)) (
     gd (decide (0 ≤ (W (s6 + s9))) && decide ((W (s6 + s9)) < (b15.length : Int))) (
      gd (decide ((W (s6 + s9)).toNat < b15.length)) (
       f s1 s6 s7 (W (Int.tdiv (W (y_1 + (b15.getD ((W (s6 + s9)).toNat) 0))) 10000)) (W (s9 + 1)) s16 s17 s18 (b15.set ((W (s6 + s9)).toNat) (Int.tmod (W (y_1 + (b15.getD ((W (s6 + s9)).toNat) 0))) 10000)))))))
  bif (decide (s9 < (s1.length : Int))) then
   gd (decide (0 ≤ s9) && decide (s9 < (s1.length : Int))) (
    J_2 (W (s8 + (W (s7 * (s1.getD s9.toNat 0))))))
  else
   J_2 s8)
 bif (decide (s9 < (s1.length : Int))) then
  J_3 ()
 else
  bif (decide (s8 > 0)) then
   J_3 ()
  else
   k0 s1 s16 s17 s18 b15
abbrev f143_L7H : Tm := ⟨[(1, .d hIs), (5, .k (.hw 15)), (6, .d hI), (7, .d hI), (8, .d hI), (9, .d hI), (16, .d hIs), (17, .d hI), (18, .d hI)], [(15, .arr 3 hI false)], [], []⟩
abbrev f143_L7X0 : Tm := ⟨[(1, .d hIs), (5, .k (.hw 15)), (16, .d hIs), (17, .d hI), (18, .d hI)], [(15, .arr 3 hI false)], [], []⟩
abbrev f143_L7O : List (Exit × Tm) := [(.exit 2, f143_L7X0)]
def f143_L7U {α : Type} (n : Nat) (v : f143_L7H.den) (f : f143_L7H.den → Option α) (ks : KS α f143_L7O) : Option α := f143_L7B n v.1.1 v.1.2.2.1 v.1.2.2.2.1 v.1.2.2.2.2.1 v.1.2.2.2.2.2.1 v.1.2.2.2.2.2.2.1 v.1.2.2.2.2.2.2.2.1 v.1.2.2.2.2.2.2.2.2.1 v.2.1 (fun s1 s6 s7 s8 s9 s16 s17 s18 b15 => f ((s1, (), s6, s7, s8, s9, s16, s17, s18, ()), (b15, ()))) (fun w0 w1 w2 w3 w4 => ks.1 ((w0, (), w1, w2, w3, ()), (w4, ())))
def f143_L7 {α : Type} (n m : Nat) (s1 : LI) (s6 s7 s8 s9 : Int) (s16 : LI) (s17 s18 : Int) (b15 : LI) (k0 : LI → LI → Int → Int → LI → Option α) : Option α := rounds (f143_L7U n) m ((s1, (), s6, s7, s8, s9, s16, s17, s18, ()), (b15, ())) (fun w => k0 w.1.1 w.1.2.2.1 w.1.2.2.2.1 w.1.2.2.2.2.1 w.2.1, ())
theorem f143_L7_0 {α n s1 s6 s7 s8 s9 s16 s17 s18 b15 k0} : f143_L7 (α := α) n 0 s1 s6 s7 s8 s9 s16 s17 s18 b15 k0 = none := rfl
theorem f143_L7_s {α n m s1 s6 s7 s8 s9 s16 s17 s18 b15 k0} : f143_L7 (α := α) n (m + 1) s1 s6 s7 s8 s9 s16 s17 s18 b15 k0 = f143_L7B n s1 s6 s7 s8 s9 s16 s17 s18 b15 (fun s1 s6 s7 s8 s9 s16 s17 s18 b15 => f143_L7 n m s1 s6 s7 s8 s9 s16 s17 s18 b15 k0) k0 := rfl
def f143_L3B {α : Type} (n : Nat) (s1 s16 : LI) (s17 s18 : Int) (b15 : LI) (f : LI → LI → Int → Int → LI → Option α) (k0 : LI → Option α) : Option α :=
 bif (decide (s18 < s17)) then
  gd (decide (0 ≤ s18) && decide (s18 < (s16.length : Int))) (
   f143_L7 n n s1 s18 (s16.getD s18.toNat 0) 0 0 s16 s17 s18 b15
    (fun z_1 z_2 z_3 z_4 z_5 => (
     f z_1 z_2 z_3 (W (z_4 + 1)) z_5)))
 else
  k0 b15
abbrev f143_L3H : Tm := ⟨[(1, .d hIs), (5, .k (.hw 15)), (16, .d hIs), (17, .d hI), (18, .d hI)], [(15, .arr 3 hI false)], [], []⟩
abbrev f143_L3X0 : Tm := ⟨[(5, .k (.hw 15))], [(15, .arr 3 hI false)], [], []⟩
abbrev f143_L3O : List (Exit × Tm) := [(.exit 0, f143_L3X0)]
def f143_L3U {α : Type} (n : Nat) (v : f143_L3H.den) (f : f143_L3H.den → Option α) (ks : KS α f143_L3O) : Option α := f143_L3B n v.1.1 v.1.2.2.1 v.1.2.2.2.1 v.1.2.2.2.2.1 v.2.1 (fun s1 s16 s17 s18 b15 => f ((s1, (), s16, s17, s18, ()), (b15, ()))) (fun w0 => ks.1 (((), ()), (w0, ())))
def f143_L3 {α : Type} (n m : Nat) (s1 s16 : LI) (s17 s18 : Int) (b15 : LI) (k0 : LI → Option α) : Option α := rounds (f143_L3U n) m ((s1, (), s16, s17, s18, ()), (b15, ())) (fun w => k0 w.2.1, ())
theorem f143_L3_0 {α n s1 s16 s17 s18 b15 k0} : f143_L3 (α := α) n 0 s1 s16 s17 s18 b15 k0 = none := rfl
theorem f143_L3_s {α n m s1 s16 s17 s18 b15 k0} : f143_L3 (α := α) n (m + 1) s1 s16 s17 s18 b15 k0 = f143_L3B n s1 s16 s17 s18 b15 (fun s1 s16 s17 s18 b15 => f143_L3 n m s1 s16 s17 s18 b15 k0) k0 := rfl
abbrev f143_J9 : Tm := ⟨[(1, .d hIs), (5, .k (.hw 15)), (6, .d hI), (7, .d hI), (8, .d hI), (9, .d hI), (16, .d hIs), (17, .d hI), (18, .d hI)], [(15, .arr 3 hI false)], [], []⟩
abbrev f143_J11 : Tm := ⟨[(1, .d hIs), (5, .k (.hw 15)), (6, .d hI), (7, .d hI), (8, .d hI), (9, .d hI), (16, .d hIs), (17, .d hI), (18, .d hI)], [(15, .arr 3 hI false)], [], []⟩
def f143 (n : Nat) (a0 a1 : LI) : Option LI :=
 gd (decide (0 ≤ (W ((a0.length : Int) + (a1.length : Int)))) && decide ((W ((a0.length : Int) + (a1.length : Int))) ≤ 4611686018427387904) && decide ((8 : Int) * (W ((a0.length : Int) + (a1.length : Int))) ≤ 281474976710656)) (
  f143_L3 n n a1 a0 (a0.length : Int) 0 (List.replicate ((W ((a0.length : Int) + (a1.length : Int))).toNat) 0)
   (fun z_6 => (
    ob (f185 n z_6) fun r_7 =>
    some r_7)))
def f143_E (n : Nat) : Ent := ⟨143, [hIs, hIs], [hIs], fun x => f143 n x.1 x.2⟩
def f143_D (α : Type) (n : Nat) : D3 α := { reg := [(14, ⟨0, [], [(1, { ent := some (f185_E n), fz := [(63, hIs)] })]⟩)], join := [(9, f143_J9), (11, f143_J11)], loop := [(7, ⟨f143_L7H, f143_L7O, rounds (f143_L7U n) n⟩), (3, ⟨f143_L3H, f143_L3O, rounds (f143_L3U n) n⟩)] }
theorem f143_ents (α : Type) (n : Nat) : AllS Tryz.prog (entsOf (f143_D α n).reg) := ⟨f185_ok n, trivial⟩
theorem f143_L7_d (α : Type) (n : Nat) : D3.OK Tryz.prog (tyOf Tryz.prog) ⟨65, []⟩ (f143_D α n) ((bodyOf Tryz.f143).at [1, 1, 0, 1, 0, 0, 1, 1, 0, 0, 1, 1, 1, 0, 0]) :=
 D3.OK.mk3 (f143_ents α n) (show loopsOf ((bodyOf Tryz.f143).at [1, 1, 0, 1, 0, 0, 1, 1, 0, 0, 1, 1, 1, 0, 0]) = [] by kernel_rfl) trivial
theorem f143_L7_ok (α : Type) (n : Nat) : LO.Sound (α := α) Tryz.prog ⟨65, []⟩ ⟨f143_L7H, f143_L7O, rounds (f143_L7U n) n⟩ (.loop ((bodyOf Tryz.f143).at [1, 1, 0, 1, 0, 0, 1, 1, 0, 0, 1, 1, 1, 0, 0])) :=
 loop_ok (tyOf_ok _) prog_fol (f143_L7U n) (f143_L7_d α n) (by intro v f ks; kernel_rfl) n
theorem f143_L3_d (α : Type) (n : Nat) : D3.OK Tryz.prog (tyOf Tryz.prog) ⟨65, []⟩ (f143_D α n) ((bodyOf Tryz.f143).at [1, 1, 0, 1, 0, 0]) :=
 D3.OK.mk3 (f143_ents α n) (show loopsOf ((bodyOf Tryz.f143).at [1, 1, 0, 1, 0, 0]) = [(7, (.loop ((bodyOf Tryz.f143).at [1, 1, 0, 1, 0, 0, 1, 1, 0, 0, 1, 1, 1, 0, 0])))] by kernel_rfl) ⟨look_sound rfl (f143_L7_ok α n), trivial⟩
theorem f143_L3_ok (α : Type) (n : Nat) : LO.Sound (α := α) Tryz.prog ⟨65, []⟩ ⟨f143_L3H, f143_L3O, rounds (f143_L3U n) n⟩ (.loop ((bodyOf Tryz.f143).at [1, 1, 0, 1, 0, 0])) :=
 loop_ok (tyOf_ok _) prog_fol (f143_L3U n) (f143_L3_d α n) (by intro v f ks; kernel_rfl) n
theorem f143_d (α : Type) (n : Nat) : D3.OK Tryz.prog (tyOf Tryz.prog) ⟨65, []⟩ (f143_D α n) (bodyOf Tryz.f143) :=
 D3.OK.mk3 (f143_ents α n) (show loopsOf (bodyOf Tryz.f143) = [(3, (.loop ((bodyOf Tryz.f143).at [1, 1, 0, 1, 0, 0])))] by kernel_rfl) ⟨look_sound rfl (f143_L3_ok α n), trivial⟩
theorem f143_ok (n : Nat) : (f143_E n).Sound Tryz.prog :=
 fn_ok (tyOf_ok _) prog_fol (f143_D _ n) (show Tryz.prog.funcs[143]? = some Tryz.f143 by kernel_rfl) (by kernel_rfl) (show Tryz.f143.body = some (bodyOf Tryz.f143) by kernel_rfl) rfl rfl (Nat.le_of_ble_eq_true rfl) (f143_d _ n) (by intro x; kernel_rfl) 

abbrev f142_J5 : Tm := ⟨[(0, .d .bool), (1, .d hIs), (2, .d hIs), (6, .k (.hp 6 0 0))], [(6, .var 30 true false [.d .bool, .d .nil, .d .nil])], [], []⟩
def f142 (n : Nat) (a0 : Bool) (a1 a2 : LI) : Option Rq :=
 let J_12 := fun (y_6 : LI) (y_7 : LI) => (
  bif a0 then
   ob (f145 n y_6) fun r_8 =>
   ob (f145 n y_7) fun r_9 =>
   some ((decide ((y_6.length : Int) > 0)), r_8, r_9)
  else
   ob (f145 n y_6) fun r_10 =>
   ob (f145 n y_7) fun r_11 =>
   some (false, r_10, r_11))
 ob (f183 n a1 a2) fun r_1 =>
 ob (f161 n) fun r_2 =>
 ob (f170 n r_1 r_2) fun r_3 =>
 bif (r_3 != 0) then
  ob (f184 n a1 r_1) fun r_4 =>
  ob (f184 n a2 r_1) fun r_5 =>
  J_12 r_4.1 r_5.1
 else
  J_12 a1 a2
def f142_E (n : Nat) : Ent := ⟨142, [.bool, hIs, hIs], [hR], fun x => f142 n x.1 x.2.1 x.2.2⟩
def f142_D (α : Type) (n : Nat) : D3 α := { reg := [(1, ⟨0, [], [(2, { ent := some (f183_E n) })]⟩), (2, ⟨0, [], [(1, { ent := some (f161_E n) }), (2, { ent := some (f170_E n) })]⟩), (3, ⟨0, [], [(2, { ent := some (f184_E n) })]⟩), (4, ⟨0, [], [(2, { ent := some (f184_E n) })]⟩), (5, ⟨0, [], [(7, { ent := some (f145_E n) }), (9, { ent := some (f145_E n) })]⟩)], join := [(5, f142_J5)], loop := [] }
theorem f142_ents (α : Type) (n : Nat) : AllS Tryz.prog (entsOf (f142_D α n).reg) := ⟨f183_ok n, f161_ok n, f170_ok n, f184_ok n, f184_ok n, f145_ok n, f145_ok n, trivial⟩
theorem f142_d (α : Type) (n : Nat) : D3.OK Tryz.prog (tyOf Tryz.prog) ⟨38, []⟩ (f142_D α n) (bodyOf Tryz.f142) :=
 D3.OK.mk3 (f142_ents α n) (show loopsOf (bodyOf Tryz.f142) = [] by kernel_rfl) trivial
theorem f142_ok (n : Nat) : (f142_E n).Sound Tryz.prog :=
 fn_ok (tyOf_ok _) prog_fol (f142_D _ n) (show Tryz.prog.funcs[142]? = some Tryz.f142 by kernel_rfl) (by kernel_rfl) (show Tryz.f142.body = some (bodyOf Tryz.f142) by kernel_rfl) rfl rfl (Nat.le_of_ble_eq_true rfl) (f142_d _ n) (by intro x; kernel_rfl) 

def f103 (n : Nat) (a0 a1 : Rq) : Option Rq :=
 ob (f143 n a0.2.1 a1.2.1) fun r_1 =>
 ob (f143 n a0.2.2 a1.2.2) fun r_2 =>
 ob (f142 n (!(a0.1 == a1.1)) r_1 r_2) fun r_3 =>
 some r_3
def f103_E (n : Nat) : Ent := ⟨103, [hR, hR], [hR], fun x => f103 n x.1 x.2⟩
def f103_D (α : Type) (n : Nat) : D3 α := { reg := [(1, ⟨15, [], [(9, { ent := some (f143_E n) }), (14, { ent := some (f143_E n) }), (15, { ent := some (f142_E n) })]⟩)], join := [], loop := [] }
theorem f103_ents (α : Type) (n : Nat) : AllS Tryz.prog (entsOf (f103_D α n).reg) := ⟨f143_ok n, f143_ok n, f142_ok n, trivial⟩
theorem f103_d (α : Type) (n : Nat) : D3.OK Tryz.prog (tyOf Tryz.prog) ⟨21, []⟩ (f103_D α n) (bodyOf Tryz.f103) :=
 D3.OK.mk3 (f103_ents α n) (show loopsOf (bodyOf Tryz.f103) = [] by kernel_rfl) trivial
theorem f103_ok (n : Nat) : (f103_E n).Sound Tryz.prog :=
 fn_ok (tyOf_ok _) prog_fol (f103_D _ n) (show Tryz.prog.funcs[103]? = some Tryz.f103 by kernel_rfl) (by kernel_rfl) (show Tryz.f103.body = some (bodyOf Tryz.f103) by kernel_rfl) rfl rfl (Nat.le_of_ble_eq_true rfl) (f103_d _ n) (by intro x; kernel_rfl) 

def f75 (n : Nat) (a0 a1 : Rq) : Option Rq :=
 ob (f143 n a0.2.1 a1.2.2) fun r_1 =>
 ob (f143 n a0.2.2 a1.2.1) fun r_2 =>
 ob (f142 n (!(a0.1 == a1.1)) r_1 r_2) fun r_3 =>
 some r_3
def f75_E (n : Nat) : Ent := ⟨75, [hR, hR], [hR], fun x => f75 n x.1 x.2⟩
def f75_D (α : Type) (n : Nat) : D3 α := { reg := [(1, ⟨15, [], [(9, { ent := some (f143_E n) }), (14, { ent := some (f143_E n) }), (15, { ent := some (f142_E n) })]⟩)], join := [], loop := [] }
theorem f75_ents (α : Type) (n : Nat) : AllS Tryz.prog (entsOf (f75_D α n).reg) := ⟨f143_ok n, f143_ok n, f142_ok n, trivial⟩
theorem f75_d (α : Type) (n : Nat) : D3.OK Tryz.prog (tyOf Tryz.prog) ⟨21, []⟩ (f75_D α n) (bodyOf Tryz.f75) :=
 D3.OK.mk3 (f75_ents α n) (show loopsOf (bodyOf Tryz.f75) = [] by kernel_rfl) trivial
theorem f75_ok (n : Nat) : (f75_E n).Sound Tryz.prog :=
 fn_ok (tyOf_ok _) prog_fol (f75_D _ n) (show Tryz.prog.funcs[75]? = some Tryz.f75 by kernel_rfl) (by kernel_rfl) (show Tryz.f75.body = some (bodyOf Tryz.f75) by kernel_rfl) rfl rfl (Nat.le_of_ble_eq_true rfl) (f75_d _ n) (by intro x; kernel_rfl) 

def f169_L3B {α : Type} (n : Nat) (s0 s1 : LI) (s6 s7 : Int) (b8 : LI) (f : LI → LI → Int → Int → LI → Option α) (k0 : LI → Option α) : Option α :=
 let J_5 := fun (_ : Unit) => (
  let J_4 := fun (y_1 : Int) => (
   let J_3 := fun (y_2 : Int) => (
    gd (decide ((b8.length + 1) * 8 ≤ 140737488355328)) (
     f s0 s1 (W (Int.tdiv y_2 10000)) (W (s7 + 1)) (b8 ++ [(Int.tmod y_2 10000)])))
   bif (decide (s7 < (s1.length : Int))) then
    gd (decide (0 ≤ s7) && decide (s7 < (s1.length : Int))) (
     J_3 (W (y_1 + (s1.getD s7.toNat 0))))
   else
    J_3 y_1)
  bif (decide (s7 < (s0.length : Int))) then
   gd (decide (0 ≤ s7) && decide (s7 < (s0.length : Int))) (
    J_4 (W (s6 + (s0.getD s7.toNat 0))))
  else
   J_4 s6)
 bif (decide (s7 < (max (s0.length : Int) (s1.length : Int)))) then
  J_5 ()
 else
  bif (decide (s6 > 0)) then
   J_5 ()
  else
   k0 b8
abbrev f169_L3H : Tm := ⟨[(0, .d hIs), (1, .d hIs), (5, .k (.hw 8)), (6, .d hI), (7, .d hI)], [(8, .arr 3 hI false)], [45], []⟩
abbrev f169_L3X0 : Tm := ⟨[(5, .k (.hw 8))], [(8, .arr 3 hI false)], [], []⟩
abbrev f169_L3O : List (Exit × Tm) := [(.exit 0, f169_L3X0)]
def f169_L3U {α : Type} (n : Nat) (v : f169_L3H.den) (f : f169_L3H.den → Option α) (ks : KS α f169_L3O) : Option α := f169_L3B n v.1.1 v.1.2.1 v.1.2.2.2.1 v.1.2.2.2.2.1 v.2.1 (fun s0 s1 s6 s7 b8 => f ((s0, s1, (), s6, s7, ()), (b8, ()))) (fun w0 => ks.1 (((), ()), (w0, ())))
def f169_L3 {α : Type} (n m : Nat) (s0 s1 : LI) (s6 s7 : Int) (b8 : LI) (k0 : LI → Option α) : Option α := rounds (f169_L3U n) m ((s0, s1, (), s6, s7, ()), (b8, ())) (fun w => k0 w.2.1, ())
theorem f169_L3_0 {α n s0 s1 s6 s7 b8 k0} : f169_L3 (α := α) n 0 s0 s1 s6 s7 b8 k0 = none := rfl
theorem f169_L3_s {α n m s0 s1 s6 s7 b8 k0} : f169_L3 (α := α) n (m + 1) s0 s1 s6 s7 b8 k0 = f169_L3B n s0 s1 s6 s7 b8 (fun s0 s1 s6 s7 b8 => f169_L3 n m s0 s1 s6 s7 b8 k0) k0 := rfl
abbrev f169_J5 : Tm := ⟨[(0, .d hIs), (1, .d hIs), (5, .k (.hw 8)), (6, .d hI), (7, .d hI)], [(8, .arr 3 hI false)], [], []⟩
abbrev f169_J7 : Tm := ⟨[(0, .d hIs), (1, .d hIs), (5, .k (.hw 8)), (6, .d hI), (7, .d hI)], [(8, .arr 3 hI false)], [], []⟩
abbrev f169_J9 : Tm := ⟨[(0, .d hIs), (1, .d hIs), (5, .k (.hw 8)), (6, .d hI), (7, .d hI)], [(8, .arr 3 hI false)], [], []⟩
def f169 (n : Nat) (a0 a1 : LI) : Option LI :=
 f169_L3 n n a0 a1 0 0 []
  (fun z_6 => (
   some z_6))
def f169_E (n : Nat) : Ent := ⟨169, [hIs, hIs], [hIs], fun x => f169 n x.1 x.2⟩
def f169_D (α : Type) (n : Nat) : D3 α := { reg := [(1, ⟨0, [], [(0, { sh := some hI })]⟩), (9, ⟨0, [], [(3, { sh := some hI })]⟩)], join := [(5, f169_J5), (7, f169_J7), (9, f169_J9)], loop := [(3, ⟨f169_L3H, f169_L3O, rounds (f169_L3U n) n⟩)] }
theorem f169_ents (α : Type) (n : Nat) : AllS Tryz.prog (entsOf (f169_D α n).reg) := trivial
theorem f169_L3_d (α : Type) (n : Nat) : D3.OK Tryz.prog (tyOf Tryz.prog) ⟨50, []⟩ (f169_D α n) ((bodyOf Tryz.f169).at [1, 1, 0, 1, 0, 0]) :=
 D3.OK.mk3 (f169_ents α n) (show loopsOf ((bodyOf Tryz.f169).at [1, 1, 0, 1, 0, 0]) = [] by kernel_rfl) trivial
theorem f169_L3_ok (α : Type) (n : Nat) : LO.Sound (α := α) Tryz.prog ⟨50, []⟩ ⟨f169_L3H, f169_L3O, rounds (f169_L3U n) n⟩ (.loop ((bodyOf Tryz.f169).at [1, 1, 0, 1, 0, 0])) :=
 loop_ok (tyOf_ok _) prog_fol (f169_L3U n) (f169_L3_d α n) (by intro v f ks; kernel_rfl) n
theorem f169_d (α : Type) (n : Nat) : D3.OK Tryz.prog (tyOf Tryz.prog) ⟨50, []⟩ (f169_D α n) (bodyOf Tryz.f169) :=
 D3.OK.mk3 (f169_ents α n) (show loopsOf (bodyOf Tryz.f169) = [(3, (.loop ((bodyOf Tryz.f169).at [1, 1, 0, 1, 0, 0])))] by kernel_rfl) ⟨look_sound rfl (f169_L3_ok α n), trivial⟩
theorem f169_ok (n : Nat) : (f169_E n).Sound Tryz.prog :=
 fn_ok (tyOf_ok _) prog_fol (f169_D _ n) (show Tryz.prog.funcs[169]? = some Tryz.f169 by kernel_rfl) (by kernel_rfl) (show Tryz.f169.body = some (bodyOf Tryz.f169) by kernel_rfl) rfl rfl (Nat.le_of_ble_eq_true rfl) (f169_d _ n) (by intro x; kernel_rfl) 

def f171_L3B {α : Type} (n : Nat) (s1 : LI) (s6 s12 s13 : Int) (b310 : LI) (f : LI → Int → Int → Int → LI → Option α) (k0 : LI → Option α) : Option α :=
 bif (decide (s13 < s12)) then
  gd (decide (0 ≤ s13) && decide (s13 < (b310.length : Int))) (
   gd (decide (s13.toNat < b310.length)) (
    let J_3 := fun (y_2 : Int) => (
     bif (decide (y_2 < 0)) then
      gd (decide (0 ≤ s13) && decide (s13 < (b310.length : Int))) (
       gd (decide (s13.toNat < b310.length)) (
        f s1 1 s12 (W (s13 + 1)) (b310.set s13.toNat (W (y_2 + 10000)))))
     else
      gd (decide (0 ≤ s13) && decide (s13 < (b310.length : Int))) (
       gd (decide (s13.toNat < b310.length)) (
        f s1 0 s12 (W (s13 + 1)) (b310.set s13.toNat y_2))))
    bif (decide (s13 < (s1.length : Int))) then
     gd (decide (0 ≤ s13) && decide (s13 < (s1.length : Int))) (
      J_3 (W ((W ((b310.getD s13.toNat 0) - s6)) - (s1.getD s13.toNat 0))))
    else
     J_3 (W ((b310.getD s13.toNat 0) - s6))))
 else
  k0 b310
abbrev f171_L3H : Tm := ⟨[(1, .d hIs), (5, .k (.hw 310)), (6, .d hI), (12, .d hI), (13, .d hI)], [(310, .arr 3 hI false)], [], []⟩
abbrev f171_L3X0 : Tm := ⟨[(5, .k (.hw 310))], [(310, .arr 3 hI false)], [], []⟩
abbrev f171_L3O : List (Exit × Tm) := [(.exit 0, f171_L3X0)]
def f171_L3U {α : Type} (n : Nat) (v : f171_L3H.den) (f : f171_L3H.den → Option α) (ks : KS α f171_L3O) : Option α := f171_L3B n v.1.1 v.1.2.2.1 v.1.2.2.2.1 v.1.2.2.2.2.1 v.2.1 (fun s1 s6 s12 s13 b310 => f ((s1, (), s6, s12, s13, ()), (b310, ()))) (fun w0 => ks.1 (((), ()), (w0, ())))
def f171_L3 {α : Type} (n m : Nat) (s1 : LI) (s6 s12 s13 : Int) (b310 : LI) (k0 : LI → Option α) : Option α := rounds (f171_L3U n) m ((s1, (), s6, s12, s13, ()), (b310, ())) (fun w => k0 w.2.1, ())
theorem f171_L3_0 {α n s1 s6 s12 s13 b310 k0} : f171_L3 (α := α) n 0 s1 s6 s12 s13 b310 k0 = none := rfl
theorem f171_L3_s {α n m s1 s6 s12 s13 b310 k0} : f171_L3 (α := α) n (m + 1) s1 s6 s12 s13 b310 k0 = f171_L3B n s1 s6 s12 s13 b310 (fun s1 s6 s12 s13 b310 => f171_L3 n m s1 s6 s12 s13 b310 k0) k0 := rfl
abbrev f171_J8 : Tm := ⟨[(1, .d hIs), (5, .k (.hw 310)), (7, .d hI), (8, .d hI), (12, .d hI), (13, .d hI)], [(310, .arr 3 hI false)], [], []⟩
def f171 (n : Nat) (a0 a1 : LI) : Option LI :=
 ob (f145B n a0) fun r_1 =>
 f171_L3 n n a1 0 (r_1.length : Int) 0 r_1
  (fun z_4 => (
   ob (f185 n z_4) fun r_5 =>
   some r_5))
def f171_E (n : Nat) : Ent := ⟨171, [hIs, hIs], [hIs], fun x => f171 n x.1 x.2⟩
def f171_D (α : Type) (n : Nat) : D3 α := { reg := [(1, ⟨0, [], [(1, { entB := some (f145B_E n), hb := 310 })]⟩), (13, ⟨0, [], [(1, { ent := some (f185_E n), fz := [(41, hIs)] })]⟩)], join := [(8, f171_J8)], loop := [(3, ⟨f171_L3H, f171_L3O, rounds (f171_L3U n) n⟩)] }
theorem f171_ents (α : Type) (n : Nat) : AllS Tryz.prog (entsOf (f171_D α n).reg) := ⟨f145B_ok n, f185_ok n, trivial⟩
theorem f171_L3_d (α : Type) (n : Nat) : D3.OK Tryz.prog (tyOf Tryz.prog) ⟨43, []⟩ (f171_D α n) ((bodyOf Tryz.f171).at [1, 1, 0, 1, 0, 0]) :=
 D3.OK.mk3 (f171_ents α n) (show loopsOf ((bodyOf Tryz.f171).at [1, 1, 0, 1, 0, 0]) = [] by kernel_rfl) trivial
theorem f171_L3_ok (α : Type) (n : Nat) : LO.Sound (α := α) Tryz.prog ⟨43, []⟩ ⟨f171_L3H, f171_L3O, rounds (f171_L3U n) n⟩ (.loop ((bodyOf Tryz.f171).at [1, 1, 0, 1, 0, 0])) :=
 loop_ok (tyOf_ok _) prog_fol (f171_L3U n) (f171_L3_d α n) (by intro v f ks; kernel_rfl) n
theorem f171_d (α : Type) (n : Nat) : D3.OK Tryz.prog (tyOf Tryz.prog) ⟨43, []⟩ (f171_D α n) (bodyOf Tryz.f171) :=
 D3.OK.mk3 (f171_ents α n) (show loopsOf (bodyOf Tryz.f171) = [(3, (.loop ((bodyOf Tryz.f171).at [1, 1, 0, 1, 0, 0])))] by kernel_rfl) ⟨look_sound rfl (f171_L3_ok α n), trivial⟩
theorem f171_ok (n : Nat) : (f171_E n).Sound Tryz.prog :=
 fn_ok (tyOf_ok _) prog_fol (f171_D _ n) (show Tryz.prog.funcs[171]? = some Tryz.f171 by kernel_rfl) (by kernel_rfl) (show Tryz.f171.body = some (bodyOf Tryz.f171) by kernel_rfl) rfl rfl (Nat.le_of_ble_eq_true rfl) (f171_d _ n) (by intro x; kernel_rfl) 

def f104 (n : Nat) (a0 a1 : Rq) : Option Rq :=
 ob (f143 n a0.2.1 a1.2.2) fun r_1 =>
 ob (f143 n a1.2.1 a0.2.2) fun r_2 =>
 ob (f143 n a0.2.2 a1.2.2) fun r_3 =>
 bif (a0.1 == a1.1) then
  ob (f169 n r_1 r_2) fun r_4 =>
  ob (f142 n a0.1 r_4 r_3) fun r_5 =>
  some r_5
 else
  ob (f170 n r_1 r_2) fun r_6 =>
  bif (decide (r_6 ≥ 0)) then
   ob (f171 n r_1 r_2) fun r_7 =>
   ob (f142 n a0.1 r_7 r_3) fun r_8 =>
   some r_8
  else
   ob (f171 n r_2 r_1) fun r_9 =>
   ob (f142 n a1.1 r_9 r_3) fun r_10 =>
   some r_10
def f104_E (n : Nat) : Ent := ⟨104, [hR, hR], [hR], fun x => f104 n x.1 x.2⟩
def f104_D (α : Type) (n : Nat) : D3 α := { reg := [(1, ⟨9, [], [(4, { ent := some (f143_E n) }), (9, { ent := some (f143_E n) })]⟩), (2, ⟨0, [], [(4, { ent := some (f143_E n) })]⟩), (4, ⟨6, [], [(4, { ent := some (f169_E n) }), (6, { ent := some (f142_E n) })]⟩), (5, ⟨0, [], [(2, { ent := some (f170_E n) })]⟩), (6, ⟨6, [], [(4, { ent := some (f171_E n) }), (6, { ent := some (f142_E n) })]⟩), (7, ⟨6, [], [(4, { ent := some (f171_E n) }), (6, { ent := some (f142_E n) })]⟩)], join := [], loop := [] }
theorem f104_ents (α : Type) (n : Nat) : AllS Tryz.prog (entsOf (f104_D α n).reg) := ⟨f143_ok n, f143_ok n, f143_ok n, f169_ok n, f142_ok n, f170_ok n, f171_ok n, f142_ok n, f171_ok n, f142_ok n, trivial⟩
theorem f104_d (α : Type) (n : Nat) : D3.OK Tryz.prog (tyOf Tryz.prog) ⟨55, []⟩ (f104_D α n) (bodyOf Tryz.f104) :=
 D3.OK.mk3 (f104_ents α n) (show loopsOf (bodyOf Tryz.f104) = [] by kernel_rfl) trivial
theorem f104_ok (n : Nat) : (f104_E n).Sound Tryz.prog :=
 fn_ok (tyOf_ok _) prog_fol (f104_D _ n) (show Tryz.prog.funcs[104]? = some Tryz.f104 by kernel_rfl) (by kernel_rfl) (show Tryz.f104.body = some (bodyOf Tryz.f104) by kernel_rfl) rfl rfl (Nat.le_of_ble_eq_true rfl) (f104_d _ n) (by intro x; kernel_rfl) 

def f144 (n : Nat) (a0 : Int) (a1 : Rq) (a2 a3 : LR) : Option Rq :=
 gd (decide (0 ≤ a0) && decide (a0 < (a2.length : Int))) (
  let x_1 := a2.getD a0.toNat (false, [], [])
  ob (f103 n a1 x_1) fun r_2 =>
  gd (decide (0 ≤ a0) && decide (a0 < (a3.length : Int))) (
   let x_3 := a3.getD a0.toNat (false, [], [])
   ob (f104 n r_2 x_3) fun r_4 =>
   some r_4))
def f144_E (n : Nat) : Ent := ⟨144, [hI, (.ref hR), (.ref hRs), (.ref hRs)], [hR], fun x => f144 n x.1 x.2.1 x.2.2.1 x.2.2.2⟩
def f144_D (α : Type) (n : Nat) : D3 α := { reg := [(1, ⟨10, [], [(5, { ent := some (f103_E n) }), (10, { ent := some (f104_E n) })]⟩)], join := [], loop := [] }
theorem f144_ents (α : Type) (n : Nat) : AllS Tryz.prog (entsOf (f144_D α n).reg) := ⟨f103_ok n, f104_ok n, trivial⟩
theorem f144_d (α : Type) (n : Nat) : D3.OK Tryz.prog (tyOf Tryz.prog) ⟨17, []⟩ (f144_D α n) (bodyOf Tryz.f144) :=
 D3.OK.mk3 (f144_ents α n) (show loopsOf (bodyOf Tryz.f144) = [] by kernel_rfl) trivial
theorem f144_ok (n : Nat) : (f144_E n).Sound Tryz.prog :=
 fn_ok (tyOf_ok _) prog_fol (f144_D _ n) (show Tryz.prog.funcs[144]? = some Tryz.f144 by kernel_rfl) (by kernel_rfl) (show Tryz.f144.body = some (bodyOf Tryz.f144) by kernel_rfl) rfl rfl (Nat.le_of_ble_eq_true rfl) (f144_d _ n) (by intro x; kernel_rfl) 

def f97 (n : Nat) (a0 : Rq) : Option Rq :=
 ob (f145 n a0.2.1) fun r_1 =>
 ob (f145 n a0.2.2) fun r_2 =>
 some (a0.1, r_1, r_2)
def f97_E (n : Nat) : Ent := ⟨97, [hR], [hR], fun x => f97 n x⟩
def f97_D (α : Type) (n : Nat) : D3 α := { reg := [(1, ⟨8, [], [(4, { ent := some (f145_E n) }), (7, { ent := some (f145_E n) })]⟩)], join := [], loop := [] }
theorem f97_ents (α : Type) (n : Nat) : AllS Tryz.prog (entsOf (f97_D α n).reg) := ⟨f145_ok n, f145_ok n, trivial⟩
theorem f97_d (α : Type) (n : Nat) : D3.OK Tryz.prog (tyOf Tryz.prog) ⟨12, []⟩ (f97_D α n) (bodyOf Tryz.f97) :=
 D3.OK.mk3 (f97_ents α n) (show loopsOf (bodyOf Tryz.f97) = [] by kernel_rfl) trivial
theorem f97_ok (n : Nat) : (f97_E n).Sound Tryz.prog :=
 fn_ok (tyOf_ok _) prog_fol (f97_D _ n) (show Tryz.prog.funcs[97]? = some Tryz.f97 by kernel_rfl) (by kernel_rfl) (show Tryz.f97.body = some (bodyOf Tryz.f97) by kernel_rfl) rfl rfl (Nat.le_of_ble_eq_true rfl) (f97_d _ n) (by intro x; kernel_rfl) 

def f129c144_L3B {α : Type} (n : Nat) (s1 : Rq × LR × LR) (s8 s9 : Int) (b7 : LR) (f : (Rq × LR × LR) → Int → Int → LR → Option α) (k0 : LR → Option α) : Option α :=
 bif (decide (s9 < s8)) then
  ob (f144 n s9 s1.1 s1.2.1 s1.2.2) fun r_1 =>
  ob (f97 n r_1) fun r_2 =>
  gd (decide ((b7.length + 1) * 56 ≤ 140737488355328)) (
   f s1 s8 (W (s9 + 1)) (b7 ++ [r_2]))
 else
  k0 b7
abbrev f129c144_L3H : Tm := ⟨[(1, .d (.clo 144 (.pair (.ref hR) (.pair (.ref hRs) (.ref hRs))))), (5, .k (.hw 7)), (8, .d hI), (9, .d hI)], [(7, .arr 30 hR false)], [17], []⟩
abbrev f129c144_L3X0 : Tm := ⟨[(5, .k (.hw 7))], [(7, .arr 30 hR false)], [], []⟩
abbrev f129c144_L3O : List (Exit × Tm) := [(.exit 0, f129c144_L3X0)]
def f129c144_L3U {α : Type} (n : Nat) (v : f129c144_L3H.den) (f : f129c144_L3H.den → Option α) (ks : KS α f129c144_L3O) : Option α := f129c144_L3B n v.1.1 v.1.2.2.1 v.1.2.2.2.1 v.2.1 (fun s1 s8 s9 b7 => f ((s1, (), s8, s9, ()), (b7, ()))) (fun w0 => ks.1 (((), ()), (w0, ())))
def f129c144_L3 {α : Type} (n m : Nat) (s1 : Rq × LR × LR) (s8 s9 : Int) (b7 : LR) (k0 : LR → Option α) : Option α := rounds (f129c144_L3U n) m ((s1, (), s8, s9, ()), (b7, ())) (fun w => k0 w.2.1, ())
theorem f129c144_L3_0 {α n s1 s8 s9 b7 k0} : f129c144_L3 (α := α) n 0 s1 s8 s9 b7 k0 = none := rfl
theorem f129c144_L3_s {α n m s1 s8 s9 b7 k0} : f129c144_L3 (α := α) n (m + 1) s1 s8 s9 b7 k0 = f129c144_L3B n s1 s8 s9 b7 (fun s1 s8 s9 b7 => f129c144_L3 n m s1 s8 s9 b7 k0) k0 := rfl
def f129c144 (n : Nat) (a0 : Int) (a1 : Rq × LR × LR) : Option LR :=
 f129c144_L3 n n a1 a0 0 []
  (fun z_3 => (
   some z_3))
def f129c144_E (n : Nat) : Ent := ⟨129, [hI, (.clo 144 (.pair (.ref hR) (.pair (.ref hRs) (.ref hRs))))], [hRs], fun x => f129c144 n x.1 x.2⟩
def f129c144_D (α : Type) (n : Nat) : D3 α := { reg := [(1, ⟨0, [], [(0, { sh := some hR })]⟩), (5, ⟨0, [], [(3, { ent := some (f144_E n) }), (4, { ent := some (f97_E n) }), (5, { sh := some hR })]⟩)], join := [], loop := [(3, ⟨f129c144_L3H, f129c144_L3O, rounds (f129c144_L3U n) n⟩)] }
theorem f129c144_ents (α : Type) (n : Nat) : AllS Tryz.prog (entsOf (f129c144_D α n).reg) := ⟨f144_ok n, f97_ok n, trivial⟩
theorem f129c144_L3_d (α : Type) (n : Nat) : D3.OK Tryz.prog (tyOf Tryz.prog) ⟨21, []⟩ (f129c144_D α n) ((bodyOf Tryz.f129).at [1, 1, 0, 1, 0, 0]) :=
 D3.OK.mk3 (f129c144_ents α n) (show loopsOf ((bodyOf Tryz.f129).at [1, 1, 0, 1, 0, 0]) = [] by kernel_rfl) trivial
theorem f129c144_L3_ok (α : Type) (n : Nat) : LO.Sound (α := α) Tryz.prog ⟨21, []⟩ ⟨f129c144_L3H, f129c144_L3O, rounds (f129c144_L3U n) n⟩ (.loop ((bodyOf Tryz.f129).at [1, 1, 0, 1, 0, 0])) :=
 loop_ok (tyOf_ok _) prog_fol (f129c144_L3U n) (f129c144_L3_d α n) (by intro v f ks; kernel_rfl) n
theorem f129c144_d (α : Type) (n : Nat) : D3.OK Tryz.prog (tyOf Tryz.prog) ⟨21, []⟩ (f129c144_D α n) (bodyOf Tryz.f129) :=
 D3.OK.mk3 (f129c144_ents α n) (show loopsOf (bodyOf Tryz.f129) = [(3, (.loop ((bodyOf Tryz.f129).at [1, 1, 0, 1, 0, 0])))] by kernel_rfl) ⟨look_sound rfl (f129c144_L3_ok α n), trivial⟩
theorem f129c144_ok (n : Nat) : (f129c144_E n).Sound Tryz.prog :=
 fn_ok (tyOf_ok _) prog_fol (f129c144_D _ n) (show Tryz.prog.funcs[129]? = some Tryz.f129 by kernel_rfl) (by kernel_rfl) (show Tryz.f129.body = some (bodyOf Tryz.f129) by kernel_rfl) rfl rfl (Nat.le_of_ble_eq_true rfl) (f129c144_d _ n) (by intro x; kernel_rfl) 

def f76 (n : Nat) (a0 : Rq) (a1 a2 : LR) : Option LR :=
 ob (f129c144 n (a1.length : Int) (a0, a1, a2)) fun r_1 =>
 some r_1
def f76_E (n : Nat) : Ent := ⟨76, [hR, hRs, hRs], [hRs], fun x => f76 n x.1 x.2.1 x.2.2⟩
def f76_D (α : Type) (n : Nat) : D3 α := { reg := [(1, ⟨0, [], [(2, { sh := some (.pair (.ref hR) (.pair (.ref hRs) (.ref hRs))) }), (3, { ent := some (f129c144_E n) })]⟩)], join := [], loop := [] }
theorem f76_ents (α : Type) (n : Nat) : AllS Tryz.prog (entsOf (f76_D α n).reg) := ⟨f129c144_ok n, trivial⟩
theorem f76_d (α : Type) (n : Nat) : D3.OK Tryz.prog (tyOf Tryz.prog) ⟨11, []⟩ (f76_D α n) (bodyOf Tryz.f76) :=
 D3.OK.mk3 (f76_ents α n) (show loopsOf (bodyOf Tryz.f76) = [] by kernel_rfl) trivial
theorem f76_ok (n : Nat) : (f76_E n).Sound Tryz.prog :=
 fn_ok (tyOf_ok _) prog_fol (f76_D _ n) (show Tryz.prog.funcs[76]? = some Tryz.f76 by kernel_rfl) (by kernel_rfl) (show Tryz.f76.body = some (bodyOf Tryz.f76) by kernel_rfl) rfl rfl (Nat.le_of_ble_eq_true rfl) (f76_d _ n) (by intro x; kernel_rfl) 

def f57B_L13B {α : Type} (n : Nat) (s6 s9 s10 : Int) (c2_0 c3_0 : Bool) (c3_1 c3_2 : LI) (c4_0 : Int) (b1000 : List LR) (f : Int → Int → Int → Bool → Bool → LI → LI → Int → (List LR) → Option α) (k0 : Int → Int → Bool → Bool → LI → LI → (List LR) → Option α) : Option α :=
 bif (decide (s6 < (b1000.length : Int))) then
  gd (decide (0 ≤ s6) && decide (s6 < (b1000.length : Int))) (
   gd (decide (s6.toNat < b1000.length)) (
    gd (decide (0 ≤ c4_0) && decide (c4_0 < (((b1000.getD s6.toNat []).length : Nat) : Int))) (
     let x_11 := (b1000.getD s6.toNat []).getD c4_0.toNat (false, [], [])
     gd (decide (0 ≤ c4_0) && decide (c4_0 < (b1000.length : Int))) (
      gd (decide (c4_0.toNat < b1000.length)) (
       gd (decide (0 ≤ c4_0) && decide (c4_0 < (((b1000.getD c4_0.toNat []).length : Nat) : Int))) (
        let x_12 := (b1000.getD c4_0.toNat []).getD c4_0.toNat (false, [], [])
        ob (f75 n x_11 x_12) fun r_13 =>
        ob (f77 n r_13) fun r_14 =>
        gd (decide (0 ≤ c4_0) && decide (c4_0 < (b1000.length : Int))) (
         gd (decide (c4_0.toNat < b1000.length)) (
          gd (decide (0 ≤ s6) && decide (s6 < (b1000.length : Int))) (
           gd (decide (s6.toNat < b1000.length)) (
            ob (f76 n r_14 (b1000.getD c4_0.toNat []) (b1000.getD s6.toNat [])) fun r_15 =>
            gd (decide (0 ≤ s6) && decide (s6 < (b1000.length : Int))) (
             gd (decide (s6.toNat < b1000.length)) (
              f (W (s6 + 1)) s9 s10 c2_0 c3_0 c3_1 c3_2 c4_0 (b1000.set s6.toNat r_15)))))))))))))
 else
  k0 s9 s10 c2_0 c3_0 c3_1 c3_2 b1000
abbrev f57B_L13H : Tm := ⟨[(0, .k (.hw 1000)), (2, .k (.hp 2 0 0)), (3, .k (.hp 3 0 0)), (4, .k (.hp 4 0 0)), (6, .d hI), (9, .d hI), (10, .d hI)], [(2, .var 30 true false [.d .bool, .d .nil, .d .nil]), (3, .var 30 true false [.d .bool, .d hIs, .d hIs]), (4, .var 3 true true [.d hI]), (1000, .arr 24 hRs false)], [], []⟩
abbrev f57B_L13X0 : Tm := ⟨[(0, .k (.hw 1000)), (2, .k (.hp 2 0 0)), (3, .k (.hp 3 0 0)), (9, .d hI), (10, .d hI)], [(2, .var 30 true false [.d .bool, .d .nil, .d .nil]), (3, .var 30 true false [.d .bool, .d hIs, .d hIs]), (1000, .arr 24 hRs false)], [4], []⟩
abbrev f57B_L13O : List (Exit × Tm) := [(.exit 2, f57B_L13X0)]
def f57B_L13U {α : Type} (n : Nat) (v : f57B_L13H.den) (f : f57B_L13H.den → Option α) (ks : KS α f57B_L13O) : Option α := f57B_L13B n v.1.2.2.2.2.1 v.1.2.2.2.2.2.1 v.1.2.2.2.2.2.2.1 v.2.1.1 v.2.2.1.1 v.2.2.1.2.1 v.2.2.1.2.2.1 v.2.2.2.1.1 v.2.2.2.2.1 (fun s6 s9 s10 c2_0 c3_0 c3_1 c3_2 c4_0 b1000 => f (((), (), (), (), s6, s9, s10, ()), ((c2_0, (), (), ()), (c3_0, c3_1, c3_2, ()), (c4_0, ()), b1000, ()))) (fun w0 w1 w2 w3 w4 w5 w6 => ks.1 (((), (), (), w0, w1, ()), ((w2, (), (), ()), (w3, w4, w5, ()), w6, ())))
def f57B_L13 {α : Type} (n m : Nat) (s6 s9 s10 : Int) (c2_0 c3_0 : Bool) (c3_1 c3_2 : LI) (c4_0 : Int) (b1000 : List LR) (k0 : Int → Int → Bool → Bool → LI → LI → (List LR) → Option α) : Option α := rounds (f57B_L13U n) m (((), (), (), (), s6, s9, s10, ()), ((c2_0, (), (), ()), (c3_0, c3_1, c3_2, ()), (c4_0, ()), b1000, ())) (fun w => k0 w.1.2.2.2.1 w.1.2.2.2.2.1 w.2.1.1 w.2.2.1.1 w.2.2.1.2.1 w.2.2.1.2.2.1 w.2.2.2.1, ())
theorem f57B_L13_0 {α n s6 s9 s10 c2_0 c3_0 c3_1 c3_2 c4_0 b1000 k0} : f57B_L13 (α := α) n 0 s6 s9 s10 c2_0 c3_0 c3_1 c3_2 c4_0 b1000 k0 = none := rfl
theorem f57B_L13_s {α n m s6 s9 s10 c2_0 c3_0 c3_1 c3_2 c4_0 b1000 k0} : f57B_L13 (α := α) n (m + 1) s6 s9 s10 c2_0 c3_0 c3_1 c3_2 c4_0 b1000 k0 = f57B_L13B n s6 s9 s10 c2_0 c3_0 c3_1 c3_2 c4_0 b1000 (fun s6 s9 s10 c2_0 c3_0 c3_1 c3_2 c4_0 b1000 => f57B_L13 n m s6 s9 s10 c2_0 c3_0 c3_1 c3_2 c4_0 b1000 k0) k0 := rfl
def f57B_L3B {α : Type} (n : Nat) (s9 s10 : Int) (c2_0 c3_0 : Bool) (c3_1 c3_2 : LI) (b1000 : List LR) (f : Int → Int → Bool → Bool → LI → LI → (List LR) → Option α) (k0 : Bool → LI → LI → (List LR) → Option α) (k1 : Bool → Bool → LI → LI → (List LR) → Option α) : Option α :=
 bif (decide (s10 < s9)) then
  gd (decide (0 ≤ s10) && decide (s10 ≤ (b1000.length : Int)) && decide ((b1000.length : Int) ≤ (b1000.length : Int))) (
   gd ((decide (s10.toNat + ((b1000.length : Int).toNat - s10.toNat) ≤ b1000.length)) && true) (
    ob (f126c127 n ((b1000.drop s10.toNat).take ((b1000.length : Int).toNat - s10.toNat)) s10) fun r_2 =>
    bif (decide (r_2 < 0)) then
     ob (f92 n 0) fun r_3 =>
     k0 r_3.1 r_3.2.1 r_3.2.2 b1000
    else
     let J_18 := fun (y_5 : Bool) (y_6 : LI) (y_7 : LI) (y_8 : List LR) => (
      gd (decide (0 ≤ s10) && decide (s10 < (y_8.length : Int))) (
       gd (decide (s10.toNat < y_8.length)) (
        gd (decide (0 ≤ s10) && decide (s10 < (((y_8.getD s10.toNat []).length : Nat) : Int))) (
         let x_9 := (y_8.getD s10.toNat []).getD s10.toNat (false, [], [])
         ob (f103 n (y_5, y_6, y_7) x_9) fun r_10 =>
         f57B_L13 n n (W (s10 + 1)) s9 s10 c2_0 r_10.1 r_10.2.1 r_10.2.2 s10 y_8
          (fun z_11 z_12 z_13 z_14 z_15 z_16 z_17 => (
           f z_11 (W (z_12 + 1)) z_13 z_14 z_15 z_16 z_17))))))
     bif (decide (r_2 > 0)) then
      gd (decide (0 ≤ (W (s10 + r_2))) && decide ((W (s10 + r_2)) < (b1000.length : Int))) (
       gd (decide ((W (s10 + r_2)).toNat < b1000.length)) (
        gd (decide (0 ≤ s10) && decide (s10 < (b1000.length : Int))) (
         gd (decide (s10.toNat < b1000.length)) (
          gd (decide (0 ≤ s10) && decide (s10 < (b1000.length : Int))) (
           gd (decide (s10.toNat < b1000.length)) (
            gd (decide (0 ≤ (W (s10 + r_2))) && decide ((W (s10 + r_2)) < (((b1000.set s10.toNat (b1000.getD ((W (s10 + r_2)).toNat) [])).length : Nat) : Int))) (
             gd (decide ((W (s10 + r_2)).toNat < (b1000.set s10.toNat (b1000.getD ((W (s10 + r_2)).toNat) [])).length)) (
              ob (f77 n (c3_0, c3_1, c3_2)) fun r_4 =>
              J_18 r_4.1 r_4.2.1 r_4.2.2 ((b1000.set s10.toNat (b1000.getD ((W (s10 + r_2)).toNat) [])).set ((W (s10 + r_2)).toNat) (b1000.getD s10.toNat []))))))))))
     else
      J_18 c3_0 c3_1 c3_2 b1000))
 else
  k1 c2_0 c3_0 c3_1 c3_2 b1000
abbrev f57B_L3H : Tm := ⟨[(0, .k (.hw 1000)), (2, .k (.hp 2 0 0)), (3, .k (.hp 3 0 0)), (9, .d hI), (10, .d hI)], [(2, .var 30 true false [.d .bool, .d .nil, .d .nil]), (3, .var 30 true false [.d .bool, .d hIs, .d hIs]), (1000, .arr 24 hRs false)], [], []⟩
abbrev f57B_L3X0 : Tm := ⟨[(2, .k (.hp 2 0 0))], [(2, .var 30 true false [.d .bool, .d hIs, .d hIs]), (1000, .arr 24 hRs false)], [3, 4], []⟩
abbrev f57B_L3X1 : Tm := ⟨[(2, .k (.hp 2 0 0)), (3, .k (.hp 3 0 0))], [(2, .var 30 true false [.d .bool, .d .nil, .d .nil]), (3, .var 30 true false [.d .bool, .d hIs, .d hIs]), (1000, .arr 24 hRs false)], [], []⟩
abbrev f57B_L3O : List (Exit × Tm) := [(.ret, f57B_L3X0), (.exit 0, f57B_L3X1)]
def f57B_L3U {α : Type} (n : Nat) (v : f57B_L3H.den) (f : f57B_L3H.den → Option α) (ks : KS α f57B_L3O) : Option α := f57B_L3B n v.1.2.2.2.1 v.1.2.2.2.2.1 v.2.1.1 v.2.2.1.1 v.2.2.1.2.1 v.2.2.1.2.2.1 v.2.2.2.1 (fun s9 s10 c2_0 c3_0 c3_1 c3_2 b1000 => f (((), (), (), s9, s10, ()), ((c2_0, (), (), ()), (c3_0, c3_1, c3_2, ()), b1000, ()))) (fun w0 w1 w2 w3 => ks.1 (((), ()), ((w0, w1, w2, ()), w3, ()))) (fun w0 w1 w2 w3 w4 => ks.2.1 (((), (), ()), ((w0, (), (), ()), (w1, w2, w3, ()), w4, ())))
def f57B_L3 {α : Type} (n m : Nat) (s9 s10 : Int) (c2_0 c3_0 : Bool) (c3_1 c3_2 : LI) (b1000 : List LR) (k0 : Bool → LI → LI → (List LR) → Option α) (k1 : Bool → Bool → LI → LI → (List LR) → Option α) : Option α := rounds (f57B_L3U n) m (((), (), (), s9, s10, ()), ((c2_0, (), (), ()), (c3_0, c3_1, c3_2, ()), b1000, ())) (fun w => k0 w.2.1.1 w.2.1.2.1 w.2.1.2.2.1 w.2.2.1, fun w => k1 w.2.1.1 w.2.2.1.1 w.2.2.1.2.1 w.2.2.1.2.2.1 w.2.2.2.1, ())
theorem f57B_L3_0 {α n s9 s10 c2_0 c3_0 c3_1 c3_2 b1000 k0 k1} : f57B_L3 (α := α) n 0 s9 s10 c2_0 c3_0 c3_1 c3_2 b1000 k0 k1 = none := rfl
theorem f57B_L3_s {α n m s9 s10 c2_0 c3_0 c3_1 c3_2 b1000 k0 k1} : f57B_L3 (α := α) n (m + 1) s9 s10 c2_0 c3_0 c3_1 c3_2 b1000 k0 k1 = f57B_L3B n s9 s10 c2_0 c3_0 c3_1 c3_2 b1000 (fun s9 s10 c2_0 c3_0 c3_1 c3_2 b1000 => f57B_L3 n m s9 s10 c2_0 c3_0 c3_1 c3_2 b1000 k0 k1) k0 k1 := rfl
abbrev f57B_G9 : Tm := ⟨[(0, .k (.hw 1000)), (2, .k (.hp 2 0 0)), (3, .k (.hp 3 0 0)), (4, .k (.hp 4 0 0)), (5, .d hI), (9, .d hI), (10, .d hI)], [(2, .var 30 true false [.d .bool, .d .nil, .d .nil]), (3, .var 30 true false [.d .bool, .d hIs, .d hIs]), (4, .var 3 true true [.d hI]), (1000, .arr 24 hRs false)], [], []⟩
abbrev f57B_J11 : Tm := ⟨[(0, .k (.hw 1000)), (2, .k (.hp 2 0 0)), (3, .k (.hp 3 0 0)), (4, .k (.hp 4 0 0)), (9, .d hI), (10, .d hI)], [(2, .var 30 true false [.d .bool, .d .nil, .d .nil]), (3, .var 30 true false [.d .bool, .d hIs, .d hIs]), (4, .var 3 true true [.d hI]), (1000, .arr 24 hRs false)], [], []⟩
def f57B (n : Nat) (a0 : List LR) : Option (Rq × (List LR)) :=
 ob (f92 n 1) fun r_1 =>
 f57B_L3 n n (a0.length : Int) 0 false r_1.1 r_1.2.1 r_1.2.2 a0
  (fun z_19 z_20 z_21 z_22 => (
   some ((z_19, z_20, z_21), z_22)))
  (fun z_23 z_24 z_25 z_26 z_27 => (
   some ((z_24, z_25, z_26), z_27)))
def f57B_E (n : Nat) : Ent3 := ⟨57, [.one (.own 24 hRs)], [[.im hR]], fun x => f57B n x⟩
def f57B_D (α : Type) (n : Nat) : D3 α := { reg := [(1, ⟨0, [], [(0, { ent := some (f92_E n) })]⟩), (5, ⟨0, [], [(3, { sh := some (.ref hI) }), (4, { ent := some (f126c127_E n) })]⟩), (7, ⟨0, [], [(0, { ent := some (f92_E n) })]⟩), (10, ⟨0, [], [(1, { ent := some (f77_E n) })]⟩), (11, ⟨8, [], [(8, { ent := some (f103_E n) })]⟩), (15, ⟨27, [], [(16, { ent := some (f75_E n) }), (17, { ent := some (f77_E n) }), (26, { ent := some (f76_E n) })]⟩)], join := [(11, f57B_J11)], loop := [(13, ⟨f57B_L13H, f57B_L13O, rounds (f57B_L13U n) n⟩), (3, ⟨f57B_L3H, f57B_L3O, rounds (f57B_L3U n) n⟩)], any := [(9, f57B_G9)] }
set_option maxHeartbeats 8000000 in
theorem f57B_A9 (n : Nat) : FamAll (tyOf Tryz.prog) ⟨90, []⟩ [] f57B_G9 (regOps ((bodyOf Tryz.f57).at [1, 1, 0, 1, 0, 0, 1, 1, 0, 0, 1, 1, 1, 0, 1, 0, 0])) := by
 refine ⟨by kernel_rfl, fun w q hq => ?_⟩
 have e : WT [] (swapIdx (regOps ((bodyOf Tryz.f57).at [1, 1, 0, 1, 0, 0, 1, 1, 0, 0, 1, 1, 1, 0, 1, 0, 0])).toList) q = (q = []) := by kernel_rfl
 rw [e] at hq
 obtain rfl := hq
 all_goals exact .inr ⟨18, by kernel_rfl, by kernel_rfl, by kernel_rfl⟩
theorem f57B_ents (α : Type) (n : Nat) : AllS Tryz.prog (entsOf (f57B_D α n).reg) := ⟨f92_ok n, f126c127_ok n, f92_ok n, f77_ok n, f103_ok n, f75_ok n, f77_ok n, f76_ok n, trivial⟩
theorem f57B_L13_d (α : Type) (n : Nat) : D3.OK Tryz.prog (tyOf Tryz.prog) ⟨90, []⟩ (f57B_D α n) ((bodyOf Tryz.f57).at [1, 1, 0, 1, 0, 0, 1, 1, 0, 0, 1, 1, 1, 1, 1, 1, 0, 0]) :=
 D3.OK.mk3a (f57B_ents α n) (show loopsOf ((bodyOf Tryz.f57).at [1, 1, 0, 1, 0, 0, 1, 1, 0, 0, 1, 1, 1, 1, 1, 1, 0, 0]) = [] by kernel_rfl) trivial (show anysOf ((bodyOf Tryz.f57).at [1, 1, 0, 1, 0, 0, 1, 1, 0, 0, 1, 1, 1, 1, 1, 1, 0, 0]) = [(15, regOps ((bodyOf Tryz.f57).at [1, 1, 0, 1, 0, 0, 1, 1, 0, 0, 1, 1, 1, 1, 1, 1, 0, 0, 1, 0, 0]))] by kernel_rfl) ⟨fun X h => (by cases h), trivial⟩
theorem f57B_L13_ok (α : Type) (n : Nat) : LO.Sound (α := α) Tryz.prog ⟨90, []⟩ ⟨f57B_L13H, f57B_L13O, rounds (f57B_L13U n) n⟩ (.loop ((bodyOf Tryz.f57).at [1, 1, 0, 1, 0, 0, 1, 1, 0, 0, 1, 1, 1, 1, 1, 1, 0, 0])) :=
 loop_ok (tyOf_ok _) prog_fol (f57B_L13U n) (f57B_L13_d α n) (by intro v f ks; kernel_rfl) n
theorem f57B_L3_d (α : Type) (n : Nat) : D3.OK Tryz.prog (tyOf Tryz.prog) ⟨90, []⟩ (f57B_D α n) ((bodyOf Tryz.f57).at [1, 1, 0, 1, 0, 0]) :=
 D3.OK.mk3a (f57B_ents α n) (show loopsOf ((bodyOf Tryz.f57).at [1, 1, 0, 1, 0, 0]) = [(13, (.loop ((bodyOf Tryz.f57).at [1, 1, 0, 1, 0, 0, 1, 1, 0, 0, 1, 1, 1, 1, 1, 1, 0, 0])))] by kernel_rfl) ⟨look_sound rfl (f57B_L13_ok α n), trivial⟩ (show anysOf ((bodyOf Tryz.f57).at [1, 1, 0, 1, 0, 0]) = [(9, regOps ((bodyOf Tryz.f57).at [1, 1, 0, 1, 0, 0, 1, 1, 0, 0, 1, 1, 1, 0, 1, 0, 0])), (11, regOps ((bodyOf Tryz.f57).at [1, 1, 0, 1, 0, 0, 1, 1, 0, 0, 1, 1, 1, 1, 0]))] by kernel_rfl) ⟨fun X h => (by cases h; exact f57B_A9 n), fun X h => (by cases h), trivial⟩
theorem f57B_L3_ok (α : Type) (n : Nat) : LO.Sound (α := α) Tryz.prog ⟨90, []⟩ ⟨f57B_L3H, f57B_L3O, rounds (f57B_L3U n) n⟩ (.loop ((bodyOf Tryz.f57).at [1, 1, 0, 1, 0, 0])) :=
 loop_ok (tyOf_ok _) prog_fol (f57B_L3U n) (f57B_L3_d α n) (by intro v f ks; kernel_rfl) n
theorem f57B_d (α : Type) (n : Nat) : D3.OK Tryz.prog (tyOf Tryz.prog) ⟨90, []⟩ (f57B_D α n) (bodyOf Tryz.f57) :=
 D3.OK.mk3a (f57B_ents α n) (show loopsOf (bodyOf Tryz.f57) = [(3, (.loop ((bodyOf Tryz.f57).at [1, 1, 0, 1, 0, 0])))] by kernel_rfl) ⟨look_sound rfl (f57B_L3_ok α n), trivial⟩ (show anysOf (bodyOf Tryz.f57) = [] by kernel_rfl) trivial
theorem f57B_ok (n : Nat) : (f57B_E n).Sound Tryz.prog :=
 fn_okB (tyOf_ok _) prog_fol (f57B_D _ n) (show Tryz.prog.funcs[57]? = some Tryz.f57 by kernel_rfl) (by kernel_rfl) (show Tryz.f57.body = some (bodyOf Tryz.f57) by kernel_rfl) rfl rfl (Nat.le_of_ble_eq_true rfl) (f57B_d _ n) (by intro x; kernel_rfl) 

def f72B_L3B {α : Type} (n : Nat) (s5 s6 : Int) (b4 : LR) (f : Int → Int → LR → Option α) (k0 : LR → Option α) : Option α :=
 bif (decide (s6 < s5)) then
  ob (f92 n 0) fun r_1 =>
  gd (decide ((b4.length + 1) * 56 ≤ 140737488355328)) (
   f s5 (W (s6 + 1)) (b4 ++ [r_1]))
 else
  k0 b4
abbrev f72B_L3H : Tm := ⟨[(3, .k (.hw 4)), (5, .d hI), (6, .d hI)], [(4, .arr 30 hR false)], [10], []⟩
abbrev f72B_L3X0 : Tm := ⟨[(3, .k (.hw 4))], [(4, .arr 30 hR false)], [], []⟩
abbrev f72B_L3O : List (Exit × Tm) := [(.exit 0, f72B_L3X0)]
def f72B_L3U {α : Type} (n : Nat) (v : f72B_L3H.den) (f : f72B_L3H.den → Option α) (ks : KS α f72B_L3O) : Option α := f72B_L3B n v.1.2.1 v.1.2.2.1 v.2.1 (fun s5 s6 b4 => f (((), s5, s6, ()), (b4, ()))) (fun w0 => ks.1 (((), ()), (w0, ())))
def f72B_L3 {α : Type} (n m : Nat) (s5 s6 : Int) (b4 : LR) (k0 : LR → Option α) : Option α := rounds (f72B_L3U n) m (((), s5, s6, ()), (b4, ())) (fun w => k0 w.2.1, ())
theorem f72B_L3_0 {α n s5 s6 b4 k0} : f72B_L3 (α := α) n 0 s5 s6 b4 k0 = none := rfl
theorem f72B_L3_s {α n m s5 s6 b4 k0} : f72B_L3 (α := α) n (m + 1) s5 s6 b4 k0 = f72B_L3B n s5 s6 b4 (fun s5 s6 b4 => f72B_L3 n m s5 s6 b4 k0) k0 := rfl
def f72B (n : Nat) (a0 : Int) : Option LR :=
 f72B_L3 n n a0 0 []
  (fun z_2 => (
   some z_2))
def f72B_E (n : Nat) : Ent3 := ⟨72, [.im hI], [[.one (.own 30 hR)]], fun x => f72B n x⟩
def f72B_D (α : Type) (n : Nat) : D3 α := { reg := [(1, ⟨0, [], [(0, { sh := some hR })]⟩), (4, ⟨0, [], [(1, { ent := some (f92_E n) }), (2, { sh := some hR })]⟩)], join := [], loop := [(3, ⟨f72B_L3H, f72B_L3O, rounds (f72B_L3U n) n⟩)] }
theorem f72B_ents (α : Type) (n : Nat) : AllS Tryz.prog (entsOf (f72B_D α n).reg) := ⟨f92_ok n, trivial⟩
theorem f72B_L3_d (α : Type) (n : Nat) : D3.OK Tryz.prog (tyOf Tryz.prog) ⟨14, []⟩ (f72B_D α n) ((bodyOf Tryz.f72).at [1, 1, 0, 1, 0, 0]) :=
 D3.OK.mk3 (f72B_ents α n) (show loopsOf ((bodyOf Tryz.f72).at [1, 1, 0, 1, 0, 0]) = [] by kernel_rfl) trivial
theorem f72B_L3_ok (α : Type) (n : Nat) : LO.Sound (α := α) Tryz.prog ⟨14, []⟩ ⟨f72B_L3H, f72B_L3O, rounds (f72B_L3U n) n⟩ (.loop ((bodyOf Tryz.f72).at [1, 1, 0, 1, 0, 0])) :=
 loop_ok (tyOf_ok _) prog_fol (f72B_L3U n) (f72B_L3_d α n) (by intro v f ks; kernel_rfl) n
theorem f72B_d (α : Type) (n : Nat) : D3.OK Tryz.prog (tyOf Tryz.prog) ⟨14, []⟩ (f72B_D α n) (bodyOf Tryz.f72) :=
 D3.OK.mk3 (f72B_ents α n) (show loopsOf (bodyOf Tryz.f72) = [(3, (.loop ((bodyOf Tryz.f72).at [1, 1, 0, 1, 0, 0])))] by kernel_rfl) ⟨look_sound rfl (f72B_L3_ok α n), trivial⟩
theorem f72B_ok (n : Nat) : (f72B_E n).Sound Tryz.prog :=
 fn_okB (tyOf_ok _) prog_fol (f72B_D _ n) (show Tryz.prog.funcs[72]? = some Tryz.f72 by kernel_rfl) (by kernel_rfl) (show Tryz.f72.body = some (bodyOf Tryz.f72) by kernel_rfl) rfl rfl (Nat.le_of_ble_eq_true rfl) (f72B_d _ n) (by intro x; kernel_rfl) 

def f73B_L3B {α : Type} (n : Nat) (s9 : LR) (s10 s11 : Int) (c4_0 c5_0 : Bool) (c5_1 c5_2 : LI) (b1001 : LR) (f : LR → Int → Int → Bool → Bool → LI → LI → LR → Option α) (k0 : Bool → Bool → LI → LI → LR → Option α) : Option α :=
 bif (decide (s11 < s10)) then
  gd (decide (0 ≤ s11) && decide (s11 < (s9.length : Int))) (
   let x_2 := s9.getD s11.toNat (false, [], [])
   gd (decide (0 ≤ s11) && decide (s11 < (b1001.length : Int))) (
    gd (decide (s11.toNat < b1001.length)) (
     let x_3 := b1001.getD s11.toNat (false, [], [])
     ob (f103 n x_2 x_3) fun r_4 =>
     ob (f104 n (c5_0, c5_1, c5_2) r_4) fun r_5 =>
     f s9 s10 (W (s11 + 1)) c4_0 r_5.1 r_5.2.1 r_5.2.2 b1001)))
 else
  k0 c4_0 c5_0 c5_1 c5_2 b1001
abbrev f73B_L3H : Tm := ⟨[(1, .k (.hw 1001)), (4, .k (.hp 4 0 0)), (5, .k (.hp 5 0 0)), (9, .d hRs), (10, .d hI), (11, .d hI)], [(4, .var 30 true false [.d .bool, .d .nil, .d .nil]), (5, .var 30 true false [.d .bool, .d hIs, .d hIs]), (1001, .arr 30 hR false)], [7], []⟩
abbrev f73B_L3X0 : Tm := ⟨[(4, .k (.hp 4 0 0)), (5, .k (.hp 5 0 0))], [(4, .var 30 true false [.d .bool, .d .nil, .d .nil]), (5, .var 30 true false [.d .bool, .d hIs, .d hIs]), (1001, .arr 30 hR false)], [], []⟩
abbrev f73B_L3O : List (Exit × Tm) := [(.exit 0, f73B_L3X0)]
def f73B_L3U {α : Type} (n : Nat) (v : f73B_L3H.den) (f : f73B_L3H.den → Option α) (ks : KS α f73B_L3O) : Option α := f73B_L3B n v.1.2.2.2.1 v.1.2.2.2.2.1 v.1.2.2.2.2.2.1 v.2.1.1 v.2.2.1.1 v.2.2.1.2.1 v.2.2.1.2.2.1 v.2.2.2.1 (fun s9 s10 s11 c4_0 c5_0 c5_1 c5_2 b1001 => f (((), (), (), s9, s10, s11, ()), ((c4_0, (), (), ()), (c5_0, c5_1, c5_2, ()), b1001, ()))) (fun w0 w1 w2 w3 w4 => ks.1 (((), (), ()), ((w0, (), (), ()), (w1, w2, w3, ()), w4, ())))
def f73B_L3 {α : Type} (n m : Nat) (s9 : LR) (s10 s11 : Int) (c4_0 c5_0 : Bool) (c5_1 c5_2 : LI) (b1001 : LR) (k0 : Bool → Bool → LI → LI → LR → Option α) : Option α := rounds (f73B_L3U n) m (((), (), (), s9, s10, s11, ()), ((c4_0, (), (), ()), (c5_0, c5_1, c5_2, ()), b1001, ())) (fun w => k0 w.2.1.1 w.2.2.1.1 w.2.2.1.2.1 w.2.2.1.2.2.1 w.2.2.2.1, ())
theorem f73B_L3_0 {α n s9 s10 s11 c4_0 c5_0 c5_1 c5_2 b1001 k0} : f73B_L3 (α := α) n 0 s9 s10 s11 c4_0 c5_0 c5_1 c5_2 b1001 k0 = none := rfl
theorem f73B_L3_s {α n m s9 s10 s11 c4_0 c5_0 c5_1 c5_2 b1001 k0} : f73B_L3 (α := α) n (m + 1) s9 s10 s11 c4_0 c5_0 c5_1 c5_2 b1001 k0 = f73B_L3B n s9 s10 s11 c4_0 c5_0 c5_1 c5_2 b1001 (fun s9 s10 s11 c4_0 c5_0 c5_1 c5_2 b1001 => f73B_L3 n m s9 s10 s11 c4_0 c5_0 c5_1 c5_2 b1001 k0) k0 := rfl
def f73B (n : Nat) (a0 a1 : LR) : Option (Rq × LR) :=
 ob (f92 n 0) fun r_1 =>
 f73B_L3 n n a0 (a0.length : Int) 0 false r_1.1 r_1.2.1 r_1.2.2 a1
  (fun z_6 z_7 z_8 z_9 z_10 => (
   some ((z_7, z_8, z_9), z_10)))
def f73B_E (n : Nat) : Ent3 := ⟨73, [.im hRs, .one (.own 30 hR)], [[.im hR]], fun x => f73B n x.1 x.2⟩
def f73B_D (α : Type) (n : Nat) : D3 α := { reg := [(1, ⟨0, [], [(0, { ent := some (f92_E n) })]⟩), (5, ⟨7, [], [(6, { ent := some (f103_E n) }), (7, { ent := some (f104_E n) })]⟩)], join := [], loop := [(3, ⟨f73B_L3H, f73B_L3O, rounds (f73B_L3U n) n⟩)] }
theorem f73B_ents (α : Type) (n : Nat) : AllS Tryz.prog (entsOf (f73B_D α n).reg) := ⟨f92_ok n, f103_ok n, f104_ok n, trivial⟩
theorem f73B_L3_d (α : Type) (n : Nat) : D3.OK Tryz.prog (tyOf Tryz.prog) ⟨26, []⟩ (f73B_D α n) ((bodyOf Tryz.f73).at [1, 1, 0, 1, 0, 0]) :=
 D3.OK.mk3 (f73B_ents α n) (show loopsOf ((bodyOf Tryz.f73).at [1, 1, 0, 1, 0, 0]) = [] by kernel_rfl) trivial
theorem f73B_L3_ok (α : Type) (n : Nat) : LO.Sound (α := α) Tryz.prog ⟨26, []⟩ ⟨f73B_L3H, f73B_L3O, rounds (f73B_L3U n) n⟩ (.loop ((bodyOf Tryz.f73).at [1, 1, 0, 1, 0, 0])) :=
 loop_ok (tyOf_ok _) prog_fol (f73B_L3U n) (f73B_L3_d α n) (by intro v f ks; kernel_rfl) n
theorem f73B_d (α : Type) (n : Nat) : D3.OK Tryz.prog (tyOf Tryz.prog) ⟨26, []⟩ (f73B_D α n) (bodyOf Tryz.f73) :=
 D3.OK.mk3 (f73B_ents α n) (show loopsOf (bodyOf Tryz.f73) = [(3, (.loop ((bodyOf Tryz.f73).at [1, 1, 0, 1, 0, 0])))] by kernel_rfl) ⟨look_sound rfl (f73B_L3_ok α n), trivial⟩
theorem f73B_ok (n : Nat) : (f73B_E n).Sound Tryz.prog :=
 fn_okB (tyOf_ok _) prog_fol (f73B_D _ n) (show Tryz.prog.funcs[73]? = some Tryz.f73 by kernel_rfl) (by kernel_rfl) (show Tryz.f73.body = some (bodyOf Tryz.f73) by kernel_rfl) rfl rfl (Nat.le_of_ble_eq_true rfl) (f73B_d _ n) (by intro x; kernel_rfl) 

def f110 (n : Nat) (a0 a1 : Rq) : Option Rq :=
 ob (f77 n a1) fun r_1 =>
 ob (f104 n a0 r_1) fun r_2 =>
 some r_2
def f110_E (n : Nat) : Ent := ⟨110, [hR, hR], [hR], fun x => f110 n x.1 x.2⟩
def f110_D (α : Type) (n : Nat) : D3 α := { reg := [(1, ⟨3, [], [(2, { ent := some (f77_E n) }), (3, { ent := some (f104_E n) })]⟩)], join := [], loop := [] }
theorem f110_ents (α : Type) (n : Nat) : AllS Tryz.prog (entsOf (f110_D α n).reg) := ⟨f77_ok n, f104_ok n, trivial⟩
theorem f110_d (α : Type) (n : Nat) : D3.OK Tryz.prog (tyOf Tryz.prog) ⟨9, []⟩ (f110_D α n) (bodyOf Tryz.f110) :=
 D3.OK.mk3 (f110_ents α n) (show loopsOf (bodyOf Tryz.f110) = [] by kernel_rfl) trivial
theorem f110_ok (n : Nat) : (f110_E n).Sound Tryz.prog :=
 fn_ok (tyOf_ok _) prog_fol (f110_D _ n) (show Tryz.prog.funcs[110]? = some Tryz.f110 by kernel_rfl) (by kernel_rfl) (show Tryz.f110.body = some (bodyOf Tryz.f110) by kernel_rfl) rfl rfl (Nat.le_of_ble_eq_true rfl) (f110_d _ n) (by intro x; kernel_rfl) 

def f50_L7B {α : Type} (n : Nat) (s6 s9 : Int) (b310 : List LR) (b330 : LR) (f : Int → Int → (List LR) → LR → Option α) (k0 : LR → Option α) : Option α :=
 bif (decide (s9 ≥ 0)) then
  gd (decide (0 ≤ s9) && decide (s9 < (b310.length : Int))) (
   gd (decide (s9.toNat < b310.length)) (
    gd (decide (0 ≤ s6) && decide (s6 < (((b310.getD s9.toNat []).length : Nat) : Int))) (
     let x_5 := (b310.getD s9.toNat []).getD s6.toNat (false, [], [])
     gd (decide (0 ≤ s9) && decide (s9 < (b310.length : Int))) (
      gd (decide (s9.toNat < b310.length)) (
       gd (decide (0 ≤ s6) && decide (s6 ≤ (((b310.getD s9.toNat []).length : Nat) : Int))) (
        ob (f73B n (((b310.getD s9.toNat []).drop 0).take (s6.toNat - 0)) b330) fun r_6 =>
        gd (Nat.beq r_6.2.length b330.length && true) (
         ob (f110 n x_5 r_6.1) fun r_7 =>
         gd (decide (0 ≤ s9) && decide (s9 < (b310.length : Int))) (
          gd (decide (s9.toNat < b310.length)) (
           gd (decide (0 ≤ s9) && decide (s9 < (((b310.getD s9.toNat []).length : Nat) : Int))) (
            let x_8 := (b310.getD s9.toNat []).getD s9.toNat (false, [], [])
            ob (f75 n r_7 x_8) fun r_9 =>
            gd (decide (0 ≤ s9) && decide (s9 < (r_6.2.length : Int))) (
             gd (decide (s9.toNat < r_6.2.length)) (
              f s6 (W (s9 - 1)) b310 (r_6.2.set s9.toNat r_9)))))))))))))
 else
  k0 b330
abbrev f50_L7H : Tm := ⟨[(6, .d hI), (7, .k (.hw 310)), (8, .k (.hw 330)), (9, .d hI)], [(310, .arr 24 hRs false), (330, .arr 30 hR false)], [], []⟩
abbrev f50_L7X0 : Tm := ⟨[(8, .k (.hw 330))], [(330, .arr 30 hR false)], [310], []⟩
abbrev f50_L7O : List (Exit × Tm) := [(.exit 0, f50_L7X0)]
def f50_L7U {α : Type} (n : Nat) (v : f50_L7H.den) (f : f50_L7H.den → Option α) (ks : KS α f50_L7O) : Option α := f50_L7B n v.1.1 v.1.2.2.2.1 v.2.1 v.2.2.1 (fun s6 s9 b310 b330 => f ((s6, (), (), s9, ()), (b310, b330, ()))) (fun w0 => ks.1 (((), ()), (w0, ())))
def f50_L7 {α : Type} (n m : Nat) (s6 s9 : Int) (b310 : List LR) (b330 : LR) (k0 : LR → Option α) : Option α := rounds (f50_L7U n) m ((s6, (), (), s9, ()), (b310, b330, ())) (fun w => k0 w.2.1, ())
theorem f50_L7_0 {α n s6 s9 b310 b330 k0} : f50_L7 (α := α) n 0 s6 s9 b310 b330 k0 = none := rfl
theorem f50_L7_s {α n m s6 s9 b310 b330 k0} : f50_L7 (α := α) n (m + 1) s6 s9 b310 b330 k0 = f50_L7B n s6 s9 b310 b330 (fun s6 s9 b310 b330 => f50_L7 n m s6 s9 b310 b330 k0) k0 := rfl
abbrev f50_G9 : Tm := ⟨[(6, .d hI), (7, .k (.hw 310)), (8, .k (.hw 330)), (9, .d hI)], [(310, .arr 24 hRs false), (330, .arr 30 hR false)], [], []⟩
def f50 (n : Nat) (a0 a1 : LR) : Option (LR × Bool) :=
 ob (f58B1 n a0 (a1.length : Int) a1) fun r_1 =>
 ob (f57B n r_1) fun r_2 =>
 gd (Nat.beq r_2.2.length r_1.length && true) (
  ob (f74 n r_2.1) fun r_3 =>
  bif r_3 then
   some ([], false)
  else
   ob (f72B n (a1.length : Int)) fun r_4 =>
   f50_L7 n n (a1.length : Int) (W ((a1.length : Int) - 1)) r_2.2 r_4
    (fun z_10 => (
     some (z_10, true))))
def f50_E (n : Nat) : Ent := ⟨50, [hRs, hRs], [hRs, .bool], fun x => f50 n x.1 x.2⟩
def f50_D (α : Type) (n : Nat) : D3 α := { reg := [(2, ⟨0, [], [(3, { entB := some (f58B1_E n), hb := 310 })]⟩), (3, ⟨0, [], [(1, { entB := some (f57B_E n), hb := 320 }), (2, { ent := some (f74_E n) })]⟩), (5, ⟨0, [], [(1, { entB := some (f72B_E n), hb := 330 })]⟩), (9, ⟨0, [], [(16, { entB := some (f73B_E n), hb := 340 }), (17, { ent := some (f110_E n) }), (25, { ent := some (f75_E n) })]⟩)], join := [], loop := [(7, ⟨f50_L7H, f50_L7O, rounds (f50_L7U n) n⟩)], any := [(9, f50_G9)] }
set_option maxHeartbeats 8000000 in
theorem f50_A9 (n : Nat) : FamAll (tyOf Tryz.prog) ⟨55, []⟩ [(16, { entB := some (f73B_E n), hb := 340 }), (17, { ent := some (f110_E n) }), (25, { ent := some (f75_E n) })] f50_G9 (regOps ((bodyOf Tryz.f50).at [1, 1, 1, 1, 1, 0, 1, 0, 0, 1, 0, 0])) := by
 refine ⟨by kernel_rfl, fun w q hq => ?_⟩
 have e : WT [(16, { entB := some (f73B_E n), hb := 340 }), (17, { ent := some (f110_E n) }), (25, { ent := some (f75_E n) })] (swapIdx (regOps ((bodyOf Tryz.f50).at [1, 1, 1, 1, 1, 0, 1, 0, 0, 1, 0, 0])).toList) q = (∃ (y0 : HF (ownsP 1000 (f73B_E n).ts) (f73B_E n).forms) (q0 : List (Nat × RV)), q = (16, .bx (f73B_E n) y0) :: q0 ∧ ∃ (y1 : HL (f110_E n).rs) (q1 : List (Nat × RV)), q0 = (17, .sv (resSV (f110_E n).rs y1)) :: q1 ∧ ∃ (y2 : HL (f75_E n).rs) (q2 : List (Nat × RV)), q1 = (25, .sv (resSV (f75_E n).rs y2)) :: q2 ∧ q2 = []) := by kernel_rfl
 rw [e] at hq
 obtain ⟨y0, q0, rfl, y1, q1, rfl, y2, q2, rfl, rfl⟩ := hq
 all_goals exact .inr ⟨26, by kernel_rfl, by kernel_rfl, by kernel_rfl⟩
theorem f50_ents (α : Type) (n : Nat) : AllS Tryz.prog (entsOf (f50_D α n).reg) := ⟨f58B1_ok n, f57B_ok n, f74_ok n, f72B_ok n, f73B_ok n, f110_ok n, f75_ok n, trivial⟩
theorem f50_L7_d (α : Type) (n : Nat) : D3.OK Tryz.prog (tyOf Tryz.prog) ⟨55, []⟩ (f50_D α n) ((bodyOf Tryz.f50).at [1, 1, 1, 1, 1, 0, 1, 0, 0]) :=
 D3.OK.mk3a (f50_ents α n) (show loopsOf ((bodyOf Tryz.f50).at [1, 1, 1, 1, 1, 0, 1, 0, 0]) = [] by kernel_rfl) trivial (show anysOf ((bodyOf Tryz.f50).at [1, 1, 1, 1, 1, 0, 1, 0, 0]) = [(9, regOps ((bodyOf Tryz.f50).at [1, 1, 1, 1, 1, 0, 1, 0, 0, 1, 0, 0]))] by kernel_rfl) ⟨fun X h => (by cases h; exact f50_A9 n), trivial⟩
theorem f50_L7_ok (α : Type) (n : Nat) : LO.Sound (α := α) Tryz.prog ⟨55, []⟩ ⟨f50_L7H, f50_L7O, rounds (f50_L7U n) n⟩ (.loop ((bodyOf Tryz.f50).at [1, 1, 1, 1, 1, 0, 1, 0, 0])) :=
 loop_ok (tyOf_ok _) prog_fol (f50_L7U n) (f50_L7_d α n) (by intro v f ks; kernel_rfl) n
theorem f50_d (α : Type) (n : Nat) : D3.OK Tryz.prog (tyOf Tryz.prog) ⟨55, []⟩ (f50_D α n) (bodyOf Tryz.f50) :=
 D3.OK.mk3a (f50_ents α n) (show loopsOf (bodyOf Tryz.f50) = [(7, (.loop ((bodyOf Tryz.f50).at [1, 1, 1, 1, 1, 0, 1, 0, 0])))] by kernel_rfl) ⟨look_sound rfl (f50_L7_ok α n), trivial⟩ (show anysOf (bodyOf Tryz.f50) = [] by kernel_rfl) trivial
theorem f50_ok (n : Nat) : (f50_E n).Sound Tryz.prog :=
 fn_ok (tyOf_ok _) prog_fol (f50_D _ n) (show Tryz.prog.funcs[50]? = some Tryz.f50 by kernel_rfl) (by kernel_rfl) (show Tryz.f50.body = some (bodyOf Tryz.f50) by kernel_rfl) rfl rfl (Nat.le_of_ble_eq_true rfl) (f50_d _ n) (by intro x; kernel_rfl) 

def f113 (n : Nat) (a0 : Rq) : Option Bool :=
 bif (decide ((a0.2.1.length : Int) ≤ 40)) then
  some (decide ((a0.2.2.length : Int) ≤ 40))
 else
  some false
def f113_E (n : Nat) : Ent := ⟨113, [hR], [.bool], fun x => f113 n x⟩
def f113_D (α : Type) (n : Nat) : D3 α := { reg := [], join := [], loop := [] }
theorem f113_ents (α : Type) (n : Nat) : AllS Tryz.prog (entsOf (f113_D α n).reg) := trivial
theorem f113_d (α : Type) (n : Nat) : D3.OK Tryz.prog (tyOf Tryz.prog) ⟨13, []⟩ (f113_D α n) (bodyOf Tryz.f113) :=
 D3.OK.mk3 (f113_ents α n) (show loopsOf (bodyOf Tryz.f113) = [] by kernel_rfl) trivial
theorem f113_ok (n : Nat) : (f113_E n).Sound Tryz.prog :=
 fn_ok (tyOf_ok _) prog_fol (f113_D _ n) (show Tryz.prog.funcs[113]? = some Tryz.f113 by kernel_rfl) (by kernel_rfl) (show Tryz.f113.body = some (bodyOf Tryz.f113) by kernel_rfl) rfl rfl (Nat.le_of_ble_eq_true rfl) (f113_d _ n) (by intro x; kernel_rfl) 

def f112 (n : Nat) (a0 : Rq) : Option Bool :=
 ob (f113 n a0) fun r_1 =>
 some (!r_1)
def f112_E (n : Nat) : Ent := ⟨112, [hR], [.bool], fun x => f112 n x⟩
def f112_D (α : Type) (n : Nat) : D3 α := { reg := [(1, ⟨0, [], [(1, { ent := some (f113_E n) })]⟩)], join := [], loop := [] }
theorem f112_ents (α : Type) (n : Nat) : AllS Tryz.prog (entsOf (f112_D α n).reg) := ⟨f113_ok n, trivial⟩
theorem f112_d (α : Type) (n : Nat) : D3.OK Tryz.prog (tyOf Tryz.prog) ⟨6, []⟩ (f112_D α n) (bodyOf Tryz.f112) :=
 D3.OK.mk3 (f112_ents α n) (show loopsOf (bodyOf Tryz.f112) = [] by kernel_rfl) trivial
theorem f112_ok (n : Nat) : (f112_E n).Sound Tryz.prog :=
 fn_ok (tyOf_ok _) prog_fol (f112_D _ n) (show Tryz.prog.funcs[112]? = some Tryz.f112 by kernel_rfl) (by kernel_rfl) (show Tryz.f112.body = some (bodyOf Tryz.f112) by kernel_rfl) rfl rfl (Nat.le_of_ble_eq_true rfl) (f112_d _ n) (by intro x; kernel_rfl) 

def f175c112_L2B {α : Type} (n : Nat) (s0 : LR) (s7 s8 : Int) (f : LR → Int → Int → Option α) (k0 : Int → Option α) (k1 : Unit → Option α) : Option α :=
 bif (decide (s8 < s7)) then
  gd (decide (0 ≤ s8) && decide (s8 < (s0.length : Int))) (
   let x_1 := s0.getD s8.toNat (false, [], [])
   ob (f112 n x_1) fun r_2 =>
   bif r_2 then
    k0 s8
   else
    f s0 s7 (W (s8 + 1)))
 else
  k1 ()
abbrev f175c112_L2H : Tm := ⟨[(0, .d hRs), (1, .d (.fn 112)), (7, .d hI), (8, .d hI)], [], [], []⟩
abbrev f175c112_L2X0 : Tm := ⟨[(4, .d hI)], [], [], []⟩
abbrev f175c112_L2X1 : Tm := ⟨[], [], [], []⟩
abbrev f175c112_L2O : List (Exit × Tm) := [(.ret, f175c112_L2X0), (.exit 0, f175c112_L2X1)]
def f175c112_L2U {α : Type} (n : Nat) (v : f175c112_L2H.den) (f : f175c112_L2H.den → Option α) (ks : KS α f175c112_L2O) : Option α := f175c112_L2B n v.1.1 v.1.2.2.1 v.1.2.2.2.1 (fun s0 s7 s8 => f ((s0, (), s7, s8, ()), ())) (fun w0 => ks.1 ((w0, ()), ())) (fun _ => ks.2.1 ((), ()))
def f175c112_L2 {α : Type} (n m : Nat) (s0 : LR) (s7 s8 : Int) (k0 : Int → Option α) (k1 : Unit → Option α) : Option α := rounds (f175c112_L2U n) m ((s0, (), s7, s8, ()), ()) (fun w => k0 w.1.1, fun w => k1 (), ())
theorem f175c112_L2_0 {α n s0 s7 s8 k0 k1} : f175c112_L2 (α := α) n 0 s0 s7 s8 k0 k1 = none := rfl
theorem f175c112_L2_s {α n m s0 s7 s8 k0 k1} : f175c112_L2 (α := α) n (m + 1) s0 s7 s8 k0 k1 = f175c112_L2B n s0 s7 s8 (fun s0 s7 s8 => f175c112_L2 n m s0 s7 s8 k0 k1) k0 k1 := rfl
def f175c112 (n : Nat) (a0 : LR) (a1 : Unit) : Option Int :=
 f175c112_L2 n n a0 (a0.length : Int) 0
  (fun z_3 => (
   some z_3))
  (fun (_ : Unit) => (
   some (-1)))
def f175c112_E (n : Nat) : Ent := ⟨175, [hRs, (.fn 112)], [hI], fun x => f175c112 n x.1 x.2⟩
def f175c112_D (α : Type) (n : Nat) : D3 α := { reg := [(4, ⟨0, [], [(5, { ent := some (f112_E n) })]⟩)], join := [], loop := [(2, ⟨f175c112_L2H, f175c112_L2O, rounds (f175c112_L2U n) n⟩)] }
theorem f175c112_ents (α : Type) (n : Nat) : AllS Tryz.prog (entsOf (f175c112_D α n).reg) := ⟨f112_ok n, trivial⟩
theorem f175c112_L2_d (α : Type) (n : Nat) : D3.OK Tryz.prog (tyOf Tryz.prog) ⟨19, []⟩ (f175c112_D α n) ((bodyOf Tryz.f175).at [1, 0, 1, 0, 0]) :=
 D3.OK.mk3 (f175c112_ents α n) (show loopsOf ((bodyOf Tryz.f175).at [1, 0, 1, 0, 0]) = [] by kernel_rfl) trivial
theorem f175c112_L2_ok (α : Type) (n : Nat) : LO.Sound (α := α) Tryz.prog ⟨19, []⟩ ⟨f175c112_L2H, f175c112_L2O, rounds (f175c112_L2U n) n⟩ (.loop ((bodyOf Tryz.f175).at [1, 0, 1, 0, 0])) :=
 loop_ok (tyOf_ok _) prog_fol (f175c112_L2U n) (f175c112_L2_d α n) (by intro v f ks; kernel_rfl) n
theorem f175c112_d (α : Type) (n : Nat) : D3.OK Tryz.prog (tyOf Tryz.prog) ⟨19, []⟩ (f175c112_D α n) (bodyOf Tryz.f175) :=
 D3.OK.mk3 (f175c112_ents α n) (show loopsOf (bodyOf Tryz.f175) = [(2, (.loop ((bodyOf Tryz.f175).at [1, 0, 1, 0, 0])))] by kernel_rfl) ⟨look_sound rfl (f175c112_L2_ok α n), trivial⟩
theorem f175c112_ok (n : Nat) : (f175c112_E n).Sound Tryz.prog :=
 fn_ok (tyOf_ok _) prog_fol (f175c112_D _ n) (show Tryz.prog.funcs[175]? = some Tryz.f175 by kernel_rfl) (by kernel_rfl) (show Tryz.f175.body = some (bodyOf Tryz.f175) by kernel_rfl) rfl rfl (Nat.le_of_ble_eq_true rfl) (f175c112_d _ n) (by intro x; kernel_rfl) 

def f111c112 (n : Nat) (a0 : LR) (a1 : Unit) : Option Bool :=
 ob (f175c112 n a0 a1) fun r_1 =>
 some (decide (r_1 ≥ 0))
def f111c112_E (n : Nat) : Ent := ⟨111, [hRs, (.fn 112)], [.bool], fun x => f111c112 n x.1 x.2⟩
def f111c112_D (α : Type) (n : Nat) : D3 α := { reg := [(1, ⟨0, [], [(2, { ent := some (f175c112_E n) })]⟩)], join := [], loop := [] }
theorem f111c112_ents (α : Type) (n : Nat) : AllS Tryz.prog (entsOf (f111c112_D α n).reg) := ⟨f175c112_ok n, trivial⟩
theorem f111c112_d (α : Type) (n : Nat) : D3.OK Tryz.prog (tyOf Tryz.prog) ⟨9, []⟩ (f111c112_D α n) (bodyOf Tryz.f111) :=
 D3.OK.mk3 (f111c112_ents α n) (show loopsOf (bodyOf Tryz.f111) = [] by kernel_rfl) trivial
theorem f111c112_ok (n : Nat) : (f111c112_E n).Sound Tryz.prog :=
 fn_ok (tyOf_ok _) prog_fol (f111c112_D _ n) (show Tryz.prog.funcs[111]? = some Tryz.f111 by kernel_rfl) (by kernel_rfl) (show Tryz.f111.body = some (bodyOf Tryz.f111) by kernel_rfl) rfl rfl (Nat.le_of_ble_eq_true rfl) (f111c112_d _ n) (by intro x; kernel_rfl) 

def f51 (n : Nat) (a0 : LR) : Option (LR × Int) :=
 ob (f111c112 n a0 ()) fun r_1 =>
 bif r_1 then
  some ([], 7)
 else
  some (a0, 0)
def f51_E (n : Nat) : Ent := ⟨51, [hRs], [hRs, hI], fun x => f51 n x⟩
def f51_D (α : Type) (n : Nat) : D3 α := { reg := [(1, ⟨0, [], [(1, { ent := some (f111c112_E n) })]⟩)], join := [], loop := [] }
theorem f51_ents (α : Type) (n : Nat) : AllS Tryz.prog (entsOf (f51_D α n).reg) := ⟨f111c112_ok n, trivial⟩
theorem f51_d (α : Type) (n : Nat) : D3.OK Tryz.prog (tyOf Tryz.prog) ⟨7, []⟩ (f51_D α n) (bodyOf Tryz.f51) :=
 D3.OK.mk3 (f51_ents α n) (show loopsOf (bodyOf Tryz.f51) = [] by kernel_rfl) trivial
theorem f51_ok (n : Nat) : (f51_E n).Sound Tryz.prog :=
 fn_ok (tyOf_ok _) prog_fol (f51_D _ n) (show Tryz.prog.funcs[51]? = some Tryz.f51 by kernel_rfl) (by kernel_rfl) (show Tryz.f51.body = some (bodyOf Tryz.f51) by kernel_rfl) rfl rfl (Nat.le_of_ble_eq_true rfl) (f51_d _ n) (by intro x; kernel_rfl) 

def f13 (n : Nat) (a0 a1 : LR) : Option (LR × Int) :=
 ob (f49 n a0 a1) fun r_1 =>
 bif (r_1 != 0) then
  some ([], r_1)
 else
  ob (f50 n a0 a1) fun r_2 =>
  bif (!r_2.2) then
   some ([], 5)
  else
   ob (f51 n r_2.1) fun r_3 =>
   some (r_3.1, r_3.2)
def f13_E (n : Nat) : Ent := ⟨13, [hRs, hRs], [hRs, hI], fun x => f13 n x.1 x.2⟩
def f13_D (α : Type) (n : Nat) : D3 α := { reg := [(1, ⟨0, [], [(2, { ent := some (f49_E n) })]⟩), (4, ⟨0, [], [(2, { ent := some (f50_E n) })]⟩), (7, ⟨0, [], [(1, { ent := some (f51_E n) })]⟩)], join := [], loop := [] }
theorem f13_ents (α : Type) (n : Nat) : AllS Tryz.prog (entsOf (f13_D α n).reg) := ⟨f49_ok n, f50_ok n, f51_ok n, trivial⟩
theorem f13_d (α : Type) (n : Nat) : D3.OK Tryz.prog (tyOf Tryz.prog) ⟨27, []⟩ (f13_D α n) (bodyOf Tryz.f13) :=
 D3.OK.mk3 (f13_ents α n) (show loopsOf (bodyOf Tryz.f13) = [] by kernel_rfl) trivial
theorem f13_ok (n : Nat) : (f13_E n).Sound Tryz.prog :=
 fn_ok (tyOf_ok _) prog_fol (f13_D _ n) (show Tryz.prog.funcs[13]? = some Tryz.f13 by kernel_rfl) (by kernel_rfl) (show Tryz.f13.body = some (bodyOf Tryz.f13) by kernel_rfl) rfl rfl (Nat.le_of_ble_eq_true rfl) (f13_d _ n) (by intro x; kernel_rfl) 

def f189_L4B {α : Type} (n : Nat) (s0 : LI) (s3 : Int) (f : LI → Int → Option α) (k0 : Bool → Option α) (k1 : LI → Option α) : Option α :=
 bif (decide (s3 < (s0.length : Int))) then
  gd (decide (0 ≤ s3) && decide (s3 < (s0.length : Int))) (
   ob (f65 n (s0.getD s3.toNat 0) 0 9999) fun r_1 =>
   bif (!r_1) then
    k0 false
   else
    f s0 (W (s3 + 1)))
 else
  k1 s0
abbrev f189_L4H : Tm := ⟨[(0, .d hIs), (3, .d hI)], [], [], []⟩
abbrev f189_L4X0 : Tm := ⟨[(2, .d .bool)], [], [], []⟩
abbrev f189_L4X1 : Tm := ⟨[(0, .d hIs)], [], [], []⟩
abbrev f189_L4O : List (Exit × Tm) := [(.ret, f189_L4X0), (.exit 0, f189_L4X1)]
def f189_L4U {α : Type} (n : Nat) (v : f189_L4H.den) (f : f189_L4H.den → Option α) (ks : KS α f189_L4O) : Option α := f189_L4B n v.1.1 v.1.2.1 (fun s0 s3 => f ((s0, s3, ()), ())) (fun w0 => ks.1 ((w0, ()), ())) (fun w0 => ks.2.1 ((w0, ()), ()))
def f189_L4 {α : Type} (n m : Nat) (s0 : LI) (s3 : Int) (k0 : Bool → Option α) (k1 : LI → Option α) : Option α := rounds (f189_L4U n) m ((s0, s3, ()), ()) (fun w => k0 w.1.1, fun w => k1 w.1.1, ())
theorem f189_L4_0 {α n s0 s3 k0 k1} : f189_L4 (α := α) n 0 s0 s3 k0 k1 = none := rfl
theorem f189_L4_s {α n m s0 s3 k0 k1} : f189_L4 (α := α) n (m + 1) s0 s3 k0 k1 = f189_L4B n s0 s3 (fun s0 s3 => f189_L4 n m s0 s3 k0 k1) k0 k1 := rfl
def f189 (n : Nat) (a0 : LI) : Option Bool :=
 bif (decide ((a0.length : Int) > 4096)) then
  some false
 else
  f189_L4 n n a0 0
   (fun z_2 => (
    some z_2))
   (fun z_3 => (
    bif (decide ((z_3.length : Int) ≤ 40)) then
     bif ((z_3.length : Int) == 0) then
      some true
     else
      gd (decide (0 ≤ (W ((z_3.length : Int) - 1))) && decide ((W ((z_3.length : Int) - 1)) < (z_3.length : Int))) (
       some (decide ((z_3.getD ((W ((z_3.length : Int) - 1)).toNat) 0) > 0)))
    else
     some false))
def f189_E (n : Nat) : Ent := ⟨189, [hIs], [.bool], fun x => f189 n x⟩
def f189_D (α : Type) (n : Nat) : D3 α := { reg := [(6, ⟨0, [], [(4, { ent := some (f65_E n) })]⟩)], join := [], loop := [(4, ⟨f189_L4H, f189_L4O, rounds (f189_L4U n) n⟩)] }
theorem f189_ents (α : Type) (n : Nat) : AllS Tryz.prog (entsOf (f189_D α n).reg) := ⟨f65_ok n, trivial⟩
theorem f189_L4_d (α : Type) (n : Nat) : D3.OK Tryz.prog (tyOf Tryz.prog) ⟨36, []⟩ (f189_D α n) ((bodyOf Tryz.f189).at [1, 1, 0, 1, 0, 0]) :=
 D3.OK.mk3 (f189_ents α n) (show loopsOf ((bodyOf Tryz.f189).at [1, 1, 0, 1, 0, 0]) = [] by kernel_rfl) trivial
theorem f189_L4_ok (α : Type) (n : Nat) : LO.Sound (α := α) Tryz.prog ⟨36, []⟩ ⟨f189_L4H, f189_L4O, rounds (f189_L4U n) n⟩ (.loop ((bodyOf Tryz.f189).at [1, 1, 0, 1, 0, 0])) :=
 loop_ok (tyOf_ok _) prog_fol (f189_L4U n) (f189_L4_d α n) (by intro v f ks; kernel_rfl) n
theorem f189_d (α : Type) (n : Nat) : D3.OK Tryz.prog (tyOf Tryz.prog) ⟨36, []⟩ (f189_D α n) (bodyOf Tryz.f189) :=
 D3.OK.mk3 (f189_ents α n) (show loopsOf (bodyOf Tryz.f189) = [(4, (.loop ((bodyOf Tryz.f189).at [1, 1, 0, 1, 0, 0])))] by kernel_rfl) ⟨look_sound rfl (f189_L4_ok α n), trivial⟩
theorem f189_ok (n : Nat) : (f189_E n).Sound Tryz.prog :=
 fn_ok (tyOf_ok _) prog_fol (f189_D _ n) (show Tryz.prog.funcs[189]? = some Tryz.f189 by kernel_rfl) (by kernel_rfl) (show Tryz.f189.body = some (bodyOf Tryz.f189) by kernel_rfl) rfl rfl (Nat.le_of_ble_eq_true rfl) (f189_d _ n) (by intro x; kernel_rfl) 

end Go.Ev
