/- DERIVED. What the functions compute, and that they do. -/
import Derived.Test.YtcoilfmbghghpaaPmb

set_option linter.all false
set_option linter.unusedVariables false
set_option linter.unusedSimpArgs false

namespace Go.Ev
open Go Go.Proofs Go.RowKit Go.Shelf
def f177c131_L2B {α : Type} (n : Nat) (s0 : LR) (s7 s8 : Int) (f : LR → Int → Int → Option α) (k0 : Int → Option α) (k1 : Unit → Option α) : Option α :=
 bif (decide (s8 < s7)) then
  gd (decide (0 ≤ s8) && decide (s8 < (s0.length : Int))) (
   let x_1 := s0.getD s8.toNat (false, [], [])
   ob (f131 n x_1) fun r_2 =>
   bif r_2 then
    k0 s8
   else
    f s0 s7 (W (s8 + 1)))
 else
  k1 ()
abbrev f177c131_L2H : Tm := ⟨[(0, .d hRs), (1, .d (.fn 131)), (7, .d hI), (8, .d hI)], [], [], []⟩
abbrev f177c131_L2X0 : Tm := ⟨[(4, .d hI)], [], [], []⟩
abbrev f177c131_L2X1 : Tm := ⟨[], [], [], []⟩
abbrev f177c131_L2O : List (Exit × Tm) := [(.ret, f177c131_L2X0), (.exit 0, f177c131_L2X1)]
def f177c131_L2U {α : Type} (n : Nat) (v : f177c131_L2H.den) (f : f177c131_L2H.den → Option α) (ks : KS α f177c131_L2O) : Option α := f177c131_L2B n v.1.1 v.1.2.2.1 v.1.2.2.2.1 (fun s0 s7 s8 => f ((s0, (), s7, s8, ()), ())) (fun w0 => ks.1 ((w0, ()), ())) (fun _ => ks.2.1 ((), ()))
def f177c131_L2 {α : Type} (n m : Nat) (s0 : LR) (s7 s8 : Int) (k0 : Int → Option α) (k1 : Unit → Option α) : Option α := rounds (f177c131_L2U n) m ((s0, (), s7, s8, ()), ()) (fun w => k0 w.1.1, fun w => k1 (), ())
theorem f177c131_L2_0 {α n s0 s7 s8 k0 k1} : f177c131_L2 (α := α) n 0 s0 s7 s8 k0 k1 = none := rfl
theorem f177c131_L2_s {α n m s0 s7 s8 k0 k1} : f177c131_L2 (α := α) n (m + 1) s0 s7 s8 k0 k1 = f177c131_L2B n s0 s7 s8 (fun s0 s7 s8 => f177c131_L2 n m s0 s7 s8 k0 k1) k0 k1 := rfl
def f177c131 (n : Nat) (a0 : LR) (a1 : Unit) : Option Int :=
 f177c131_L2 n n a0 (a0.length : Int) 0
  (fun z_3 => (
   some z_3))
  (fun (_ : Unit) => (
   some (-1)))
def f177c131_E (n : Nat) : Ent := ⟨177, [hRs, (.fn 131)], [hI], fun x => f177c131 n x.1 x.2⟩
def f177c131_D (α : Type) (n : Nat) : D3 α := { reg := [(4, ⟨0, [], [(5, { ent := some (f131_E n) })]⟩)], join := [], loop := [(2, ⟨f177c131_L2H, f177c131_L2O, rounds (f177c131_L2U n) n⟩)] }
theorem f177c131_ents (α : Type) (n : Nat) : AllS Try.prog (entsOf (f177c131_D α n).reg) := ⟨f131_ok n, trivial⟩
theorem f177c131_L2_d (α : Type) (n : Nat) : D3.OK Try.prog (tyOf Try.prog) ⟨19, []⟩ (f177c131_D α n) ((bodyOf Try.f177).at [1, 0, 1, 0, 0]) :=
 D3.OK.mk3 (f177c131_ents α n) (show loopsOf ((bodyOf Try.f177).at [1, 0, 1, 0, 0]) = [] by kernel_rfl) trivial
theorem f177c131_L2_ok (α : Type) (n : Nat) : LO.Sound (α := α) Try.prog ⟨19, []⟩ ⟨f177c131_L2H, f177c131_L2O, rounds (f177c131_L2U n) n⟩ (.loop ((bodyOf Try.f177).at [1, 0, 1, 0, 0])) :=
 loop_ok (tyOf_ok _) prog_fol (f177c131_L2U n) (f177c131_L2_d α n) (by intro v f ks; kernel_rfl) n
theorem f177c131_d (α : Type) (n : Nat) : D3.OK Try.prog (tyOf Try.prog) ⟨19, []⟩ (f177c131_D α n) (bodyOf Try.f177) :=
 D3.OK.mk3 (f177c131_ents α n) (show loopsOf (bodyOf Try.f177) = [(2, (.loop ((bodyOf Try.f177).at [1, 0, 1, 0, 0])))] by kernel_rfl) ⟨look_sound rfl (f177c131_L2_ok α n), trivial⟩
theorem f177c131_ok (n : Nat) : (f177c131_E n).Sound Try.prog :=
 fn_ok (tyOf_ok _) prog_fol (f177c131_D _ n) (show Try.prog.funcs[177]? = some Try.f177 by kernel_rfl) (by kernel_rfl) (show Try.f177.body = some (bodyOf Try.f177) by kernel_rfl) rfl rfl (Nat.le_of_ble_eq_true rfl) (f177c131_d _ n) (by intro x; kernel_rfl) 

def f130c131 (n : Nat) (a0 : LR) (a1 : Unit) : Option Bool :=
 ob (f177c131 n a0 a1) fun r_1 =>
 some (decide (r_1 ≥ 0))
def f130c131_E (n : Nat) : Ent := ⟨130, [hRs, (.fn 131)], [.bool], fun x => f130c131 n x.1 x.2⟩
def f130c131_D (α : Type) (n : Nat) : D3 α := { reg := [(1, ⟨0, [], [(2, { ent := some (f177c131_E n) })]⟩)], join := [], loop := [] }
theorem f130c131_ents (α : Type) (n : Nat) : AllS Try.prog (entsOf (f130c131_D α n).reg) := ⟨f177c131_ok n, trivial⟩
theorem f130c131_d (α : Type) (n : Nat) : D3.OK Try.prog (tyOf Try.prog) ⟨9, []⟩ (f130c131_D α n) (bodyOf Try.f130) :=
 D3.OK.mk3 (f130c131_ents α n) (show loopsOf (bodyOf Try.f130) = [] by kernel_rfl) trivial
theorem f130c131_ok (n : Nat) : (f130c131_E n).Sound Try.prog :=
 fn_ok (tyOf_ok _) prog_fol (f130c131_D _ n) (show Try.prog.funcs[130]? = some Try.f130 by kernel_rfl) (by kernel_rfl) (show Try.f130.body = some (bodyOf Try.f130) by kernel_rfl) rfl rfl (Nat.le_of_ble_eq_true rfl) (f130c131_d _ n) (by intro x; kernel_rfl) 

def f129 (n : Nat) (a0 : Bool) (a1 : Int) : Option Int :=
 bif a0 then
  some 0
 else
  some a1
def f129_E (n : Nat) : Ent := ⟨129, [.bool, hI], [hI], fun x => f129 n x.1 x.2⟩
def f129_D (α : Type) (n : Nat) : D3 α := { reg := [], join := [], loop := [] }
theorem f129_ents (α : Type) (n : Nat) : AllS Try.prog (entsOf (f129_D α n).reg) := trivial
theorem f129_d (α : Type) (n : Nat) : D3.OK Try.prog (tyOf Try.prog) ⟨7, []⟩ (f129_D α n) (bodyOf Try.f129) :=
 D3.OK.mk3 (f129_ents α n) (show loopsOf (bodyOf Try.f129) = [] by kernel_rfl) trivial
theorem f129_ok (n : Nat) : (f129_E n).Sound Try.prog :=
 fn_ok (tyOf_ok _) prog_fol (f129_D _ n) (show Try.prog.funcs[129]? = some Try.f129 by kernel_rfl) (by kernel_rfl) (show Try.f129.body = some (bodyOf Try.f129) by kernel_rfl) rfl rfl (Nat.le_of_ble_eq_true rfl) (f129_d _ n) (by intro x; kernel_rfl) 

def f68 (n : Nat) (a0 : LR) : Option Int :=
 ob (f130c131 n a0 ()) fun r_1 =>
 ob (f129 n (!r_1) 1) fun r_2 =>
 some r_2
def f68_E (n : Nat) : Ent := ⟨68, [hRs], [hI], fun x => f68 n x⟩
def f68_D (α : Type) (n : Nat) : D3 α := { reg := [(1, ⟨0, [], [(1, { ent := some (f130c131_E n) }), (3, { ent := some (f129_E n) })]⟩)], join := [], loop := [] }
theorem f68_ents (α : Type) (n : Nat) : AllS Try.prog (entsOf (f68_D α n).reg) := ⟨f130c131_ok n, f129_ok n, trivial⟩
theorem f68_d (α : Type) (n : Nat) : D3.OK Try.prog (tyOf Try.prog) ⟨7, []⟩ (f68_D α n) (bodyOf Try.f68) :=
 D3.OK.mk3 (f68_ents α n) (show loopsOf (bodyOf Try.f68) = [] by kernel_rfl) trivial
theorem f68_ok (n : Nat) : (f68_E n).Sound Try.prog :=
 fn_ok (tyOf_ok _) prog_fol (f68_D _ n) (show Try.prog.funcs[68]? = some Try.f68 by kernel_rfl) (by kernel_rfl) (show Try.f68.body = some (bodyOf Try.f68) by kernel_rfl) rfl rfl (Nat.le_of_ble_eq_true rfl) (f68_d _ n) (by intro x; kernel_rfl) 

def f18 (n : Nat) (a0 : LR) (a1 : Int) : Option Bool :=
 ob (f67 n a1 1 4) fun r_1 =>
 bif r_1 then
  bif ((a0.length : Int) == (W (a1 * a1))) then
   ob (f68 n a0) fun r_2 =>
   some (r_2 == 0)
  else
   some false
 else
  some false
def f18_E (n : Nat) : Ent := ⟨18, [hRs, hI], [.bool], fun x => f18 n x.1 x.2⟩
def f18_D (α : Type) (n : Nat) : D3 α := { reg := [(1, ⟨0, [], [(1, { ent := some (f67_E n) }), (12, { ent := some (f68_E n) })]⟩)], join := [], loop := [] }
theorem f18_ents (α : Type) (n : Nat) : AllS Try.prog (entsOf (f18_D α n).reg) := ⟨f67_ok n, f68_ok n, trivial⟩
theorem f18_d (α : Type) (n : Nat) : D3.OK Try.prog (tyOf Try.prog) ⟨20, []⟩ (f18_D α n) (bodyOf Try.f18) :=
 D3.OK.mk3 (f18_ents α n) (show loopsOf (bodyOf Try.f18) = [] by kernel_rfl) trivial
theorem f18_ok (n : Nat) : (f18_E n).Sound Try.prog :=
 fn_ok (tyOf_ok _) prog_fol (f18_D _ n) (show Try.prog.funcs[18]? = some Try.f18 by kernel_rfl) (by kernel_rfl) (show Try.f18.body = some (bodyOf Try.f18) by kernel_rfl) rfl rfl (Nat.le_of_ble_eq_true rfl) (f18_d _ n) (by intro x; kernel_rfl) 

def f141 (n : Nat) (a0 : LR) (a1 : Int) : Option Bool :=
 ob (f18 n a0 a1) fun r_1 =>
 some (!r_1)
def f141_E (n : Nat) : Ent := ⟨141, [hRs, (.ref hI)], [.bool], fun x => f141 n x.1 x.2⟩
def f141_D (α : Type) (n : Nat) : D3 α := { reg := [(1, ⟨0, [], [(2, { ent := some (f18_E n) })]⟩)], join := [], loop := [] }
theorem f141_ents (α : Type) (n : Nat) : AllS Try.prog (entsOf (f141_D α n).reg) := ⟨f18_ok n, trivial⟩
theorem f141_d (α : Type) (n : Nat) : D3.OK Try.prog (tyOf Try.prog) ⟨8, []⟩ (f141_D α n) (bodyOf Try.f141) :=
 D3.OK.mk3 (f141_ents α n) (show loopsOf (bodyOf Try.f141) = [] by kernel_rfl) trivial
theorem f141_ok (n : Nat) : (f141_E n).Sound Try.prog :=
 fn_ok (tyOf_ok _) prog_fol (f141_D _ n) (show Try.prog.funcs[141]? = some Try.f141 by kernel_rfl) (by kernel_rfl) (show Try.f141.body = some (bodyOf Try.f141) by kernel_rfl) rfl rfl (Nat.le_of_ble_eq_true rfl) (f141_d _ n) (by intro x; kernel_rfl) 

def f183c141_L2B {α : Type} (n : Nat) (s0 : List LR) (s1 s7 s8 : Int) (f : (List LR) → Int → Int → Int → Option α) (k0 : Int → Option α) (k1 : Unit → Option α) : Option α :=
 bif (decide (s8 < s7)) then
  gd (decide (0 ≤ s8) && decide (s8 < (s0.length : Int))) (
   ob (f141 n (s0.getD s8.toNat []) s1) fun r_1 =>
   bif r_1 then
    k0 s8
   else
    f s0 s1 s7 (W (s8 + 1)))
 else
  k1 ()
abbrev f183c141_L2H : Tm := ⟨[(0, .d (.sl hRs)), (1, .d (.clo 141 (.ref hI))), (7, .d hI), (8, .d hI)], [], [], []⟩
abbrev f183c141_L2X0 : Tm := ⟨[(4, .d hI)], [], [], []⟩
abbrev f183c141_L2X1 : Tm := ⟨[], [], [], []⟩
abbrev f183c141_L2O : List (Exit × Tm) := [(.ret, f183c141_L2X0), (.exit 0, f183c141_L2X1)]
def f183c141_L2U {α : Type} (n : Nat) (v : f183c141_L2H.den) (f : f183c141_L2H.den → Option α) (ks : KS α f183c141_L2O) : Option α := f183c141_L2B n v.1.1 v.1.2.1 v.1.2.2.1 v.1.2.2.2.1 (fun s0 s1 s7 s8 => f ((s0, s1, s7, s8, ()), ())) (fun w0 => ks.1 ((w0, ()), ())) (fun _ => ks.2.1 ((), ()))
def f183c141_L2 {α : Type} (n m : Nat) (s0 : List LR) (s1 s7 s8 : Int) (k0 : Int → Option α) (k1 : Unit → Option α) : Option α := rounds (f183c141_L2U n) m ((s0, s1, s7, s8, ()), ()) (fun w => k0 w.1.1, fun w => k1 (), ())
theorem f183c141_L2_0 {α n s0 s1 s7 s8 k0 k1} : f183c141_L2 (α := α) n 0 s0 s1 s7 s8 k0 k1 = none := rfl
theorem f183c141_L2_s {α n m s0 s1 s7 s8 k0 k1} : f183c141_L2 (α := α) n (m + 1) s0 s1 s7 s8 k0 k1 = f183c141_L2B n s0 s1 s7 s8 (fun s0 s1 s7 s8 => f183c141_L2 n m s0 s1 s7 s8 k0 k1) k0 k1 := rfl
def f183c141 (n : Nat) (a0 : List LR) (a1 : Int) : Option Int :=
 f183c141_L2 n n a0 a1 (a0.length : Int) 0
  (fun z_2 => (
   some z_2))
  (fun (_ : Unit) => (
   some (-1)))
def f183c141_E (n : Nat) : Ent := ⟨183, [(.sl hRs), (.clo 141 (.ref hI))], [hI], fun x => f183c141 n x.1 x.2⟩
def f183c141_D (α : Type) (n : Nat) : D3 α := { reg := [(4, ⟨0, [], [(5, { ent := some (f141_E n) })]⟩)], join := [], loop := [(2, ⟨f183c141_L2H, f183c141_L2O, rounds (f183c141_L2U n) n⟩)] }
theorem f183c141_ents (α : Type) (n : Nat) : AllS Try.prog (entsOf (f183c141_D α n).reg) := ⟨f141_ok n, trivial⟩
theorem f183c141_L2_d (α : Type) (n : Nat) : D3.OK Try.prog (tyOf Try.prog) ⟨19, []⟩ (f183c141_D α n) ((bodyOf Try.f183).at [1, 0, 1, 0, 0]) :=
 D3.OK.mk3 (f183c141_ents α n) (show loopsOf ((bodyOf Try.f183).at [1, 0, 1, 0, 0]) = [] by kernel_rfl) trivial
theorem f183c141_L2_ok (α : Type) (n : Nat) : LO.Sound (α := α) Try.prog ⟨19, []⟩ ⟨f183c141_L2H, f183c141_L2O, rounds (f183c141_L2U n) n⟩ (.loop ((bodyOf Try.f183).at [1, 0, 1, 0, 0])) :=
 loop_ok (tyOf_ok _) prog_fol (f183c141_L2U n) (f183c141_L2_d α n) (by intro v f ks; kernel_rfl) n
theorem f183c141_d (α : Type) (n : Nat) : D3.OK Try.prog (tyOf Try.prog) ⟨19, []⟩ (f183c141_D α n) (bodyOf Try.f183) :=
 D3.OK.mk3 (f183c141_ents α n) (show loopsOf (bodyOf Try.f183) = [(2, (.loop ((bodyOf Try.f183).at [1, 0, 1, 0, 0])))] by kernel_rfl) ⟨look_sound rfl (f183c141_L2_ok α n), trivial⟩
theorem f183c141_ok (n : Nat) : (f183c141_E n).Sound Try.prog :=
 fn_ok (tyOf_ok _) prog_fol (f183c141_D _ n) (show Try.prog.funcs[183]? = some Try.f183 by kernel_rfl) (by kernel_rfl) (show Try.f183.body = some (bodyOf Try.f183) by kernel_rfl) rfl rfl (Nat.le_of_ble_eq_true rfl) (f183c141_d _ n) (by intro x; kernel_rfl) 

def f140c141 (n : Nat) (a0 : List LR) (a1 : Int) : Option Bool :=
 ob (f183c141 n a0 a1) fun r_1 =>
 some (decide (r_1 ≥ 0))
def f140c141_E (n : Nat) : Ent := ⟨140, [(.sl hRs), (.clo 141 (.ref hI))], [.bool], fun x => f140c141 n x.1 x.2⟩
def f140c141_D (α : Type) (n : Nat) : D3 α := { reg := [(1, ⟨0, [], [(2, { ent := some (f183c141_E n) })]⟩)], join := [], loop := [] }
theorem f140c141_ents (α : Type) (n : Nat) : AllS Try.prog (entsOf (f140c141_D α n).reg) := ⟨f183c141_ok n, trivial⟩
theorem f140c141_d (α : Type) (n : Nat) : D3.OK Try.prog (tyOf Try.prog) ⟨9, []⟩ (f140c141_D α n) (bodyOf Try.f140) :=
 D3.OK.mk3 (f140c141_ents α n) (show loopsOf (bodyOf Try.f140) = [] by kernel_rfl) trivial
theorem f140c141_ok (n : Nat) : (f140c141_E n).Sound Try.prog :=
 fn_ok (tyOf_ok _) prog_fol (f140c141_D _ n) (show Try.prog.funcs[140]? = some Try.f140 by kernel_rfl) (by kernel_rfl) (show Try.f140.body = some (bodyOf Try.f140) by kernel_rfl) rfl rfl (Nat.le_of_ble_eq_true rfl) (f140c141_d _ n) (by intro x; kernel_rfl) 

def f95_L2B {α : Type} (n : Nat) (s5 : LI) (s6 s7 : Int) (f : LI → Int → Int → Option α) (k0 : Int → Option α) (k1 : Unit → Option α) : Option α :=
 bif (decide (s7 < s6)) then
  gd (decide (0 ≤ s7) && decide (s7 < (s5.length : Int))) (
   bif ((s5.getD s7.toNat 0) != 0) then
    k0 (s5.getD s7.toNat 0)
   else
    f s5 s6 (W (s7 + 1)))
 else
  k1 ()
abbrev f95_L2H : Tm := ⟨[(5, .d hIs), (6, .d hI), (7, .d hI)], [], [], []⟩
abbrev f95_L2X0 : Tm := ⟨[(2, .d hI)], [], [], []⟩
abbrev f95_L2X1 : Tm := ⟨[], [], [], []⟩
abbrev f95_L2O : List (Exit × Tm) := [(.ret, f95_L2X0), (.exit 0, f95_L2X1)]
def f95_L2U {α : Type} (n : Nat) (v : f95_L2H.den) (f : f95_L2H.den → Option α) (ks : KS α f95_L2O) : Option α := f95_L2B n v.1.1 v.1.2.1 v.1.2.2.1 (fun s5 s6 s7 => f ((s5, s6, s7, ()), ())) (fun w0 => ks.1 ((w0, ()), ())) (fun _ => ks.2.1 ((), ()))
def f95_L2 {α : Type} (n m : Nat) (s5 : LI) (s6 s7 : Int) (k0 : Int → Option α) (k1 : Unit → Option α) : Option α := rounds (f95_L2U n) m ((s5, s6, s7, ()), ()) (fun w => k0 w.1.1, fun w => k1 (), ())
theorem f95_L2_0 {α n s5 s6 s7 k0 k1} : f95_L2 (α := α) n 0 s5 s6 s7 k0 k1 = none := rfl
theorem f95_L2_s {α n m s5 s6 s7 k0 k1} : f95_L2 (α := α) n (m + 1) s5 s6 s7 k0 k1 = f95_L2B n s5 s6 s7 (fun s5 s6 s7 => f95_L2 n m s5 s6 s7 k0 k1) k0 k1 := rfl
def f95 (n : Nat) (a0 : LI) : Option Int :=
 f95_L2 n n a0 (a0.length : Int) 0
  (fun z_1 => (
   some z_1))
  (fun (_ : Unit) => (
   some 0))
def f95_E (n : Nat) : Ent := ⟨95, [hIs], [hI], fun x => f95 n x⟩
def f95_D (α : Type) (n : Nat) : D3 α := { reg := [], join := [], loop := [(2, ⟨f95_L2H, f95_L2O, rounds (f95_L2U n) n⟩)] }
theorem f95_ents (α : Type) (n : Nat) : AllS Try.prog (entsOf (f95_D α n).reg) := trivial
theorem f95_L2_d (α : Type) (n : Nat) : D3.OK Try.prog (tyOf Try.prog) ⟨15, []⟩ (f95_D α n) ((bodyOf Try.f95).at [1, 0, 1, 0, 0]) :=
 D3.OK.mk3 (f95_ents α n) (show loopsOf ((bodyOf Try.f95).at [1, 0, 1, 0, 0]) = [] by kernel_rfl) trivial
theorem f95_L2_ok (α : Type) (n : Nat) : LO.Sound (α := α) Try.prog ⟨15, []⟩ ⟨f95_L2H, f95_L2O, rounds (f95_L2U n) n⟩ (.loop ((bodyOf Try.f95).at [1, 0, 1, 0, 0])) :=
 loop_ok (tyOf_ok _) prog_fol (f95_L2U n) (f95_L2_d α n) (by intro v f ks; kernel_rfl) n
theorem f95_d (α : Type) (n : Nat) : D3.OK Try.prog (tyOf Try.prog) ⟨15, []⟩ (f95_D α n) (bodyOf Try.f95) :=
 D3.OK.mk3 (f95_ents α n) (show loopsOf (bodyOf Try.f95) = [(2, (.loop ((bodyOf Try.f95).at [1, 0, 1, 0, 0])))] by kernel_rfl) ⟨look_sound rfl (f95_L2_ok α n), trivial⟩
theorem f95_ok (n : Nat) : (f95_E n).Sound Try.prog :=
 fn_ok (tyOf_ok _) prog_fol (f95_D _ n) (show Try.prog.funcs[95]? = some Try.f95 by kernel_rfl) (by kernel_rfl) (show Try.f95.body = some (bodyOf Try.f95) by kernel_rfl) rfl rfl (Nat.le_of_ble_eq_true rfl) (f95_d _ n) (by intro x; kernel_rfl) 

def f81 (n : Nat) (a0 : Int) (a1 : List LR) : Option Int :=
 ob (f133 n a1) fun r_1 =>
 ob (f140c141 n a1 a0) fun r_2 =>
 ob (f129 n (!r_2) 1) fun r_3 =>
 ob (f95 n [r_1, r_3]) fun r_4 =>
 some r_4
def f81_E (n : Nat) : Ent := ⟨81, [hI, (.sl hRs)], [hI], fun x => f81 n x.1 x.2⟩
def f81_D (α : Type) (n : Nat) : D3 α := { reg := [(1, ⟨0, [], [(1, { ent := some (f133_E n) }), (3, { sh := some (.ref hI) }), (4, { ent := some (f140c141_E n) }), (6, { ent := some (f129_E n) }), (7, { sh := some hI }), (8, { ent := some (f95_E n) })]⟩)], join := [], loop := [] }
theorem f81_ents (α : Type) (n : Nat) : AllS Try.prog (entsOf (f81_D α n).reg) := ⟨f133_ok n, f140c141_ok n, f129_ok n, f95_ok n, trivial⟩
theorem f81_d (α : Type) (n : Nat) : D3.OK Try.prog (tyOf Try.prog) ⟨14, []⟩ (f81_D α n) (bodyOf Try.f81) :=
 D3.OK.mk3 (f81_ents α n) (show loopsOf (bodyOf Try.f81) = [] by kernel_rfl) trivial
theorem f81_ok (n : Nat) : (f81_E n).Sound Try.prog :=
 fn_ok (tyOf_ok _) prog_fol (f81_D _ n) (show Try.prog.funcs[81]? = some Try.f81 by kernel_rfl) (by kernel_rfl) (show Try.f81.body = some (bodyOf Try.f81) by kernel_rfl) rfl rfl (Nat.le_of_ble_eq_true rfl) (f81_d _ n) (by intro x; kernel_rfl) 

def f142 (n : Nat) (a0 : Int) (a1 : LR) (a2 : Int) : Option Rq :=
 gd (decide (a2 ≠ 0)) (
  gd (decide (a2 ≠ 0)) (
   gd (decide (0 ≤ (W ((W ((Int.tmod a0 a2) * a2)) + (W (Int.tdiv a0 a2))))) && decide ((W ((W ((Int.tmod a0 a2) * a2)) + (W (Int.tdiv a0 a2)))) < (a1.length : Int))) (
    let x_1 := a1.getD ((W ((W ((Int.tmod a0 a2) * a2)) + (W (Int.tdiv a0 a2)))).toNat) (false, [], [])
    some x_1)))
def f142_E (n : Nat) : Ent := ⟨142, [hI, (.ref hRs), (.ref hI)], [hR], fun x => f142 n x.1 x.2.1 x.2.2⟩
def f142_D (α : Type) (n : Nat) : D3 α := { reg := [(1, ⟨10, [], []⟩)], join := [], loop := [] }
theorem f142_ents (α : Type) (n : Nat) : AllS Try.prog (entsOf (f142_D α n).reg) := trivial
theorem f142_d (α : Type) (n : Nat) : D3.OK Try.prog (tyOf Try.prog) ⟨17, []⟩ (f142_D α n) (bodyOf Try.f142) :=
 D3.OK.mk3 (f142_ents α n) (show loopsOf (bodyOf Try.f142) = [] by kernel_rfl) trivial
theorem f142_ok (n : Nat) : (f142_E n).Sound Try.prog :=
 fn_ok (tyOf_ok _) prog_fol (f142_D _ n) (show Try.prog.funcs[142]? = some Try.f142 by kernel_rfl) (by kernel_rfl) (show Try.f142.body = some (bodyOf Try.f142) by kernel_rfl) rfl rfl (Nat.le_of_ble_eq_true rfl) (f142_d _ n) (by intro x; kernel_rfl) 

def f132B1 (n : Nat) (a0 : List Int) : Option (List Int ⊕ Unit) := bif a0.isEmpty then some (.inr ()) else (f132B n a0).map .inl
def f132B1_E (n : Nat) : Ent3 := ⟨132, [.im hIs], [[.one (.own 3 hI)], [.one (.emp hI)]], fun x => f132B1 n x⟩
theorem f132B1_ok (n : Nat) : (f132B1_E n).Sound Try.prog := by
 intro nt x z h
 cases x with
 | cons y l =>
  have h : (f132B n (y :: l)).map Sum.inl = some z := h
  cases e : f132B n (y :: l) with
  | none => rw [e] at h; cases h
  | some r =>
   rw [e] at h
   obtain rfl := Option.some.inj h
   exact f132B_ok n nt (y :: l) r e
 | nil =>
  have h : some (Sum.inr ()) = some z := h
  obtain rfl := Option.some.inj h
  exact f132_nil nt

abbrev f72B_G1 : Tm := ⟨[(1, .k (.hp 1 0 0)), (2, .k (.hp 2 0 0))], [(1, .var 33 true false [.d .bool, .d hIs, .d hIs]), (2, .var 33 true false [.d .bool, .d .nil, .d .nil])], [], []⟩
def f72B (n : Nat) (a0 : Rq) : Option ((Bool × LI × LI) ⊕ ((Bool × Unit × LI) ⊕ ((Bool × LI × Unit) ⊕ (Bool × Unit × Unit)))) :=
 ob (f132B1 n a0.2.1) fun r_1 =>
 caseS r_1 (fun r_2 =>
  ob (f132B1 n a0.2.2) fun r_4 =>
  caseS r_4 (fun r_5 =>
   some (.inl (a0.1, r_2, r_5))) (fun r_6 =>
   some (.inr (.inr (.inl (a0.1, r_2, ())))))) (fun r_3 =>
  ob (f132B1 n a0.2.2) fun r_7 =>
  caseS r_7 (fun r_8 =>
   some (.inr (.inl (a0.1, (), r_8)))) (fun r_9 =>
   some (.inr (.inr (.inr (a0.1, (), ()))))))
def f72B_E (n : Nat) : Ent3 := ⟨72, [.im hR], [[.mix [.im .bool, .own 3 hI, .own 3 hI]], [.mix [.im .bool, .emp hI, .own 3 hI]], [.mix [.im .bool, .own 3 hI, .emp hI]], [.mix [.im .bool, .emp hI, .emp hI]]], fun x => f72B n x⟩
def f72B_D (α : Type) (n : Nat) : D3 α := { reg := [(1, ⟨0, [], [(4, { entB := some (f132B1_E n), hb := 310 }), (7, { entB := some (f132B1_E n), hb := 320 })]⟩)], join := [], loop := [], any := [(1, f72B_G1)] }
set_option maxHeartbeats 8000000 in
theorem f72B_A1 (n : Nat) : FamAll (tyOf Try.prog) ⟨12, []⟩ [(4, { entB := some (f132B1_E n), hb := 310 }), (7, { entB := some (f132B1_E n), hb := 320 })] f72B_G1 (regOps ((bodyOf Try.f72).at [1, 0])) := by
 refine ⟨by kernel_rfl, fun w q hq => ?_⟩
 have e : WT [(4, { entB := some (f132B1_E n), hb := 310 }), (7, { entB := some (f132B1_E n), hb := 320 })] (swapIdx (regOps ((bodyOf Try.f72).at [1, 0])).toList) q = (∃ (y0 : HF (ownsP 1000 (f132B1_E n).ts) (f132B1_E n).forms) (q0 : List (Nat × RV)), q = (4, .bx (f132B1_E n) y0) :: q0 ∧ ∃ (y1 : HF (ownsP 1000 (f132B1_E n).ts) (f132B1_E n).forms) (q1 : List (Nat × RV)), q0 = (7, .bx (f132B1_E n) y1) :: q1 ∧ q1 = []) := by kernel_rfl
 rw [e] at hq
 obtain ⟨y0, q0, rfl, y1, q1, rfl, rfl⟩ := hq
 all_goals rcases y0 with y0 | y0
 all_goals rcases y1 with y1 | y1
 all_goals exact .inl (FamEq.mk (by kernel_rfl))
theorem f72B_ents (α : Type) (n : Nat) : AllS Try.prog (entsOf (f72B_D α n).reg) := ⟨f132B1_ok n, f132B1_ok n, trivial⟩
theorem f72B_d (α : Type) (n : Nat) : D3.OK Try.prog (tyOf Try.prog) ⟨12, []⟩ (f72B_D α n) (bodyOf Try.f72) :=
 D3.OK.mk3a (f72B_ents α n) (show loopsOf (bodyOf Try.f72) = [] by kernel_rfl) trivial (show anysOf (bodyOf Try.f72) = [(1, regOps ((bodyOf Try.f72).at [1, 0]))] by kernel_rfl) ⟨fun X h => (by cases h; exact f72B_A1 n), trivial⟩
theorem f72B_ok (n : Nat) : (f72B_E n).Sound Try.prog :=
 fn_okB (tyOf_ok _) prog_fol (f72B_D _ n) (show Try.prog.funcs[72]? = some Try.f72 by kernel_rfl) (by kernel_rfl) (show Try.f72.body = some (bodyOf Try.f72) by kernel_rfl) rfl rfl (Nat.le_of_ble_eq_true rfl) (f72B_d _ n) (by intro x; kernel_rfl) 

def f97c142B_L3B {α : Type} (n : Nat) (s1 : LR × Int) (s8 s9 : Int) (b7 : LR) (f : (LR × Int) → Int → Int → LR → Option α) (k0 : LR → Option α) : Option α :=
 bif (decide (s9 < s8)) then
  ob (f142 n s9 s1.1 s1.2) fun r_1 =>
  ob (f72B n r_1) fun r_2 =>
  caseS r_2 (fun r_3 =>
   gd (decide ((b7.length + 1) * 56 ≤ 140737488355328)) (
    f s1 s8 (W (s9 + 1)) (b7 ++ [r_3]))) (fun r_4 =>
   caseS r_4 (fun r_5 =>
    gd (decide ((b7.length + 1) * 56 ≤ 140737488355328)) (
     f s1 s8 (W (s9 + 1)) (b7 ++ [(r_5.1, [], r_5.2.2)]))) (fun r_6 =>
    caseS r_6 (fun r_7 =>
     gd (decide ((b7.length + 1) * 56 ≤ 140737488355328)) (
      f s1 s8 (W (s9 + 1)) (b7 ++ [(r_7.1, r_7.2.1, [])]))) (fun r_8 =>
     none)))
 else
  k0 b7
abbrev f97c142B_L3H : Tm := ⟨[(1, .d (.clo 142 (.pair (.ref hRs) (.ref hI)))), (5, .k (.hw 7)), (8, .d hI), (9, .d hI)], [(7, .tree 33 hR false)], [], []⟩
abbrev f97c142B_L3X0 : Tm := ⟨[(5, .k (.hw 7))], [(7, .tree 33 hR false)], [], []⟩
abbrev f97c142B_L3O : List (Exit × Tm) := [(.exit 0, f97c142B_L3X0)]
def f97c142B_L3U {α : Type} (n : Nat) (v : f97c142B_L3H.den) (f : f97c142B_L3H.den → Option α) (ks : KS α f97c142B_L3O) : Option α := f97c142B_L3B n v.1.1 v.1.2.2.1 v.1.2.2.2.1 v.2.1 (fun s1 s8 s9 b7 => f ((s1, (), s8, s9, ()), (b7, ()))) (fun w0 => ks.1 (((), ()), (w0, ())))
def f97c142B_L3 {α : Type} (n m : Nat) (s1 : LR × Int) (s8 s9 : Int) (b7 : LR) (k0 : LR → Option α) : Option α := rounds (f97c142B_L3U n) m ((s1, (), s8, s9, ()), (b7, ())) (fun w => k0 w.2.1, ())
theorem f97c142B_L3_0 {α n s1 s8 s9 b7 k0} : f97c142B_L3 (α := α) n 0 s1 s8 s9 b7 k0 = none := rfl
theorem f97c142B_L3_s {α n m s1 s8 s9 b7 k0} : f97c142B_L3 (α := α) n (m + 1) s1 s8 s9 b7 k0 = f97c142B_L3B n s1 s8 s9 b7 (fun s1 s8 s9 b7 => f97c142B_L3 n m s1 s8 s9 b7 k0) k0 := rfl
def f97c142B (n : Nat) (a0 : Int) (a1 : LR × Int) : Option LR :=
 f97c142B_L3 n n a1 a0 0 []
  (fun z_9 => (
   some z_9))
def f97c142B_E (n : Nat) : Ent3 := ⟨97, [.im hI, .im (.clo 142 (.pair (.ref hRs) (.ref hI)))], [[.one (.tree 33 hR)]], fun x => f97c142B n x.1 x.2⟩
def f97c142B_D (α : Type) (n : Nat) : D3 α := { reg := [(1, ⟨0, [], [(0, { sh := some hR, tr := some hR })]⟩), (5, ⟨0, [], [(3, { ent := some (f142_E n) }), (4, { entB := some (f72B_E n), hb := 310 }), (5, { sh := some hR })]⟩)], join := [], loop := [(3, ⟨f97c142B_L3H, f97c142B_L3O, rounds (f97c142B_L3U n) n⟩)] }
theorem f97c142B_ents (α : Type) (n : Nat) : AllS Try.prog (entsOf (f97c142B_D α n).reg) := ⟨f142_ok n, f72B_ok n, trivial⟩
theorem f97c142B_L3_d (α : Type) (n : Nat) : D3.OK Try.prog (tyOf Try.prog) ⟨21, []⟩ (f97c142B_D α n) ((bodyOf Try.f97).at [1, 1, 0, 1, 0, 0]) :=
 D3.OK.mk3 (f97c142B_ents α n) (show loopsOf ((bodyOf Try.f97).at [1, 1, 0, 1, 0, 0]) = [] by kernel_rfl) trivial
theorem f97c142B_L3_ok (α : Type) (n : Nat) : LO.Sound (α := α) Try.prog ⟨21, []⟩ ⟨f97c142B_L3H, f97c142B_L3O, rounds (f97c142B_L3U n) n⟩ (.loop ((bodyOf Try.f97).at [1, 1, 0, 1, 0, 0])) :=
 loop_ok (tyOf_ok _) prog_fol (f97c142B_L3U n) (f97c142B_L3_d α n) (by intro v f ks; kernel_rfl) n
theorem f97c142B_d (α : Type) (n : Nat) : D3.OK Try.prog (tyOf Try.prog) ⟨21, []⟩ (f97c142B_D α n) (bodyOf Try.f97) :=
 D3.OK.mk3 (f97c142B_ents α n) (show loopsOf (bodyOf Try.f97) = [(3, (.loop ((bodyOf Try.f97).at [1, 1, 0, 1, 0, 0])))] by kernel_rfl) ⟨look_sound rfl (f97c142B_L3_ok α n), trivial⟩
theorem f97c142B_ok (n : Nat) : (f97c142B_E n).Sound Try.prog :=
 fn_okB (tyOf_ok _) prog_fol (f97c142B_D _ n) (show Try.prog.funcs[97]? = some Try.f97 by kernel_rfl) (by kernel_rfl) (show Try.f97.body = some (bodyOf Try.f97) by kernel_rfl) rfl rfl (Nat.le_of_ble_eq_true rfl) (f97c142B_d _ n) (by intro x; kernel_rfl) 

def f82B (n : Nat) (a0 : LR) (a1 : Int) : Option LR :=
 ob (f97c142B n (W (a1 * a1)) (a0, a1)) fun r_1 =>
 some r_1
def f82B_E (n : Nat) : Ent3 := ⟨82, [.im hRs, .im hI], [[.one (.tree 33 hR)]], fun x => f82B n x.1 x.2⟩
def f82B_D (α : Type) (n : Nat) : D3 α := { reg := [(1, ⟨0, [], [(3, { sh := some (.pair (.ref hRs) (.ref hI)) }), (4, { entB := some (f97c142B_E n), hb := 310 })]⟩)], join := [], loop := [] }
theorem f82B_ents (α : Type) (n : Nat) : AllS Try.prog (entsOf (f82B_D α n).reg) := ⟨f97c142B_ok n, trivial⟩
theorem f82B_d (α : Type) (n : Nat) : D3.OK Try.prog (tyOf Try.prog) ⟨10, []⟩ (f82B_D α n) (bodyOf Try.f82) :=
 D3.OK.mk3 (f82B_ents α n) (show loopsOf (bodyOf Try.f82) = [] by kernel_rfl) trivial
theorem f82B_ok (n : Nat) : (f82B_E n).Sound Try.prog :=
 fn_okB (tyOf_ok _) prog_fol (f82B_D _ n) (show Try.prog.funcs[82]? = some Try.f82 by kernel_rfl) (by kernel_rfl) (show Try.f82.body = some (bodyOf Try.f82) by kernel_rfl) rfl rfl (Nat.le_of_ble_eq_true rfl) (f82B_d _ n) (by intro x; kernel_rfl) 

def f33B (n : Nat) (a0 : LR) (a1 : Int) : Option ((LR × Int) ⊕ (Unit × Int)) :=
 ob (f81 n a1 [a0]) fun r_1 =>
 bif (r_1 != 0) then
  some (.inr ((), r_1))
 else
  ob (f82B n a0 a1) fun r_2 =>
  some (.inl (r_2, 0))
def f33B_E (n : Nat) : Ent3 := ⟨33, [.im hRs, .im hI], [[.one (.tree 33 hR), .im hI], [.im .nil, .im hI]], fun x => f33B n x.1 x.2⟩
def f33B_D (α : Type) (n : Nat) : D3 α := { reg := [(1, ⟨0, [], [(2, { sh := some hRs }), (3, { ent := some (f81_E n) })]⟩), (4, ⟨0, [], [(2, { entB := some (f82B_E n), hb := 310 })]⟩)], join := [], loop := [] }
theorem f33B_ents (α : Type) (n : Nat) : AllS Try.prog (entsOf (f33B_D α n).reg) := ⟨f81_ok n, f82B_ok n, trivial⟩
theorem f33B_d (α : Type) (n : Nat) : D3.OK Try.prog (tyOf Try.prog) ⟨17, []⟩ (f33B_D α n) (bodyOf Try.f33) :=
 D3.OK.mk3 (f33B_ents α n) (show loopsOf (bodyOf Try.f33) = [] by kernel_rfl) trivial
theorem f33B_ok (n : Nat) : (f33B_E n).Sound Try.prog :=
 fn_okB (tyOf_ok _) prog_fol (f33B_D _ n) (show Try.prog.funcs[33]? = some Try.f33 by kernel_rfl) (by kernel_rfl) (show Try.f33.body = some (bodyOf Try.f33) by kernel_rfl) rfl rfl (Nat.le_of_ble_eq_true rfl) (f33B_d _ n) (by intro x; kernel_rfl) 

def f73_L4B {α : Type} (n : Nat) (s0 s1 : LI) (s5 : Int) (f : LI → LI → Int → Option α) (k0 : Bool → Option α) (k1 : Unit → Option α) : Option α :=
 bif (decide (s5 < (s0.length : Int))) then
  gd (decide (0 ≤ s5) && decide (s5 < (s0.length : Int))) (
   gd (decide (0 ≤ s5) && decide (s5 < (s1.length : Int))) (
    bif ((s0.getD s5.toNat 0) != (s1.getD s5.toNat 0)) then
     k0 false
    else
     f s0 s1 (W (s5 + 1))))
 else
  k1 ()
abbrev f73_L4H : Tm := ⟨[(0, .d hIs), (1, .d hIs), (5, .d hI)], [], [], []⟩
abbrev f73_L4X0 : Tm := ⟨[(4, .d .bool)], [], [], []⟩
abbrev f73_L4X1 : Tm := ⟨[], [], [], []⟩
abbrev f73_L4O : List (Exit × Tm) := [(.ret, f73_L4X0), (.exit 0, f73_L4X1)]
def f73_L4U {α : Type} (n : Nat) (v : f73_L4H.den) (f : f73_L4H.den → Option α) (ks : KS α f73_L4O) : Option α := f73_L4B n v.1.1 v.1.2.1 v.1.2.2.1 (fun s0 s1 s5 => f ((s0, s1, s5, ()), ())) (fun w0 => ks.1 ((w0, ()), ())) (fun _ => ks.2.1 ((), ()))
def f73_L4 {α : Type} (n m : Nat) (s0 s1 : LI) (s5 : Int) (k0 : Bool → Option α) (k1 : Unit → Option α) : Option α := rounds (f73_L4U n) m ((s0, s1, s5, ()), ()) (fun w => k0 w.1.1, fun w => k1 (), ())
theorem f73_L4_0 {α n s0 s1 s5 k0 k1} : f73_L4 (α := α) n 0 s0 s1 s5 k0 k1 = none := rfl
theorem f73_L4_s {α n m s0 s1 s5 k0 k1} : f73_L4 (α := α) n (m + 1) s0 s1 s5 k0 k1 = f73_L4B n s0 s1 s5 (fun s0 s1 s5 => f73_L4 n m s0 s1 s5 k0 k1) k0 k1 := rfl
def f73 (n : Nat) (a0 a1 : LI) : Option Bool :=
 bif ((a0.length : Int) != (a1.length : Int)) then
  some false
 else
  f73_L4 n n a0 a1 0
   (fun z_1 => (
    some z_1))
   (fun (_ : Unit) => (
    some true))
def f73_E (n : Nat) : Ent := ⟨73, [hIs, hIs], [.bool], fun x => f73 n x.1 x.2⟩
def f73_D (α : Type) (n : Nat) : D3 α := { reg := [(6, ⟨8, [], []⟩)], join := [], loop := [(4, ⟨f73_L4H, f73_L4O, rounds (f73_L4U n) n⟩)] }
theorem f73_ents (α : Type) (n : Nat) : AllS Try.prog (entsOf (f73_D α n).reg) := trivial
theorem f73_L4_d (α : Type) (n : Nat) : D3.OK Try.prog (tyOf Try.prog) ⟨26, []⟩ (f73_D α n) ((bodyOf Try.f73).at [1, 1, 0, 1, 0, 0]) :=
 D3.OK.mk3 (f73_ents α n) (show loopsOf ((bodyOf Try.f73).at [1, 1, 0, 1, 0, 0]) = [] by kernel_rfl) trivial
theorem f73_L4_ok (α : Type) (n : Nat) : LO.Sound (α := α) Try.prog ⟨26, []⟩ ⟨f73_L4H, f73_L4O, rounds (f73_L4U n) n⟩ (.loop ((bodyOf Try.f73).at [1, 1, 0, 1, 0, 0])) :=
 loop_ok (tyOf_ok _) prog_fol (f73_L4U n) (f73_L4_d α n) (by intro v f ks; kernel_rfl) n
theorem f73_d (α : Type) (n : Nat) : D3.OK Try.prog (tyOf Try.prog) ⟨26, []⟩ (f73_D α n) (bodyOf Try.f73) :=
 D3.OK.mk3 (f73_ents α n) (show loopsOf (bodyOf Try.f73) = [(4, (.loop ((bodyOf Try.f73).at [1, 1, 0, 1, 0, 0])))] by kernel_rfl) ⟨look_sound rfl (f73_L4_ok α n), trivial⟩
theorem f73_ok (n : Nat) : (f73_E n).Sound Try.prog :=
 fn_ok (tyOf_ok _) prog_fol (f73_D _ n) (show Try.prog.funcs[73]? = some Try.f73 by kernel_rfl) (by kernel_rfl) (show Try.f73.body = some (bodyOf Try.f73) by kernel_rfl) rfl rfl (Nat.le_of_ble_eq_true rfl) (f73_d _ n) (by intro x; kernel_rfl) 

def f24 (n : Nat) (a0 a1 : Rq) : Option Bool :=
 bif (!(a0.1 == a1.1)) then
  some false
 else
  ob (f73 n a0.2.1 a1.2.1) fun r_1 =>
  bif (!r_1) then
   some false
  else
   ob (f73 n a0.2.2 a1.2.2) fun r_2 =>
   bif (!r_2) then
    some false
   else
    some true
def f24_E (n : Nat) : Ent := ⟨24, [hR, hR], [.bool], fun x => f24 n x.1 x.2⟩
def f24_D (α : Type) (n : Nat) : D3 α := { reg := [(3, ⟨0, [], [(4, { ent := some (f73_E n) })]⟩), (5, ⟨0, [], [(4, { ent := some (f73_E n) })]⟩)], join := [], loop := [] }
theorem f24_ents (α : Type) (n : Nat) : AllS Try.prog (entsOf (f24_D α n).reg) := ⟨f73_ok n, f73_ok n, trivial⟩
theorem f24_d (α : Type) (n : Nat) : D3.OK Try.prog (tyOf Try.prog) ⟨22, []⟩ (f24_D α n) (bodyOf Try.f24) :=
 D3.OK.mk3 (f24_ents α n) (show loopsOf (bodyOf Try.f24) = [] by kernel_rfl) trivial
theorem f24_ok (n : Nat) : (f24_E n).Sound Try.prog :=
 fn_ok (tyOf_ok _) prog_fol (f24_D _ n) (show Try.prog.funcs[24]? = some Try.f24 by kernel_rfl) (by kernel_rfl) (show Try.f24.body = some (bodyOf Try.f24) by kernel_rfl) rfl rfl (Nat.le_of_ble_eq_true rfl) (f24_d _ n) (by intro x; kernel_rfl) 

def f19_L4B {α : Type} (n : Nat) (s0 s1 : LR) (s5 : Int) (f : LR → LR → Int → Option α) (k0 : Bool → Option α) (k1 : Unit → Option α) : Option α :=
 bif (decide (s5 < (s0.length : Int))) then
  gd (decide (0 ≤ s5) && decide (s5 < (s0.length : Int))) (
   let x_1 := s0.getD s5.toNat (false, [], [])
   gd (decide (0 ≤ s5) && decide (s5 < (s1.length : Int))) (
    let x_2 := s1.getD s5.toNat (false, [], [])
    ob (f24 n x_1 x_2) fun r_3 =>
    bif (!r_3) then
     k0 false
    else
     f s0 s1 (W (s5 + 1))))
 else
  k1 ()
abbrev f19_L4H : Tm := ⟨[(0, .d hRs), (1, .d hRs), (5, .d hI)], [], [], []⟩
abbrev f19_L4X0 : Tm := ⟨[(4, .d .bool)], [], [], []⟩
abbrev f19_L4X1 : Tm := ⟨[], [], [], []⟩
abbrev f19_L4O : List (Exit × Tm) := [(.ret, f19_L4X0), (.exit 0, f19_L4X1)]
def f19_L4U {α : Type} (n : Nat) (v : f19_L4H.den) (f : f19_L4H.den → Option α) (ks : KS α f19_L4O) : Option α := f19_L4B n v.1.1 v.1.2.1 v.1.2.2.1 (fun s0 s1 s5 => f ((s0, s1, s5, ()), ())) (fun w0 => ks.1 ((w0, ()), ())) (fun _ => ks.2.1 ((), ()))
def f19_L4 {α : Type} (n m : Nat) (s0 s1 : LR) (s5 : Int) (k0 : Bool → Option α) (k1 : Unit → Option α) : Option α := rounds (f19_L4U n) m ((s0, s1, s5, ()), ()) (fun w => k0 w.1.1, fun w => k1 (), ())
theorem f19_L4_0 {α n s0 s1 s5 k0 k1} : f19_L4 (α := α) n 0 s0 s1 s5 k0 k1 = none := rfl
theorem f19_L4_s {α n m s0 s1 s5 k0 k1} : f19_L4 (α := α) n (m + 1) s0 s1 s5 k0 k1 = f19_L4B n s0 s1 s5 (fun s0 s1 s5 => f19_L4 n m s0 s1 s5 k0 k1) k0 k1 := rfl
def f19 (n : Nat) (a0 a1 : LR) : Option Bool :=
 bif ((a0.length : Int) != (a1.length : Int)) then
  some false
 else
  f19_L4 n n a0 a1 0
   (fun z_4 => (
    some z_4))
   (fun (_ : Unit) => (
    some true))
def f19_E (n : Nat) : Ent := ⟨19, [hRs, hRs], [.bool], fun x => f19 n x.1 x.2⟩
def f19_D (α : Type) (n : Nat) : D3 α := { reg := [(6, ⟨8, [], [(8, { ent := some (f24_E n) })]⟩)], join := [], loop := [(4, ⟨f19_L4H, f19_L4O, rounds (f19_L4U n) n⟩)] }
theorem f19_ents (α : Type) (n : Nat) : AllS Try.prog (entsOf (f19_D α n).reg) := ⟨f24_ok n, trivial⟩
theorem f19_L4_d (α : Type) (n : Nat) : D3.OK Try.prog (tyOf Try.prog) ⟨27, []⟩ (f19_D α n) ((bodyOf Try.f19).at [1, 1, 0, 1, 0, 0]) :=
 D3.OK.mk3 (f19_ents α n) (show loopsOf ((bodyOf Try.f19).at [1, 1, 0, 1, 0, 0]) = [] by kernel_rfl) trivial
theorem f19_L4_ok (α : Type) (n : Nat) : LO.Sound (α := α) Try.prog ⟨27, []⟩ ⟨f19_L4H, f19_L4O, rounds (f19_L4U n) n⟩ (.loop ((bodyOf Try.f19).at [1, 1, 0, 1, 0, 0])) :=
 loop_ok (tyOf_ok _) prog_fol (f19_L4U n) (f19_L4_d α n) (by intro v f ks; kernel_rfl) n
theorem f19_d (α : Type) (n : Nat) : D3.OK Try.prog (tyOf Try.prog) ⟨27, []⟩ (f19_D α n) (bodyOf Try.f19) :=
 D3.OK.mk3 (f19_ents α n) (show loopsOf (bodyOf Try.f19) = [(4, (.loop ((bodyOf Try.f19).at [1, 1, 0, 1, 0, 0])))] by kernel_rfl) ⟨look_sound rfl (f19_L4_ok α n), trivial⟩
theorem f19_ok (n : Nat) : (f19_E n).Sound Try.prog :=
 fn_ok (tyOf_ok _) prog_fol (f19_D _ n) (show Try.prog.funcs[19]? = some Try.f19 by kernel_rfl) (by kernel_rfl) (show Try.f19.body = some (bodyOf Try.f19) by kernel_rfl) rfl rfl (Nat.le_of_ble_eq_true rfl) (f19_d _ n) (by intro x; kernel_rfl) 

def f74_L2B {α : Type} (n : Nat) (s0 : LI) (s1 s5 : Int) (f : LI → Int → Int → Option α) (k0 : Int → Option α) : Option α :=
 bif (decide (s5 < (s0.length : Int))) then
  gd (decide (0 ≤ s5) && decide (s5 < (s0.length : Int))) (
   none)
 else
  k0 s1
abbrev f74_L2H : Tm := ⟨[(0, .d hIs), (1, .d hI), (5, .d hI)], [], [], []⟩
abbrev f74_L2X0 : Tm := ⟨[(1, .d hI)], [], [], []⟩
abbrev f74_L2O : List (Exit × Tm) := [(.exit 0, f74_L2X0)]
def f74_L2U {α : Type} (n : Nat) (v : f74_L2H.den) (f : f74_L2H.den → Option α) (ks : KS α f74_L2O) : Option α := f74_L2B n v.1.1 v.1.2.1 v.1.2.2.1 (fun s0 s1 s5 => f ((s0, s1, s5, ()), ())) (fun w0 => ks.1 ((w0, ()), ()))
def f74_L2 {α : Type} (n m : Nat) (s0 : LI) (s1 s5 : Int) (k0 : Int → Option α) : Option α := rounds (f74_L2U n) m ((s0, s1, s5, ()), ()) (fun w => k0 w.1.1, ())
theorem f74_L2_0 {α n s0 s1 s5 k0} : f74_L2 (α := α) n 0 s0 s1 s5 k0 = none := rfl
theorem f74_L2_s {α n m s0 s1 s5 k0} : f74_L2 (α := α) n (m + 1) s0 s1 s5 k0 = f74_L2B n s0 s1 s5 (fun s0 s1 s5 => f74_L2 n m s0 s1 s5 k0) k0 := rfl
def f74 (n : Nat) (a0 : LI) (a1 : Int) : Option Int :=
 f74_L2 n n a0 a1 0
  (fun z_1 => (
   some z_1))
def f74_E (n : Nat) : Ent := ⟨74, [hIs, hI], [hI], fun x => f74 n x.1 x.2⟩
def f74_D (α : Type) (n : Nat) : D3 α := { reg := [], join := [], loop := [(2, ⟨f74_L2H, f74_L2O, rounds (f74_L2U n) n⟩)] }
theorem f74_ents (α : Type) (n : Nat) : AllS Try.prog (entsOf (f74_D α n).reg) := trivial
theorem f74_L2_d (α : Type) (n : Nat) : D3.OK Try.prog (tyOf Try.prog) ⟨19, []⟩ (f74_D α n) ((bodyOf Try.f74).at [1, 0, 1, 0, 0]) :=
 D3.OK.mk3 (f74_ents α n) (show loopsOf ((bodyOf Try.f74).at [1, 0, 1, 0, 0]) = [] by kernel_rfl) trivial
theorem f74_L2_ok (α : Type) (n : Nat) : LO.Sound (α := α) Try.prog ⟨19, []⟩ ⟨f74_L2H, f74_L2O, rounds (f74_L2U n) n⟩ (.loop ((bodyOf Try.f74).at [1, 0, 1, 0, 0])) :=
 loop_ok (tyOf_ok _) prog_fol (f74_L2U n) (f74_L2_d α n) (by intro v f ks; kernel_rfl) n
theorem f74_d (α : Type) (n : Nat) : D3.OK Try.prog (tyOf Try.prog) ⟨19, []⟩ (f74_D α n) (bodyOf Try.f74) :=
 D3.OK.mk3 (f74_ents α n) (show loopsOf (bodyOf Try.f74) = [(2, (.loop ((bodyOf Try.f74).at [1, 0, 1, 0, 0])))] by kernel_rfl) ⟨look_sound rfl (f74_L2_ok α n), trivial⟩
theorem f74_ok (n : Nat) : (f74_E n).Sound Try.prog :=
 fn_ok (tyOf_ok _) prog_fol (f74_D _ n) (show Try.prog.funcs[74]? = some Try.f74 by kernel_rfl) (by kernel_rfl) (show Try.f74.body = some (bodyOf Try.f74) by kernel_rfl) rfl rfl (Nat.le_of_ble_eq_true rfl) (f74_d _ n) (by intro x; kernel_rfl) 

def f74B_L2B {α : Type} (n : Nat) (s1 s5 : Int) (b1000 : LI) (f : Int → Int → LI → Option α) (k0 : Int → LI → Option α) : Option α :=
 bif (decide (s5 < (b1000.length : Int))) then
  gd (decide (0 ≤ s5) && decide (s5 < (b1000.length : Int))) (
   gd (decide (s5.toNat < b1000.length)) (
    f (W (s1 + 1)) (W (s5 + 1)) (b1000.set s5.toNat s1)))
 else
  k0 s1 b1000
abbrev f74B_L2H : Tm := ⟨[(0, .k (.hw 1000)), (1, .d hI), (5, .d hI)], [(1000, .arr 3 hI false)], [], []⟩
abbrev f74B_L2X0 : Tm := ⟨[(1, .d hI)], [(1000, .arr 3 hI false)], [], []⟩
abbrev f74B_L2O : List (Exit × Tm) := [(.exit 0, f74B_L2X0)]
def f74B_L2U {α : Type} (n : Nat) (v : f74B_L2H.den) (f : f74B_L2H.den → Option α) (ks : KS α f74B_L2O) : Option α := f74B_L2B n v.1.2.1 v.1.2.2.1 v.2.1 (fun s1 s5 b1000 => f (((), s1, s5, ()), (b1000, ()))) (fun w0 w1 => ks.1 ((w0, ()), (w1, ())))
def f74B_L2 {α : Type} (n m : Nat) (s1 s5 : Int) (b1000 : LI) (k0 : Int → LI → Option α) : Option α := rounds (f74B_L2U n) m (((), s1, s5, ()), (b1000, ())) (fun w => k0 w.1.1 w.2.1, ())
theorem f74B_L2_0 {α n s1 s5 b1000 k0} : f74B_L2 (α := α) n 0 s1 s5 b1000 k0 = none := rfl
theorem f74B_L2_s {α n m s1 s5 b1000 k0} : f74B_L2 (α := α) n (m + 1) s1 s5 b1000 k0 = f74B_L2B n s1 s5 b1000 (fun s1 s5 b1000 => f74B_L2 n m s1 s5 b1000 k0) k0 := rfl
def f74B (n : Nat) (a0 : LI) (a1 : Int) : Option (Int × LI) :=
 f74B_L2 n n a1 0 a0
  (fun z_1 z_2 => (
   some (z_1, z_2)))
def f74B_E (n : Nat) : Ent3 := ⟨74, [.one (.own 3 hI), .im hI], [[.im hI]], fun x => f74B n x.1 x.2⟩
def f74B_D (α : Type) (n : Nat) : D3 α := { reg := [], join := [], loop := [(2, ⟨f74B_L2H, f74B_L2O, rounds (f74B_L2U n) n⟩)] }
theorem f74B_ents (α : Type) (n : Nat) : AllS Try.prog (entsOf (f74B_D α n).reg) := trivial
theorem f74B_L2_d (α : Type) (n : Nat) : D3.OK Try.prog (tyOf Try.prog) ⟨19, []⟩ (f74B_D α n) ((bodyOf Try.f74).at [1, 0, 1, 0, 0]) :=
 D3.OK.mk3 (f74B_ents α n) (show loopsOf ((bodyOf Try.f74).at [1, 0, 1, 0, 0]) = [] by kernel_rfl) trivial
theorem f74B_L2_ok (α : Type) (n : Nat) : LO.Sound (α := α) Try.prog ⟨19, []⟩ ⟨f74B_L2H, f74B_L2O, rounds (f74B_L2U n) n⟩ (.loop ((bodyOf Try.f74).at [1, 0, 1, 0, 0])) :=
 loop_ok (tyOf_ok _) prog_fol (f74B_L2U n) (f74B_L2_d α n) (by intro v f ks; kernel_rfl) n
theorem f74B_d (α : Type) (n : Nat) : D3.OK Try.prog (tyOf Try.prog) ⟨19, []⟩ (f74B_D α n) (bodyOf Try.f74) :=
 D3.OK.mk3 (f74B_ents α n) (show loopsOf (bodyOf Try.f74) = [(2, (.loop ((bodyOf Try.f74).at [1, 0, 1, 0, 0])))] by kernel_rfl) ⟨look_sound rfl (f74B_L2_ok α n), trivial⟩
theorem f74B_ok (n : Nat) : (f74B_E n).Sound Try.prog :=
 fn_okB (tyOf_ok _) prog_fol (f74B_D _ n) (show Try.prog.funcs[74]? = some Try.f74 by kernel_rfl) (by kernel_rfl) (show Try.f74.body = some (bodyOf Try.f74) by kernel_rfl) rfl rfl (Nat.le_of_ble_eq_true rfl) (f74B_d _ n) (by intro x; kernel_rfl) 

def f34B_L2B {α : Type} (n : Nat) (s1 s5 : Int) (b1000 : LR) (f : Int → Int → LR → Option α) (k0 : Int → LR → Option α) : Option α :=
 bif (decide (s5 < (b1000.length : Int))) then
  gd (decide (0 ≤ s5) && decide (s5 < (b1000.length : Int))) (
   gd (decide (s5.toNat < b1000.length)) (
    let x_1 := b1000.set s5.toNat (((Int.tmod s1 3) == 0), ((b1000.getD s5.toNat (false, [], [])).2))
    gd (decide (0 ≤ s5) && decide (s5 < (x_1.length : Int))) (
     gd (decide (s5.toNat < x_1.length)) (
      let x_2 := x_1.getD s5.toNat (false, [], [])
      bif x_2.2.1.isEmpty then
       ob (f74 n [] (W (s1 + 1))) fun r_3 =>
       gd (decide (0 ≤ s5) && decide (s5 < (x_1.length : Int))) (
        gd (decide (s5.toNat < x_1.length)) (
         let x_4 := x_1.getD s5.toNat (false, [], [])
         bif x_4.2.2.isEmpty then
          ob (f74 n [] r_3) fun r_5 =>
          f r_5 (W (s5 + 1)) x_1
         else
          ob (f74B n x_4.2.2 r_3) fun r_6 =>
          gd (Nat.beq r_6.2.length x_4.2.2.length && true) (
           gd (decide (s5.toNat < x_1.length)) (
            let x_7 := x_1.set s5.toNat ((x_1.getD s5.toNat (false, [], [])).1, ((x_1.getD s5.toNat (false, [], [])).2).1, r_6.2)
            f r_6.1 (W (s5 + 1)) x_7))))
      else
       ob (f74B n x_2.2.1 (W (s1 + 1))) fun r_8 =>
       gd (Nat.beq r_8.2.length x_2.2.1.length && true) (
        gd (decide (s5.toNat < x_1.length)) (
         let x_9 := x_1.set s5.toNat ((x_1.getD s5.toNat (false, [], [])).1, r_8.2, ((x_1.getD s5.toNat (false, [], [])).2).2)
         gd (decide (0 ≤ s5) && decide (s5 < (x_9.length : Int))) (
          gd (decide (s5.toNat < x_9.length)) (
           let x_10 := x_9.getD s5.toNat (false, [], [])
           bif x_10.2.2.isEmpty then
            ob (f74 n [] r_8.1) fun r_11 =>
            f r_11 (W (s5 + 1)) x_9
           else
            ob (f74B n x_10.2.2 r_8.1) fun r_12 =>
            gd (Nat.beq r_12.2.length x_10.2.2.length && true) (
             gd (decide (s5.toNat < x_9.length)) (
              let x_13 := x_9.set s5.toNat ((x_9.getD s5.toNat (false, [], [])).1, ((x_9.getD s5.toNat (false, [], [])).2).1, r_12.2)
              f r_12.1 (W (s5 + 1)) x_13))))))))))
 else
  k0 s1 b1000
abbrev f34B_L2H : Tm := ⟨[(0, .k (.hw 1000)), (1, .d hI), (5, .d hI)], [(1000, .tree 33 hR false)], [], []⟩
abbrev f34B_L2X0 : Tm := ⟨[(1, .d hI)], [(1000, .tree 33 hR false)], [], []⟩
abbrev f34B_L2O : List (Exit × Tm) := [(.exit 0, f34B_L2X0)]
def f34B_L2U {α : Type} (n : Nat) (v : f34B_L2H.den) (f : f34B_L2H.den → Option α) (ks : KS α f34B_L2O) : Option α := f34B_L2B n v.1.2.1 v.1.2.2.1 v.2.1 (fun s1 s5 b1000 => f (((), s1, s5, ()), (b1000, ()))) (fun w0 w1 => ks.1 ((w0, ()), (w1, ())))
def f34B_L2 {α : Type} (n m : Nat) (s1 s5 : Int) (b1000 : LR) (k0 : Int → LR → Option α) : Option α := rounds (f34B_L2U n) m (((), s1, s5, ()), (b1000, ())) (fun w => k0 w.1.1 w.2.1, ())
theorem f34B_L2_0 {α n s1 s5 b1000 k0} : f34B_L2 (α := α) n 0 s1 s5 b1000 k0 = none := rfl
theorem f34B_L2_s {α n m s1 s5 b1000 k0} : f34B_L2 (α := α) n (m + 1) s1 s5 b1000 k0 = f34B_L2B n s1 s5 b1000 (fun s1 s5 b1000 => f34B_L2 n m s1 s5 b1000 k0) k0 := rfl
def f34B (n : Nat) (a0 : LR) (a1 : Int) : Option (Int × LR) :=
 f34B_L2 n n a1 0 a0
  (fun z_14 z_15 => (
   some (z_14, z_15)))
def f34B_E (n : Nat) : Ent3 := ⟨34, [.one (.tree 33 hR), .im hI], [[.im hI]], fun x => f34B n x.1 x.2⟩
def f34B_D (α : Type) (n : Nat) : D3 α := { reg := [(6, ⟨0, [], [(4, { bor := some 2000 }), (6, { ent := some (f74_E n), alt := [(f74B_E n)], hb := 320, shut := some 2000 })]⟩), (7, ⟨0, [], [(4, { bor := some 2001 }), (6, { ent := some (f74_E n), alt := [(f74B_E n)], hb := 310, shut := some 2001 })]⟩)], join := [], loop := [(2, ⟨f34B_L2H, f34B_L2O, rounds (f34B_L2U n) n⟩)] }
theorem f34B_ents (α : Type) (n : Nat) : AllS Try.prog (entsOf (f34B_D α n).reg) := ⟨f74B_ok n, f74_ok n, f74B_ok n, f74_ok n, trivial⟩
theorem f34B_L2_d (α : Type) (n : Nat) : D3.OK Try.prog (tyOf Try.prog) ⟨36, []⟩ (f34B_D α n) ((bodyOf Try.f34).at [1, 0, 1, 0, 0]) :=
 D3.OK.mk3 (f34B_ents α n) (show loopsOf ((bodyOf Try.f34).at [1, 0, 1, 0, 0]) = [] by kernel_rfl) trivial
theorem f34B_L2_ok (α : Type) (n : Nat) : LO.Sound (α := α) Try.prog ⟨36, []⟩ ⟨f34B_L2H, f34B_L2O, rounds (f34B_L2U n) n⟩ (.loop ((bodyOf Try.f34).at [1, 0, 1, 0, 0])) :=
 loop_ok (tyOf_ok _) prog_fol (f34B_L2U n) (f34B_L2_d α n) (by intro v f ks; kernel_rfl) n
theorem f34B_d (α : Type) (n : Nat) : D3.OK Try.prog (tyOf Try.prog) ⟨36, []⟩ (f34B_D α n) (bodyOf Try.f34) :=
 D3.OK.mk3 (f34B_ents α n) (show loopsOf (bodyOf Try.f34) = [(2, (.loop ((bodyOf Try.f34).at [1, 0, 1, 0, 0])))] by kernel_rfl) ⟨look_sound rfl (f34B_L2_ok α n), trivial⟩
theorem f34B_ok (n : Nat) : (f34B_E n).Sound Try.prog :=
 fn_okB (tyOf_ok _) prog_fol (f34B_D _ n) (show Try.prog.funcs[34]? = some Try.f34 by kernel_rfl) (by kernel_rfl) (show Try.f34.body = some (bodyOf Try.f34) by kernel_rfl) rfl rfl (Nat.le_of_ble_eq_true rfl) (f34B_d _ n) (by intro x; kernel_rfl) 

def f75_L2B {α : Type} (n : Nat) (s0 : LI) (s1 s5 : Int) (f : LI → Int → Int → Option α) (k0 k1 : Int → Option α) : Option α :=
 bif (decide (s5 < (s0.length : Int))) then
  gd (decide (0 ≤ s5) && decide (s5 < (s0.length : Int))) (
   bif ((s0.getD s5.toNat 0) != s1) then
    k0 (-1)
   else
    f s0 (W (s1 + 1)) (W (s5 + 1)))
 else
  k1 s1
abbrev f75_L2H : Tm := ⟨[(0, .d hIs), (1, .d hI), (5, .d hI)], [], [], []⟩
abbrev f75_L2X0 : Tm := ⟨[(4, .d hI)], [], [], []⟩
abbrev f75_L2X1 : Tm := ⟨[(1, .d hI)], [], [], []⟩
abbrev f75_L2O : List (Exit × Tm) := [(.ret, f75_L2X0), (.exit 0, f75_L2X1)]
def f75_L2U {α : Type} (n : Nat) (v : f75_L2H.den) (f : f75_L2H.den → Option α) (ks : KS α f75_L2O) : Option α := f75_L2B n v.1.1 v.1.2.1 v.1.2.2.1 (fun s0 s1 s5 => f ((s0, s1, s5, ()), ())) (fun w0 => ks.1 ((w0, ()), ())) (fun w0 => ks.2.1 ((w0, ()), ()))
def f75_L2 {α : Type} (n m : Nat) (s0 : LI) (s1 s5 : Int) (k0 k1 : Int → Option α) : Option α := rounds (f75_L2U n) m ((s0, s1, s5, ()), ()) (fun w => k0 w.1.1, fun w => k1 w.1.1, ())
theorem f75_L2_0 {α n s0 s1 s5 k0 k1} : f75_L2 (α := α) n 0 s0 s1 s5 k0 k1 = none := rfl
theorem f75_L2_s {α n m s0 s1 s5 k0 k1} : f75_L2 (α := α) n (m + 1) s0 s1 s5 k0 k1 = f75_L2B n s0 s1 s5 (fun s0 s1 s5 => f75_L2 n m s0 s1 s5 k0 k1) k0 k1 := rfl
def f75 (n : Nat) (a0 : LI) (a1 : Int) : Option Int :=
 f75_L2 n n a0 a1 0
  (fun z_1 => (
   some z_1))
  (fun z_2 => (
   some z_2))
def f75_E (n : Nat) : Ent := ⟨75, [hIs, hI], [hI], fun x => f75 n x.1 x.2⟩
def f75_D (α : Type) (n : Nat) : D3 α := { reg := [], join := [], loop := [(2, ⟨f75_L2H, f75_L2O, rounds (f75_L2U n) n⟩)] }
theorem f75_ents (α : Type) (n : Nat) : AllS Try.prog (entsOf (f75_D α n).reg) := trivial
theorem f75_L2_d (α : Type) (n : Nat) : D3.OK Try.prog (tyOf Try.prog) ⟨21, []⟩ (f75_D α n) ((bodyOf Try.f75).at [1, 0, 1, 0, 0]) :=
 D3.OK.mk3 (f75_ents α n) (show loopsOf ((bodyOf Try.f75).at [1, 0, 1, 0, 0]) = [] by kernel_rfl) trivial
theorem f75_L2_ok (α : Type) (n : Nat) : LO.Sound (α := α) Try.prog ⟨21, []⟩ ⟨f75_L2H, f75_L2O, rounds (f75_L2U n) n⟩ (.loop ((bodyOf Try.f75).at [1, 0, 1, 0, 0])) :=
 loop_ok (tyOf_ok _) prog_fol (f75_L2U n) (f75_L2_d α n) (by intro v f ks; kernel_rfl) n
theorem f75_d (α : Type) (n : Nat) : D3.OK Try.prog (tyOf Try.prog) ⟨21, []⟩ (f75_D α n) (bodyOf Try.f75) :=
 D3.OK.mk3 (f75_ents α n) (show loopsOf (bodyOf Try.f75) = [(2, (.loop ((bodyOf Try.f75).at [1, 0, 1, 0, 0])))] by kernel_rfl) ⟨look_sound rfl (f75_L2_ok α n), trivial⟩
theorem f75_ok (n : Nat) : (f75_E n).Sound Try.prog :=
 fn_ok (tyOf_ok _) prog_fol (f75_D _ n) (show Try.prog.funcs[75]? = some Try.f75 by kernel_rfl) (by kernel_rfl) (show Try.f75.body = some (bodyOf Try.f75) by kernel_rfl) rfl rfl (Nat.le_of_ble_eq_true rfl) (f75_d _ n) (by intro x; kernel_rfl) 

def f35_L2B {α : Type} (n : Nat) (s0 : LR) (s1 s5 : Int) (f : LR → Int → Int → Option α) (k0 k1 : Int → Option α) : Option α :=
 bif (decide (s5 < (s0.length : Int))) then
  gd (decide (0 ≤ s5) && decide (s5 < (s0.length : Int))) (
   let x_1 := s0.getD s5.toNat (false, [], [])
   bif (!(x_1.1 == ((Int.tmod s1 3) == 0))) then
    k0 (-1)
   else
    gd (decide (0 ≤ s5) && decide (s5 < (s0.length : Int))) (
     let x_2 := s0.getD s5.toNat (false, [], [])
     ob (f75 n x_2.2.1 (W (s1 + 1))) fun r_3 =>
     bif (decide (r_3 < 0)) then
      k0 (-1)
     else
      gd (decide (0 ≤ s5) && decide (s5 < (s0.length : Int))) (
       let x_4 := s0.getD s5.toNat (false, [], [])
       ob (f75 n x_4.2.2 r_3) fun r_5 =>
       bif (decide (r_5 < 0)) then
        k0 (-1)
       else
        f s0 r_5 (W (s5 + 1)))))
 else
  k1 s1
abbrev f35_L2H : Tm := ⟨[(0, .d hRs), (1, .d hI), (5, .d hI)], [], [], []⟩
abbrev f35_L2X0 : Tm := ⟨[(4, .d hI)], [], [], []⟩
abbrev f35_L2X1 : Tm := ⟨[(1, .d hI)], [], [], []⟩
abbrev f35_L2O : List (Exit × Tm) := [(.ret, f35_L2X0), (.exit 0, f35_L2X1)]
def f35_L2U {α : Type} (n : Nat) (v : f35_L2H.den) (f : f35_L2H.den → Option α) (ks : KS α f35_L2O) : Option α := f35_L2B n v.1.1 v.1.2.1 v.1.2.2.1 (fun s0 s1 s5 => f ((s0, s1, s5, ()), ())) (fun w0 => ks.1 ((w0, ()), ())) (fun w0 => ks.2.1 ((w0, ()), ()))
def f35_L2 {α : Type} (n m : Nat) (s0 : LR) (s1 s5 : Int) (k0 k1 : Int → Option α) : Option α := rounds (f35_L2U n) m ((s0, s1, s5, ()), ()) (fun w => k0 w.1.1, fun w => k1 w.1.1, ())
theorem f35_L2_0 {α n s0 s1 s5 k0 k1} : f35_L2 (α := α) n 0 s0 s1 s5 k0 k1 = none := rfl
theorem f35_L2_s {α n m s0 s1 s5 k0 k1} : f35_L2 (α := α) n (m + 1) s0 s1 s5 k0 k1 = f35_L2B n s0 s1 s5 (fun s0 s1 s5 => f35_L2 n m s0 s1 s5 k0 k1) k0 k1 := rfl
def f35 (n : Nat) (a0 : LR) (a1 : Int) : Option Int :=
 f35_L2 n n a0 a1 0
  (fun z_6 => (
   some z_6))
  (fun z_7 => (
   some z_7))
def f35_E (n : Nat) : Ent := ⟨35, [hRs, hI], [hI], fun x => f35 n x.1 x.2⟩
def f35_D (α : Type) (n : Nat) : D3 α := { reg := [(7, ⟨0, [], [(6, { ent := some (f75_E n) })]⟩), (10, ⟨0, [], [(6, { ent := some (f75_E n) })]⟩)], join := [], loop := [(2, ⟨f35_L2H, f35_L2O, rounds (f35_L2U n) n⟩)] }
theorem f35_ents (α : Type) (n : Nat) : AllS Try.prog (entsOf (f35_D α n).reg) := ⟨f75_ok n, f75_ok n, trivial⟩
theorem f35_L2_d (α : Type) (n : Nat) : D3.OK Try.prog (tyOf Try.prog) ⟨42, []⟩ (f35_D α n) ((bodyOf Try.f35).at [1, 0, 1, 0, 0]) :=
 D3.OK.mk3 (f35_ents α n) (show loopsOf ((bodyOf Try.f35).at [1, 0, 1, 0, 0]) = [] by kernel_rfl) trivial
theorem f35_L2_ok (α : Type) (n : Nat) : LO.Sound (α := α) Try.prog ⟨42, []⟩ ⟨f35_L2H, f35_L2O, rounds (f35_L2U n) n⟩ (.loop ((bodyOf Try.f35).at [1, 0, 1, 0, 0])) :=
 loop_ok (tyOf_ok _) prog_fol (f35_L2U n) (f35_L2_d α n) (by intro v f ks; kernel_rfl) n
theorem f35_d (α : Type) (n : Nat) : D3.OK Try.prog (tyOf Try.prog) ⟨42, []⟩ (f35_D α n) (bodyOf Try.f35) :=
 D3.OK.mk3 (f35_ents α n) (show loopsOf (bodyOf Try.f35) = [(2, (.loop ((bodyOf Try.f35).at [1, 0, 1, 0, 0])))] by kernel_rfl) ⟨look_sound rfl (f35_L2_ok α n), trivial⟩
theorem f35_ok (n : Nat) : (f35_E n).Sound Try.prog :=
 fn_ok (tyOf_ok _) prog_fol (f35_D _ n) (show Try.prog.funcs[35]? = some Try.f35 by kernel_rfl) (by kernel_rfl) (show Try.f35.body = some (bodyOf Try.f35) by kernel_rfl) rfl rfl (Nat.le_of_ble_eq_true rfl) (f35_d _ n) (by intro x; kernel_rfl) 

def f72 (n : Nat) (a0 : Rq) : Option Rq :=
 ob (f132 n a0.2.1) fun r_1 =>
 ob (f132 n a0.2.2) fun r_2 =>
 some (a0.1, r_1, r_2)
def f72_E (n : Nat) : Ent := ⟨72, [hR], [hR], fun x => f72 n x⟩
def f72_D (α : Type) (n : Nat) : D3 α := { reg := [(1, ⟨8, [], [(4, { ent := some (f132_E n) }), (7, { ent := some (f132_E n) })]⟩)], join := [], loop := [] }
theorem f72_ents (α : Type) (n : Nat) : AllS Try.prog (entsOf (f72_D α n).reg) := ⟨f132_ok n, f132_ok n, trivial⟩
theorem f72_d (α : Type) (n : Nat) : D3.OK Try.prog (tyOf Try.prog) ⟨12, []⟩ (f72_D α n) (bodyOf Try.f72) :=
 D3.OK.mk3 (f72_ents α n) (show loopsOf (bodyOf Try.f72) = [] by kernel_rfl) trivial
theorem f72_ok (n : Nat) : (f72_E n).Sound Try.prog :=
 fn_ok (tyOf_ok _) prog_fol (f72_D _ n) (show Try.prog.funcs[72]? = some Try.f72 by kernel_rfl) (by kernel_rfl) (show Try.f72.body = some (bodyOf Try.f72) by kernel_rfl) rfl rfl (Nat.le_of_ble_eq_true rfl) (f72_d _ n) (by intro x; kernel_rfl) 

def f97c142_L3B {α : Type} (n : Nat) (s1 : LR × Int) (s8 s9 : Int) (b7 : LR) (f : (LR × Int) → Int → Int → LR → Option α) (k0 : LR → Option α) : Option α :=
 bif (decide (s9 < s8)) then
  ob (f142 n s9 s1.1 s1.2) fun r_1 =>
  ob (f72 n r_1) fun r_2 =>
  gd (decide ((b7.length + 1) * 56 ≤ 140737488355328)) (
   f s1 s8 (W (s9 + 1)) (b7 ++ [r_2]))
 else
  k0 b7
abbrev f97c142_L3H : Tm := ⟨[(1, .d (.clo 142 (.pair (.ref hRs) (.ref hI)))), (5, .k (.hw 7)), (8, .d hI), (9, .d hI)], [(7, .arr 33 hR false)], [17], []⟩
abbrev f97c142_L3X0 : Tm := ⟨[(5, .k (.hw 7))], [(7, .arr 33 hR false)], [], []⟩
abbrev f97c142_L3O : List (Exit × Tm) := [(.exit 0, f97c142_L3X0)]
def f97c142_L3U {α : Type} (n : Nat) (v : f97c142_L3H.den) (f : f97c142_L3H.den → Option α) (ks : KS α f97c142_L3O) : Option α := f97c142_L3B n v.1.1 v.1.2.2.1 v.1.2.2.2.1 v.2.1 (fun s1 s8 s9 b7 => f ((s1, (), s8, s9, ()), (b7, ()))) (fun w0 => ks.1 (((), ()), (w0, ())))
def f97c142_L3 {α : Type} (n m : Nat) (s1 : LR × Int) (s8 s9 : Int) (b7 : LR) (k0 : LR → Option α) : Option α := rounds (f97c142_L3U n) m ((s1, (), s8, s9, ()), (b7, ())) (fun w => k0 w.2.1, ())
theorem f97c142_L3_0 {α n s1 s8 s9 b7 k0} : f97c142_L3 (α := α) n 0 s1 s8 s9 b7 k0 = none := rfl
theorem f97c142_L3_s {α n m s1 s8 s9 b7 k0} : f97c142_L3 (α := α) n (m + 1) s1 s8 s9 b7 k0 = f97c142_L3B n s1 s8 s9 b7 (fun s1 s8 s9 b7 => f97c142_L3 n m s1 s8 s9 b7 k0) k0 := rfl
def f97c142 (n : Nat) (a0 : Int) (a1 : LR × Int) : Option LR :=
 f97c142_L3 n n a1 a0 0 []
  (fun z_3 => (
   some z_3))
def f97c142_E (n : Nat) : Ent := ⟨97, [hI, (.clo 142 (.pair (.ref hRs) (.ref hI)))], [hRs], fun x => f97c142 n x.1 x.2⟩
def f97c142_D (α : Type) (n : Nat) : D3 α := { reg := [(1, ⟨0, [], [(0, { sh := some hR })]⟩), (5, ⟨0, [], [(3, { ent := some (f142_E n) }), (4, { ent := some (f72_E n) }), (5, { sh := some hR })]⟩)], join := [], loop := [(3, ⟨f97c142_L3H, f97c142_L3O, rounds (f97c142_L3U n) n⟩)] }
theorem f97c142_ents (α : Type) (n : Nat) : AllS Try.prog (entsOf (f97c142_D α n).reg) := ⟨f142_ok n, f72_ok n, trivial⟩
theorem f97c142_L3_d (α : Type) (n : Nat) : D3.OK Try.prog (tyOf Try.prog) ⟨21, []⟩ (f97c142_D α n) ((bodyOf Try.f97).at [1, 1, 0, 1, 0, 0]) :=
 D3.OK.mk3 (f97c142_ents α n) (show loopsOf ((bodyOf Try.f97).at [1, 1, 0, 1, 0, 0]) = [] by kernel_rfl) trivial
theorem f97c142_L3_ok (α : Type) (n : Nat) : LO.Sound (α := α) Try.prog ⟨21, []⟩ ⟨f97c142_L3H, f97c142_L3O, rounds (f97c142_L3U n) n⟩ (.loop ((bodyOf Try.f97).at [1, 1, 0, 1, 0, 0])) :=
 loop_ok (tyOf_ok _) prog_fol (f97c142_L3U n) (f97c142_L3_d α n) (by intro v f ks; kernel_rfl) n
theorem f97c142_d (α : Type) (n : Nat) : D3.OK Try.prog (tyOf Try.prog) ⟨21, []⟩ (f97c142_D α n) (bodyOf Try.f97) :=
 D3.OK.mk3 (f97c142_ents α n) (show loopsOf (bodyOf Try.f97) = [(3, (.loop ((bodyOf Try.f97).at [1, 1, 0, 1, 0, 0])))] by kernel_rfl) ⟨look_sound rfl (f97c142_L3_ok α n), trivial⟩
theorem f97c142_ok (n : Nat) : (f97c142_E n).Sound Try.prog :=
 fn_ok (tyOf_ok _) prog_fol (f97c142_D _ n) (show Try.prog.funcs[97]? = some Try.f97 by kernel_rfl) (by kernel_rfl) (show Try.f97.body = some (bodyOf Try.f97) by kernel_rfl) rfl rfl (Nat.le_of_ble_eq_true rfl) (f97c142_d _ n) (by intro x; kernel_rfl) 

def f82 (n : Nat) (a0 : LR) (a1 : Int) : Option LR :=
 ob (f97c142 n (W (a1 * a1)) (a0, a1)) fun r_1 =>
 some r_1
def f82_E (n : Nat) : Ent := ⟨82, [hRs, hI], [hRs], fun x => f82 n x.1 x.2⟩
def f82_D (α : Type) (n : Nat) : D3 α := { reg := [(1, ⟨0, [], [(3, { sh := some (.pair (.ref hRs) (.ref hI)) }), (4, { ent := some (f97c142_E n) })]⟩)], join := [], loop := [] }
theorem f82_ents (α : Type) (n : Nat) : AllS Try.prog (entsOf (f82_D α n).reg) := ⟨f97c142_ok n, trivial⟩
theorem f82_d (α : Type) (n : Nat) : D3.OK Try.prog (tyOf Try.prog) ⟨10, []⟩ (f82_D α n) (bodyOf Try.f82) :=
 D3.OK.mk3 (f82_ents α n) (show loopsOf (bodyOf Try.f82) = [] by kernel_rfl) trivial
theorem f82_ok (n : Nat) : (f82_E n).Sound Try.prog :=
 fn_ok (tyOf_ok _) prog_fol (f82_D _ n) (show Try.prog.funcs[82]? = some Try.f82 by kernel_rfl) (by kernel_rfl) (show Try.f82.body = some (bodyOf Try.f82) by kernel_rfl) rfl rfl (Nat.le_of_ble_eq_true rfl) (f82_d _ n) (by intro x; kernel_rfl) 

def f33 (n : Nat) (a0 : LR) (a1 : Int) : Option (LR × Int) :=
 ob (f81 n a1 [a0]) fun r_1 =>
 bif (r_1 != 0) then
  some ([], r_1)
 else
  ob (f82 n a0 a1) fun r_2 =>
  some (r_2, 0)
def f33_E (n : Nat) : Ent := ⟨33, [hRs, hI], [hRs, hI], fun x => f33 n x.1 x.2⟩
def f33_D (α : Type) (n : Nat) : D3 α := { reg := [(1, ⟨0, [], [(2, { sh := some hRs }), (3, { ent := some (f81_E n) })]⟩), (4, ⟨0, [], [(2, { ent := some (f82_E n) })]⟩)], join := [], loop := [] }
theorem f33_ents (α : Type) (n : Nat) : AllS Try.prog (entsOf (f33_D α n).reg) := ⟨f81_ok n, f82_ok n, trivial⟩
theorem f33_d (α : Type) (n : Nat) : D3.OK Try.prog (tyOf Try.prog) ⟨17, []⟩ (f33_D α n) (bodyOf Try.f33) :=
 D3.OK.mk3 (f33_ents α n) (show loopsOf (bodyOf Try.f33) = [] by kernel_rfl) trivial
theorem f33_ok (n : Nat) : (f33_E n).Sound Try.prog :=
 fn_ok (tyOf_ok _) prog_fol (f33_D _ n) (show Try.prog.funcs[33]? = some Try.f33 by kernel_rfl) (by kernel_rfl) (show Try.f33.body = some (bodyOf Try.f33) by kernel_rfl) rfl rfl (Nat.le_of_ble_eq_true rfl) (f33_d _ n) (by intro x; kernel_rfl) 

def f34_L2B {α : Type} (n : Nat) (s0 : LR) (s1 s5 : Int) (f : LR → Int → Int → Option α) (k0 : Int → Option α) : Option α :=
 bif (decide (s5 < (s0.length : Int))) then
  gd (decide (0 ≤ s5) && decide (s5 < (s0.length : Int))) (
   none)
 else
  k0 s1
abbrev f34_L2H : Tm := ⟨[(0, .d hRs), (1, .d hI), (5, .d hI)], [], [], []⟩
abbrev f34_L2X0 : Tm := ⟨[(1, .d hI)], [], [], []⟩
abbrev f34_L2O : List (Exit × Tm) := [(.exit 0, f34_L2X0)]
def f34_L2U {α : Type} (n : Nat) (v : f34_L2H.den) (f : f34_L2H.den → Option α) (ks : KS α f34_L2O) : Option α := f34_L2B n v.1.1 v.1.2.1 v.1.2.2.1 (fun s0 s1 s5 => f ((s0, s1, s5, ()), ())) (fun w0 => ks.1 ((w0, ()), ()))
def f34_L2 {α : Type} (n m : Nat) (s0 : LR) (s1 s5 : Int) (k0 : Int → Option α) : Option α := rounds (f34_L2U n) m ((s0, s1, s5, ()), ()) (fun w => k0 w.1.1, ())
theorem f34_L2_0 {α n s0 s1 s5 k0} : f34_L2 (α := α) n 0 s0 s1 s5 k0 = none := rfl
theorem f34_L2_s {α n m s0 s1 s5 k0} : f34_L2 (α := α) n (m + 1) s0 s1 s5 k0 = f34_L2B n s0 s1 s5 (fun s0 s1 s5 => f34_L2 n m s0 s1 s5 k0) k0 := rfl
def f34 (n : Nat) (a0 : LR) (a1 : Int) : Option Int :=
 f34_L2 n n a0 a1 0
  (fun z_2 => (
   some z_2))
def f34_E (n : Nat) : Ent := ⟨34, [hRs, hI], [hI], fun x => f34 n x.1 x.2⟩
def f34_D (α : Type) (n : Nat) : D3 α := { reg := [], join := [], loop := [(2, ⟨f34_L2H, f34_L2O, rounds (f34_L2U n) n⟩)] }
theorem f34_ents (α : Type) (n : Nat) : AllS Try.prog (entsOf (f34_D α n).reg) := trivial
theorem f34_L2_d (α : Type) (n : Nat) : D3.OK Try.prog (tyOf Try.prog) ⟨36, []⟩ (f34_D α n) ((bodyOf Try.f34).at [1, 0, 1, 0, 0]) :=
 D3.OK.mk3 (f34_ents α n) (show loopsOf ((bodyOf Try.f34).at [1, 0, 1, 0, 0]) = [] by kernel_rfl) trivial
theorem f34_L2_ok (α : Type) (n : Nat) : LO.Sound (α := α) Try.prog ⟨36, []⟩ ⟨f34_L2H, f34_L2O, rounds (f34_L2U n) n⟩ (.loop ((bodyOf Try.f34).at [1, 0, 1, 0, 0])) :=
 loop_ok (tyOf_ok _) prog_fol (f34_L2U n) (f34_L2_d α n) (by intro v f ks; kernel_rfl) n
theorem f34_d (α : Type) (n : Nat) : D3.OK Try.prog (tyOf Try.prog) ⟨36, []⟩ (f34_D α n) (bodyOf Try.f34) :=
 D3.OK.mk3 (f34_ents α n) (show loopsOf (bodyOf Try.f34) = [(2, (.loop ((bodyOf Try.f34).at [1, 0, 1, 0, 0])))] by kernel_rfl) ⟨look_sound rfl (f34_L2_ok α n), trivial⟩
theorem f34_ok (n : Nat) : (f34_E n).Sound Try.prog :=
 fn_ok (tyOf_ok _) prog_fol (f34_D _ n) (show Try.prog.funcs[34]? = some Try.f34 by kernel_rfl) (by kernel_rfl) (show Try.f34.body = some (bodyOf Try.f34) by kernel_rfl) rfl rfl (Nat.le_of_ble_eq_true rfl) (f34_d _ n) (by intro x; kernel_rfl) 

def f6 (n : Nat) (a0 : LR) (a1 : Int) : Option Bool :=
 ob (f15 n a0 1048576) fun r_1 =>
 bif (decide (r_1 < 0)) then
  some true
 else
  ob (f17 n a0) fun r_2 =>
  ob (f32 n r_2 a1) fun r_3 =>
  ob (f17B n a0) fun r_4 =>
  ob (f33B n r_4 a1) fun r_5 =>
  caseS r_5 (fun r_6 =>
   ob (f19 n r_6.1 r_3.1) fun r_8 =>
   bif (!r_8) then
    some false
   else
    bif (r_6.2 != r_3.2) then
     some false
    else
     ob (f17 n a0) fun r_9 =>
     ob (f19 n r_4 r_9) fun r_10 =>
     bif (!r_10) then
      some false
     else
      ob (f34B n r_4 1) fun r_11 =>
      gd (Nat.beq r_11.2.length r_4.length && true) (
       bif (decide (r_11.1 < 0)) then
        some false
       else
        ob (f19 n r_6.1 r_3.1) fun r_12 =>
        bif (!r_12) then
         some false
        else
         bif (r_6.2 != r_3.2) then
          some false
         else
          ob (f34B n r_6.1 1) fun r_13 =>
          gd (Nat.beq r_13.2.length r_6.1.length && true) (
           ob (f35 n r_13.2 1) fun r_14 =>
           bif (decide (r_14 < 0)) then
            some false
           else
            bif (r_14 != r_13.1) then
             some false
            else
             ob (f17 n a0) fun r_15 =>
             ob (f33 n r_15 a1) fun r_16 =>
             ob (f19 n r_16.1 r_3.1) fun r_17 =>
             bif (!r_17) then
              some false
             else
              bif (r_16.2 != r_3.2) then
               some false
              else
               ob (f35 n r_13.2 1) fun r_18 =>
               bif (decide (r_18 < 0)) then
                some false
               else
                bif (r_18 != r_13.1) then
                 some false
                else
                 some true))) (fun r_7 =>
   ob (f19 n [] r_3.1) fun r_19 =>
   bif (!r_19) then
    some false
   else
    bif (r_7.2 != r_3.2) then
     some false
    else
     ob (f17 n a0) fun r_20 =>
     ob (f19 n r_4 r_20) fun r_21 =>
     bif (!r_21) then
      some false
     else
      ob (f34B n r_4 1) fun r_22 =>
      gd (Nat.beq r_22.2.length r_4.length && true) (
       bif (decide (r_22.1 < 0)) then
        some false
       else
        ob (f19 n [] r_3.1) fun r_23 =>
        bif (!r_23) then
         some false
        else
         bif (r_7.2 != r_3.2) then
          some false
         else
          ob (f34 n [] 1) fun r_24 =>
          ob (f35 n [] 1) fun r_25 =>
          bif (decide (r_25 < 0)) then
           some false
          else
           bif (r_25 != r_24) then
            some false
           else
            ob (f17 n a0) fun r_26 =>
            ob (f33 n r_26 a1) fun r_27 =>
            ob (f19 n r_27.1 r_3.1) fun r_28 =>
            bif (!r_28) then
             some false
            else
             bif (r_27.2 != r_3.2) then
              some false
             else
              ob (f35 n [] 1) fun r_29 =>
              bif (decide (r_29 < 0)) then
               some false
              else
               bif (r_29 != r_24) then
                some false
               else
                some true))
def f6_E (n : Nat) : Ent := ⟨6, [hRs, hI], [.bool], fun x => f6 n x.1 x.2⟩
def f6_D (α : Type) (n : Nat) : D3 α := { reg := [(2, ⟨0, [], [(2, { ent := some (f15_E n) })]⟩), (5, ⟨0, [], [(1, { ent := some (f17_E n) }), (3, { ent := some (f32_E n) })]⟩), (6, ⟨0, [], [(1, { entB := some (f17B_E n), hb := 310 })]⟩), (7, ⟨0, [], [(2, { entB := some (f33B_E n), hb := 320 })]⟩), (8, ⟨0, [], [(2, { ent := some (f19_E n) })]⟩), (10, ⟨0, [], [(2, { ent := some (f17_E n) }), (3, { ent := some (f19_E n) })]⟩), (13, ⟨0, [], [(2, { alt := [(f34B_E n)], hb := 330 })]⟩), (14, ⟨0, [], [(5, { ent := some (f19_E n) })]⟩), (17, ⟨0, [], [(2, { ent := some (f34_E n), alt := [(f34B_E n)], hb := 340 })]⟩), (19, ⟨0, [], [(2, { ent := some (f35_E n) })]⟩), (24, ⟨0, [], [(1, { ent := some (f17_E n) }), (3, { ent := some (f33_E n) })]⟩), (25, ⟨0, [], [(2, { ent := some (f19_E n) })]⟩), (28, ⟨0, [], [(2, { ent := some (f35_E n) })]⟩)], join := [], loop := [] }
theorem f6_ents (α : Type) (n : Nat) : AllS Try.prog (entsOf (f6_D α n).reg) := ⟨f15_ok n, f17_ok n, f32_ok n, f17B_ok n, f33B_ok n, f19_ok n, f17_ok n, f19_ok n, f34B_ok n, f19_ok n, f34B_ok n, f34_ok n, f35_ok n, f17_ok n, f33_ok n, f19_ok n, f35_ok n, trivial⟩
theorem f6_d (α : Type) (n : Nat) : D3.OK Try.prog (tyOf Try.prog) ⟨101, []⟩ (f6_D α n) (bodyOf Try.f6) :=
 D3.OK.mk3 (f6_ents α n) (show loopsOf (bodyOf Try.f6) = [] by kernel_rfl) trivial
theorem f6_ok (n : Nat) : (f6_E n).Sound Try.prog :=
 fn_ok (tyOf_ok _) prog_fol (f6_D _ n) (show Try.prog.funcs[6]? = some Try.f6 by kernel_rfl) (by kernel_rfl) (show Try.f6.body = some (bodyOf Try.f6) by kernel_rfl) rfl rfl (Nat.le_of_ble_eq_true rfl) (f6_d _ n) (by intro x; kernel_rfl) 

end Go.Ev
