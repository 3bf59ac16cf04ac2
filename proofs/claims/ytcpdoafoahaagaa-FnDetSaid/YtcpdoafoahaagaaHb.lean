/- DERIVED. What the functions compute, and that they do. -/
import Derived.Test.YtcpdoafoahaagaaHa

set_option linter.all false
set_option linter.unusedVariables false
set_option linter.unusedSimpArgs false

namespace Go.Ev
open Go Go.Proofs Go.RowKit Go.Shelf
def f69c70 (n : Nat) (a0 : List LR) (a1 : Int) : Option Bool :=
 ob (f78c70 n a0 a1) fun r_1 =>
 some (decide (r_1 ≥ 0))
def f69c70_E (n : Nat) : Ent := ⟨69, [(.sl hRs), (.clo 70 (.ref hI))], [.bool], fun x => f69c70 n x.1 x.2⟩
def f69c70_D (α : Type) (n : Nat) : D3 α := { reg := [(1, ⟨0, [], [(2, { ent := some (f78c70_E n) })]⟩)], join := [], loop := [] }
theorem f69c70_ents (α : Type) (n : Nat) : AllS Try.prog (entsOf (f69c70_D α n).reg) := ⟨f78c70_ok n, trivial⟩
theorem f69c70_d (α : Type) (n : Nat) : D3.OK Try.prog (tyOf Try.prog) ⟨9, []⟩ (f69c70_D α n) (bodyOf Try.f69) :=
 D3.OK.mk3 (f69c70_ents α n) (show loopsOf (bodyOf Try.f69) = [] by kernel_rfl) trivial
theorem f69c70_ok (n : Nat) : (f69c70_E n).Sound Try.prog :=
 fn_ok (tyOf_ok _) prog_fol (f69c70_D _ n) (show Try.prog.funcs[69]? = some Try.f69 by kernel_rfl) (by kernel_rfl) (show Try.f69.body = some (bodyOf Try.f69) by kernel_rfl) rfl rfl (Nat.le_of_ble_eq_true rfl) (f69c70_d _ n) (by intro x; kernel_rfl) 

def f66_L2B {α : Type} (n : Nat) (s5 : LI) (s6 s7 : Int) (f : LI → Int → Int → Option α) (k0 : Int → Option α) (k1 : Unit → Option α) : Option α :=
 bif (decide (s7 < s6)) then
  gd (decide (0 ≤ s7) && decide (s7 < (s5.length : Int))) (
   bif ((s5.getD s7.toNat 0) != 0) then
    k0 (s5.getD s7.toNat 0)
   else
    f s5 s6 (W (s7 + 1)))
 else
  k1 ()
abbrev f66_L2H : Tm := ⟨[(5, .d hIs), (6, .d hI), (7, .d hI)], [], [], []⟩
abbrev f66_L2X0 : Tm := ⟨[(2, .d hI)], [], [], []⟩
abbrev f66_L2X1 : Tm := ⟨[], [], [], []⟩
abbrev f66_L2O : List (Exit × Tm) := [(.ret, f66_L2X0), (.exit 0, f66_L2X1)]
def f66_L2U {α : Type} (n : Nat) (v : f66_L2H.den) (f : f66_L2H.den → Option α) (ks : KS α f66_L2O) : Option α := f66_L2B n v.1.1 v.1.2.1 v.1.2.2.1 (fun s5 s6 s7 => f ((s5, s6, s7, ()), ())) (fun w0 => ks.1 ((w0, ()), ())) (fun _ => ks.2.1 ((), ()))
def f66_L2 {α : Type} (n m : Nat) (s5 : LI) (s6 s7 : Int) (k0 : Int → Option α) (k1 : Unit → Option α) : Option α := rounds (f66_L2U n) m ((s5, s6, s7, ()), ()) (fun w => k0 w.1.1, fun w => k1 (), ())
theorem f66_L2_0 {α n s5 s6 s7 k0 k1} : f66_L2 (α := α) n 0 s5 s6 s7 k0 k1 = none := rfl
theorem f66_L2_s {α n m s5 s6 s7 k0 k1} : f66_L2 (α := α) n (m + 1) s5 s6 s7 k0 k1 = f66_L2B n s5 s6 s7 (fun s5 s6 s7 => f66_L2 n m s5 s6 s7 k0 k1) k0 k1 := rfl
def f66 (n : Nat) (a0 : LI) : Option Int :=
 f66_L2 n n a0 (a0.length : Int) 0
  (fun z_1 => (
   some z_1))
  (fun (_ : Unit) => (
   some 0))
def f66_E (n : Nat) : Ent := ⟨66, [hIs], [hI], fun x => f66 n x⟩
def f66_D (α : Type) (n : Nat) : D3 α := { reg := [], join := [], loop := [(2, ⟨f66_L2H, f66_L2O, rounds (f66_L2U n) n⟩)] }
theorem f66_ents (α : Type) (n : Nat) : AllS Try.prog (entsOf (f66_D α n).reg) := trivial
theorem f66_L2_d (α : Type) (n : Nat) : D3.OK Try.prog (tyOf Try.prog) ⟨15, []⟩ (f66_D α n) ((bodyOf Try.f66).at [1, 0, 1, 0, 0]) :=
 D3.OK.mk3 (f66_ents α n) (show loopsOf ((bodyOf Try.f66).at [1, 0, 1, 0, 0]) = [] by kernel_rfl) trivial
theorem f66_L2_ok (α : Type) (n : Nat) : LO.Sound (α := α) Try.prog ⟨15, []⟩ ⟨f66_L2H, f66_L2O, rounds (f66_L2U n) n⟩ (.loop ((bodyOf Try.f66).at [1, 0, 1, 0, 0])) :=
 loop_ok (tyOf_ok _) prog_fol (f66_L2U n) (f66_L2_d α n) (by intro v f ks; kernel_rfl) n
theorem f66_d (α : Type) (n : Nat) : D3.OK Try.prog (tyOf Try.prog) ⟨15, []⟩ (f66_D α n) (bodyOf Try.f66) :=
 D3.OK.mk3 (f66_ents α n) (show loopsOf (bodyOf Try.f66) = [(2, (.loop ((bodyOf Try.f66).at [1, 0, 1, 0, 0])))] by kernel_rfl) ⟨look_sound rfl (f66_L2_ok α n), trivial⟩
theorem f66_ok (n : Nat) : (f66_E n).Sound Try.prog :=
 fn_ok (tyOf_ok _) prog_fol (f66_D _ n) (show Try.prog.funcs[66]? = some Try.f66 by kernel_rfl) (by kernel_rfl) (show Try.f66.body = some (bodyOf Try.f66) by kernel_rfl) rfl rfl (Nat.le_of_ble_eq_true rfl) (f66_d _ n) (by intro x; kernel_rfl) 

def f32 (n : Nat) (a0 : Int) (a1 : List LR) : Option Int :=
 ob (f67 n a1) fun r_1 =>
 ob (f69c70 n a1 a0) fun r_2 =>
 ob (f68 n (!r_2) 1) fun r_3 =>
 ob (f66 n [r_1, r_3]) fun r_4 =>
 some r_4
def f32_E (n : Nat) : Ent := ⟨32, [hI, (.sl hRs)], [hI], fun x => f32 n x.1 x.2⟩
def f32_D (α : Type) (n : Nat) : D3 α := { reg := [(1, ⟨0, [], [(1, { ent := some (f67_E n) }), (3, { sh := some (.ref hI) }), (4, { ent := some (f69c70_E n) }), (6, { ent := some (f68_E n) }), (7, { sh := some hI }), (8, { ent := some (f66_E n) })]⟩)], join := [], loop := [] }
theorem f32_ents (α : Type) (n : Nat) : AllS Try.prog (entsOf (f32_D α n).reg) := ⟨f67_ok n, f69c70_ok n, f68_ok n, f66_ok n, trivial⟩
theorem f32_d (α : Type) (n : Nat) : D3.OK Try.prog (tyOf Try.prog) ⟨14, []⟩ (f32_D α n) (bodyOf Try.f32) :=
 D3.OK.mk3 (f32_ents α n) (show loopsOf (bodyOf Try.f32) = [] by kernel_rfl) trivial
theorem f32_ok (n : Nat) : (f32_E n).Sound Try.prog :=
 fn_ok (tyOf_ok _) prog_fol (f32_D _ n) (show Try.prog.funcs[32]? = some Try.f32 by kernel_rfl) (by kernel_rfl) (show Try.f32.body = some (bodyOf Try.f32) by kernel_rfl) rfl rfl (Nat.le_of_ble_eq_true rfl) (f32_d _ n) (by intro x; kernel_rfl) 

def f71 (n : Nat) (a0 : Int) (a1 : LR) (a2 : Int) : Option Rq :=
 gd (decide (a2 ≠ 0)) (
  gd (decide (a2 ≠ 0)) (
   gd (decide (0 ≤ (W ((W ((Int.tmod a0 a2) * a2)) + (W (Int.tdiv a0 a2))))) && decide ((W ((W ((Int.tmod a0 a2) * a2)) + (W (Int.tdiv a0 a2)))) < (a1.length : Int))) (
    let x_1 := a1.getD ((W ((W ((Int.tmod a0 a2) * a2)) + (W (Int.tdiv a0 a2)))).toNat) (false, [], [])
    some x_1)))
def f71_E (n : Nat) : Ent := ⟨71, [hI, (.ref hRs), (.ref hI)], [hR], fun x => f71 n x.1 x.2.1 x.2.2⟩
def f71_D (α : Type) (n : Nat) : D3 α := { reg := [(1, ⟨10, [], []⟩)], join := [], loop := [] }
theorem f71_ents (α : Type) (n : Nat) : AllS Try.prog (entsOf (f71_D α n).reg) := trivial
theorem f71_d (α : Type) (n : Nat) : D3.OK Try.prog (tyOf Try.prog) ⟨17, []⟩ (f71_D α n) (bodyOf Try.f71) :=
 D3.OK.mk3 (f71_ents α n) (show loopsOf (bodyOf Try.f71) = [] by kernel_rfl) trivial
theorem f71_ok (n : Nat) : (f71_E n).Sound Try.prog :=
 fn_ok (tyOf_ok _) prog_fol (f71_D _ n) (show Try.prog.funcs[71]? = some Try.f71 by kernel_rfl) (by kernel_rfl) (show Try.f71.body = some (bodyOf Try.f71) by kernel_rfl) rfl rfl (Nat.le_of_ble_eq_true rfl) (f71_d _ n) (by intro x; kernel_rfl) 

def f75 (n : Nat) (a0 : Rq) : Option Rq :=
 ob (f115 n a0.2.1) fun r_1 =>
 ob (f115 n a0.2.2) fun r_2 =>
 some (a0.1, r_1, r_2)
def f75_E (n : Nat) : Ent := ⟨75, [hR], [hR], fun x => f75 n x⟩
def f75_D (α : Type) (n : Nat) : D3 α := { reg := [(1, ⟨8, [], [(4, { ent := some (f115_E n) }), (7, { ent := some (f115_E n) })]⟩)], join := [], loop := [] }
theorem f75_ents (α : Type) (n : Nat) : AllS Try.prog (entsOf (f75_D α n).reg) := ⟨f115_ok n, f115_ok n, trivial⟩
theorem f75_d (α : Type) (n : Nat) : D3.OK Try.prog (tyOf Try.prog) ⟨12, []⟩ (f75_D α n) (bodyOf Try.f75) :=
 D3.OK.mk3 (f75_ents α n) (show loopsOf (bodyOf Try.f75) = [] by kernel_rfl) trivial
theorem f75_ok (n : Nat) : (f75_E n).Sound Try.prog :=
 fn_ok (tyOf_ok _) prog_fol (f75_D _ n) (show Try.prog.funcs[75]? = some Try.f75 by kernel_rfl) (by kernel_rfl) (show Try.f75.body = some (bodyOf Try.f75) by kernel_rfl) rfl rfl (Nat.le_of_ble_eq_true rfl) (f75_d _ n) (by intro x; kernel_rfl) 

def f35c71_L3B {α : Type} (n : Nat) (s1 : LR × Int) (s8 s9 : Int) (b7 : LR) (f : (LR × Int) → Int → Int → LR → Option α) (k0 : LR → Option α) : Option α :=
 bif (decide (s9 < s8)) then
  ob (f71 n s9 s1.1 s1.2) fun r_1 =>
  ob (f75 n r_1) fun r_2 =>
  gd (decide ((b7.length + 1) * 56 ≤ 140737488355328)) (
   f s1 s8 (W (s9 + 1)) (b7 ++ [r_2]))
 else
  k0 b7
abbrev f35c71_L3H : Tm := ⟨[(1, .d (.clo 71 (.pair (.ref hRs) (.ref hI)))), (5, .k (.hw 7)), (8, .d hI), (9, .d hI)], [(7, .arr 31 hR false)], [17], []⟩
abbrev f35c71_L3X0 : Tm := ⟨[(5, .k (.hw 7))], [(7, .arr 31 hR false)], [], []⟩
abbrev f35c71_L3O : List (Exit × Tm) := [(.exit 0, f35c71_L3X0)]
def f35c71_L3U {α : Type} (n : Nat) (v : f35c71_L3H.den) (f : f35c71_L3H.den → Option α) (ks : KS α f35c71_L3O) : Option α := f35c71_L3B n v.1.1 v.1.2.2.1 v.1.2.2.2.1 v.2.1 (fun s1 s8 s9 b7 => f ((s1, (), s8, s9, ()), (b7, ()))) (fun w0 => ks.1 (((), ()), (w0, ())))
def f35c71_L3 {α : Type} (n m : Nat) (s1 : LR × Int) (s8 s9 : Int) (b7 : LR) (k0 : LR → Option α) : Option α := rounds (f35c71_L3U n) m ((s1, (), s8, s9, ()), (b7, ())) (fun w => k0 w.2.1, ())
theorem f35c71_L3_0 {α n s1 s8 s9 b7 k0} : f35c71_L3 (α := α) n 0 s1 s8 s9 b7 k0 = none := rfl
theorem f35c71_L3_s {α n m s1 s8 s9 b7 k0} : f35c71_L3 (α := α) n (m + 1) s1 s8 s9 b7 k0 = f35c71_L3B n s1 s8 s9 b7 (fun s1 s8 s9 b7 => f35c71_L3 n m s1 s8 s9 b7 k0) k0 := rfl
def f35c71 (n : Nat) (a0 : Int) (a1 : LR × Int) : Option LR :=
 f35c71_L3 n n a1 a0 0 []
  (fun z_3 => (
   some z_3))
def f35c71_E (n : Nat) : Ent := ⟨35, [hI, (.clo 71 (.pair (.ref hRs) (.ref hI)))], [hRs], fun x => f35c71 n x.1 x.2⟩
def f35c71_D (α : Type) (n : Nat) : D3 α := { reg := [(1, ⟨0, [], [(0, { sh := some hR })]⟩), (5, ⟨0, [], [(3, { ent := some (f71_E n) }), (4, { ent := some (f75_E n) }), (5, { sh := some hR })]⟩)], join := [], loop := [(3, ⟨f35c71_L3H, f35c71_L3O, rounds (f35c71_L3U n) n⟩)] }
theorem f35c71_ents (α : Type) (n : Nat) : AllS Try.prog (entsOf (f35c71_D α n).reg) := ⟨f71_ok n, f75_ok n, trivial⟩
theorem f35c71_L3_d (α : Type) (n : Nat) : D3.OK Try.prog (tyOf Try.prog) ⟨21, []⟩ (f35c71_D α n) ((bodyOf Try.f35).at [1, 1, 0, 1, 0, 0]) :=
 D3.OK.mk3 (f35c71_ents α n) (show loopsOf ((bodyOf Try.f35).at [1, 1, 0, 1, 0, 0]) = [] by kernel_rfl) trivial
theorem f35c71_L3_ok (α : Type) (n : Nat) : LO.Sound (α := α) Try.prog ⟨21, []⟩ ⟨f35c71_L3H, f35c71_L3O, rounds (f35c71_L3U n) n⟩ (.loop ((bodyOf Try.f35).at [1, 1, 0, 1, 0, 0])) :=
 loop_ok (tyOf_ok _) prog_fol (f35c71_L3U n) (f35c71_L3_d α n) (by intro v f ks; kernel_rfl) n
theorem f35c71_d (α : Type) (n : Nat) : D3.OK Try.prog (tyOf Try.prog) ⟨21, []⟩ (f35c71_D α n) (bodyOf Try.f35) :=
 D3.OK.mk3 (f35c71_ents α n) (show loopsOf (bodyOf Try.f35) = [(3, (.loop ((bodyOf Try.f35).at [1, 1, 0, 1, 0, 0])))] by kernel_rfl) ⟨look_sound rfl (f35c71_L3_ok α n), trivial⟩
theorem f35c71_ok (n : Nat) : (f35c71_E n).Sound Try.prog :=
 fn_ok (tyOf_ok _) prog_fol (f35c71_D _ n) (show Try.prog.funcs[35]? = some Try.f35 by kernel_rfl) (by kernel_rfl) (show Try.f35.body = some (bodyOf Try.f35) by kernel_rfl) rfl rfl (Nat.le_of_ble_eq_true rfl) (f35c71_d _ n) (by intro x; kernel_rfl) 

def f33 (n : Nat) (a0 : LR) (a1 : Int) : Option LR :=
 ob (f35c71 n (W (a1 * a1)) (a0, a1)) fun r_1 =>
 some r_1
def f33_E (n : Nat) : Ent := ⟨33, [hRs, hI], [hRs], fun x => f33 n x.1 x.2⟩
def f33_D (α : Type) (n : Nat) : D3 α := { reg := [(1, ⟨0, [], [(3, { sh := some (.pair (.ref hRs) (.ref hI)) }), (4, { ent := some (f35c71_E n) })]⟩)], join := [], loop := [] }
theorem f33_ents (α : Type) (n : Nat) : AllS Try.prog (entsOf (f33_D α n).reg) := ⟨f35c71_ok n, trivial⟩
theorem f33_d (α : Type) (n : Nat) : D3.OK Try.prog (tyOf Try.prog) ⟨10, []⟩ (f33_D α n) (bodyOf Try.f33) :=
 D3.OK.mk3 (f33_ents α n) (show loopsOf (bodyOf Try.f33) = [] by kernel_rfl) trivial
theorem f33_ok (n : Nat) : (f33_E n).Sound Try.prog :=
 fn_ok (tyOf_ok _) prog_fol (f33_D _ n) (show Try.prog.funcs[33]? = some Try.f33 by kernel_rfl) (by kernel_rfl) (show Try.f33.body = some (bodyOf Try.f33) by kernel_rfl) rfl rfl (Nat.le_of_ble_eq_true rfl) (f33_d _ n) (by intro x; kernel_rfl) 

def f76 (n : Nat) (a0 : Int) : Option Rq :=
 bif (decide (a0 < 0)) then
  ob (f116 n (W (0 - a0))) fun r_1 =>
  ob (f117 n) fun r_2 =>
  some (true, r_1, r_2)
 else
  ob (f116 n a0) fun r_3 =>
  ob (f117 n) fun r_4 =>
  some (false, r_3, r_4)
def f76_E (n : Nat) : Ent := ⟨76, [hI], [hR], fun x => f76 n x⟩
def f76_D (α : Type) (n : Nat) : D3 α := { reg := [(2, ⟨0, [], [(2, { ent := some (f116_E n) }), (3, { ent := some (f117_E n) })]⟩), (3, ⟨0, [], [(1, { ent := some (f116_E n) }), (2, { ent := some (f117_E n) })]⟩)], join := [], loop := [] }
theorem f76_ents (α : Type) (n : Nat) : AllS Try.prog (entsOf (f76_D α n).reg) := ⟨f116_ok n, f117_ok n, f116_ok n, f117_ok n, trivial⟩
theorem f76_d (α : Type) (n : Nat) : D3.OK Try.prog (tyOf Try.prog) ⟨14, []⟩ (f76_D α n) (bodyOf Try.f76) :=
 D3.OK.mk3 (f76_ents α n) (show loopsOf (bodyOf Try.f76) = [] by kernel_rfl) trivial
theorem f76_ok (n : Nat) : (f76_E n).Sound Try.prog :=
 fn_ok (tyOf_ok _) prog_fol (f76_D _ n) (show Try.prog.funcs[76]? = some Try.f76 by kernel_rfl) (by kernel_rfl) (show Try.f76.body = some (bodyOf Try.f76) by kernel_rfl) rfl rfl (Nat.le_of_ble_eq_true rfl) (f76_d _ n) (by intro x; kernel_rfl) 

def f95_L7B {α : Type} (n : Nat) (s1 : LI) (s6 s7 s8 s9 : Int) (s16 : LI) (s17 s18 : Int) (b15 : LI) (f : LI → Int → Int → Int → Int → LI → Int → Int → LI → Option α) (k0 : LI → LI → Int → Int → LI → Option α) : Option α :=
 let J_3 := fun (_ : Unit) => (
  let J_2 := fun (y_1 : Int) => (
   gd (decide (0 ≤ (W (s6 + s9))) && decide ((W (s6 + s9)) < (b15.length : Int))) (
    gd (decide ((W (s6 + s9)).toNat < b15.length)) (
     gd (decide (0 ≤ (W (s6 + s9))) && decide ((W (s6 + s9)) < (b15.length : Int))) (
      gd (decide ((W (s6 + s9)).toNat < b15.length)) (
       f s1 s6 s7 (W (Int.tdiv (W (y_1 + (b15.getD ((W (s6 + s9)).toNat) 0))) 10000)) (W (s9 + 1)) s16 s17 s18 (b15.set ((W (s6 + s9)).toNat) (Int.tmod (W (y_1 + (b15.getD ((W (s6 + s9)).toNat) 0))) 10000)))))))
  bif (decide (s9 < (s1.length : Int))) then
   gd (decide (0 ≤ s9) && decide (s9 < (s1.length : Int))) (
    J_2 (W (s8 + (W (s7 * (s1.getD s9.toNat 0))))))
  else
   J_2 s8)
 bif (decide (s9 < (s1.length : Int))) then
  J_3 ()
 else
  bif (decide (s8 > 0)) then
   J_3 ()
  else
   k0 s1 s16 s17 s18 b15
abbrev f95_L7H : Tm := ⟨[(1, .d hIs), (5, .k (.hw 15)), (6, .d hI), (7, .d hI), (8, .d hI), (9, .d hI), (16, .d hIs), (17, .d hI), (18, .d hI)], [(15, .arr 3 hI false)], [], []⟩
abbrev f95_L7X0 : Tm := ⟨[(1, .d hIs), (5, .k (.hw 15)), (16, .d hIs), (17, .d hI), (18, .d hI)], [(15, .arr 3 hI false)], [], []⟩
abbrev f95_L7O : List (Exit × Tm) := [(.exit 2, f95_L7X0)]
def f95_L7U {α : Type} (n : Nat) (v : f95_L7H.den) (f : f95_L7H.den → Option α) (ks : KS α f95_L7O) : Option α := f95_L7B n v.1.1 v.1.2.2.1 v.1.2.2.2.1 v.1.2.2.2.2.1 v.1.2.2.2.2.2.1 v.1.2.2.2.2.2.2.1 v.1.2.2.2.2.2.2.2.1 v.1.2.2.2.2.2.2.2.2.1 v.2.1 (fun s1 s6 s7 s8 s9 s16 s17 s18 b15 => f ((s1, (), s6, s7, s8, s9, s16, s17, s18, ()), (b15, ()))) (fun w0 w1 w2 w3 w4 => ks.1 ((w0, (), w1, w2, w3, ()), (w4, ())))
def f95_L7 {α : Type} (n m : Nat) (s1 : LI) (s6 s7 s8 s9 : Int) (s16 : LI) (s17 s18 : Int) (b15 : LI) (k0 : LI → LI → Int → Int → LI → Option α) : Option α := rounds (f95_L7U n) m ((s1, (), s6, s7, s8, s9, s16, s17, s18, ()), (b15, ())) (fun w => k0 w.1.1 w.1.2.2.1 w.1.2.2.2.1 w.1.2.2.2.2.1 w.2.1, ())
theorem f95_L7_0 {α n s1 s6 s7 s8 s9 s16 s17 s18 b15 k0} : f95_L7 (α := α) n 0 s1 s6 s7 s8 s9 s16 s17 s18 b15 k0 = none := rfl
theorem f95_L7_s {α n m s1 s6 s7 s8 s9 s16 s17 s18 b15 k0} : f95_L7 (α := α) n (m + 1) s1 s6 s7 s8 s9 s16 s17 s18 b15 k0 = f95_L7B n s1 s6 s7 s8 s9 s16 s17 s18 b15 (fun s1 s6 s7 s8 s9 s16 s17 s18 b15 => f95_L7 n m s1 s6 s7 s8 s9 s16 s17 s18 b15 k0) k0 := rfl
def f95_L3B {α : Type} (n : Nat) (s1 s16 : LI) (s17 s18 : Int) (b15 : LI) (f : LI → LI → Int → Int → LI → Option α) (k0 : LI → Option α) : Option α :=
 bif (decide (s18 < s17)) then
  gd (decide (0 ≤ s18) && decide (s18 < (s16.length : Int))) (
   f95_L7 n n s1 s18 (s16.getD s18.toNat 0) 0 0 s16 s17 s18 b15
    (fun z_1 z_2 z_3 z_4 z_5 => (
     f z_1 z_2 z_3 (W (z_4 + 1)) z_5)))
 else
  k0 b15
abbrev f95_L3H : Tm := ⟨[(1, .d hIs), (5, .k (.hw 15)), (16, .d hIs), (17, .d hI), (18, .d hI)], [(15, .arr 3 hI false)], [], []⟩
abbrev f95_L3X0 : Tm := ⟨[(5, .k (.hw 15))], [(15, .arr 3 hI false)], [], []⟩
abbrev f95_L3O : List (Exit × Tm) := [(.exit 0, f95_L3X0)]
def f95_L3U {α : Type} (n : Nat) (v : f95_L3H.den) (f : f95_L3H.den → Option α) (ks : KS α f95_L3O) : Option α := f95_L3B n v.1.1 v.1.2.2.1 v.1.2.2.2.1 v.1.2.2.2.2.1 v.2.1 (fun s1 s16 s17 s18 b15 => f ((s1, (), s16, s17, s18, ()), (b15, ()))) (fun w0 => ks.1 (((), ()), (w0, ())))
def f95_L3 {α : Type} (n m : Nat) (s1 s16 : LI) (s17 s18 : Int) (b15 : LI) (k0 : LI → Option α) : Option α := rounds (f95_L3U n) m ((s1, (), s16, s17, s18, ()), (b15, ())) (fun w => k0 w.2.1, ())
theorem f95_L3_0 {α n s1 s16 s17 s18 b15 k0} : f95_L3 (α := α) n 0 s1 s16 s17 s18 b15 k0 = none := rfl
theorem f95_L3_s {α n m s1 s16 s17 s18 b15 k0} : f95_L3 (α := α) n (m + 1) s1 s16 s17 s18 b15 k0 = f95_L3B n s1 s16 s17 s18 b15 (fun s1 s16 s17 s18 b15 => f95_L3 n m s1 s16 s17 s18 b15 k0) k0 := rfl
abbrev f95_J9 : Tm := ⟨[(1, .d hIs), (5, .k (.hw 15)), (6, .d hI), (7, .d hI), (8, .d hI), (9, .d hI), (16, .d hIs), (17, .d hI), (18, .d hI)], [(15, .arr 3 hI false)], [], []⟩
abbrev f95_J11 : Tm := ⟨[(1, .d hIs), (5, .k (.hw 15)), (6, .d hI), (7, .d hI), (8, .d hI), (9, .d hI), (16, .d hIs), (17, .d hI), (18, .d hI)], [(15, .arr 3 hI false)], [], []⟩
def f95 (n : Nat) (a0 a1 : LI) : Option LI :=
 gd (decide (0 ≤ (W ((a0.length : Int) + (a1.length : Int)))) && decide ((W ((a0.length : Int) + (a1.length : Int))) ≤ 4611686018427387904) && decide ((8 : Int) * (W ((a0.length : Int) + (a1.length : Int))) ≤ 281474976710656)) (
  f95_L3 n n a1 a0 (a0.length : Int) 0 (List.replicate ((W ((a0.length : Int) + (a1.length : Int))).toNat) 0)
   (fun z_6 => (
    ob (f130 n z_6) fun r_7 =>
    some r_7)))
def f95_E (n : Nat) : Ent := ⟨95, [hIs, hIs], [hIs], fun x => f95 n x.1 x.2⟩
def f95_D (α : Type) (n : Nat) : D3 α := { reg := [(14, ⟨0, [], [(1, { ent := some (f130_E n), fz := [(63, hIs)] })]⟩)], join := [(9, f95_J9), (11, f95_J11)], loop := [(7, ⟨f95_L7H, f95_L7O, rounds (f95_L7U n) n⟩), (3, ⟨f95_L3H, f95_L3O, rounds (f95_L3U n) n⟩)] }
theorem f95_ents (α : Type) (n : Nat) : AllS Try.prog (entsOf (f95_D α n).reg) := ⟨f130_ok n, trivial⟩
theorem f95_L7_d (α : Type) (n : Nat) : D3.OK Try.prog (tyOf Try.prog) ⟨65, []⟩ (f95_D α n) ((bodyOf Try.f95).at [1, 1, 0, 1, 0, 0, 1, 1, 0, 0, 1, 1, 1, 0, 0]) :=
 D3.OK.mk3 (f95_ents α n) (show loopsOf ((bodyOf Try.f95).at [1, 1, 0, 1, 0, 0, 1, 1, 0, 0, 1, 1, 1, 0, 0]) = [] by kernel_rfl) trivial
theorem f95_L7_ok (α : Type) (n : Nat) : LO.Sound (α := α) Try.prog ⟨65, []⟩ ⟨f95_L7H, f95_L7O, rounds (f95_L7U n) n⟩ (.loop ((bodyOf Try.f95).at [1, 1, 0, 1, 0, 0, 1, 1, 0, 0, 1, 1, 1, 0, 0])) :=
 loop_ok (tyOf_ok _) prog_fol (f95_L7U n) (f95_L7_d α n) (by intro v f ks; kernel_rfl) n
theorem f95_L3_d (α : Type) (n : Nat) : D3.OK Try.prog (tyOf Try.prog) ⟨65, []⟩ (f95_D α n) ((bodyOf Try.f95).at [1, 1, 0, 1, 0, 0]) :=
 D3.OK.mk3 (f95_ents α n) (show loopsOf ((bodyOf Try.f95).at [1, 1, 0, 1, 0, 0]) = [(7, (.loop ((bodyOf Try.f95).at [1, 1, 0, 1, 0, 0, 1, 1, 0, 0, 1, 1, 1, 0, 0])))] by kernel_rfl) ⟨look_sound rfl (f95_L7_ok α n), trivial⟩
theorem f95_L3_ok (α : Type) (n : Nat) : LO.Sound (α := α) Try.prog ⟨65, []⟩ ⟨f95_L3H, f95_L3O, rounds (f95_L3U n) n⟩ (.loop ((bodyOf Try.f95).at [1, 1, 0, 1, 0, 0])) :=
 loop_ok (tyOf_ok _) prog_fol (f95_L3U n) (f95_L3_d α n) (by intro v f ks; kernel_rfl) n
theorem f95_d (α : Type) (n : Nat) : D3.OK Try.prog (tyOf Try.prog) ⟨65, []⟩ (f95_D α n) (bodyOf Try.f95) :=
 D3.OK.mk3 (f95_ents α n) (show loopsOf (bodyOf Try.f95) = [(3, (.loop ((bodyOf Try.f95).at [1, 1, 0, 1, 0, 0])))] by kernel_rfl) ⟨look_sound rfl (f95_L3_ok α n), trivial⟩
theorem f95_ok (n : Nat) : (f95_E n).Sound Try.prog :=
 fn_ok (tyOf_ok _) prog_fol (f95_D _ n) (show Try.prog.funcs[95]? = some Try.f95 by kernel_rfl) (by kernel_rfl) (show Try.f95.body = some (bodyOf Try.f95) by kernel_rfl) rfl rfl (Nat.le_of_ble_eq_true rfl) (f95_d _ n) (by intro x; kernel_rfl) 

abbrev f94_J5 : Tm := ⟨[(0, .d .bool), (1, .d hIs), (2, .d hIs), (6, .k (.hp 6 0 0))], [(6, .var 31 true false [.d .bool, .d .nil, .d .nil])], [], []⟩
def f94 (n : Nat) (a0 : Bool) (a1 a2 : LI) : Option Rq :=
 let J_12 := fun (y_6 : LI) (y_7 : LI) => (
  bif a0 then
   ob (f115 n y_6) fun r_8 =>
   ob (f115 n y_7) fun r_9 =>
   some ((decide ((y_6.length : Int) > 0)), r_8, r_9)
  else
   ob (f115 n y_6) fun r_10 =>
   ob (f115 n y_7) fun r_11 =>
   some (false, r_10, r_11))
 ob (f128 n a1 a2) fun r_1 =>
 ob (f117 n) fun r_2 =>
 ob (f119 n r_1 r_2) fun r_3 =>
 bif (r_3 != 0) then
  ob (f129 n a1 r_1) fun r_4 =>
  ob (f129 n a2 r_1) fun r_5 =>
  J_12 r_4.1 r_5.1
 else
  J_12 a1 a2
def f94_E (n : Nat) : Ent := ⟨94, [.bool, hIs, hIs], [hR], fun x => f94 n x.1 x.2.1 x.2.2⟩
def f94_D (α : Type) (n : Nat) : D3 α := { reg := [(1, ⟨0, [], [(2, { ent := some (f128_E n) })]⟩), (2, ⟨0, [], [(1, { ent := some (f117_E n) }), (2, { ent := some (f119_E n) })]⟩), (3, ⟨0, [], [(2, { ent := some (f129_E n) })]⟩), (4, ⟨0, [], [(2, { ent := some (f129_E n) })]⟩), (5, ⟨0, [], [(7, { ent := some (f115_E n) }), (9, { ent := some (f115_E n) })]⟩)], join := [(5, f94_J5)], loop := [] }
theorem f94_ents (α : Type) (n : Nat) : AllS Try.prog (entsOf (f94_D α n).reg) := ⟨f128_ok n, f117_ok n, f119_ok n, f129_ok n, f129_ok n, f115_ok n, f115_ok n, trivial⟩
theorem f94_d (α : Type) (n : Nat) : D3.OK Try.prog (tyOf Try.prog) ⟨38, []⟩ (f94_D α n) (bodyOf Try.f94) :=
 D3.OK.mk3 (f94_ents α n) (show loopsOf (bodyOf Try.f94) = [] by kernel_rfl) trivial
theorem f94_ok (n : Nat) : (f94_E n).Sound Try.prog :=
 fn_ok (tyOf_ok _) prog_fol (f94_D _ n) (show Try.prog.funcs[94]? = some Try.f94 by kernel_rfl) (by kernel_rfl) (show Try.f94.body = some (bodyOf Try.f94) by kernel_rfl) rfl rfl (Nat.le_of_ble_eq_true rfl) (f94_d _ n) (by intro x; kernel_rfl) 

def f46 (n : Nat) (a0 a1 : Rq) : Option Rq :=
 ob (f95 n a0.2.1 a1.2.1) fun r_1 =>
 ob (f95 n a0.2.2 a1.2.2) fun r_2 =>
 ob (f94 n (!(a0.1 == a1.1)) r_1 r_2) fun r_3 =>
 some r_3
def f46_E (n : Nat) : Ent := ⟨46, [hR, hR], [hR], fun x => f46 n x.1 x.2⟩
def f46_D (α : Type) (n : Nat) : D3 α := { reg := [(1, ⟨15, [], [(9, { ent := some (f95_E n) }), (14, { ent := some (f95_E n) }), (15, { ent := some (f94_E n) })]⟩)], join := [], loop := [] }
theorem f46_ents (α : Type) (n : Nat) : AllS Try.prog (entsOf (f46_D α n).reg) := ⟨f95_ok n, f95_ok n, f94_ok n, trivial⟩
theorem f46_d (α : Type) (n : Nat) : D3.OK Try.prog (tyOf Try.prog) ⟨21, []⟩ (f46_D α n) (bodyOf Try.f46) :=
 D3.OK.mk3 (f46_ents α n) (show loopsOf (bodyOf Try.f46) = [] by kernel_rfl) trivial
theorem f46_ok (n : Nat) : (f46_E n).Sound Try.prog :=
 fn_ok (tyOf_ok _) prog_fol (f46_D _ n) (show Try.prog.funcs[46]? = some Try.f46 by kernel_rfl) (by kernel_rfl) (show Try.f46.body = some (bodyOf Try.f46) by kernel_rfl) rfl rfl (Nat.le_of_ble_eq_true rfl) (f46_d _ n) (by intro x; kernel_rfl) 

def f118_L3B {α : Type} (n : Nat) (s0 s1 : LI) (s6 s7 : Int) (b8 : LI) (f : LI → LI → Int → Int → LI → Option α) (k0 : LI → Option α) : Option α :=
 let J_5 := fun (_ : Unit) => (
  let J_4 := fun (y_1 : Int) => (
   let J_3 := fun (y_2 : Int) => (
    gd (decide ((b8.length + 1) * 8 ≤ 140737488355328)) (
     f s0 s1 (W (Int.tdiv y_2 10000)) (W (s7 + 1)) (b8 ++ [(Int.tmod y_2 10000)])))
   bif (decide (s7 < (s1.length : Int))) then
    gd (decide (0 ≤ s7) && decide (s7 < (s1.length : Int))) (
     J_3 (W (y_1 + (s1.getD s7.toNat 0))))
   else
    J_3 y_1)
  bif (decide (s7 < (s0.length : Int))) then
   gd (decide (0 ≤ s7) && decide (s7 < (s0.length : Int))) (
    J_4 (W (s6 + (s0.getD s7.toNat 0))))
  else
   J_4 s6)
 bif (decide (s7 < (max (s0.length : Int) (s1.length : Int)))) then
  J_5 ()
 else
  bif (decide (s6 > 0)) then
   J_5 ()
  else
   k0 b8
abbrev f118_L3H : Tm := ⟨[(0, .d hIs), (1, .d hIs), (5, .k (.hw 8)), (6, .d hI), (7, .d hI)], [(8, .arr 3 hI false)], [45], []⟩
abbrev f118_L3X0 : Tm := ⟨[(5, .k (.hw 8))], [(8, .arr 3 hI false)], [], []⟩
abbrev f118_L3O : List (Exit × Tm) := [(.exit 0, f118_L3X0)]
def f118_L3U {α : Type} (n : Nat) (v : f118_L3H.den) (f : f118_L3H.den → Option α) (ks : KS α f118_L3O) : Option α := f118_L3B n v.1.1 v.1.2.1 v.1.2.2.2.1 v.1.2.2.2.2.1 v.2.1 (fun s0 s1 s6 s7 b8 => f ((s0, s1, (), s6, s7, ()), (b8, ()))) (fun w0 => ks.1 (((), ()), (w0, ())))
def f118_L3 {α : Type} (n m : Nat) (s0 s1 : LI) (s6 s7 : Int) (b8 : LI) (k0 : LI → Option α) : Option α := rounds (f118_L3U n) m ((s0, s1, (), s6, s7, ()), (b8, ())) (fun w => k0 w.2.1, ())
theorem f118_L3_0 {α n s0 s1 s6 s7 b8 k0} : f118_L3 (α := α) n 0 s0 s1 s6 s7 b8 k0 = none := rfl
theorem f118_L3_s {α n m s0 s1 s6 s7 b8 k0} : f118_L3 (α := α) n (m + 1) s0 s1 s6 s7 b8 k0 = f118_L3B n s0 s1 s6 s7 b8 (fun s0 s1 s6 s7 b8 => f118_L3 n m s0 s1 s6 s7 b8 k0) k0 := rfl
abbrev f118_J5 : Tm := ⟨[(0, .d hIs), (1, .d hIs), (5, .k (.hw 8)), (6, .d hI), (7, .d hI)], [(8, .arr 3 hI false)], [], []⟩
abbrev f118_J7 : Tm := ⟨[(0, .d hIs), (1, .d hIs), (5, .k (.hw 8)), (6, .d hI), (7, .d hI)], [(8, .arr 3 hI false)], [], []⟩
abbrev f118_J9 : Tm := ⟨[(0, .d hIs), (1, .d hIs), (5, .k (.hw 8)), (6, .d hI), (7, .d hI)], [(8, .arr 3 hI false)], [], []⟩
def f118 (n : Nat) (a0 a1 : LI) : Option LI :=
 f118_L3 n n a0 a1 0 0 []
  (fun z_6 => (
   some z_6))
def f118_E (n : Nat) : Ent := ⟨118, [hIs, hIs], [hIs], fun x => f118 n x.1 x.2⟩
def f118_D (α : Type) (n : Nat) : D3 α := { reg := [(1, ⟨0, [], [(0, { sh := some hI })]⟩), (9, ⟨0, [], [(3, { sh := some hI })]⟩)], join := [(5, f118_J5), (7, f118_J7), (9, f118_J9)], loop := [(3, ⟨f118_L3H, f118_L3O, rounds (f118_L3U n) n⟩)] }
theorem f118_ents (α : Type) (n : Nat) : AllS Try.prog (entsOf (f118_D α n).reg) := trivial
theorem f118_L3_d (α : Type) (n : Nat) : D3.OK Try.prog (tyOf Try.prog) ⟨50, []⟩ (f118_D α n) ((bodyOf Try.f118).at [1, 1, 0, 1, 0, 0]) :=
 D3.OK.mk3 (f118_ents α n) (show loopsOf ((bodyOf Try.f118).at [1, 1, 0, 1, 0, 0]) = [] by kernel_rfl) trivial
theorem f118_L3_ok (α : Type) (n : Nat) : LO.Sound (α := α) Try.prog ⟨50, []⟩ ⟨f118_L3H, f118_L3O, rounds (f118_L3U n) n⟩ (.loop ((bodyOf Try.f118).at [1, 1, 0, 1, 0, 0])) :=
 loop_ok (tyOf_ok _) prog_fol (f118_L3U n) (f118_L3_d α n) (by intro v f ks; kernel_rfl) n
theorem f118_d (α : Type) (n : Nat) : D3.OK Try.prog (tyOf Try.prog) ⟨50, []⟩ (f118_D α n) (bodyOf Try.f118) :=
 D3.OK.mk3 (f118_ents α n) (show loopsOf (bodyOf Try.f118) = [(3, (.loop ((bodyOf Try.f118).at [1, 1, 0, 1, 0, 0])))] by kernel_rfl) ⟨look_sound rfl (f118_L3_ok α n), trivial⟩
theorem f118_ok (n : Nat) : (f118_E n).Sound Try.prog :=
 fn_ok (tyOf_ok _) prog_fol (f118_D _ n) (show Try.prog.funcs[118]? = some Try.f118 by kernel_rfl) (by kernel_rfl) (show Try.f118.body = some (bodyOf Try.f118) by kernel_rfl) rfl rfl (Nat.le_of_ble_eq_true rfl) (f118_d _ n) (by intro x; kernel_rfl) 

def f120_L3B {α : Type} (n : Nat) (s1 : LI) (s6 s12 s13 : Int) (b310 : LI) (f : LI → Int → Int → Int → LI → Option α) (k0 : LI → Option α) : Option α :=
 bif (decide (s13 < s12)) then
  gd (decide (0 ≤ s13) && decide (s13 < (b310.length : Int))) (
   gd (decide (s13.toNat < b310.length)) (
    let J_3 := fun (y_2 : Int) => (
     bif (decide (y_2 < 0)) then
      gd (decide (0 ≤ s13) && decide (s13 < (b310.length : Int))) (
       gd (decide (s13.toNat < b310.length)) (
        f s1 1 s12 (W (s13 + 1)) (b310.set s13.toNat (W (y_2 + 10000)))))
     else
      gd (decide (0 ≤ s13) && decide (s13 < (b310.length : Int))) (
       gd (decide (s13.toNat < b310.length)) (
        f s1 0 s12 (W (s13 + 1)) (b310.set s13.toNat y_2))))
    bif (decide (s13 < (s1.length : Int))) then
     gd (decide (0 ≤ s13) && decide (s13 < (s1.length : Int))) (
      J_3 (W ((W ((b310.getD s13.toNat 0) - s6)) - (s1.getD s13.toNat 0))))
    else
     J_3 (W ((b310.getD s13.toNat 0) - s6))))
 else
  k0 b310
abbrev f120_L3H : Tm := ⟨[(1, .d hIs), (5, .k (.hw 310)), (6, .d hI), (12, .d hI), (13, .d hI)], [(310, .arr 3 hI false)], [], []⟩
abbrev f120_L3X0 : Tm := ⟨[(5, .k (.hw 310))], [(310, .arr 3 hI false)], [], []⟩
abbrev f120_L3O : List (Exit × Tm) := [(.exit 0, f120_L3X0)]
def f120_L3U {α : Type} (n : Nat) (v : f120_L3H.den) (f : f120_L3H.den → Option α) (ks : KS α f120_L3O) : Option α := f120_L3B n v.1.1 v.1.2.2.1 v.1.2.2.2.1 v.1.2.2.2.2.1 v.2.1 (fun s1 s6 s12 s13 b310 => f ((s1, (), s6, s12, s13, ()), (b310, ()))) (fun w0 => ks.1 (((), ()), (w0, ())))
def f120_L3 {α : Type} (n m : Nat) (s1 : LI) (s6 s12 s13 : Int) (b310 : LI) (k0 : LI → Option α) : Option α := rounds (f120_L3U n) m ((s1, (), s6, s12, s13, ()), (b310, ())) (fun w => k0 w.2.1, ())
theorem f120_L3_0 {α n s1 s6 s12 s13 b310 k0} : f120_L3 (α := α) n 0 s1 s6 s12 s13 b310 k0 = none := rfl
theorem f120_L3_s {α n m s1 s6 s12 s13 b310 k0} : f120_L3 (α := α) n (m + 1) s1 s6 s12 s13 b310 k0 = f120_L3B n s1 s6 s12 s13 b310 (fun s1 s6 s12 s13 b310 => f120_L3 n m s1 s6 s12 s13 b310 k0) k0 := rfl
abbrev f120_J8 : Tm := ⟨[(1, .d hIs), (5, .k (.hw 310)), (7, .d hI), (8, .d hI), (12, .d hI), (13, .d hI)], [(310, .arr 3 hI false)], [], []⟩
def f120 (n : Nat) (a0 a1 : LI) : Option LI :=
 ob (f115B n a0) fun r_1 =>
 f120_L3 n n a1 0 (r_1.length : Int) 0 r_1
  (fun z_4 => (
   ob (f130 n z_4) fun r_5 =>
   some r_5))
def f120_E (n : Nat) : Ent := ⟨120, [hIs, hIs], [hIs], fun x => f120 n x.1 x.2⟩
def f120_D (α : Type) (n : Nat) : D3 α := { reg := [(1, ⟨0, [], [(1, { entB := some (f115B_E n), hb := 310 })]⟩), (13, ⟨0, [], [(1, { ent := some (f130_E n), fz := [(41, hIs)] })]⟩)], join := [(8, f120_J8)], loop := [(3, ⟨f120_L3H, f120_L3O, rounds (f120_L3U n) n⟩)] }
theorem f120_ents (α : Type) (n : Nat) : AllS Try.prog (entsOf (f120_D α n).reg) := ⟨f115B_ok n, f130_ok n, trivial⟩
theorem f120_L3_d (α : Type) (n : Nat) : D3.OK Try.prog (tyOf Try.prog) ⟨43, []⟩ (f120_D α n) ((bodyOf Try.f120).at [1, 1, 0, 1, 0, 0]) :=
 D3.OK.mk3 (f120_ents α n) (show loopsOf ((bodyOf Try.f120).at [1, 1, 0, 1, 0, 0]) = [] by kernel_rfl) trivial
theorem f120_L3_ok (α : Type) (n : Nat) : LO.Sound (α := α) Try.prog ⟨43, []⟩ ⟨f120_L3H, f120_L3O, rounds (f120_L3U n) n⟩ (.loop ((bodyOf Try.f120).at [1, 1, 0, 1, 0, 0])) :=
 loop_ok (tyOf_ok _) prog_fol (f120_L3U n) (f120_L3_d α n) (by intro v f ks; kernel_rfl) n
theorem f120_d (α : Type) (n : Nat) : D3.OK Try.prog (tyOf Try.prog) ⟨43, []⟩ (f120_D α n) (bodyOf Try.f120) :=
 D3.OK.mk3 (f120_ents α n) (show loopsOf (bodyOf Try.f120) = [(3, (.loop ((bodyOf Try.f120).at [1, 1, 0, 1, 0, 0])))] by kernel_rfl) ⟨look_sound rfl (f120_L3_ok α n), trivial⟩
theorem f120_ok (n : Nat) : (f120_E n).Sound Try.prog :=
 fn_ok (tyOf_ok _) prog_fol (f120_D _ n) (show Try.prog.funcs[120]? = some Try.f120 by kernel_rfl) (by kernel_rfl) (show Try.f120.body = some (bodyOf Try.f120) by kernel_rfl) rfl rfl (Nat.le_of_ble_eq_true rfl) (f120_d _ n) (by intro x; kernel_rfl) 

def f77 (n : Nat) (a0 a1 : Rq) : Option Rq :=
 ob (f95 n a0.2.1 a1.2.2) fun r_1 =>
 ob (f95 n a1.2.1 a0.2.2) fun r_2 =>
 ob (f95 n a0.2.2 a1.2.2) fun r_3 =>
 bif (a0.1 == a1.1) then
  ob (f118 n r_1 r_2) fun r_4 =>
  ob (f94 n a0.1 r_4 r_3) fun r_5 =>
  some r_5
 else
  ob (f119 n r_1 r_2) fun r_6 =>
  bif (decide (r_6 ≥ 0)) then
   ob (f120 n r_1 r_2) fun r_7 =>
   ob (f94 n a0.1 r_7 r_3) fun r_8 =>
   some r_8
  else
   ob (f120 n r_2 r_1) fun r_9 =>
   ob (f94 n a1.1 r_9 r_3) fun r_10 =>
   some r_10
def f77_E (n : Nat) : Ent := ⟨77, [hR, hR], [hR], fun x => f77 n x.1 x.2⟩
def f77_D (α : Type) (n : Nat) : D3 α := { reg := [(1, ⟨9, [], [(4, { ent := some (f95_E n) }), (9, { ent := some (f95_E n) })]⟩), (2, ⟨0, [], [(4, { ent := some (f95_E n) })]⟩), (4, ⟨6, [], [(4, { ent := some (f118_E n) }), (6, { ent := some (f94_E n) })]⟩), (5, ⟨0, [], [(2, { ent := some (f119_E n) })]⟩), (6, ⟨6, [], [(4, { ent := some (f120_E n) }), (6, { ent := some (f94_E n) })]⟩), (7, ⟨6, [], [(4, { ent := some (f120_E n) }), (6, { ent := some (f94_E n) })]⟩)], join := [], loop := [] }
theorem f77_ents (α : Type) (n : Nat) : AllS Try.prog (entsOf (f77_D α n).reg) := ⟨f95_ok n, f95_ok n, f95_ok n, f118_ok n, f94_ok n, f119_ok n, f120_ok n, f94_ok n, f120_ok n, f94_ok n, trivial⟩
theorem f77_d (α : Type) (n : Nat) : D3.OK Try.prog (tyOf Try.prog) ⟨55, []⟩ (f77_D α n) (bodyOf Try.f77) :=
 D3.OK.mk3 (f77_ents α n) (show loopsOf (bodyOf Try.f77) = [] by kernel_rfl) trivial
theorem f77_ok (n : Nat) : (f77_E n).Sound Try.prog :=
 fn_ok (tyOf_ok _) prog_fol (f77_D _ n) (show Try.prog.funcs[77]? = some Try.f77 by kernel_rfl) (by kernel_rfl) (show Try.f77.body = some (bodyOf Try.f77) by kernel_rfl) rfl rfl (Nat.le_of_ble_eq_true rfl) (f77_d _ n) (by intro x; kernel_rfl) 

def f37_L3B {α : Type} (n : Nat) (s1 s9 : LR) (s10 s11 : Int) (c4_0 c5_0 : Bool) (c5_1 c5_2 : LI) (f : LR → LR → Int → Int → Bool → Bool → LI → LI → Option α) (k0 : Bool → Bool → LI → LI → Option α) : Option α :=
 bif (decide (s11 < s10)) then
  gd (decide (0 ≤ s11) && decide (s11 < (s9.length : Int))) (
   let x_2 := s9.getD s11.toNat (false, [], [])
   gd (decide (0 ≤ s11) && decide (s11 < (s1.length : Int))) (
    let x_3 := s1.getD s11.toNat (false, [], [])
    ob (f46 n x_2 x_3) fun r_4 =>
    ob (f77 n (c5_0, c5_1, c5_2) r_4) fun r_5 =>
    f s1 s9 s10 (W (s11 + 1)) c4_0 r_5.1 r_5.2.1 r_5.2.2))
 else
  k0 c4_0 c5_0 c5_1 c5_2
abbrev f37_L3H : Tm := ⟨[(1, .d hRs), (4, .k (.hp 4 0 0)), (5, .k (.hp 5 0 0)), (9, .d hRs), (10, .d hI), (11, .d hI)], [(4, .var 31 true false [.d .bool, .d .nil, .d .nil]), (5, .var 31 true false [.d .bool, .d hIs, .d hIs])], [7], []⟩
abbrev f37_L3X0 : Tm := ⟨[(4, .k (.hp 4 0 0)), (5, .k (.hp 5 0 0))], [(4, .var 31 true false [.d .bool, .d .nil, .d .nil]), (5, .var 31 true false [.d .bool, .d hIs, .d hIs])], [], []⟩
abbrev f37_L3O : List (Exit × Tm) := [(.exit 0, f37_L3X0)]
def f37_L3U {α : Type} (n : Nat) (v : f37_L3H.den) (f : f37_L3H.den → Option α) (ks : KS α f37_L3O) : Option α := f37_L3B n v.1.1 v.1.2.2.2.1 v.1.2.2.2.2.1 v.1.2.2.2.2.2.1 v.2.1.1 v.2.2.1.1 v.2.2.1.2.1 v.2.2.1.2.2.1 (fun s1 s9 s10 s11 c4_0 c5_0 c5_1 c5_2 => f ((s1, (), (), s9, s10, s11, ()), ((c4_0, (), (), ()), (c5_0, c5_1, c5_2, ()), ()))) (fun w0 w1 w2 w3 => ks.1 (((), (), ()), ((w0, (), (), ()), (w1, w2, w3, ()), ())))
def f37_L3 {α : Type} (n m : Nat) (s1 s9 : LR) (s10 s11 : Int) (c4_0 c5_0 : Bool) (c5_1 c5_2 : LI) (k0 : Bool → Bool → LI → LI → Option α) : Option α := rounds (f37_L3U n) m ((s1, (), (), s9, s10, s11, ()), ((c4_0, (), (), ()), (c5_0, c5_1, c5_2, ()), ())) (fun w => k0 w.2.1.1 w.2.2.1.1 w.2.2.1.2.1 w.2.2.1.2.2.1, ())
theorem f37_L3_0 {α n s1 s9 s10 s11 c4_0 c5_0 c5_1 c5_2 k0} : f37_L3 (α := α) n 0 s1 s9 s10 s11 c4_0 c5_0 c5_1 c5_2 k0 = none := rfl
theorem f37_L3_s {α n m s1 s9 s10 s11 c4_0 c5_0 c5_1 c5_2 k0} : f37_L3 (α := α) n (m + 1) s1 s9 s10 s11 c4_0 c5_0 c5_1 c5_2 k0 = f37_L3B n s1 s9 s10 s11 c4_0 c5_0 c5_1 c5_2 (fun s1 s9 s10 s11 c4_0 c5_0 c5_1 c5_2 => f37_L3 n m s1 s9 s10 s11 c4_0 c5_0 c5_1 c5_2 k0) k0 := rfl
def f37 (n : Nat) (a0 a1 : LR) : Option Rq :=
 ob (f76 n 0) fun r_1 =>
 f37_L3 n n a1 a0 (a0.length : Int) 0 false r_1.1 r_1.2.1 r_1.2.2
  (fun z_6 z_7 z_8 z_9 => (
   some (z_7, z_8, z_9)))
def f37_E (n : Nat) : Ent := ⟨37, [hRs, hRs], [hR], fun x => f37 n x.1 x.2⟩
def f37_D (α : Type) (n : Nat) : D3 α := { reg := [(1, ⟨0, [], [(0, { ent := some (f76_E n) })]⟩), (5, ⟨7, [], [(6, { ent := some (f46_E n) }), (7, { ent := some (f77_E n) })]⟩)], join := [], loop := [(3, ⟨f37_L3H, f37_L3O, rounds (f37_L3U n) n⟩)] }
theorem f37_ents (α : Type) (n : Nat) : AllS Try.prog (entsOf (f37_D α n).reg) := ⟨f76_ok n, f46_ok n, f77_ok n, trivial⟩
theorem f37_L3_d (α : Type) (n : Nat) : D3.OK Try.prog (tyOf Try.prog) ⟨26, []⟩ (f37_D α n) ((bodyOf Try.f37).at [1, 1, 0, 1, 0, 0]) :=
 D3.OK.mk3 (f37_ents α n) (show loopsOf ((bodyOf Try.f37).at [1, 1, 0, 1, 0, 0]) = [] by kernel_rfl) trivial
theorem f37_L3_ok (α : Type) (n : Nat) : LO.Sound (α := α) Try.prog ⟨26, []⟩ ⟨f37_L3H, f37_L3O, rounds (f37_L3U n) n⟩ (.loop ((bodyOf Try.f37).at [1, 1, 0, 1, 0, 0])) :=
 loop_ok (tyOf_ok _) prog_fol (f37_L3U n) (f37_L3_d α n) (by intro v f ks; kernel_rfl) n
theorem f37_d (α : Type) (n : Nat) : D3.OK Try.prog (tyOf Try.prog) ⟨26, []⟩ (f37_D α n) (bodyOf Try.f37) :=
 D3.OK.mk3 (f37_ents α n) (show loopsOf (bodyOf Try.f37) = [(3, (.loop ((bodyOf Try.f37).at [1, 1, 0, 1, 0, 0])))] by kernel_rfl) ⟨look_sound rfl (f37_L3_ok α n), trivial⟩
theorem f37_ok (n : Nat) : (f37_E n).Sound Try.prog :=
 fn_ok (tyOf_ok _) prog_fol (f37_D _ n) (show Try.prog.funcs[37]? = some Try.f37 by kernel_rfl) (by kernel_rfl) (show Try.f37.body = some (bodyOf Try.f37) by kernel_rfl) rfl rfl (Nat.le_of_ble_eq_true rfl) (f37_d _ n) (by intro x; kernel_rfl) 

def f36 (n : Nat) (a0 a1 : Int) (a2 a3 : LR) : Option Rq :=
 gd (decide (a1 ≠ 0)) (
  gd (decide (a1 ≠ 0)) (
   gd (decide (0 ≤ (W ((W (Int.tdiv a0 a1)) * a1))) && decide ((W ((W (Int.tdiv a0 a1)) * a1)) ≤ (W ((W ((W (Int.tdiv a0 a1)) + 1)) * a1))) && decide ((W ((W ((W (Int.tdiv a0 a1)) + 1)) * a1)) ≤ (a2.length : Int))) (
    gd (decide (0 ≤ (W ((Int.tmod a0 a1) * a1))) && decide ((W ((Int.tmod a0 a1) * a1)) ≤ (W ((W ((Int.tmod a0 a1) + 1)) * a1))) && decide ((W ((W ((Int.tmod a0 a1) + 1)) * a1)) ≤ (a3.length : Int))) (
     ob (f37 n ((a2.drop ((W ((W (Int.tdiv a0 a1)) * a1)).toNat)).take ((W ((W ((W (Int.tdiv a0 a1)) + 1)) * a1)).toNat - (W ((W (Int.tdiv a0 a1)) * a1)).toNat)) ((a3.drop ((W ((Int.tmod a0 a1) * a1)).toNat)).take ((W ((W ((Int.tmod a0 a1) + 1)) * a1)).toNat - (W ((Int.tmod a0 a1) * a1)).toNat))) fun r_1 =>
     some r_1))))
def f36_E (n : Nat) : Ent := ⟨36, [hI, (.ref hI), (.ref hRs), (.ref hRs)], [hR], fun x => f36 n x.1 x.2.1 x.2.2.1 x.2.2.2⟩
def f36_D (α : Type) (n : Nat) : D3 α := { reg := [(1, ⟨7, [], []⟩), (2, ⟨18, [], [(18, { ent := some (f37_E n) })]⟩)], join := [], loop := [] }
theorem f36_ents (α : Type) (n : Nat) : AllS Try.prog (entsOf (f36_D α n).reg) := ⟨f37_ok n, trivial⟩
theorem f36_d (α : Type) (n : Nat) : D3.OK Try.prog (tyOf Try.prog) ⟨33, []⟩ (f36_D α n) (bodyOf Try.f36) :=
 D3.OK.mk3 (f36_ents α n) (show loopsOf (bodyOf Try.f36) = [] by kernel_rfl) trivial
theorem f36_ok (n : Nat) : (f36_E n).Sound Try.prog :=
 fn_ok (tyOf_ok _) prog_fol (f36_D _ n) (show Try.prog.funcs[36]? = some Try.f36 by kernel_rfl) (by kernel_rfl) (show Try.f36.body = some (bodyOf Try.f36) by kernel_rfl) rfl rfl (Nat.le_of_ble_eq_true rfl) (f36_d _ n) (by intro x; kernel_rfl) 

def f35c36_L3B {α : Type} (n : Nat) (s1 : Int × LR × LR) (s8 s9 : Int) (b7 : LR) (f : (Int × LR × LR) → Int → Int → LR → Option α) (k0 : LR → Option α) : Option α :=
 bif (decide (s9 < s8)) then
  ob (f36 n s9 s1.1 s1.2.1 s1.2.2) fun r_1 =>
  ob (f75 n r_1) fun r_2 =>
  gd (decide ((b7.length + 1) * 56 ≤ 140737488355328)) (
   f s1 s8 (W (s9 + 1)) (b7 ++ [r_2]))
 else
  k0 b7
abbrev f35c36_L3H : Tm := ⟨[(1, .d (.clo 36 (.pair (.ref hI) (.pair (.ref hRs) (.ref hRs))))), (5, .k (.hw 7)), (8, .d hI), (9, .d hI)], [(7, .arr 31 hR false)], [17], []⟩
abbrev f35c36_L3X0 : Tm := ⟨[(5, .k (.hw 7))], [(7, .arr 31 hR false)], [], []⟩
abbrev f35c36_L3O : List (Exit × Tm) := [(.exit 0, f35c36_L3X0)]
def f35c36_L3U {α : Type} (n : Nat) (v : f35c36_L3H.den) (f : f35c36_L3H.den → Option α) (ks : KS α f35c36_L3O) : Option α := f35c36_L3B n v.1.1 v.1.2.2.1 v.1.2.2.2.1 v.2.1 (fun s1 s8 s9 b7 => f ((s1, (), s8, s9, ()), (b7, ()))) (fun w0 => ks.1 (((), ()), (w0, ())))
def f35c36_L3 {α : Type} (n m : Nat) (s1 : Int × LR × LR) (s8 s9 : Int) (b7 : LR) (k0 : LR → Option α) : Option α := rounds (f35c36_L3U n) m ((s1, (), s8, s9, ()), (b7, ())) (fun w => k0 w.2.1, ())
theorem f35c36_L3_0 {α n s1 s8 s9 b7 k0} : f35c36_L3 (α := α) n 0 s1 s8 s9 b7 k0 = none := rfl
theorem f35c36_L3_s {α n m s1 s8 s9 b7 k0} : f35c36_L3 (α := α) n (m + 1) s1 s8 s9 b7 k0 = f35c36_L3B n s1 s8 s9 b7 (fun s1 s8 s9 b7 => f35c36_L3 n m s1 s8 s9 b7 k0) k0 := rfl
def f35c36 (n : Nat) (a0 : Int) (a1 : Int × LR × LR) : Option LR :=
 f35c36_L3 n n a1 a0 0 []
  (fun z_3 => (
   some z_3))
def f35c36_E (n : Nat) : Ent := ⟨35, [hI, (.clo 36 (.pair (.ref hI) (.pair (.ref hRs) (.ref hRs))))], [hRs], fun x => f35c36 n x.1 x.2⟩
def f35c36_D (α : Type) (n : Nat) : D3 α := { reg := [(1, ⟨0, [], [(0, { sh := some hR })]⟩), (5, ⟨0, [], [(3, { ent := some (f36_E n) }), (4, { ent := some (f75_E n) }), (5, { sh := some hR })]⟩)], join := [], loop := [(3, ⟨f35c36_L3H, f35c36_L3O, rounds (f35c36_L3U n) n⟩)] }
theorem f35c36_ents (α : Type) (n : Nat) : AllS Try.prog (entsOf (f35c36_D α n).reg) := ⟨f36_ok n, f75_ok n, trivial⟩
theorem f35c36_L3_d (α : Type) (n : Nat) : D3.OK Try.prog (tyOf Try.prog) ⟨21, []⟩ (f35c36_D α n) ((bodyOf Try.f35).at [1, 1, 0, 1, 0, 0]) :=
 D3.OK.mk3 (f35c36_ents α n) (show loopsOf ((bodyOf Try.f35).at [1, 1, 0, 1, 0, 0]) = [] by kernel_rfl) trivial
theorem f35c36_L3_ok (α : Type) (n : Nat) : LO.Sound (α := α) Try.prog ⟨21, []⟩ ⟨f35c36_L3H, f35c36_L3O, rounds (f35c36_L3U n) n⟩ (.loop ((bodyOf Try.f35).at [1, 1, 0, 1, 0, 0])) :=
 loop_ok (tyOf_ok _) prog_fol (f35c36_L3U n) (f35c36_L3_d α n) (by intro v f ks; kernel_rfl) n
theorem f35c36_d (α : Type) (n : Nat) : D3.OK Try.prog (tyOf Try.prog) ⟨21, []⟩ (f35c36_D α n) (bodyOf Try.f35) :=
 D3.OK.mk3 (f35c36_ents α n) (show loopsOf (bodyOf Try.f35) = [(3, (.loop ((bodyOf Try.f35).at [1, 1, 0, 1, 0, 0])))] by kernel_rfl) ⟨look_sound rfl (f35c36_L3_ok α n), trivial⟩
theorem f35c36_ok (n : Nat) : (f35c36_E n).Sound Try.prog :=
 fn_ok (tyOf_ok _) prog_fol (f35c36_D _ n) (show Try.prog.funcs[35]? = some Try.f35 by kernel_rfl) (by kernel_rfl) (show Try.f35.body = some (bodyOf Try.f35) by kernel_rfl) rfl rfl (Nat.le_of_ble_eq_true rfl) (f35c36_d _ n) (by intro x; kernel_rfl) 

def f74 (n : Nat) (a0 : Rq) : Option Bool :=
 bif (decide ((a0.2.1.length : Int) ≤ 40)) then
  some (decide ((a0.2.2.length : Int) ≤ 40))
 else
  some false
def f74_E (n : Nat) : Ent := ⟨74, [hR], [.bool], fun x => f74 n x⟩
def f74_D (α : Type) (n : Nat) : D3 α := { reg := [], join := [], loop := [] }
theorem f74_ents (α : Type) (n : Nat) : AllS Try.prog (entsOf (f74_D α n).reg) := trivial
theorem f74_d (α : Type) (n : Nat) : D3.OK Try.prog (tyOf Try.prog) ⟨13, []⟩ (f74_D α n) (bodyOf Try.f74) :=
 D3.OK.mk3 (f74_ents α n) (show loopsOf (bodyOf Try.f74) = [] by kernel_rfl) trivial
theorem f74_ok (n : Nat) : (f74_E n).Sound Try.prog :=
 fn_ok (tyOf_ok _) prog_fol (f74_D _ n) (show Try.prog.funcs[74]? = some Try.f74 by kernel_rfl) (by kernel_rfl) (show Try.f74.body = some (bodyOf Try.f74) by kernel_rfl) rfl rfl (Nat.le_of_ble_eq_true rfl) (f74_d _ n) (by intro x; kernel_rfl) 

def f73 (n : Nat) (a0 : Rq) : Option Bool :=
 ob (f74 n a0) fun r_1 =>
 some (!r_1)
def f73_E (n : Nat) : Ent := ⟨73, [hR], [.bool], fun x => f73 n x⟩
def f73_D (α : Type) (n : Nat) : D3 α := { reg := [(1, ⟨0, [], [(1, { ent := some (f74_E n) })]⟩)], join := [], loop := [] }
theorem f73_ents (α : Type) (n : Nat) : AllS Try.prog (entsOf (f73_D α n).reg) := ⟨f74_ok n, trivial⟩
theorem f73_d (α : Type) (n : Nat) : D3.OK Try.prog (tyOf Try.prog) ⟨6, []⟩ (f73_D α n) (bodyOf Try.f73) :=
 D3.OK.mk3 (f73_ents α n) (show loopsOf (bodyOf Try.f73) = [] by kernel_rfl) trivial
theorem f73_ok (n : Nat) : (f73_E n).Sound Try.prog :=
 fn_ok (tyOf_ok _) prog_fol (f73_D _ n) (show Try.prog.funcs[73]? = some Try.f73 by kernel_rfl) (by kernel_rfl) (show Try.f73.body = some (bodyOf Try.f73) by kernel_rfl) rfl rfl (Nat.le_of_ble_eq_true rfl) (f73_d _ n) (by intro x; kernel_rfl) 

def f114c73_L2B {α : Type} (n : Nat) (s0 : LR) (s7 s8 : Int) (f : LR → Int → Int → Option α) (k0 : Int → Option α) (k1 : Unit → Option α) : Option α :=
 bif (decide (s8 < s7)) then
  gd (decide (0 ≤ s8) && decide (s8 < (s0.length : Int))) (
   let x_1 := s0.getD s8.toNat (false, [], [])
   ob (f73 n x_1) fun r_2 =>
   bif r_2 then
    k0 s8
   else
    f s0 s7 (W (s8 + 1)))
 else
  k1 ()
abbrev f114c73_L2H : Tm := ⟨[(0, .d hRs), (1, .d (.fn 73)), (7, .d hI), (8, .d hI)], [], [], []⟩
abbrev f114c73_L2X0 : Tm := ⟨[(4, .d hI)], [], [], []⟩
abbrev f114c73_L2X1 : Tm := ⟨[], [], [], []⟩
abbrev f114c73_L2O : List (Exit × Tm) := [(.ret, f114c73_L2X0), (.exit 0, f114c73_L2X1)]
def f114c73_L2U {α : Type} (n : Nat) (v : f114c73_L2H.den) (f : f114c73_L2H.den → Option α) (ks : KS α f114c73_L2O) : Option α := f114c73_L2B n v.1.1 v.1.2.2.1 v.1.2.2.2.1 (fun s0 s7 s8 => f ((s0, (), s7, s8, ()), ())) (fun w0 => ks.1 ((w0, ()), ())) (fun _ => ks.2.1 ((), ()))
def f114c73_L2 {α : Type} (n m : Nat) (s0 : LR) (s7 s8 : Int) (k0 : Int → Option α) (k1 : Unit → Option α) : Option α := rounds (f114c73_L2U n) m ((s0, (), s7, s8, ()), ()) (fun w => k0 w.1.1, fun w => k1 (), ())
theorem f114c73_L2_0 {α n s0 s7 s8 k0 k1} : f114c73_L2 (α := α) n 0 s0 s7 s8 k0 k1 = none := rfl
theorem f114c73_L2_s {α n m s0 s7 s8 k0 k1} : f114c73_L2 (α := α) n (m + 1) s0 s7 s8 k0 k1 = f114c73_L2B n s0 s7 s8 (fun s0 s7 s8 => f114c73_L2 n m s0 s7 s8 k0 k1) k0 k1 := rfl
def f114c73 (n : Nat) (a0 : LR) (a1 : Unit) : Option Int :=
 f114c73_L2 n n a0 (a0.length : Int) 0
  (fun z_3 => (
   some z_3))
  (fun (_ : Unit) => (
   some (-1)))
def f114c73_E (n : Nat) : Ent := ⟨114, [hRs, (.fn 73)], [hI], fun x => f114c73 n x.1 x.2⟩
def f114c73_D (α : Type) (n : Nat) : D3 α := { reg := [(4, ⟨0, [], [(5, { ent := some (f73_E n) })]⟩)], join := [], loop := [(2, ⟨f114c73_L2H, f114c73_L2O, rounds (f114c73_L2U n) n⟩)] }
theorem f114c73_ents (α : Type) (n : Nat) : AllS Try.prog (entsOf (f114c73_D α n).reg) := ⟨f73_ok n, trivial⟩
theorem f114c73_L2_d (α : Type) (n : Nat) : D3.OK Try.prog (tyOf Try.prog) ⟨19, []⟩ (f114c73_D α n) ((bodyOf Try.f114).at [1, 0, 1, 0, 0]) :=
 D3.OK.mk3 (f114c73_ents α n) (show loopsOf ((bodyOf Try.f114).at [1, 0, 1, 0, 0]) = [] by kernel_rfl) trivial
theorem f114c73_L2_ok (α : Type) (n : Nat) : LO.Sound (α := α) Try.prog ⟨19, []⟩ ⟨f114c73_L2H, f114c73_L2O, rounds (f114c73_L2U n) n⟩ (.loop ((bodyOf Try.f114).at [1, 0, 1, 0, 0])) :=
 loop_ok (tyOf_ok _) prog_fol (f114c73_L2U n) (f114c73_L2_d α n) (by intro v f ks; kernel_rfl) n
theorem f114c73_d (α : Type) (n : Nat) : D3.OK Try.prog (tyOf Try.prog) ⟨19, []⟩ (f114c73_D α n) (bodyOf Try.f114) :=
 D3.OK.mk3 (f114c73_ents α n) (show loopsOf (bodyOf Try.f114) = [(2, (.loop ((bodyOf Try.f114).at [1, 0, 1, 0, 0])))] by kernel_rfl) ⟨look_sound rfl (f114c73_L2_ok α n), trivial⟩
theorem f114c73_ok (n : Nat) : (f114c73_E n).Sound Try.prog :=
 fn_ok (tyOf_ok _) prog_fol (f114c73_D _ n) (show Try.prog.funcs[114]? = some Try.f114 by kernel_rfl) (by kernel_rfl) (show Try.f114.body = some (bodyOf Try.f114) by kernel_rfl) rfl rfl (Nat.le_of_ble_eq_true rfl) (f114c73_d _ n) (by intro x; kernel_rfl) 

def f72c73 (n : Nat) (a0 : LR) (a1 : Unit) : Option Bool :=
 ob (f114c73 n a0 a1) fun r_1 =>
 some (decide (r_1 ≥ 0))
def f72c73_E (n : Nat) : Ent := ⟨72, [hRs, (.fn 73)], [.bool], fun x => f72c73 n x.1 x.2⟩
def f72c73_D (α : Type) (n : Nat) : D3 α := { reg := [(1, ⟨0, [], [(2, { ent := some (f114c73_E n) })]⟩)], join := [], loop := [] }
theorem f72c73_ents (α : Type) (n : Nat) : AllS Try.prog (entsOf (f72c73_D α n).reg) := ⟨f114c73_ok n, trivial⟩
theorem f72c73_d (α : Type) (n : Nat) : D3.OK Try.prog (tyOf Try.prog) ⟨9, []⟩ (f72c73_D α n) (bodyOf Try.f72) :=
 D3.OK.mk3 (f72c73_ents α n) (show loopsOf (bodyOf Try.f72) = [] by kernel_rfl) trivial
theorem f72c73_ok (n : Nat) : (f72c73_E n).Sound Try.prog :=
 fn_ok (tyOf_ok _) prog_fol (f72c73_D _ n) (show Try.prog.funcs[72]? = some Try.f72 by kernel_rfl) (by kernel_rfl) (show Try.f72.body = some (bodyOf Try.f72) by kernel_rfl) rfl rfl (Nat.le_of_ble_eq_true rfl) (f72c73_d _ n) (by intro x; kernel_rfl) 

def f34 (n : Nat) (a0 : LR) : Option (LR × Int) :=
 ob (f72c73 n a0 ()) fun r_1 =>
 bif r_1 then
  some ([], 7)
 else
  some (a0, 0)
def f34_E (n : Nat) : Ent := ⟨34, [hRs], [hRs, hI], fun x => f34 n x⟩
def f34_D (α : Type) (n : Nat) : D3 α := { reg := [(1, ⟨0, [], [(1, { ent := some (f72c73_E n) })]⟩)], join := [], loop := [] }
theorem f34_ents (α : Type) (n : Nat) : AllS Try.prog (entsOf (f34_D α n).reg) := ⟨f72c73_ok n, trivial⟩
theorem f34_d (α : Type) (n : Nat) : D3.OK Try.prog (tyOf Try.prog) ⟨7, []⟩ (f34_D α n) (bodyOf Try.f34) :=
 D3.OK.mk3 (f34_ents α n) (show loopsOf (bodyOf Try.f34) = [] by kernel_rfl) trivial
theorem f34_ok (n : Nat) : (f34_E n).Sound Try.prog :=
 fn_ok (tyOf_ok _) prog_fol (f34_D _ n) (show Try.prog.funcs[34]? = some Try.f34 by kernel_rfl) (by kernel_rfl) (show Try.f34.body = some (bodyOf Try.f34) by kernel_rfl) rfl rfl (Nat.le_of_ble_eq_true rfl) (f34_d _ n) (by intro x; kernel_rfl) 

def f9 (n : Nat) (a0 a1 : LR) (a2 : Int) : Option (LR × Int) :=
 ob (f32 n a2 [a0, a1]) fun r_1 =>
 bif (r_1 != 0) then
  some ([], r_1)
 else
  ob (f33 n a1 a2) fun r_2 =>
  ob (f35c36 n (W (a2 * a2)) (a2, a0, r_2)) fun r_3 =>
  ob (f34 n r_3) fun r_4 =>
  some (r_4.1, r_4.2)
def f9_E (n : Nat) : Ent := ⟨9, [hRs, hRs, hI], [hRs, hI], fun x => f9 n x.1 x.2.1 x.2.2⟩
def f9_D (α : Type) (n : Nat) : D3 α := { reg := [(1, ⟨0, [], [(3, { sh := some hRs }), (4, { ent := some (f32_E n) })]⟩), (4, ⟨0, [], [(2, { ent := some (f33_E n) })]⟩), (5, ⟨0, [], [(3, { sh := some (.pair (.ref hI) (.pair (.ref hRs) (.ref hRs))) }), (4, { ent := some (f35c36_E n) }), (5, { ent := some (f34_E n) })]⟩)], join := [], loop := [] }
theorem f9_ents (α : Type) (n : Nat) : AllS Try.prog (entsOf (f9_D α n).reg) := ⟨f32_ok n, f33_ok n, f35c36_ok n, f34_ok n, trivial⟩
theorem f9_d (α : Type) (n : Nat) : D3.OK Try.prog (tyOf Try.prog) ⟨29, []⟩ (f9_D α n) (bodyOf Try.f9) :=
 D3.OK.mk3 (f9_ents α n) (show loopsOf (bodyOf Try.f9) = [] by kernel_rfl) trivial
theorem f9_ok (n : Nat) : (f9_E n).Sound Try.prog :=
 fn_ok (tyOf_ok _) prog_fol (f9_D _ n) (show Try.prog.funcs[9]? = some Try.f9 by kernel_rfl) (by kernel_rfl) (show Try.f9.body = some (bodyOf Try.f9) by kernel_rfl) rfl rfl (Nat.le_of_ble_eq_true rfl) (f9_d _ n) (by intro x; kernel_rfl) 

def f10 (n : Nat) (a0 : LR) (a1 : Int) : Option (LR × Int) :=
 ob (f32 n a1 [a0]) fun r_1 =>
 bif (r_1 != 0) then
  some ([], r_1)
 else
  ob (f33 n a0 a1) fun r_2 =>
  some (r_2, 0)
def f10_E (n : Nat) : Ent := ⟨10, [hRs, hI], [hRs, hI], fun x => f10 n x.1 x.2⟩
def f10_D (α : Type) (n : Nat) : D3 α := { reg := [(1, ⟨0, [], [(2, { sh := some hRs }), (3, { ent := some (f32_E n) })]⟩), (4, ⟨0, [], [(2, { ent := some (f33_E n) })]⟩)], join := [], loop := [] }
theorem f10_ents (α : Type) (n : Nat) : AllS Try.prog (entsOf (f10_D α n).reg) := ⟨f32_ok n, f33_ok n, trivial⟩
theorem f10_d (α : Type) (n : Nat) : D3.OK Try.prog (tyOf Try.prog) ⟨17, []⟩ (f10_D α n) (bodyOf Try.f10) :=
 D3.OK.mk3 (f10_ents α n) (show loopsOf (bodyOf Try.f10) = [] by kernel_rfl) trivial
theorem f10_ok (n : Nat) : (f10_E n).Sound Try.prog :=
 fn_ok (tyOf_ok _) prog_fol (f10_D _ n) (show Try.prog.funcs[10]? = some Try.f10 by kernel_rfl) (by kernel_rfl) (show Try.f10.body = some (bodyOf Try.f10) by kernel_rfl) rfl rfl (Nat.le_of_ble_eq_true rfl) (f10_d _ n) (by intro x; kernel_rfl) 

def f84B (n : Nat) (a0 : LR) : Option LR :=
 gd ((!a0.isEmpty)) (
  gd (decide ((0 + a0.length) * 56 ≤ 140737488355328)) (
   some a0))
def f84B_E (n : Nat) : Ent3 := ⟨84, [.im hRs], [[.one (.own 31 hR)]], fun x => f84B n x⟩
def f84B_D (α : Type) (n : Nat) : D3 α := { reg := [(3, ⟨0, [], [(0, { sh := some hR })]⟩)], join := [], loop := [] }
theorem f84B_ents (α : Type) (n : Nat) : AllS Try.prog (entsOf (f84B_D α n).reg) := trivial
theorem f84B_d (α : Type) (n : Nat) : D3.OK Try.prog (tyOf Try.prog) ⟨8, []⟩ (f84B_D α n) (bodyOf Try.f84) :=
 D3.OK.mk3 (f84B_ents α n) (show loopsOf (bodyOf Try.f84) = [] by kernel_rfl) trivial
theorem f84B_ok (n : Nat) : (f84B_E n).Sound Try.prog :=
 fn_okB (tyOf_ok _) prog_fol (f84B_D _ n) (show Try.prog.funcs[84]? = some Try.f84 by kernel_rfl) (by kernel_rfl) (show Try.f84.body = some (bodyOf Try.f84) by kernel_rfl) rfl rfl (Nat.le_of_ble_eq_true rfl) (f84B_d _ n) (by intro x; kernel_rfl) 

def f40B_L3B {α : Type} (n : Nat) (s0 : LR) (s1 s11 s12 : Int) (b10 : List LR) (f : LR → Int → Int → Int → (List LR) → Option α) (k0 : (List LR) → Option α) : Option α :=
 bif (decide (s12 < s11)) then
  gd (decide (0 ≤ (W (s12 * s1))) && decide ((W (s12 * s1)) ≤ (W ((W (s12 + 1)) * s1))) && decide ((W ((W (s12 + 1)) * s1)) ≤ (s0.length : Int))) (
   ob (f84B n ((s0.drop ((W (s12 * s1)).toNat)).take ((W ((W (s12 + 1)) * s1)).toNat - (W (s12 * s1)).toNat))) fun r_1 =>
   gd (decide ((b10.length + 1) * 24 ≤ 140737488355328)) (
    f s0 s1 s11 (W (s12 + 1)) (b10 ++ [r_1])))
 else
  k0 b10
abbrev f40B_L3H : Tm := ⟨[(0, .d hRs), (1, .d hI), (2, .d .nil), (7, .k (.hw 10)), (11, .d hI), (12, .d hI)], [(10, .arr 24 hRs false)], [36, 310], []⟩
abbrev f40B_L3X0 : Tm := ⟨[(7, .k (.hw 10))], [(10, .arr 24 hRs false)], [], []⟩
abbrev f40B_L3O : List (Exit × Tm) := [(.exit 0, f40B_L3X0)]
def f40B_L3U {α : Type} (n : Nat) (v : f40B_L3H.den) (f : f40B_L3H.den → Option α) (ks : KS α f40B_L3O) : Option α := f40B_L3B n v.1.1 v.1.2.1 v.1.2.2.2.2.1 v.1.2.2.2.2.2.1 v.2.1 (fun s0 s1 s11 s12 b10 => f ((s0, s1, (), (), s11, s12, ()), (b10, ()))) (fun w0 => ks.1 (((), ()), (w0, ())))
def f40B_L3 {α : Type} (n m : Nat) (s0 : LR) (s1 s11 s12 : Int) (b10 : List LR) (k0 : (List LR) → Option α) : Option α := rounds (f40B_L3U n) m ((s0, s1, (), (), s11, s12, ()), (b10, ())) (fun w => k0 w.2.1, ())
theorem f40B_L3_0 {α n s0 s1 s11 s12 b10 k0} : f40B_L3 (α := α) n 0 s0 s1 s11 s12 b10 k0 = none := rfl
theorem f40B_L3_s {α n m s0 s1 s11 s12 b10 k0} : f40B_L3 (α := α) n (m + 1) s0 s1 s11 s12 b10 k0 = f40B_L3B n s0 s1 s11 s12 b10 (fun s0 s1 s11 s12 b10 => f40B_L3 n m s0 s1 s11 s12 b10 k0) k0 := rfl
def f40B (n : Nat) (a0 : LR) (a1 : Int) (a2 : Unit) : Option (List LR) :=
 f40B_L3 n n a0 a1 a1 0 []
  (fun z_2 => (
   some z_2))
def f40B_E (n : Nat) : Ent3 := ⟨40, [.im hRs, .im hI, .im .nil], [[.one (.own 24 hRs)]], fun x => f40B n x.1 x.2.1 x.2.2⟩
def f40B_D (α : Type) (n : Nat) : D3 α := { reg := [(1, ⟨0, [], [(0, { sh := some hRs })]⟩), (5, ⟨0, [], [(9, { entB := some (f84B_E n), hb := 310 })]⟩), (8, ⟨0, [], [(2, { sh := some hRs, fz := [(35, hRs)] })]⟩)], join := [], loop := [(3, ⟨f40B_L3H, f40B_L3O, rounds (f40B_L3U n) n⟩)] }
theorem f40B_ents (α : Type) (n : Nat) : AllS Try.prog (entsOf (f40B_D α n).reg) := ⟨f84B_ok n, trivial⟩
theorem f40B_L3_d (α : Type) (n : Nat) : D3.OK Try.prog (tyOf Try.prog) ⟨40, []⟩ (f40B_D α n) ((bodyOf Try.f40).at [1, 1, 0, 1, 0, 0]) :=
 D3.OK.mk3 (f40B_ents α n) (show loopsOf ((bodyOf Try.f40).at [1, 1, 0, 1, 0, 0]) = [] by kernel_rfl) trivial
theorem f40B_L3_ok (α : Type) (n : Nat) : LO.Sound (α := α) Try.prog ⟨40, []⟩ ⟨f40B_L3H, f40B_L3O, rounds (f40B_L3U n) n⟩ (.loop ((bodyOf Try.f40).at [1, 1, 0, 1, 0, 0])) :=
 loop_ok (tyOf_ok _) prog_fol (f40B_L3U n) (f40B_L3_d α n) (by intro v f ks; kernel_rfl) n
theorem f40B_d (α : Type) (n : Nat) : D3.OK Try.prog (tyOf Try.prog) ⟨40, []⟩ (f40B_D α n) (bodyOf Try.f40) :=
 D3.OK.mk3 (f40B_ents α n) (show loopsOf (bodyOf Try.f40) = [(3, (.loop ((bodyOf Try.f40).at [1, 1, 0, 1, 0, 0])))] by kernel_rfl) ⟨look_sound rfl (f40B_L3_ok α n), trivial⟩
theorem f40B_ok (n : Nat) : (f40B_E n).Sound Try.prog :=
 fn_okB (tyOf_ok _) prog_fol (f40B_D _ n) (show Try.prog.funcs[40]? = some Try.f40 by kernel_rfl) (by kernel_rfl) (show Try.f40.body = some (bodyOf Try.f40) by kernel_rfl) rfl rfl (Nat.le_of_ble_eq_true rfl) (f40B_d _ n) (by intro x; kernel_rfl) 

def f79 (n : Nat) (a0 : LR) (a1 : Int) : Option Bool :=
 gd (decide (0 ≤ a1) && decide (a1 < (a0.length : Int))) (
  let x_1 := a0.getD a1.toNat (false, [], [])
  ob (f80 n x_1) fun r_2 =>
  some (!r_2))
def f79_E (n : Nat) : Ent := ⟨79, [hRs, (.ref hI)], [.bool], fun x => f79 n x.1 x.2⟩
def f79_D (α : Type) (n : Nat) : D3 α := { reg := [(1, ⟨0, [], [(4, { ent := some (f80_E n) })]⟩)], join := [], loop := [] }
theorem f79_ents (α : Type) (n : Nat) : AllS Try.prog (entsOf (f79_D α n).reg) := ⟨f80_ok n, trivial⟩
theorem f79_d (α : Type) (n : Nat) : D3.OK Try.prog (tyOf Try.prog) ⟨10, []⟩ (f79_D α n) (bodyOf Try.f79) :=
 D3.OK.mk3 (f79_ents α n) (show loopsOf (bodyOf Try.f79) = [] by kernel_rfl) trivial
theorem f79_ok (n : Nat) : (f79_E n).Sound Try.prog :=
 fn_ok (tyOf_ok _) prog_fol (f79_D _ n) (show Try.prog.funcs[79]? = some Try.f79 by kernel_rfl) (by kernel_rfl) (show Try.f79.body = some (bodyOf Try.f79) by kernel_rfl) rfl rfl (Nat.le_of_ble_eq_true rfl) (f79_d _ n) (by intro x; kernel_rfl) 

def f78c79_L2B {α : Type} (n : Nat) (s0 : List LR) (s1 s7 s8 : Int) (f : (List LR) → Int → Int → Int → Option α) (k0 : Int → Option α) (k1 : Unit → Option α) : Option α :=
 bif (decide (s8 < s7)) then
  gd (decide (0 ≤ s8) && decide (s8 < (s0.length : Int))) (
   ob (f79 n (s0.getD s8.toNat []) s1) fun r_1 =>
   bif r_1 then
    k0 s8
   else
    f s0 s1 s7 (W (s8 + 1)))
 else
  k1 ()
abbrev f78c79_L2H : Tm := ⟨[(0, .d (.sl hRs)), (1, .d (.clo 79 (.ref hI))), (7, .d hI), (8, .d hI)], [], [], []⟩
abbrev f78c79_L2X0 : Tm := ⟨[(4, .d hI)], [], [], []⟩
abbrev f78c79_L2X1 : Tm := ⟨[], [], [], []⟩
abbrev f78c79_L2O : List (Exit × Tm) := [(.ret, f78c79_L2X0), (.exit 0, f78c79_L2X1)]
def f78c79_L2U {α : Type} (n : Nat) (v : f78c79_L2H.den) (f : f78c79_L2H.den → Option α) (ks : KS α f78c79_L2O) : Option α := f78c79_L2B n v.1.1 v.1.2.1 v.1.2.2.1 v.1.2.2.2.1 (fun s0 s1 s7 s8 => f ((s0, s1, s7, s8, ()), ())) (fun w0 => ks.1 ((w0, ()), ())) (fun _ => ks.2.1 ((), ()))
def f78c79_L2 {α : Type} (n m : Nat) (s0 : List LR) (s1 s7 s8 : Int) (k0 : Int → Option α) (k1 : Unit → Option α) : Option α := rounds (f78c79_L2U n) m ((s0, s1, s7, s8, ()), ()) (fun w => k0 w.1.1, fun w => k1 (), ())
theorem f78c79_L2_0 {α n s0 s1 s7 s8 k0 k1} : f78c79_L2 (α := α) n 0 s0 s1 s7 s8 k0 k1 = none := rfl
theorem f78c79_L2_s {α n m s0 s1 s7 s8 k0 k1} : f78c79_L2 (α := α) n (m + 1) s0 s1 s7 s8 k0 k1 = f78c79_L2B n s0 s1 s7 s8 (fun s0 s1 s7 s8 => f78c79_L2 n m s0 s1 s7 s8 k0 k1) k0 k1 := rfl
def f78c79 (n : Nat) (a0 : List LR) (a1 : Int) : Option Int :=
 f78c79_L2 n n a0 a1 (a0.length : Int) 0
  (fun z_2 => (
   some z_2))
  (fun (_ : Unit) => (
   some (-1)))
def f78c79_E (n : Nat) : Ent := ⟨78, [(.sl hRs), (.clo 79 (.ref hI))], [hI], fun x => f78c79 n x.1 x.2⟩
def f78c79_D (α : Type) (n : Nat) : D3 α := { reg := [(4, ⟨0, [], [(5, { ent := some (f79_E n) })]⟩)], join := [], loop := [(2, ⟨f78c79_L2H, f78c79_L2O, rounds (f78c79_L2U n) n⟩)] }
theorem f78c79_ents (α : Type) (n : Nat) : AllS Try.prog (entsOf (f78c79_D α n).reg) := ⟨f79_ok n, trivial⟩
theorem f78c79_L2_d (α : Type) (n : Nat) : D3.OK Try.prog (tyOf Try.prog) ⟨19, []⟩ (f78c79_D α n) ((bodyOf Try.f78).at [1, 0, 1, 0, 0]) :=
 D3.OK.mk3 (f78c79_ents α n) (show loopsOf ((bodyOf Try.f78).at [1, 0, 1, 0, 0]) = [] by kernel_rfl) trivial
theorem f78c79_L2_ok (α : Type) (n : Nat) : LO.Sound (α := α) Try.prog ⟨19, []⟩ ⟨f78c79_L2H, f78c79_L2O, rounds (f78c79_L2U n) n⟩ (.loop ((bodyOf Try.f78).at [1, 0, 1, 0, 0])) :=
 loop_ok (tyOf_ok _) prog_fol (f78c79_L2U n) (f78c79_L2_d α n) (by intro v f ks; kernel_rfl) n
theorem f78c79_d (α : Type) (n : Nat) : D3.OK Try.prog (tyOf Try.prog) ⟨19, []⟩ (f78c79_D α n) (bodyOf Try.f78) :=
 D3.OK.mk3 (f78c79_ents α n) (show loopsOf (bodyOf Try.f78) = [(2, (.loop ((bodyOf Try.f78).at [1, 0, 1, 0, 0])))] by kernel_rfl) ⟨look_sound rfl (f78c79_L2_ok α n), trivial⟩
theorem f78c79_ok (n : Nat) : (f78c79_E n).Sound Try.prog :=
 fn_ok (tyOf_ok _) prog_fol (f78c79_D _ n) (show Try.prog.funcs[78]? = some Try.f78 by kernel_rfl) (by kernel_rfl) (show Try.f78.body = some (bodyOf Try.f78) by kernel_rfl) rfl rfl (Nat.le_of_ble_eq_true rfl) (f78c79_d _ n) (by intro x; kernel_rfl) 

def f81 (n : Nat) (a0 : Rq) : Option Rq :=
 bif (!a0.1) then
  ob (f80 n a0) fun r_1 =>
  ob (f115 n a0.2.1) fun r_2 =>
  ob (f115 n a0.2.2) fun r_3 =>
  some ((!r_1), r_2, r_3)
 else
  ob (f115 n a0.2.1) fun r_4 =>
  ob (f115 n a0.2.2) fun r_5 =>
  some (false, r_4, r_5)
def f81_E (n : Nat) : Ent := ⟨81, [hR], [hR], fun x => f81 n x⟩
def f81_D (α : Type) (n : Nat) : D3 α := { reg := [(1, ⟨14, [], [(5, { ent := some (f80_E n) }), (10, { ent := some (f115_E n) }), (13, { ent := some (f115_E n) })]⟩)], join := [], loop := [] }
theorem f81_ents (α : Type) (n : Nat) : AllS Try.prog (entsOf (f81_D α n).reg) := ⟨f80_ok n, f115_ok n, f115_ok n, trivial⟩
theorem f81_d (α : Type) (n : Nat) : D3.OK Try.prog (tyOf Try.prog) ⟨18, []⟩ (f81_D α n) (bodyOf Try.f81) :=
 D3.OK.mk3 (f81_ents α n) (show loopsOf (bodyOf Try.f81) = [] by kernel_rfl) trivial
theorem f81_ok (n : Nat) : (f81_E n).Sound Try.prog :=
 fn_ok (tyOf_ok _) prog_fol (f81_D _ n) (show Try.prog.funcs[81]? = some Try.f81 by kernel_rfl) (by kernel_rfl) (show Try.f81.body = some (bodyOf Try.f81) by kernel_rfl) rfl rfl (Nat.le_of_ble_eq_true rfl) (f81_d _ n) (by intro x; kernel_rfl) 

def f83 (n : Nat) (a0 a1 : Rq) : Option Rq :=
 ob (f95 n a0.2.1 a1.2.2) fun r_1 =>
 ob (f95 n a0.2.2 a1.2.1) fun r_2 =>
 ob (f94 n (!(a0.1 == a1.1)) r_1 r_2) fun r_3 =>
 some r_3
def f83_E (n : Nat) : Ent := ⟨83, [hR, hR], [hR], fun x => f83 n x.1 x.2⟩
def f83_D (α : Type) (n : Nat) : D3 α := { reg := [(1, ⟨15, [], [(9, { ent := some (f95_E n) }), (14, { ent := some (f95_E n) }), (15, { ent := some (f94_E n) })]⟩)], join := [], loop := [] }
theorem f83_ents (α : Type) (n : Nat) : AllS Try.prog (entsOf (f83_D α n).reg) := ⟨f95_ok n, f95_ok n, f94_ok n, trivial⟩
theorem f83_d (α : Type) (n : Nat) : D3.OK Try.prog (tyOf Try.prog) ⟨21, []⟩ (f83_D α n) (bodyOf Try.f83) :=
 D3.OK.mk3 (f83_ents α n) (show loopsOf (bodyOf Try.f83) = [] by kernel_rfl) trivial
theorem f83_ok (n : Nat) : (f83_E n).Sound Try.prog :=
 fn_ok (tyOf_ok _) prog_fol (f83_D _ n) (show Try.prog.funcs[83]? = some Try.f83 by kernel_rfl) (by kernel_rfl) (show Try.f83.body = some (bodyOf Try.f83) by kernel_rfl) rfl rfl (Nat.le_of_ble_eq_true rfl) (f83_d _ n) (by intro x; kernel_rfl) 

def f121 (n : Nat) (a0 : Int) (a1 : Rq) (a2 a3 : LR) : Option Rq :=
 gd (decide (0 ≤ a0) && decide (a0 < (a2.length : Int))) (
  let x_1 := a2.getD a0.toNat (false, [], [])
  ob (f46 n a1 x_1) fun r_2 =>
  gd (decide (0 ≤ a0) && decide (a0 < (a3.length : Int))) (
   let x_3 := a3.getD a0.toNat (false, [], [])
   ob (f77 n r_2 x_3) fun r_4 =>
   some r_4))
def f121_E (n : Nat) : Ent := ⟨121, [hI, (.ref hR), (.ref hRs), (.ref hRs)], [hR], fun x => f121 n x.1 x.2.1 x.2.2.1 x.2.2.2⟩
def f121_D (α : Type) (n : Nat) : D3 α := { reg := [(1, ⟨10, [], [(5, { ent := some (f46_E n) }), (10, { ent := some (f77_E n) })]⟩)], join := [], loop := [] }
theorem f121_ents (α : Type) (n : Nat) : AllS Try.prog (entsOf (f121_D α n).reg) := ⟨f46_ok n, f77_ok n, trivial⟩
theorem f121_d (α : Type) (n : Nat) : D3.OK Try.prog (tyOf Try.prog) ⟨17, []⟩ (f121_D α n) (bodyOf Try.f121) :=
 D3.OK.mk3 (f121_ents α n) (show loopsOf (bodyOf Try.f121) = [] by kernel_rfl) trivial
theorem f121_ok (n : Nat) : (f121_E n).Sound Try.prog :=
 fn_ok (tyOf_ok _) prog_fol (f121_D _ n) (show Try.prog.funcs[121]? = some Try.f121 by kernel_rfl) (by kernel_rfl) (show Try.f121.body = some (bodyOf Try.f121) by kernel_rfl) rfl rfl (Nat.le_of_ble_eq_true rfl) (f121_d _ n) (by intro x; kernel_rfl) 

def f35c121_L3B {α : Type} (n : Nat) (s1 : Rq × LR × LR) (s8 s9 : Int) (b7 : LR) (f : (Rq × LR × LR) → Int → Int → LR → Option α) (k0 : LR → Option α) : Option α :=
 bif (decide (s9 < s8)) then
  ob (f121 n s9 s1.1 s1.2.1 s1.2.2) fun r_1 =>
  ob (f75 n r_1) fun r_2 =>
  gd (decide ((b7.length + 1) * 56 ≤ 140737488355328)) (
   f s1 s8 (W (s9 + 1)) (b7 ++ [r_2]))
 else
  k0 b7
abbrev f35c121_L3H : Tm := ⟨[(1, .d (.clo 121 (.pair (.ref hR) (.pair (.ref hRs) (.ref hRs))))), (5, .k (.hw 7)), (8, .d hI), (9, .d hI)], [(7, .arr 31 hR false)], [17], []⟩
abbrev f35c121_L3X0 : Tm := ⟨[(5, .k (.hw 7))], [(7, .arr 31 hR false)], [], []⟩
abbrev f35c121_L3O : List (Exit × Tm) := [(.exit 0, f35c121_L3X0)]
def f35c121_L3U {α : Type} (n : Nat) (v : f35c121_L3H.den) (f : f35c121_L3H.den → Option α) (ks : KS α f35c121_L3O) : Option α := f35c121_L3B n v.1.1 v.1.2.2.1 v.1.2.2.2.1 v.2.1 (fun s1 s8 s9 b7 => f ((s1, (), s8, s9, ()), (b7, ()))) (fun w0 => ks.1 (((), ()), (w0, ())))
def f35c121_L3 {α : Type} (n m : Nat) (s1 : Rq × LR × LR) (s8 s9 : Int) (b7 : LR) (k0 : LR → Option α) : Option α := rounds (f35c121_L3U n) m ((s1, (), s8, s9, ()), (b7, ())) (fun w => k0 w.2.1, ())
theorem f35c121_L3_0 {α n s1 s8 s9 b7 k0} : f35c121_L3 (α := α) n 0 s1 s8 s9 b7 k0 = none := rfl
theorem f35c121_L3_s {α n m s1 s8 s9 b7 k0} : f35c121_L3 (α := α) n (m + 1) s1 s8 s9 b7 k0 = f35c121_L3B n s1 s8 s9 b7 (fun s1 s8 s9 b7 => f35c121_L3 n m s1 s8 s9 b7 k0) k0 := rfl
def f35c121 (n : Nat) (a0 : Int) (a1 : Rq × LR × LR) : Option LR :=
 f35c121_L3 n n a1 a0 0 []
  (fun z_3 => (
   some z_3))
def f35c121_E (n : Nat) : Ent := ⟨35, [hI, (.clo 121 (.pair (.ref hR) (.pair (.ref hRs) (.ref hRs))))], [hRs], fun x => f35c121 n x.1 x.2⟩
def f35c121_D (α : Type) (n : Nat) : D3 α := { reg := [(1, ⟨0, [], [(0, { sh := some hR })]⟩), (5, ⟨0, [], [(3, { ent := some (f121_E n) }), (4, { ent := some (f75_E n) }), (5, { sh := some hR })]⟩)], join := [], loop := [(3, ⟨f35c121_L3H, f35c121_L3O, rounds (f35c121_L3U n) n⟩)] }
theorem f35c121_ents (α : Type) (n : Nat) : AllS Try.prog (entsOf (f35c121_D α n).reg) := ⟨f121_ok n, f75_ok n, trivial⟩
theorem f35c121_L3_d (α : Type) (n : Nat) : D3.OK Try.prog (tyOf Try.prog) ⟨21, []⟩ (f35c121_D α n) ((bodyOf Try.f35).at [1, 1, 0, 1, 0, 0]) :=
 D3.OK.mk3 (f35c121_ents α n) (show loopsOf ((bodyOf Try.f35).at [1, 1, 0, 1, 0, 0]) = [] by kernel_rfl) trivial
theorem f35c121_L3_ok (α : Type) (n : Nat) : LO.Sound (α := α) Try.prog ⟨21, []⟩ ⟨f35c121_L3H, f35c121_L3O, rounds (f35c121_L3U n) n⟩ (.loop ((bodyOf Try.f35).at [1, 1, 0, 1, 0, 0])) :=
 loop_ok (tyOf_ok _) prog_fol (f35c121_L3U n) (f35c121_L3_d α n) (by intro v f ks; kernel_rfl) n
theorem f35c121_d (α : Type) (n : Nat) : D3.OK Try.prog (tyOf Try.prog) ⟨21, []⟩ (f35c121_D α n) (bodyOf Try.f35) :=
 D3.OK.mk3 (f35c121_ents α n) (show loopsOf (bodyOf Try.f35) = [(3, (.loop ((bodyOf Try.f35).at [1, 1, 0, 1, 0, 0])))] by kernel_rfl) ⟨look_sound rfl (f35c121_L3_ok α n), trivial⟩
theorem f35c121_ok (n : Nat) : (f35c121_E n).Sound Try.prog :=
 fn_ok (tyOf_ok _) prog_fol (f35c121_D _ n) (show Try.prog.funcs[35]? = some Try.f35 by kernel_rfl) (by kernel_rfl) (show Try.f35.body = some (bodyOf Try.f35) by kernel_rfl) rfl rfl (Nat.le_of_ble_eq_true rfl) (f35c121_d _ n) (by intro x; kernel_rfl) 

def f82 (n : Nat) (a0 : Rq) (a1 a2 : LR) : Option LR :=
 ob (f35c121 n (a1.length : Int) (a0, a1, a2)) fun r_1 =>
 some r_1
def f82_E (n : Nat) : Ent := ⟨82, [hR, hRs, hRs], [hRs], fun x => f82 n x.1 x.2.1 x.2.2⟩
def f82_D (α : Type) (n : Nat) : D3 α := { reg := [(1, ⟨0, [], [(2, { sh := some (.pair (.ref hR) (.pair (.ref hRs) (.ref hRs))) }), (3, { ent := some (f35c121_E n) })]⟩)], join := [], loop := [] }
theorem f82_ents (α : Type) (n : Nat) : AllS Try.prog (entsOf (f82_D α n).reg) := ⟨f35c121_ok n, trivial⟩
theorem f82_d (α : Type) (n : Nat) : D3.OK Try.prog (tyOf Try.prog) ⟨11, []⟩ (f82_D α n) (bodyOf Try.f82) :=
 D3.OK.mk3 (f82_ents α n) (show loopsOf (bodyOf Try.f82) = [] by kernel_rfl) trivial
theorem f82_ok (n : Nat) : (f82_E n).Sound Try.prog :=
 fn_ok (tyOf_ok _) prog_fol (f82_D _ n) (show Try.prog.funcs[82]? = some Try.f82 by kernel_rfl) (by kernel_rfl) (show Try.f82.body = some (bodyOf Try.f82) by kernel_rfl) rfl rfl (Nat.le_of_ble_eq_true rfl) (f82_d _ n) (by intro x; kernel_rfl) 

def f39B_L13B {α : Type} (n : Nat) (s6 s9 s10 : Int) (c2_0 c3_0 : Bool) (c3_1 c3_2 : LI) (c4_0 : Int) (b1000 : List LR) (f : Int → Int → Int → Bool → Bool → LI → LI → Int → (List LR) → Option α) (k0 : Int → Int → Bool → Bool → LI → LI → (List LR) → Option α) : Option α :=
 bif (decide (s6 < (b1000.length : Int))) then
  gd (decide (0 ≤ s6) && decide (s6 < (b1000.length : Int))) (
   gd (decide (s6.toNat < b1000.length)) (
    gd (decide (0 ≤ c4_0) && decide (c4_0 < (((b1000.getD s6.toNat []).length : Nat) : Int))) (
     let x_11 := (b1000.getD s6.toNat []).getD c4_0.toNat (false, [], [])
     gd (decide (0 ≤ c4_0) && decide (c4_0 < (b1000.length : Int))) (
      gd (decide (c4_0.toNat < b1000.length)) (
       gd (decide (0 ≤ c4_0) && decide (c4_0 < (((b1000.getD c4_0.toNat []).length : Nat) : Int))) (
        let x_12 := (b1000.getD c4_0.toNat []).getD c4_0.toNat (false, [], [])
        ob (f83 n x_11 x_12) fun r_13 =>
        ob (f81 n r_13) fun r_14 =>
        gd (decide (0 ≤ c4_0) && decide (c4_0 < (b1000.length : Int))) (
         gd (decide (c4_0.toNat < b1000.length)) (
          gd (decide (0 ≤ s6) && decide (s6 < (b1000.length : Int))) (
           gd (decide (s6.toNat < b1000.length)) (
            ob (f82 n r_14 (b1000.getD c4_0.toNat []) (b1000.getD s6.toNat [])) fun r_15 =>
            gd (decide (0 ≤ s6) && decide (s6 < (b1000.length : Int))) (
             gd (decide (s6.toNat < b1000.length)) (
              f (W (s6 + 1)) s9 s10 c2_0 c3_0 c3_1 c3_2 c4_0 (b1000.set s6.toNat r_15)))))))))))))
 else
  k0 s9 s10 c2_0 c3_0 c3_1 c3_2 b1000
abbrev f39B_L13H : Tm := ⟨[(0, .k (.hw 1000)), (2, .k (.hp 2 0 0)), (3, .k (.hp 3 0 0)), (4, .k (.hp 4 0 0)), (6, .d hI), (9, .d hI), (10, .d hI)], [(2, .var 31 true false [.d .bool, .d .nil, .d .nil]), (3, .var 31 true false [.d .bool, .d hIs, .d hIs]), (4, .var 3 true true [.d hI]), (1000, .arr 24 hRs false)], [], []⟩
abbrev f39B_L13X0 : Tm := ⟨[(0, .k (.hw 1000)), (2, .k (.hp 2 0 0)), (3, .k (.hp 3 0 0)), (9, .d hI), (10, .d hI)], [(2, .var 31 true false [.d .bool, .d .nil, .d .nil]), (3, .var 31 true false [.d .bool, .d hIs, .d hIs]), (1000, .arr 24 hRs false)], [4], []⟩
abbrev f39B_L13O : List (Exit × Tm) := [(.exit 2, f39B_L13X0)]
def f39B_L13U {α : Type} (n : Nat) (v : f39B_L13H.den) (f : f39B_L13H.den → Option α) (ks : KS α f39B_L13O) : Option α := f39B_L13B n v.1.2.2.2.2.1 v.1.2.2.2.2.2.1 v.1.2.2.2.2.2.2.1 v.2.1.1 v.2.2.1.1 v.2.2.1.2.1 v.2.2.1.2.2.1 v.2.2.2.1.1 v.2.2.2.2.1 (fun s6 s9 s10 c2_0 c3_0 c3_1 c3_2 c4_0 b1000 => f (((), (), (), (), s6, s9, s10, ()), ((c2_0, (), (), ()), (c3_0, c3_1, c3_2, ()), (c4_0, ()), b1000, ()))) (fun w0 w1 w2 w3 w4 w5 w6 => ks.1 (((), (), (), w0, w1, ()), ((w2, (), (), ()), (w3, w4, w5, ()), w6, ())))
def f39B_L13 {α : Type} (n m : Nat) (s6 s9 s10 : Int) (c2_0 c3_0 : Bool) (c3_1 c3_2 : LI) (c4_0 : Int) (b1000 : List LR) (k0 : Int → Int → Bool → Bool → LI → LI → (List LR) → Option α) : Option α := rounds (f39B_L13U n) m (((), (), (), (), s6, s9, s10, ()), ((c2_0, (), (), ()), (c3_0, c3_1, c3_2, ()), (c4_0, ()), b1000, ())) (fun w => k0 w.1.2.2.2.1 w.1.2.2.2.2.1 w.2.1.1 w.2.2.1.1 w.2.2.1.2.1 w.2.2.1.2.2.1 w.2.2.2.1, ())
theorem f39B_L13_0 {α n s6 s9 s10 c2_0 c3_0 c3_1 c3_2 c4_0 b1000 k0} : f39B_L13 (α := α) n 0 s6 s9 s10 c2_0 c3_0 c3_1 c3_2 c4_0 b1000 k0 = none := rfl
theorem f39B_L13_s {α n m s6 s9 s10 c2_0 c3_0 c3_1 c3_2 c4_0 b1000 k0} : f39B_L13 (α := α) n (m + 1) s6 s9 s10 c2_0 c3_0 c3_1 c3_2 c4_0 b1000 k0 = f39B_L13B n s6 s9 s10 c2_0 c3_0 c3_1 c3_2 c4_0 b1000 (fun s6 s9 s10 c2_0 c3_0 c3_1 c3_2 c4_0 b1000 => f39B_L13 n m s6 s9 s10 c2_0 c3_0 c3_1 c3_2 c4_0 b1000 k0) k0 := rfl
def f39B_L3B {α : Type} (n : Nat) (s9 s10 : Int) (c2_0 c3_0 : Bool) (c3_1 c3_2 : LI) (b1000 : List LR) (f : Int → Int → Bool → Bool → LI → LI → (List LR) → Option α) (k0 : Bool → LI → LI → (List LR) → Option α) (k1 : Bool → Bool → LI → LI → (List LR) → Option α) : Option α :=
 bif (decide (s10 < s9)) then
  gd (decide (0 ≤ s10) && decide (s10 ≤ (b1000.length : Int)) && decide ((b1000.length : Int) ≤ (b1000.length : Int))) (
   gd ((decide (s10.toNat + ((b1000.length : Int).toNat - s10.toNat) ≤ b1000.length)) && true) (
    ob (f78c79 n ((b1000.drop s10.toNat).take ((b1000.length : Int).toNat - s10.toNat)) s10) fun r_2 =>
    bif (decide (r_2 < 0)) then
     ob (f76 n 0) fun r_3 =>
     k0 r_3.1 r_3.2.1 r_3.2.2 b1000
    else
     let J_18 := fun (y_5 : Bool) (y_6 : LI) (y_7 : LI) (y_8 : List LR) => (
      gd (decide (0 ≤ s10) && decide (s10 < (y_8.length : Int))) (
       gd (decide (s10.toNat < y_8.length)) (
        gd (decide (0 ≤ s10) && decide (s10 < (((y_8.getD s10.toNat []).length : Nat) : Int))) (
         let x_9 := (y_8.getD s10.toNat []).getD s10.toNat (false, [], [])
         ob (f46 n (y_5, y_6, y_7) x_9) fun r_10 =>
         f39B_L13 n n (W (s10 + 1)) s9 s10 c2_0 r_10.1 r_10.2.1 r_10.2.2 s10 y_8
          (fun z_11 z_12 z_13 z_14 z_15 z_16 z_17 => (
           f z_11 (W (z_12 + 1)) z_13 z_14 z_15 z_16 z_17))))))
     bif (decide (r_2 > 0)) then
      gd (decide (0 ≤ (W (s10 + r_2))) && decide ((W (s10 + r_2)) < (b1000.length : Int))) (
       gd (decide ((W (s10 + r_2)).toNat < b1000.length)) (
        gd (decide (0 ≤ s10) && decide (s10 < (b1000.length : Int))) (
         gd (decide (s10.toNat < b1000.length)) (
          gd (decide (0 ≤ s10) && decide (s10 < (b1000.length : Int))) (
           gd (decide (s10.toNat < b1000.length)) (
            gd (decide (0 ≤ (W (s10 + r_2))) && decide ((W (s10 + r_2)) < (((b1000.set s10.toNat (b1000.getD ((W (s10 + r_2)).toNat) [])).length : Nat) : Int))) (
             gd (decide ((W (s10 + r_2)).toNat < (b1000.set s10.toNat (b1000.getD ((W (s10 + r_2)).toNat) [])).length)) (
              ob (f81 n (c3_0, c3_1, c3_2)) fun r_4 =>
              J_18 r_4.1 r_4.2.1 r_4.2.2 ((b1000.set s10.toNat (b1000.getD ((W (s10 + r_2)).toNat) [])).set ((W (s10 + r_2)).toNat) (b1000.getD s10.toNat []))))))))))
     else
      J_18 c3_0 c3_1 c3_2 b1000))
 else
  k1 c2_0 c3_0 c3_1 c3_2 b1000
abbrev f39B_L3H : Tm := ⟨[(0, .k (.hw 1000)), (2, .k (.hp 2 0 0)), (3, .k (.hp 3 0 0)), (9, .d hI), (10, .d hI)], [(2, .var 31 true false [.d .bool, .d .nil, .d .nil]), (3, .var 31 true false [.d .bool, .d hIs, .d hIs]), (1000, .arr 24 hRs false)], [], []⟩
abbrev f39B_L3X0 : Tm := ⟨[(2, .k (.hp 2 0 0))], [(2, .var 31 true false [.d .bool, .d hIs, .d hIs]), (1000, .arr 24 hRs false)], [3, 4], []⟩
abbrev f39B_L3X1 : Tm := ⟨[(2, .k (.hp 2 0 0)), (3, .k (.hp 3 0 0))], [(2, .var 31 true false [.d .bool, .d .nil, .d .nil]), (3, .var 31 true false [.d .bool, .d hIs, .d hIs]), (1000, .arr 24 hRs false)], [], []⟩
abbrev f39B_L3O : List (Exit × Tm) := [(.ret, f39B_L3X0), (.exit 0, f39B_L3X1)]
def f39B_L3U {α : Type} (n : Nat) (v : f39B_L3H.den) (f : f39B_L3H.den → Option α) (ks : KS α f39B_L3O) : Option α := f39B_L3B n v.1.2.2.2.1 v.1.2.2.2.2.1 v.2.1.1 v.2.2.1.1 v.2.2.1.2.1 v.2.2.1.2.2.1 v.2.2.2.1 (fun s9 s10 c2_0 c3_0 c3_1 c3_2 b1000 => f (((), (), (), s9, s10, ()), ((c2_0, (), (), ()), (c3_0, c3_1, c3_2, ()), b1000, ()))) (fun w0 w1 w2 w3 => ks.1 (((), ()), ((w0, w1, w2, ()), w3, ()))) (fun w0 w1 w2 w3 w4 => ks.2.1 (((), (), ()), ((w0, (), (), ()), (w1, w2, w3, ()), w4, ())))
def f39B_L3 {α : Type} (n m : Nat) (s9 s10 : Int) (c2_0 c3_0 : Bool) (c3_1 c3_2 : LI) (b1000 : List LR) (k0 : Bool → LI → LI → (List LR) → Option α) (k1 : Bool → Bool → LI → LI → (List LR) → Option α) : Option α := rounds (f39B_L3U n) m (((), (), (), s9, s10, ()), ((c2_0, (), (), ()), (c3_0, c3_1, c3_2, ()), b1000, ())) (fun w => k0 w.2.1.1 w.2.1.2.1 w.2.1.2.2.1 w.2.2.1, fun w => k1 w.2.1.1 w.2.2.1.1 w.2.2.1.2.1 w.2.2.1.2.2.1 w.2.2.2.1, ())
theorem f39B_L3_0 {α n s9 s10 c2_0 c3_0 c3_1 c3_2 b1000 k0 k1} : f39B_L3 (α := α) n 0 s9 s10 c2_0 c3_0 c3_1 c3_2 b1000 k0 k1 = none := rfl
theorem f39B_L3_s {α n m s9 s10 c2_0 c3_0 c3_1 c3_2 b1000 k0 k1} : f39B_L3 (α := α) n (m + 1) s9 s10 c2_0 c3_0 c3_1 c3_2 b1000 k0 k1 = f39B_L3B n s9 s10 c2_0 c3_0 c3_1 c3_2 b1000 (fun s9 s10 c2_0 c3_0 c3_1 c3_2 b1000 => f39B_L3 n m s9 s10 c2_0 c3_0 c3_1 c3_2 b1000 k0 k1) k0 k1 := rfl
abbrev f39B_G9 : Tm := ⟨[(0, .k (.hw 1000)), (2, .k (.hp 2 0 0)), (3, .k (.hp 3 0 0)), (4, .k (.hp 4 0 0)), (5, .d hI), (9, .d hI), (10, .d hI)], [(2, .var 31 true false [.d .bool, .d .nil, .d .nil]), (3, .var 31 true false [.d .bool, .d hIs, .d hIs]), (4, .var 3 true true [.d hI]), (1000, .arr 24 hRs false)], [], []⟩
abbrev f39B_J11 : Tm := ⟨[(0, .k (.hw 1000)), (2, .k (.hp 2 0 0)), (3, .k (.hp 3 0 0)), (4, .k (.hp 4 0 0)), (9, .d hI), (10, .d hI)], [(2, .var 31 true false [.d .bool, .d .nil, .d .nil]), (3, .var 31 true false [.d .bool, .d hIs, .d hIs]), (4, .var 3 true true [.d hI]), (1000, .arr 24 hRs false)], [], []⟩
def f39B (n : Nat) (a0 : List LR) : Option (Rq × (List LR)) :=
 ob (f76 n 1) fun r_1 =>
 f39B_L3 n n (a0.length : Int) 0 false r_1.1 r_1.2.1 r_1.2.2 a0
  (fun z_19 z_20 z_21 z_22 => (
   some ((z_19, z_20, z_21), z_22)))
  (fun z_23 z_24 z_25 z_26 z_27 => (
   some ((z_24, z_25, z_26), z_27)))
def f39B_E (n : Nat) : Ent3 := ⟨39, [.one (.own 24 hRs)], [[.im hR]], fun x => f39B n x⟩
def f39B_D (α : Type) (n : Nat) : D3 α := { reg := [(1, ⟨0, [], [(0, { ent := some (f76_E n) })]⟩), (5, ⟨0, [], [(3, { sh := some (.ref hI) }), (4, { ent := some (f78c79_E n) })]⟩), (7, ⟨0, [], [(0, { ent := some (f76_E n) })]⟩), (10, ⟨0, [], [(1, { ent := some (f81_E n) })]⟩), (11, ⟨8, [], [(8, { ent := some (f46_E n) })]⟩), (15, ⟨27, [], [(16, { ent := some (f83_E n) }), (17, { ent := some (f81_E n) }), (26, { ent := some (f82_E n) })]⟩)], join := [(11, f39B_J11)], loop := [(13, ⟨f39B_L13H, f39B_L13O, rounds (f39B_L13U n) n⟩), (3, ⟨f39B_L3H, f39B_L3O, rounds (f39B_L3U n) n⟩)], any := [(9, f39B_G9)] }
set_option maxHeartbeats 8000000 in
theorem f39B_A9 (n : Nat) : FamAll (tyOf Try.prog) ⟨90, []⟩ [] f39B_G9 (regOps ((bodyOf Try.f39).at [1, 1, 0, 1, 0, 0, 1, 1, 0, 0, 1, 1, 1, 0, 1, 0, 0])) := by
 refine ⟨by kernel_rfl, fun w q hq => ?_⟩
 have e : WT [] (swapIdx (regOps ((bodyOf Try.f39).at [1, 1, 0, 1, 0, 0, 1, 1, 0, 0, 1, 1, 1, 0, 1, 0, 0])).toList) q = (q = []) := by kernel_rfl
 rw [e] at hq
 obtain rfl := hq
 all_goals exact .inr ⟨18, by kernel_rfl, by kernel_rfl, by kernel_rfl⟩
theorem f39B_ents (α : Type) (n : Nat) : AllS Try.prog (entsOf (f39B_D α n).reg) := ⟨f76_ok n, f78c79_ok n, f76_ok n, f81_ok n, f46_ok n, f83_ok n, f81_ok n, f82_ok n, trivial⟩
theorem f39B_L13_d (α : Type) (n : Nat) : D3.OK Try.prog (tyOf Try.prog) ⟨90, []⟩ (f39B_D α n) ((bodyOf Try.f39).at [1, 1, 0, 1, 0, 0, 1, 1, 0, 0, 1, 1, 1, 1, 1, 1, 0, 0]) :=
 D3.OK.mk3a (f39B_ents α n) (show loopsOf ((bodyOf Try.f39).at [1, 1, 0, 1, 0, 0, 1, 1, 0, 0, 1, 1, 1, 1, 1, 1, 0, 0]) = [] by kernel_rfl) trivial (show anysOf ((bodyOf Try.f39).at [1, 1, 0, 1, 0, 0, 1, 1, 0, 0, 1, 1, 1, 1, 1, 1, 0, 0]) = [(15, regOps ((bodyOf Try.f39).at [1, 1, 0, 1, 0, 0, 1, 1, 0, 0, 1, 1, 1, 1, 1, 1, 0, 0, 1, 0, 0]))] by kernel_rfl) ⟨fun X h => (by cases h), trivial⟩
theorem f39B_L13_ok (α : Type) (n : Nat) : LO.Sound (α := α) Try.prog ⟨90, []⟩ ⟨f39B_L13H, f39B_L13O, rounds (f39B_L13U n) n⟩ (.loop ((bodyOf Try.f39).at [1, 1, 0, 1, 0, 0, 1, 1, 0, 0, 1, 1, 1, 1, 1, 1, 0, 0])) :=
 loop_ok (tyOf_ok _) prog_fol (f39B_L13U n) (f39B_L13_d α n) (by intro v f ks; kernel_rfl) n
theorem f39B_L3_d (α : Type) (n : Nat) : D3.OK Try.prog (tyOf Try.prog) ⟨90, []⟩ (f39B_D α n) ((bodyOf Try.f39).at [1, 1, 0, 1, 0, 0]) :=
 D3.OK.mk3a (f39B_ents α n) (show loopsOf ((bodyOf Try.f39).at [1, 1, 0, 1, 0, 0]) = [(13, (.loop ((bodyOf Try.f39).at [1, 1, 0, 1, 0, 0, 1, 1, 0, 0, 1, 1, 1, 1, 1, 1, 0, 0])))] by kernel_rfl) ⟨look_sound rfl (f39B_L13_ok α n), trivial⟩ (show anysOf ((bodyOf Try.f39).at [1, 1, 0, 1, 0, 0]) = [(9, regOps ((bodyOf Try.f39).at [1, 1, 0, 1, 0, 0, 1, 1, 0, 0, 1, 1, 1, 0, 1, 0, 0])), (11, regOps ((bodyOf Try.f39).at [1, 1, 0, 1, 0, 0, 1, 1, 0, 0, 1, 1, 1, 1, 0]))] by kernel_rfl) ⟨fun X h => (by cases h; exact f39B_A9 n), fun X h => (by cases h), trivial⟩
theorem f39B_L3_ok (α : Type) (n : Nat) : LO.Sound (α := α) Try.prog ⟨90, []⟩ ⟨f39B_L3H, f39B_L3O, rounds (f39B_L3U n) n⟩ (.loop ((bodyOf Try.f39).at [1, 1, 0, 1, 0, 0])) :=
 loop_ok (tyOf_ok _) prog_fol (f39B_L3U n) (f39B_L3_d α n) (by intro v f ks; kernel_rfl) n
theorem f39B_d (α : Type) (n : Nat) : D3.OK Try.prog (tyOf Try.prog) ⟨90, []⟩ (f39B_D α n) (bodyOf Try.f39) :=
 D3.OK.mk3a (f39B_ents α n) (show loopsOf (bodyOf Try.f39) = [(3, (.loop ((bodyOf Try.f39).at [1, 1, 0, 1, 0, 0])))] by kernel_rfl) ⟨look_sound rfl (f39B_L3_ok α n), trivial⟩ (show anysOf (bodyOf Try.f39) = [] by kernel_rfl) trivial
theorem f39B_ok (n : Nat) : (f39B_E n).Sound Try.prog :=
 fn_okB (tyOf_ok _) prog_fol (f39B_D _ n) (show Try.prog.funcs[39]? = some Try.f39 by kernel_rfl) (by kernel_rfl) (show Try.f39.body = some (bodyOf Try.f39) by kernel_rfl) rfl rfl (Nat.le_of_ble_eq_true rfl) (f39B_d _ n) (by intro x; kernel_rfl) 

def f38 (n : Nat) (a0 : Rq) : Option (Rq × Int) :=
 ob (f74 n a0) fun r_1 =>
 bif (!r_1) then
  some ((false, [], []), 7)
 else
  some (a0, 0)
def f38_E (n : Nat) : Ent := ⟨38, [hR], [hR, hI], fun x => f38 n x⟩
def f38_D (α : Type) (n : Nat) : D3 α := { reg := [(1, ⟨0, [], [(1, { ent := some (f74_E n) })]⟩)], join := [], loop := [] }
theorem f38_ents (α : Type) (n : Nat) : AllS Try.prog (entsOf (f38_D α n).reg) := ⟨f74_ok n, trivial⟩
theorem f38_d (α : Type) (n : Nat) : D3.OK Try.prog (tyOf Try.prog) ⟨9, []⟩ (f38_D α n) (bodyOf Try.f38) :=
 D3.OK.mk3 (f38_ents α n) (show loopsOf (bodyOf Try.f38) = [] by kernel_rfl) trivial
theorem f38_ok (n : Nat) : (f38_E n).Sound Try.prog :=
 fn_ok (tyOf_ok _) prog_fol (f38_D _ n) (show Try.prog.funcs[38]? = some Try.f38 by kernel_rfl) (by kernel_rfl) (show Try.f38.body = some (bodyOf Try.f38) by kernel_rfl) rfl rfl (Nat.le_of_ble_eq_true rfl) (f38_d _ n) (by intro x; kernel_rfl) 

def f11 (n : Nat) (a0 : LR) (a1 : Int) : Option (Rq × Int) :=
 ob (f32 n a1 [a0]) fun r_1 =>
 bif (r_1 != 0) then
  some ((false, [], []), r_1)
 else
  ob (f40B n a0 a1 ()) fun r_2 =>
  ob (f39B n r_2) fun r_3 =>
  gd (Nat.beq r_3.2.length r_2.length && true) (
   ob (f38 n r_3.1) fun r_4 =>
   some (r_4.1, r_4.2))
def f11_E (n : Nat) : Ent := ⟨11, [hRs, hI], [hR, hI], fun x => f11 n x.1 x.2⟩
def f11_D (α : Type) (n : Nat) : D3 α := { reg := [(1, ⟨0, [], [(2, { sh := some hRs }), (3, { ent := some (f32_E n) })]⟩), (4, ⟨0, [], [(2, { entB := some (f40B_E n), hb := 310 }), (3, { entB := some (f39B_E n), hb := 320 }), (4, { ent := some (f38_E n) })]⟩)], join := [], loop := [] }
theorem f11_ents (α : Type) (n : Nat) : AllS Try.prog (entsOf (f11_D α n).reg) := ⟨f32_ok n, f40B_ok n, f39B_ok n, f38_ok n, trivial⟩
theorem f11_d (α : Type) (n : Nat) : D3.OK Try.prog (tyOf Try.prog) ⟨22, []⟩ (f11_D α n) (bodyOf Try.f11) :=
 D3.OK.mk3 (f11_ents α n) (show loopsOf (bodyOf Try.f11) = [] by kernel_rfl) trivial
theorem f11_ok (n : Nat) : (f11_E n).Sound Try.prog :=
 fn_ok (tyOf_ok _) prog_fol (f11_D _ n) (show Try.prog.funcs[11]? = some Try.f11 by kernel_rfl) (by kernel_rfl) (show Try.f11.body = some (bodyOf Try.f11) by kernel_rfl) rfl rfl (Nat.le_of_ble_eq_true rfl) (f11_d _ n) (by intro x; kernel_rfl) 

def f85 (n : Nat) (a0 a1 a2 : Int) : Option Bool :=
 bif (decide (a1 ≤ a0)) then
  some (decide (a0 ≤ a2))
 else
  some false
def f85_E (n : Nat) : Ent := ⟨85, [hI, hI, hI], [.bool], fun x => f85 n x.1 x.2.1 x.2.2⟩
def f85_D (α : Type) (n : Nat) : D3 α := { reg := [], join := [], loop := [] }
theorem f85_ents (α : Type) (n : Nat) : AllS Try.prog (entsOf (f85_D α n).reg) := trivial
theorem f85_d (α : Type) (n : Nat) : D3.OK Try.prog (tyOf Try.prog) ⟨15, []⟩ (f85_D α n) (bodyOf Try.f85) :=
 D3.OK.mk3 (f85_ents α n) (show loopsOf (bodyOf Try.f85) = [] by kernel_rfl) trivial
theorem f85_ok (n : Nat) : (f85_E n).Sound Try.prog :=
 fn_ok (tyOf_ok _) prog_fol (f85_D _ n) (show Try.prog.funcs[85]? = some Try.f85 by kernel_rfl) (by kernel_rfl) (show Try.f85.body = some (bodyOf Try.f85) by kernel_rfl) rfl rfl (Nat.le_of_ble_eq_true rfl) (f85_d _ n) (by intro x; kernel_rfl) 

def f122_L4B {α : Type} (n : Nat) (s0 : LI) (s3 : Int) (f : LI → Int → Option α) (k0 : Bool → Option α) (k1 : LI → Option α) : Option α :=
 bif (decide (s3 < (s0.length : Int))) then
  gd (decide (0 ≤ s3) && decide (s3 < (s0.length : Int))) (
   ob (f85 n (s0.getD s3.toNat 0) 0 9999) fun r_1 =>
   bif (!r_1) then
    k0 false
   else
    f s0 (W (s3 + 1)))
 else
  k1 s0
abbrev f122_L4H : Tm := ⟨[(0, .d hIs), (3, .d hI)], [], [], []⟩
abbrev f122_L4X0 : Tm := ⟨[(2, .d .bool)], [], [], []⟩
abbrev f122_L4X1 : Tm := ⟨[(0, .d hIs)], [], [], []⟩
abbrev f122_L4O : List (Exit × Tm) := [(.ret, f122_L4X0), (.exit 0, f122_L4X1)]
def f122_L4U {α : Type} (n : Nat) (v : f122_L4H.den) (f : f122_L4H.den → Option α) (ks : KS α f122_L4O) : Option α := f122_L4B n v.1.1 v.1.2.1 (fun s0 s3 => f ((s0, s3, ()), ())) (fun w0 => ks.1 ((w0, ()), ())) (fun w0 => ks.2.1 ((w0, ()), ()))
def f122_L4 {α : Type} (n m : Nat) (s0 : LI) (s3 : Int) (k0 : Bool → Option α) (k1 : LI → Option α) : Option α := rounds (f122_L4U n) m ((s0, s3, ()), ()) (fun w => k0 w.1.1, fun w => k1 w.1.1, ())
theorem f122_L4_0 {α n s0 s3 k0 k1} : f122_L4 (α := α) n 0 s0 s3 k0 k1 = none := rfl
theorem f122_L4_s {α n m s0 s3 k0 k1} : f122_L4 (α := α) n (m + 1) s0 s3 k0 k1 = f122_L4B n s0 s3 (fun s0 s3 => f122_L4 n m s0 s3 k0 k1) k0 k1 := rfl
def f122 (n : Nat) (a0 : LI) : Option Bool :=
 bif (decide ((a0.length : Int) > 4096)) then
  some false
 else
  f122_L4 n n a0 0
   (fun z_2 => (
    some z_2))
   (fun z_3 => (
    bif (decide ((z_3.length : Int) ≤ 40)) then
     bif ((z_3.length : Int) == 0) then
      some true
     else
      gd (decide (0 ≤ (W ((z_3.length : Int) - 1))) && decide ((W ((z_3.length : Int) - 1)) < (z_3.length : Int))) (
       some (decide ((z_3.getD ((W ((z_3.length : Int) - 1)).toNat) 0) > 0)))
    else
     some false))
def f122_E (n : Nat) : Ent := ⟨122, [hIs], [.bool], fun x => f122 n x⟩
def f122_D (α : Type) (n : Nat) : D3 α := { reg := [(6, ⟨0, [], [(4, { ent := some (f85_E n) })]⟩)], join := [], loop := [(4, ⟨f122_L4H, f122_L4O, rounds (f122_L4U n) n⟩)] }
theorem f122_ents (α : Type) (n : Nat) : AllS Try.prog (entsOf (f122_D α n).reg) := ⟨f85_ok n, trivial⟩
theorem f122_L4_d (α : Type) (n : Nat) : D3.OK Try.prog (tyOf Try.prog) ⟨36, []⟩ (f122_D α n) ((bodyOf Try.f122).at [1, 1, 0, 1, 0, 0]) :=
 D3.OK.mk3 (f122_ents α n) (show loopsOf ((bodyOf Try.f122).at [1, 1, 0, 1, 0, 0]) = [] by kernel_rfl) trivial
theorem f122_L4_ok (α : Type) (n : Nat) : LO.Sound (α := α) Try.prog ⟨36, []⟩ ⟨f122_L4H, f122_L4O, rounds (f122_L4U n) n⟩ (.loop ((bodyOf Try.f122).at [1, 1, 0, 1, 0, 0])) :=
 loop_ok (tyOf_ok _) prog_fol (f122_L4U n) (f122_L4_d α n) (by intro v f ks; kernel_rfl) n
theorem f122_d (α : Type) (n : Nat) : D3.OK Try.prog (tyOf Try.prog) ⟨36, []⟩ (f122_D α n) (bodyOf Try.f122) :=
 D3.OK.mk3 (f122_ents α n) (show loopsOf (bodyOf Try.f122) = [(4, (.loop ((bodyOf Try.f122).at [1, 1, 0, 1, 0, 0])))] by kernel_rfl) ⟨look_sound rfl (f122_L4_ok α n), trivial⟩
theorem f122_ok (n : Nat) : (f122_E n).Sound Try.prog :=
 fn_ok (tyOf_ok _) prog_fol (f122_D _ n) (show Try.prog.funcs[122]? = some Try.f122 by kernel_rfl) (by kernel_rfl) (show Try.f122.body = some (bodyOf Try.f122) by kernel_rfl) rfl rfl (Nat.le_of_ble_eq_true rfl) (f122_d _ n) (by intro x; kernel_rfl) 

def f149_L2B {α : Type} (n : Nat) (s0 : LI) (s3 : Int) (f : LI → Int → Option α) (k0 : LI → Int → Option α) : Option α :=
 bif (decide (s3 > 0)) then
  gd (decide (0 ≤ (W (s3 - 1))) && decide ((W (s3 - 1)) < (s0.length : Int))) (
   bif ((s0.getD ((W (s3 - 1)).toNat) 0) == 0) then
    f s0 (W (s3 - 1))
   else
    k0 s0 s3)
 else
  k0 s0 s3
abbrev f149_L2H : Tm := ⟨[(0, .d hIs), (3, .d hI)], [], [], []⟩
abbrev f149_L2X0 : Tm := ⟨[(0, .d hIs), (3, .d hI)], [], [], []⟩
abbrev f149_L2O : List (Exit × Tm) := [(.exit 0, f149_L2X0)]
def f149_L2U {α : Type} (n : Nat) (v : f149_L2H.den) (f : f149_L2H.den → Option α) (ks : KS α f149_L2O) : Option α := f149_L2B n v.1.1 v.1.2.1 (fun s0 s3 => f ((s0, s3, ()), ())) (fun w0 w1 => ks.1 ((w0, w1, ()), ()))
def f149_L2 {α : Type} (n m : Nat) (s0 : LI) (s3 : Int) (k0 : LI → Int → Option α) : Option α := rounds (f149_L2U n) m ((s0, s3, ()), ()) (fun w => k0 w.1.1 w.1.2.1, ())
theorem f149_L2_0 {α n s0 s3 k0} : f149_L2 (α := α) n 0 s0 s3 k0 = none := rfl
theorem f149_L2_s {α n m s0 s3 k0} : f149_L2 (α := α) n (m + 1) s0 s3 k0 = f149_L2B n s0 s3 (fun s0 s3 => f149_L2 n m s0 s3 k0) k0 := rfl
def f149 (n : Nat) (a0 : LI) : Option LI :=
 f149_L2 n n a0 (a0.length : Int)
  (fun z_1 z_2 => (
   gd (decide (0 ≤ z_2) && decide (z_2 ≤ (z_1.length : Int))) (
    gd (decide ((0 + ((z_1.drop 0).take (z_2.toNat - 0)).length) * 8 ≤ 140737488355328)) (
     some ((z_1.drop 0).take (z_2.toNat - 0))))))
def f149_E (n : Nat) : Ent := ⟨149, [hIs], [hIs], fun x => f149 n x⟩
def f149_D (α : Type) (n : Nat) : D3 α := { reg := [(4, ⟨0, [], [(0, { sh := some hI })]⟩)], join := [], loop := [(2, ⟨f149_L2H, f149_L2O, rounds (f149_L2U n) n⟩)] }
theorem f149_ents (α : Type) (n : Nat) : AllS Try.prog (entsOf (f149_D α n).reg) := trivial
theorem f149_L2_d (α : Type) (n : Nat) : D3.OK Try.prog (tyOf Try.prog) ⟨23, []⟩ (f149_D α n) ((bodyOf Try.f149).at [1, 1, 0, 0, 0]) :=
 D3.OK.mk3 (f149_ents α n) (show loopsOf ((bodyOf Try.f149).at [1, 1, 0, 0, 0]) = [] by kernel_rfl) trivial
theorem f149_L2_ok (α : Type) (n : Nat) : LO.Sound (α := α) Try.prog ⟨23, []⟩ ⟨f149_L2H, f149_L2O, rounds (f149_L2U n) n⟩ (.loop ((bodyOf Try.f149).at [1, 1, 0, 0, 0])) :=
 loop_ok (tyOf_ok _) prog_fol (f149_L2U n) (f149_L2_d α n) (by intro v f ks; kernel_rfl) n
theorem f149_d (α : Type) (n : Nat) : D3.OK Try.prog (tyOf Try.prog) ⟨23, []⟩ (f149_D α n) (bodyOf Try.f149) :=
 D3.OK.mk3 (f149_ents α n) (show loopsOf (bodyOf Try.f149) = [(2, (.loop ((bodyOf Try.f149).at [1, 1, 0, 0, 0])))] by kernel_rfl) ⟨look_sound rfl (f149_L2_ok α n), trivial⟩
theorem f149_ok (n : Nat) : (f149_E n).Sound Try.prog :=
 fn_ok (tyOf_ok _) prog_fol (f149_D _ n) (show Try.prog.funcs[149]? = some Try.f149 by kernel_rfl) (by kernel_rfl) (show Try.f149.body = some (bodyOf Try.f149) by kernel_rfl) rfl rfl (Nat.le_of_ble_eq_true rfl) (f149_d _ n) (by intro x; kernel_rfl) 

end Go.Ev
