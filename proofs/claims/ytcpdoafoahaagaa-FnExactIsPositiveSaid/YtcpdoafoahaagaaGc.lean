/- DERIVED. What the functions compute, and that they do. -/
import Derived.Test.YtcpdoafoahaagaaGb

set_option linter.all false
set_option linter.unusedVariables false
set_option linter.unusedSimpArgs false

namespace Go.Ev
open Go Go.Proofs Go.RowKit Go.Shelf
def f32 (n : Nat) (a0 : Int) (a1 : List LR) : Option Int :=
 ob (f67 n a1) fun r_1 =>
 ob (f69c70 n a1 a0) fun r_2 =>
 ob (f68 n (!r_2) 1) fun r_3 =>
 ob (f66 n [r_1, r_3]) fun r_4 =>
 some r_4
def f32_E (n : Nat) : Ent := ⟨32, [hI, (.sl hRs)], [hI], fun x => f32 n x.1 x.2⟩
def f32_D (α : Type) (n : Nat) : D3 α := { reg := [(1, ⟨0, [], [(1, { ent := some (f67_E n) }), (3, { sh := some (.ref hI) }), (4, { ent := some (f69c70_E n) }), (6, { ent := some (f68_E n) }), (7, { sh := some hI }), (8, { ent := some (f66_E n) })]⟩)], join := [], loop := [] }
theorem f32_ents (α : Type) (n : Nat) : AllS Try.prog (entsOf (f32_D α n).reg) := ⟨f67_ok n, f69c70_ok n, f68_ok n, f66_ok n, trivial⟩
theorem f32_d (α : Type) (n : Nat) : D3.OK Try.prog (tyOf Try.prog) ⟨14, []⟩ (f32_D α n) (bodyOf Try.f32) :=
 D3.OK.mk3 (f32_ents α n) (show loopsOf (bodyOf Try.f32) = [] by kernel_rfl) trivial
theorem f32_ok (n : Nat) : (f32_E n).Sound Try.prog :=
 fn_ok (tyOf_ok _) prog_fol (f32_D _ n) (show Try.prog.funcs[32]? = some Try.f32 by kernel_rfl) (by kernel_rfl) (show Try.f32.body = some (bodyOf Try.f32) by kernel_rfl) rfl rfl (Nat.le_of_ble_eq_true rfl) (f32_d _ n) (by intro x; kernel_rfl) 

def f71 (n : Nat) (a0 : Int) (a1 : LR) (a2 : Int) : Option Rq :=
 gd (decide (a2 ≠ 0)) (
  gd (decide (a2 ≠ 0)) (
   gd (decide (0 ≤ (W ((W ((Int.tmod a0 a2) * a2)) + (W (Int.tdiv a0 a2))))) && decide ((W ((W ((Int.tmod a0 a2) * a2)) + (W (Int.tdiv a0 a2)))) < (a1.length : Int))) (
    let x_1 := a1.getD ((W ((W ((Int.tmod a0 a2) * a2)) + (W (Int.tdiv a0 a2)))).toNat) (false, [], [])
    some x_1)))
def f71_E (n : Nat) : Ent := ⟨71, [hI, (.ref hRs), (.ref hI)], [hR], fun x => f71 n x.1 x.2.1 x.2.2⟩
def f71_D (α : Type) (n : Nat) : D3 α := { reg := [(1, ⟨10, [], []⟩)], join := [], loop := [] }
theorem f71_ents (α : Type) (n : Nat) : AllS Try.prog (entsOf (f71_D α n).reg) := trivial
theorem f71_d (α : Type) (n : Nat) : D3.OK Try.prog (tyOf Try.prog) ⟨17, []⟩ (f71_D α n) (bodyOf Try.f71) :=
 D3.OK.mk3 (f71_ents α n) (show loopsOf (bodyOf Try.f71) = [] by kernel_rfl) trivial
theorem f71_ok (n : Nat) : (f71_E n).Sound Try.prog :=
 fn_ok (tyOf_ok _) prog_fol (f71_D _ n) (show Try.prog.funcs[71]? = some Try.f71 by kernel_rfl) (by kernel_rfl) (show Try.f71.body = some (bodyOf Try.f71) by kernel_rfl) rfl rfl (Nat.le_of_ble_eq_true rfl) (f71_d _ n) (by intro x; kernel_rfl) 

def f75 (n : Nat) (a0 : Rq) : Option Rq :=
 ob (f115 n a0.2.1) fun r_1 =>
 ob (f115 n a0.2.2) fun r_2 =>
 some (a0.1, r_1, r_2)
def f75_E (n : Nat) : Ent := ⟨75, [hR], [hR], fun x => f75 n x⟩
def f75_D (α : Type) (n : Nat) : D3 α := { reg := [(1, ⟨8, [], [(4, { ent := some (f115_E n) }), (7, { ent := some (f115_E n) })]⟩)], join := [], loop := [] }
theorem f75_ents (α : Type) (n : Nat) : AllS Try.prog (entsOf (f75_D α n).reg) := ⟨f115_ok n, f115_ok n, trivial⟩
theorem f75_d (α : Type) (n : Nat) : D3.OK Try.prog (tyOf Try.prog) ⟨12, []⟩ (f75_D α n) (bodyOf Try.f75) :=
 D3.OK.mk3 (f75_ents α n) (show loopsOf (bodyOf Try.f75) = [] by kernel_rfl) trivial
theorem f75_ok (n : Nat) : (f75_E n).Sound Try.prog :=
 fn_ok (tyOf_ok _) prog_fol (f75_D _ n) (show Try.prog.funcs[75]? = some Try.f75 by kernel_rfl) (by kernel_rfl) (show Try.f75.body = some (bodyOf Try.f75) by kernel_rfl) rfl rfl (Nat.le_of_ble_eq_true rfl) (f75_d _ n) (by intro x; kernel_rfl) 

def f35c71_L3B {α : Type} (n : Nat) (s1 : LR × Int) (s8 s9 : Int) (b7 : LR) (f : (LR × Int) → Int → Int → LR → Option α) (k0 : LR → Option α) : Option α :=
 bif (decide (s9 < s8)) then
  ob (f71 n s9 s1.1 s1.2) fun r_1 =>
  ob (f75 n r_1) fun r_2 =>
  gd (decide ((b7.length + 1) * 56 ≤ 140737488355328)) (
   f s1 s8 (W (s9 + 1)) (b7 ++ [r_2]))
 else
  k0 b7
abbrev f35c71_L3H : Tm := ⟨[(1, .d (.clo 71 (.pair (.ref hRs) (.ref hI)))), (5, .k (.hw 7)), (8, .d hI), (9, .d hI)], [(7, .arr 31 hR false)], [17], []⟩
abbrev f35c71_L3X0 : Tm := ⟨[(5, .k (.hw 7))], [(7, .arr 31 hR false)], [], []⟩
abbrev f35c71_L3O : List (Exit × Tm) := [(.exit 0, f35c71_L3X0)]
def f35c71_L3U {α : Type} (n : Nat) (v : f35c71_L3H.den) (f : f35c71_L3H.den → Option α) (ks : KS α f35c71_L3O) : Option α := f35c71_L3B n v.1.1 v.1.2.2.1 v.1.2.2.2.1 v.2.1 (fun s1 s8 s9 b7 => f ((s1, (), s8, s9, ()), (b7, ()))) (fun w0 => ks.1 (((), ()), (w0, ())))
def f35c71_L3 {α : Type} (n m : Nat) (s1 : LR × Int) (s8 s9 : Int) (b7 : LR) (k0 : LR → Option α) : Option α := rounds (f35c71_L3U n) m ((s1, (), s8, s9, ()), (b7, ())) (fun w => k0 w.2.1, ())
theorem f35c71_L3_0 {α n s1 s8 s9 b7 k0} : f35c71_L3 (α := α) n 0 s1 s8 s9 b7 k0 = none := rfl
theorem f35c71_L3_s {α n m s1 s8 s9 b7 k0} : f35c71_L3 (α := α) n (m + 1) s1 s8 s9 b7 k0 = f35c71_L3B n s1 s8 s9 b7 (fun s1 s8 s9 b7 => f35c71_L3 n m s1 s8 s9 b7 k0) k0 := rfl
def f35c71 (n : Nat) (a0 : Int) (a1 : LR × Int) : Option LR :=
 f35c71_L3 n n a1 a0 0 []
  (fun z_3 => (
   some z_3))
def f35c71_E (n : Nat) : Ent := ⟨35, [hI, (.clo 71 (.pair (.ref hRs) (.ref hI)))], [hRs], fun x => f35c71 n x.1 x.2⟩
def f35c71_D (α : Type) (n : Nat) : D3 α := { reg := [(1, ⟨0, [], [(0, { sh := some hR })]⟩), (5, ⟨0, [], [(3, { ent := some (f71_E n) }), (4, { ent := some (f75_E n) }), (5, { sh := some hR })]⟩)], join := [], loop := [(3, ⟨f35c71_L3H, f35c71_L3O, rounds (f35c71_L3U n) n⟩)] }
theorem f35c71_ents (α : Type) (n : Nat) : AllS Try.prog (entsOf (f35c71_D α n).reg) := ⟨f71_ok n, f75_ok n, trivial⟩
theorem f35c71_L3_d (α : Type) (n : Nat) : D3.OK Try.prog (tyOf Try.prog) ⟨21, []⟩ (f35c71_D α n) ((bodyOf Try.f35).at [1, 1, 0, 1, 0, 0]) :=
 D3.OK.mk3 (f35c71_ents α n) (show loopsOf ((bodyOf Try.f35).at [1, 1, 0, 1, 0, 0]) = [] by kernel_rfl) trivial
theorem f35c71_L3_ok (α : Type) (n : Nat) : LO.Sound (α := α) Try.prog ⟨21, []⟩ ⟨f35c71_L3H, f35c71_L3O, rounds (f35c71_L3U n) n⟩ (.loop ((bodyOf Try.f35).at [1, 1, 0, 1, 0, 0])) :=
 loop_ok (tyOf_ok _) prog_fol (f35c71_L3U n) (f35c71_L3_d α n) (by intro v f ks; kernel_rfl) n
theorem f35c71_d (α : Type) (n : Nat) : D3.OK Try.prog (tyOf Try.prog) ⟨21, []⟩ (f35c71_D α n) (bodyOf Try.f35) :=
 D3.OK.mk3 (f35c71_ents α n) (show loopsOf (bodyOf Try.f35) = [(3, (.loop ((bodyOf Try.f35).at [1, 1, 0, 1, 0, 0])))] by kernel_rfl) ⟨look_sound rfl (f35c71_L3_ok α n), trivial⟩
theorem f35c71_ok (n : Nat) : (f35c71_E n).Sound Try.prog :=
 fn_ok (tyOf_ok _) prog_fol (f35c71_D _ n) (show Try.prog.funcs[35]? = some Try.f35 by kernel_rfl) (by kernel_rfl) (show Try.f35.body = some (bodyOf Try.f35) by kernel_rfl) rfl rfl (Nat.le_of_ble_eq_true rfl) (f35c71_d _ n) (by intro x; kernel_rfl) 

def f33 (n : Nat) (a0 : LR) (a1 : Int) : Option LR :=
 ob (f35c71 n (W (a1 * a1)) (a0, a1)) fun r_1 =>
 some r_1
def f33_E (n : Nat) : Ent := ⟨33, [hRs, hI], [hRs], fun x => f33 n x.1 x.2⟩
def f33_D (α : Type) (n : Nat) : D3 α := { reg := [(1, ⟨0, [], [(3, { sh := some (.pair (.ref hRs) (.ref hI)) }), (4, { ent := some (f35c71_E n) })]⟩)], join := [], loop := [] }
theorem f33_ents (α : Type) (n : Nat) : AllS Try.prog (entsOf (f33_D α n).reg) := ⟨f35c71_ok n, trivial⟩
theorem f33_d (α : Type) (n : Nat) : D3.OK Try.prog (tyOf Try.prog) ⟨10, []⟩ (f33_D α n) (bodyOf Try.f33) :=
 D3.OK.mk3 (f33_ents α n) (show loopsOf (bodyOf Try.f33) = [] by kernel_rfl) trivial
theorem f33_ok (n : Nat) : (f33_E n).Sound Try.prog :=
 fn_ok (tyOf_ok _) prog_fol (f33_D _ n) (show Try.prog.funcs[33]? = some Try.f33 by kernel_rfl) (by kernel_rfl) (show Try.f33.body = some (bodyOf Try.f33) by kernel_rfl) rfl rfl (Nat.le_of_ble_eq_true rfl) (f33_d _ n) (by intro x; kernel_rfl) 

def f103 (n : Nat) (a0 : Rq) : Option Int :=
 ob (f80 n a0) fun r_1 =>
 bif r_1 then
  some 0
 else
  bif a0.1 then
   some (-1)
  else
   some 1
def f103_E (n : Nat) : Ent := ⟨103, [hR], [hI], fun x => f103 n x⟩
def f103_D (α : Type) (n : Nat) : D3 α := { reg := [(1, ⟨0, [], [(1, { ent := some (f80_E n) })]⟩)], join := [], loop := [] }
theorem f103_ents (α : Type) (n : Nat) : AllS Try.prog (entsOf (f103_D α n).reg) := ⟨f80_ok n, trivial⟩
theorem f103_d (α : Type) (n : Nat) : D3.OK Try.prog (tyOf Try.prog) ⟨9, []⟩ (f103_D α n) (bodyOf Try.f103) :=
 D3.OK.mk3 (f103_ents α n) (show loopsOf (bodyOf Try.f103) = [] by kernel_rfl) trivial
theorem f103_ok (n : Nat) : (f103_E n).Sound Try.prog :=
 fn_ok (tyOf_ok _) prog_fol (f103_D _ n) (show Try.prog.funcs[103]? = some Try.f103 by kernel_rfl) (by kernel_rfl) (show Try.f103.body = some (bodyOf Try.f103) by kernel_rfl) rfl rfl (Nat.le_of_ble_eq_true rfl) (f103_d _ n) (by intro x; kernel_rfl) 

def f95_L7B {α : Type} (n : Nat) (s1 : LI) (s6 s7 s8 s9 : Int) (s16 : LI) (s17 s18 : Int) (b15 : LI) (f : LI → Int → Int → Int → Int → LI → Int → Int → LI → Option α) (k0 : LI → LI → Int → Int → LI → Option α) : Option α :=
 let J_3 := fun (_ : Unit) => (
  let J_2 := fun (y_1 : Int) => (
   gd (decide (0 ≤ (W (s6 + s9))) && decide ((W (s6 + s9)) < (b15.length : Int))) (
    gd (decide ((W (s6 + s9)).toNat < b15.length)) (
     gd (decide (0 ≤ (W (s6 + s9))) && decide ((W (s6 + s9)) < (b15.length : Int))) (
      gd (decide ((W (s6 + s9)).toNat < b15.length)) (
       f s1 s6 s7 (W (Int.tdiv (W (y_1 + (b15.getD ((W (s6 + s9)).toNat) 0))) 10000)) (W (s9 + 1)) s16 s17 s18 (b15.set ((W (s6 + s9)).toNat) (Int.tmod (W (y_1 + (b15.getD ((W (s6 + s9)).toNat) 0))) 10000)))))))
  bif (decide (s9 < (s1.length : Int))) then
   gd (decide (0 ≤ s9) && decide (s9 < (s1.length : Int))) (
    J_2 (W (s8 + (W (s7 * (s1.getD s9.toNat 0))))))
  else
   J_2 s8)
 bif (decide (s9 < (s1.length : Int))) then
  J_3 ()
 else
  bif (decide (s8 > 0)) then
   J_3 ()
  else
   k0 s1 s16 s17 s18 b15
abbrev f95_L7H : Tm := ⟨[(1, .d hIs), (5, .k (.hw 15)), (6, .d hI), (7, .d hI), (8, .d hI), (9, .d hI), (16, .d hIs), (17, .d hI), (18, .d hI)], [(15, .arr 3 hI false)], [], []⟩
abbrev f95_L7X0 : Tm := ⟨[(1, .d hIs), (5, .k (.hw 15)), (16, .d hIs), (17, .d hI), (18, .d hI)], [(15, .arr 3 hI false)], [], []⟩
abbrev f95_L7O : List (Exit × Tm) := [(.exit 2, f95_L7X0)]
def f95_L7U {α : Type} (n : Nat) (v : f95_L7H.den) (f : f95_L7H.den → Option α) (ks : KS α f95_L7O) : Option α := f95_L7B n v.1.1 v.1.2.2.1 v.1.2.2.2.1 v.1.2.2.2.2.1 v.1.2.2.2.2.2.1 v.1.2.2.2.2.2.2.1 v.1.2.2.2.2.2.2.2.1 v.1.2.2.2.2.2.2.2.2.1 v.2.1 (fun s1 s6 s7 s8 s9 s16 s17 s18 b15 => f ((s1, (), s6, s7, s8, s9, s16, s17, s18, ()), (b15, ()))) (fun w0 w1 w2 w3 w4 => ks.1 ((w0, (), w1, w2, w3, ()), (w4, ())))
def f95_L7 {α : Type} (n m : Nat) (s1 : LI) (s6 s7 s8 s9 : Int) (s16 : LI) (s17 s18 : Int) (b15 : LI) (k0 : LI → LI → Int → Int → LI → Option α) : Option α := rounds (f95_L7U n) m ((s1, (), s6, s7, s8, s9, s16, s17, s18, ()), (b15, ())) (fun w => k0 w.1.1 w.1.2.2.1 w.1.2.2.2.1 w.1.2.2.2.2.1 w.2.1, ())
theorem f95_L7_0 {α n s1 s6 s7 s8 s9 s16 s17 s18 b15 k0} : f95_L7 (α := α) n 0 s1 s6 s7 s8 s9 s16 s17 s18 b15 k0 = none := rfl
theorem f95_L7_s {α n m s1 s6 s7 s8 s9 s16 s17 s18 b15 k0} : f95_L7 (α := α) n (m + 1) s1 s6 s7 s8 s9 s16 s17 s18 b15 k0 = f95_L7B n s1 s6 s7 s8 s9 s16 s17 s18 b15 (fun s1 s6 s7 s8 s9 s16 s17 s18 b15 => f95_L7 n m s1 s6 s7 s8 s9 s16 s17 s18 b15 k0) k0 := rfl
def f95_L3B {α : Type} (n : Nat) (s1 s16 : LI) (s17 s18 : Int) (b15 : LI) (f : LI → LI → Int → Int → LI → Option α) (k0 : LI → Option α) : Option α :=
 bif (decide (s18 < s17)) then
  gd (decide (0 ≤ s18) && decide (s18 < (s16.length : Int))) (
   f95_L7 n n s1 s18 (s16.getD s18.toNat 0) 0 0 s16 s17 s18 b15
    (fun z_1 z_2 z_3 z_4 z_5 => (
     f z_1 z_2 z_3 (W (z_4 + 1)) z_5)))
 else
  k0 b15
abbrev f95_L3H : Tm := ⟨[(1, .d hIs), (5, .k (.hw 15)), (16, .d hIs), (17, .d hI), (18, .d hI)], [(15, .arr 3 hI false)], [], []⟩
abbrev f95_L3X0 : Tm := ⟨[(5, .k (.hw 15))], [(15, .arr 3 hI false)], [], []⟩
abbrev f95_L3O : List (Exit × Tm) := [(.exit 0, f95_L3X0)]
def f95_L3U {α : Type} (n : Nat) (v : f95_L3H.den) (f : f95_L3H.den → Option α) (ks : KS α f95_L3O) : Option α := f95_L3B n v.1.1 v.1.2.2.1 v.1.2.2.2.1 v.1.2.2.2.2.1 v.2.1 (fun s1 s16 s17 s18 b15 => f ((s1, (), s16, s17, s18, ()), (b15, ()))) (fun w0 => ks.1 (((), ()), (w0, ())))
def f95_L3 {α : Type} (n m : Nat) (s1 s16 : LI) (s17 s18 : Int) (b15 : LI) (k0 : LI → Option α) : Option α := rounds (f95_L3U n) m ((s1, (), s16, s17, s18, ()), (b15, ())) (fun w => k0 w.2.1, ())
theorem f95_L3_0 {α n s1 s16 s17 s18 b15 k0} : f95_L3 (α := α) n 0 s1 s16 s17 s18 b15 k0 = none := rfl
theorem f95_L3_s {α n m s1 s16 s17 s18 b15 k0} : f95_L3 (α := α) n (m + 1) s1 s16 s17 s18 b15 k0 = f95_L3B n s1 s16 s17 s18 b15 (fun s1 s16 s17 s18 b15 => f95_L3 n m s1 s16 s17 s18 b15 k0) k0 := rfl
abbrev f95_J9 : Tm := ⟨[(1, .d hIs), (5, .k (.hw 15)), (6, .d hI), (7, .d hI), (8, .d hI), (9, .d hI), (16, .d hIs), (17, .d hI), (18, .d hI)], [(15, .arr 3 hI false)], [], []⟩
abbrev f95_J11 : Tm := ⟨[(1, .d hIs), (5, .k (.hw 15)), (6, .d hI), (7, .d hI), (8, .d hI), (9, .d hI), (16, .d hIs), (17, .d hI), (18, .d hI)], [(15, .arr 3 hI false)], [], []⟩
def f95 (n : Nat) (a0 a1 : LI) : Option LI :=
 gd (decide (0 ≤ (W ((a0.length : Int) + (a1.length : Int)))) && decide ((W ((a0.length : Int) + (a1.length : Int))) ≤ 4611686018427387904) && decide ((8 : Int) * (W ((a0.length : Int) + (a1.length : Int))) ≤ 281474976710656)) (
  f95_L3 n n a1 a0 (a0.length : Int) 0 (List.replicate ((W ((a0.length : Int) + (a1.length : Int))).toNat) 0)
   (fun z_6 => (
    ob (f130 n z_6) fun r_7 =>
    some r_7)))
def f95_E (n : Nat) : Ent := ⟨95, [hIs, hIs], [hIs], fun x => f95 n x.1 x.2⟩
def f95_D (α : Type) (n : Nat) : D3 α := { reg := [(14, ⟨0, [], [(1, { ent := some (f130_E n), fz := [(63, hIs)] })]⟩)], join := [(9, f95_J9), (11, f95_J11)], loop := [(7, ⟨f95_L7H, f95_L7O, rounds (f95_L7U n) n⟩), (3, ⟨f95_L3H, f95_L3O, rounds (f95_L3U n) n⟩)] }
theorem f95_ents (α : Type) (n : Nat) : AllS Try.prog (entsOf (f95_D α n).reg) := ⟨f130_ok n, trivial⟩
theorem f95_L7_d (α : Type) (n : Nat) : D3.OK Try.prog (tyOf Try.prog) ⟨65, []⟩ (f95_D α n) ((bodyOf Try.f95).at [1, 1, 0, 1, 0, 0, 1, 1, 0, 0, 1, 1, 1, 0, 0]) :=
 D3.OK.mk3 (f95_ents α n) (show loopsOf ((bodyOf Try.f95).at [1, 1, 0, 1, 0, 0, 1, 1, 0, 0, 1, 1, 1, 0, 0]) = [] by kernel_rfl) trivial
theorem f95_L7_ok (α : Type) (n : Nat) : LO.Sound (α := α) Try.prog ⟨65, []⟩ ⟨f95_L7H, f95_L7O, rounds (f95_L7U n) n⟩ (.loop ((bodyOf Try.f95).at [1, 1, 0, 1, 0, 0, 1, 1, 0, 0, 1, 1, 1, 0, 0])) :=
 loop_ok (tyOf_ok _) prog_fol (f95_L7U n) (f95_L7_d α n) (by intro v f ks; kernel_rfl) n
theorem f95_L3_d (α : Type) (n : Nat) : D3.OK Try.prog (tyOf Try.prog) ⟨65, []⟩ (f95_D α n) ((bodyOf Try.f95).at [1, 1, 0, 1, 0, 0]) :=
 D3.OK.mk3 (f95_ents α n) (show loopsOf ((bodyOf Try.f95).at [1, 1, 0, 1, 0, 0]) = [(7, (.loop ((bodyOf Try.f95).at [1, 1, 0, 1, 0, 0, 1, 1, 0, 0, 1, 1, 1, 0, 0])))] by kernel_rfl) ⟨look_sound rfl (f95_L7_ok α n), trivial⟩
theorem f95_L3_ok (α : Type) (n : Nat) : LO.Sound (α := α) Try.prog ⟨65, []⟩ ⟨f95_L3H, f95_L3O, rounds (f95_L3U n) n⟩ (.loop ((bodyOf Try.f95).at [1, 1, 0, 1, 0, 0])) :=
 loop_ok (tyOf_ok _) prog_fol (f95_L3U n) (f95_L3_d α n) (by intro v f ks; kernel_rfl) n
theorem f95_d (α : Type) (n : Nat) : D3.OK Try.prog (tyOf Try.prog) ⟨65, []⟩ (f95_D α n) (bodyOf Try.f95) :=
 D3.OK.mk3 (f95_ents α n) (show loopsOf (bodyOf Try.f95) = [(3, (.loop ((bodyOf Try.f95).at [1, 1, 0, 1, 0, 0])))] by kernel_rfl) ⟨look_sound rfl (f95_L3_ok α n), trivial⟩
theorem f95_ok (n : Nat) : (f95_E n).Sound Try.prog :=
 fn_ok (tyOf_ok _) prog_fol (f95_D _ n) (show Try.prog.funcs[95]? = some Try.f95 by kernel_rfl) (by kernel_rfl) (show Try.f95.body = some (bodyOf Try.f95) by kernel_rfl) rfl rfl (Nat.le_of_ble_eq_true rfl) (f95_d _ n) (by intro x; kernel_rfl) 

def f134 (n : Nat) (a0 a1 : Rq) : Option Int :=
 ob (f103 n a0) fun r_1 =>
 ob (f103 n a1) fun r_2 =>
 bif (r_1 != r_2) then
  ob (f103 n a0) fun r_3 =>
  ob (f103 n a1) fun r_4 =>
  some (W (r_3 - r_4))
 else
  ob (f95 n a0.2.1 a1.2.2) fun r_5 =>
  ob (f95 n a1.2.1 a0.2.2) fun r_6 =>
  ob (f119 n r_5 r_6) fun r_7 =>
  bif a0.1 then
   some (W (0 - r_7))
  else
   some r_7
def f134_E (n : Nat) : Ent := ⟨134, [hR, hR], [hI], fun x => f134 n x.1 x.2⟩
def f134_D (α : Type) (n : Nat) : D3 α := { reg := [(1, ⟨3, [], [(1, { ent := some (f103_E n) }), (3, { ent := some (f103_E n) })]⟩), (2, ⟨3, [], [(1, { ent := some (f103_E n) }), (3, { ent := some (f103_E n) })]⟩), (3, ⟨9, [], [(4, { ent := some (f95_E n) }), (9, { ent := some (f95_E n) }), (10, { ent := some (f119_E n) })]⟩)], join := [], loop := [] }
theorem f134_ents (α : Type) (n : Nat) : AllS Try.prog (entsOf (f134_D α n).reg) := ⟨f103_ok n, f103_ok n, f103_ok n, f103_ok n, f95_ok n, f95_ok n, f119_ok n, trivial⟩
theorem f134_d (α : Type) (n : Nat) : D3.OK Try.prog (tyOf Try.prog) ⟨32, []⟩ (f134_D α n) (bodyOf Try.f134) :=
 D3.OK.mk3 (f134_ents α n) (show loopsOf (bodyOf Try.f134) = [] by kernel_rfl) trivial
theorem f134_ok (n : Nat) : (f134_E n).Sound Try.prog :=
 fn_ok (tyOf_ok _) prog_fol (f134_D _ n) (show Try.prog.funcs[134]? = some Try.f134 by kernel_rfl) (by kernel_rfl) (show Try.f134.body = some (bodyOf Try.f134) by kernel_rfl) rfl rfl (Nat.le_of_ble_eq_true rfl) (f134_d _ n) (by intro x; kernel_rfl) 

def f133 (n : Nat) (a0 a1 : Rq) : Option Bool :=
 ob (f134 n a0 a1) fun r_1 =>
 some (r_1 == 0)
def f133_E (n : Nat) : Ent := ⟨133, [hR, hR], [.bool], fun x => f133 n x.1 x.2⟩
def f133_D (α : Type) (n : Nat) : D3 α := { reg := [(1, ⟨0, [], [(2, { ent := some (f134_E n) })]⟩)], join := [], loop := [] }
theorem f133_ents (α : Type) (n : Nat) : AllS Try.prog (entsOf (f133_D α n).reg) := ⟨f134_ok n, trivial⟩
theorem f133_d (α : Type) (n : Nat) : D3.OK Try.prog (tyOf Try.prog) ⟨9, []⟩ (f133_D α n) (bodyOf Try.f133) :=
 D3.OK.mk3 (f133_ents α n) (show loopsOf (bodyOf Try.f133) = [] by kernel_rfl) trivial
theorem f133_ok (n : Nat) : (f133_E n).Sound Try.prog :=
 fn_ok (tyOf_ok _) prog_fol (f133_D _ n) (show Try.prog.funcs[133]? = some Try.f133 by kernel_rfl) (by kernel_rfl) (show Try.f133.body = some (bodyOf Try.f133) by kernel_rfl) rfl rfl (Nat.le_of_ble_eq_true rfl) (f133_d _ n) (by intro x; kernel_rfl) 

def f132c133_L4B {α : Type} (n : Nat) (s1 s15 : LR) (s16 s17 : Int) (f : LR → LR → Int → Int → Option α) (k0 : Bool → Option α) (k1 : Unit → Option α) : Option α :=
 bif (decide (s17 < s16)) then
  gd (decide (0 ≤ s17) && decide (s17 < (s15.length : Int))) (
   let x_1 := s15.getD s17.toNat (false, [], [])
   gd (decide (0 ≤ s17) && decide (s17 < (s1.length : Int))) (
    let x_2 := s1.getD s17.toNat (false, [], [])
    ob (f133 n x_1 x_2) fun r_3 =>
    bif (!r_3) then
     k0 false
    else
     f s1 s15 s16 (W (s17 + 1))))
 else
  k1 ()
abbrev f132c133_L4H : Tm := ⟨[(1, .d hRs), (2, .d (.fn 133)), (15, .d hRs), (16, .d hI), (17, .d hI)], [], [8, 9], []⟩
abbrev f132c133_L4X0 : Tm := ⟨[(6, .d .bool)], [], [8, 9], []⟩
abbrev f132c133_L4X1 : Tm := ⟨[], [], [], []⟩
abbrev f132c133_L4O : List (Exit × Tm) := [(.ret, f132c133_L4X0), (.exit 0, f132c133_L4X1)]
def f132c133_L4U {α : Type} (n : Nat) (v : f132c133_L4H.den) (f : f132c133_L4H.den → Option α) (ks : KS α f132c133_L4O) : Option α := f132c133_L4B n v.1.1 v.1.2.2.1 v.1.2.2.2.1 v.1.2.2.2.2.1 (fun s1 s15 s16 s17 => f ((s1, (), s15, s16, s17, ()), ())) (fun w0 => ks.1 ((w0, ()), ())) (fun _ => ks.2.1 ((), ()))
def f132c133_L4 {α : Type} (n m : Nat) (s1 s15 : LR) (s16 s17 : Int) (k0 : Bool → Option α) (k1 : Unit → Option α) : Option α := rounds (f132c133_L4U n) m ((s1, (), s15, s16, s17, ()), ()) (fun w => k0 w.1.1, fun w => k1 (), ())
theorem f132c133_L4_0 {α n s1 s15 s16 s17 k0 k1} : f132c133_L4 (α := α) n 0 s1 s15 s16 s17 k0 k1 = none := rfl
theorem f132c133_L4_s {α n m s1 s15 s16 s17 k0 k1} : f132c133_L4 (α := α) n (m + 1) s1 s15 s16 s17 k0 k1 = f132c133_L4B n s1 s15 s16 s17 (fun s1 s15 s16 s17 => f132c133_L4 n m s1 s15 s16 s17 k0 k1) k0 k1 := rfl
def f132c133 (n : Nat) (a0 a1 : LR) (a2 : Unit) : Option Bool :=
 bif ((a0.length : Int) != (a1.length : Int)) then
  some false
 else
  f132c133_L4 n n a1 a0 (a0.length : Int) 0
   (fun z_4 => (
    some z_4))
   (fun (_ : Unit) => (
    some true))
def f132c133_E (n : Nat) : Ent := ⟨132, [hRs, hRs, (.fn 133)], [.bool], fun x => f132c133 n x.1 x.2.1 x.2.2⟩
def f132c133_D (α : Type) (n : Nat) : D3 α := { reg := [(7, ⟨0, [], [(3, { ent := some (f133_E n) })]⟩)], join := [], loop := [(4, ⟨f132c133_L4H, f132c133_L4O, rounds (f132c133_L4U n) n⟩)] }
theorem f132c133_ents (α : Type) (n : Nat) : AllS Try.prog (entsOf (f132c133_D α n).reg) := ⟨f133_ok n, trivial⟩
theorem f132c133_L4_d (α : Type) (n : Nat) : D3.OK Try.prog (tyOf Try.prog) ⟨32, []⟩ (f132c133_D α n) ((bodyOf Try.f132).at [1, 1, 0, 1, 0, 0]) :=
 D3.OK.mk3 (f132c133_ents α n) (show loopsOf ((bodyOf Try.f132).at [1, 1, 0, 1, 0, 0]) = [] by kernel_rfl) trivial
theorem f132c133_L4_ok (α : Type) (n : Nat) : LO.Sound (α := α) Try.prog ⟨32, []⟩ ⟨f132c133_L4H, f132c133_L4O, rounds (f132c133_L4U n) n⟩ (.loop ((bodyOf Try.f132).at [1, 1, 0, 1, 0, 0])) :=
 loop_ok (tyOf_ok _) prog_fol (f132c133_L4U n) (f132c133_L4_d α n) (by intro v f ks; kernel_rfl) n
theorem f132c133_d (α : Type) (n : Nat) : D3.OK Try.prog (tyOf Try.prog) ⟨32, []⟩ (f132c133_D α n) (bodyOf Try.f132) :=
 D3.OK.mk3 (f132c133_ents α n) (show loopsOf (bodyOf Try.f132) = [(4, (.loop ((bodyOf Try.f132).at [1, 1, 0, 1, 0, 0])))] by kernel_rfl) ⟨look_sound rfl (f132c133_L4_ok α n), trivial⟩
theorem f132c133_ok (n : Nat) : (f132c133_E n).Sound Try.prog :=
 fn_ok (tyOf_ok _) prog_fol (f132c133_D _ n) (show Try.prog.funcs[132]? = some Try.f132 by kernel_rfl) (by kernel_rfl) (show Try.f132.body = some (bodyOf Try.f132) by kernel_rfl) rfl rfl (Nat.le_of_ble_eq_true rfl) (f132c133_d _ n) (by intro x; kernel_rfl) 

def f102 (n : Nat) (a0 a1 : LR) : Option Bool :=
 ob (f132c133 n a0 a1 ()) fun r_1 =>
 some r_1
def f102_E (n : Nat) : Ent := ⟨102, [hRs, hRs], [.bool], fun x => f102 n x.1 x.2⟩
def f102_D (α : Type) (n : Nat) : D3 α := { reg := [(1, ⟨0, [], [(2, { ent := some (f132c133_E n) })]⟩)], join := [], loop := [] }
theorem f102_ents (α : Type) (n : Nat) : AllS Try.prog (entsOf (f102_D α n).reg) := ⟨f132c133_ok n, trivial⟩
theorem f102_d (α : Type) (n : Nat) : D3.OK Try.prog (tyOf Try.prog) ⟨8, []⟩ (f102_D α n) (bodyOf Try.f102) :=
 D3.OK.mk3 (f102_ents α n) (show loopsOf (bodyOf Try.f102) = [] by kernel_rfl) trivial
theorem f102_ok (n : Nat) : (f102_E n).Sound Try.prog :=
 fn_ok (tyOf_ok _) prog_fol (f102_D _ n) (show Try.prog.funcs[102]? = some Try.f102 by kernel_rfl) (by kernel_rfl) (show Try.f102.body = some (bodyOf Try.f102) by kernel_rfl) rfl rfl (Nat.le_of_ble_eq_true rfl) (f102_d _ n) (by intro x; kernel_rfl) 

def f84 (n : Nat) (a0 : LR) : Option LR :=
 gd ((!a0.isEmpty)) (
  gd (decide ((0 + a0.length) * 56 ≤ 140737488355328)) (
   some a0))
def f84_E (n : Nat) : Ent := ⟨84, [hRs], [hRs], fun x => f84 n x⟩
def f84_D (α : Type) (n : Nat) : D3 α := { reg := [(3, ⟨0, [], [(0, { sh := some hR })]⟩)], join := [], loop := [] }
theorem f84_ents (α : Type) (n : Nat) : AllS Try.prog (entsOf (f84_D α n).reg) := trivial
theorem f84_d (α : Type) (n : Nat) : D3.OK Try.prog (tyOf Try.prog) ⟨8, []⟩ (f84_D α n) (bodyOf Try.f84) :=
 D3.OK.mk3 (f84_ents α n) (show loopsOf (bodyOf Try.f84) = [] by kernel_rfl) trivial
theorem f84_ok (n : Nat) : (f84_E n).Sound Try.prog :=
 fn_ok (tyOf_ok _) prog_fol (f84_D _ n) (show Try.prog.funcs[84]? = some Try.f84 by kernel_rfl) (by kernel_rfl) (show Try.f84.body = some (bodyOf Try.f84) by kernel_rfl) rfl rfl (Nat.le_of_ble_eq_true rfl) (f84_d _ n) (by intro x; kernel_rfl) 

def f40B_L3B {α : Type} (n : Nat) (s0 : LR) (s1 s11 s12 : Int) (b10 : List LR) (f : LR → Int → Int → Int → (List LR) → Option α) (k0 : (List LR) → Option α) : Option α :=
 bif (decide (s12 < s11)) then
  gd (decide (0 ≤ (W (s12 * s1))) && decide ((W (s12 * s1)) ≤ (W ((W (s12 + 1)) * s1))) && decide ((W ((W (s12 + 1)) * s1)) ≤ (s0.length : Int))) (
   ob (f84 n ((s0.drop ((W (s12 * s1)).toNat)).take ((W ((W (s12 + 1)) * s1)).toNat - (W (s12 * s1)).toNat))) fun r_1 =>
   gd (decide ((b10.length + 1) * 24 ≤ 140737488355328)) (
    f s0 s1 s11 (W (s12 + 1)) (b10 ++ [r_1])))
 else
  k0 b10
abbrev f40B_L3H : Tm := ⟨[(0, .d hRs), (1, .d hI), (2, .d .nil), (7, .k (.hw 10)), (11, .d hI), (12, .d hI)], [(10, .arr 24 hRs false)], [36], []⟩
abbrev f40B_L3X0 : Tm := ⟨[(7, .k (.hw 10))], [(10, .arr 24 hRs false)], [], []⟩
abbrev f40B_L3O : List (Exit × Tm) := [(.exit 0, f40B_L3X0)]
def f40B_L3U {α : Type} (n : Nat) (v : f40B_L3H.den) (f : f40B_L3H.den → Option α) (ks : KS α f40B_L3O) : Option α := f40B_L3B n v.1.1 v.1.2.1 v.1.2.2.2.2.1 v.1.2.2.2.2.2.1 v.2.1 (fun s0 s1 s11 s12 b10 => f ((s0, s1, (), (), s11, s12, ()), (b10, ()))) (fun w0 => ks.1 (((), ()), (w0, ())))
def f40B_L3 {α : Type} (n m : Nat) (s0 : LR) (s1 s11 s12 : Int) (b10 : List LR) (k0 : (List LR) → Option α) : Option α := rounds (f40B_L3U n) m ((s0, s1, (), (), s11, s12, ()), (b10, ())) (fun w => k0 w.2.1, ())
theorem f40B_L3_0 {α n s0 s1 s11 s12 b10 k0} : f40B_L3 (α := α) n 0 s0 s1 s11 s12 b10 k0 = none := rfl
theorem f40B_L3_s {α n m s0 s1 s11 s12 b10 k0} : f40B_L3 (α := α) n (m + 1) s0 s1 s11 s12 b10 k0 = f40B_L3B n s0 s1 s11 s12 b10 (fun s0 s1 s11 s12 b10 => f40B_L3 n m s0 s1 s11 s12 b10 k0) k0 := rfl
def f40B (n : Nat) (a0 : LR) (a1 : Int) (a2 : Unit) : Option (List LR) :=
 f40B_L3 n n a0 a1 a1 0 []
  (fun z_2 => (
   some z_2))
def f40B_E (n : Nat) : Ent3 := ⟨40, [.im hRs, .im hI, .im .nil], [[.one (.own 24 hRs)]], fun x => f40B n x.1 x.2.1 x.2.2⟩
def f40B_D (α : Type) (n : Nat) : D3 α := { reg := [(1, ⟨0, [], [(0, { sh := some hRs })]⟩), (5, ⟨0, [], [(9, { ent := some (f84_E n) })]⟩), (8, ⟨0, [], [(2, { sh := some hRs })]⟩)], join := [], loop := [(3, ⟨f40B_L3H, f40B_L3O, rounds (f40B_L3U n) n⟩)] }
theorem f40B_ents (α : Type) (n : Nat) : AllS Try.prog (entsOf (f40B_D α n).reg) := ⟨f84_ok n, trivial⟩
theorem f40B_L3_d (α : Type) (n : Nat) : D3.OK Try.prog (tyOf Try.prog) ⟨40, []⟩ (f40B_D α n) ((bodyOf Try.f40).at [1, 1, 0, 1, 0, 0]) :=
 D3.OK.mk3 (f40B_ents α n) (show loopsOf ((bodyOf Try.f40).at [1, 1, 0, 1, 0, 0]) = [] by kernel_rfl) trivial
theorem f40B_L3_ok (α : Type) (n : Nat) : LO.Sound (α := α) Try.prog ⟨40, []⟩ ⟨f40B_L3H, f40B_L3O, rounds (f40B_L3U n) n⟩ (.loop ((bodyOf Try.f40).at [1, 1, 0, 1, 0, 0])) :=
 loop_ok (tyOf_ok _) prog_fol (f40B_L3U n) (f40B_L3_d α n) (by intro v f ks; kernel_rfl) n
theorem f40B_d (α : Type) (n : Nat) : D3.OK Try.prog (tyOf Try.prog) ⟨40, []⟩ (f40B_D α n) (bodyOf Try.f40) :=
 D3.OK.mk3 (f40B_ents α n) (show loopsOf (bodyOf Try.f40) = [(3, (.loop ((bodyOf Try.f40).at [1, 1, 0, 1, 0, 0])))] by kernel_rfl) ⟨look_sound rfl (f40B_L3_ok α n), trivial⟩
theorem f40B_ok (n : Nat) : (f40B_E n).Sound Try.prog :=
 fn_okB (tyOf_ok _) prog_fol (f40B_D _ n) (show Try.prog.funcs[40]? = some Try.f40 by kernel_rfl) (by kernel_rfl) (show Try.f40.body = some (bodyOf Try.f40) by kernel_rfl) rfl rfl (Nat.le_of_ble_eq_true rfl) (f40B_d _ n) (by intro x; kernel_rfl) 

def f76 (n : Nat) (a0 : Int) : Option Rq :=
 bif (decide (a0 < 0)) then
  ob (f116 n (W (0 - a0))) fun r_1 =>
  ob (f117 n) fun r_2 =>
  some (true, r_1, r_2)
 else
  ob (f116 n a0) fun r_3 =>
  ob (f117 n) fun r_4 =>
  some (false, r_3, r_4)
def f76_E (n : Nat) : Ent := ⟨76, [hI], [hR], fun x => f76 n x⟩
def f76_D (α : Type) (n : Nat) : D3 α := { reg := [(2, ⟨0, [], [(2, { ent := some (f116_E n) }), (3, { ent := some (f117_E n) })]⟩), (3, ⟨0, [], [(1, { ent := some (f116_E n) }), (2, { ent := some (f117_E n) })]⟩)], join := [], loop := [] }
theorem f76_ents (α : Type) (n : Nat) : AllS Try.prog (entsOf (f76_D α n).reg) := ⟨f116_ok n, f117_ok n, f116_ok n, f117_ok n, trivial⟩
theorem f76_d (α : Type) (n : Nat) : D3.OK Try.prog (tyOf Try.prog) ⟨14, []⟩ (f76_D α n) (bodyOf Try.f76) :=
 D3.OK.mk3 (f76_ents α n) (show loopsOf (bodyOf Try.f76) = [] by kernel_rfl) trivial
theorem f76_ok (n : Nat) : (f76_E n).Sound Try.prog :=
 fn_ok (tyOf_ok _) prog_fol (f76_D _ n) (show Try.prog.funcs[76]? = some Try.f76 by kernel_rfl) (by kernel_rfl) (show Try.f76.body = some (bodyOf Try.f76) by kernel_rfl) rfl rfl (Nat.le_of_ble_eq_true rfl) (f76_d _ n) (by intro x; kernel_rfl) 

def f79 (n : Nat) (a0 : LR) (a1 : Int) : Option Bool :=
 gd (decide (0 ≤ a1) && decide (a1 < (a0.length : Int))) (
  let x_1 := a0.getD a1.toNat (false, [], [])
  ob (f80 n x_1) fun r_2 =>
  some (!r_2))
def f79_E (n : Nat) : Ent := ⟨79, [hRs, (.ref hI)], [.bool], fun x => f79 n x.1 x.2⟩
def f79_D (α : Type) (n : Nat) : D3 α := { reg := [(1, ⟨0, [], [(4, { ent := some (f80_E n) })]⟩)], join := [], loop := [] }
theorem f79_ents (α : Type) (n : Nat) : AllS Try.prog (entsOf (f79_D α n).reg) := ⟨f80_ok n, trivial⟩
theorem f79_d (α : Type) (n : Nat) : D3.OK Try.prog (tyOf Try.prog) ⟨10, []⟩ (f79_D α n) (bodyOf Try.f79) :=
 D3.OK.mk3 (f79_ents α n) (show loopsOf (bodyOf Try.f79) = [] by kernel_rfl) trivial
theorem f79_ok (n : Nat) : (f79_E n).Sound Try.prog :=
 fn_ok (tyOf_ok _) prog_fol (f79_D _ n) (show Try.prog.funcs[79]? = some Try.f79 by kernel_rfl) (by kernel_rfl) (show Try.f79.body = some (bodyOf Try.f79) by kernel_rfl) rfl rfl (Nat.le_of_ble_eq_true rfl) (f79_d _ n) (by intro x; kernel_rfl) 

def f78c79_L2B {α : Type} (n : Nat) (s0 : List LR) (s1 s7 s8 : Int) (f : (List LR) → Int → Int → Int → Option α) (k0 : Int → Option α) (k1 : Unit → Option α) : Option α :=
 bif (decide (s8 < s7)) then
  gd (decide (0 ≤ s8) && decide (s8 < (s0.length : Int))) (
   ob (f79 n (s0.getD s8.toNat []) s1) fun r_1 =>
   bif r_1 then
    k0 s8
   else
    f s0 s1 s7 (W (s8 + 1)))
 else
  k1 ()
abbrev f78c79_L2H : Tm := ⟨[(0, .d (.sl hRs)), (1, .d (.clo 79 (.ref hI))), (7, .d hI), (8, .d hI)], [], [], []⟩
abbrev f78c79_L2X0 : Tm := ⟨[(4, .d hI)], [], [], []⟩
abbrev f78c79_L2X1 : Tm := ⟨[], [], [], []⟩
abbrev f78c79_L2O : List (Exit × Tm) := [(.ret, f78c79_L2X0), (.exit 0, f78c79_L2X1)]
def f78c79_L2U {α : Type} (n : Nat) (v : f78c79_L2H.den) (f : f78c79_L2H.den → Option α) (ks : KS α f78c79_L2O) : Option α := f78c79_L2B n v.1.1 v.1.2.1 v.1.2.2.1 v.1.2.2.2.1 (fun s0 s1 s7 s8 => f ((s0, s1, s7, s8, ()), ())) (fun w0 => ks.1 ((w0, ()), ())) (fun _ => ks.2.1 ((), ()))
def f78c79_L2 {α : Type} (n m : Nat) (s0 : List LR) (s1 s7 s8 : Int) (k0 : Int → Option α) (k1 : Unit → Option α) : Option α := rounds (f78c79_L2U n) m ((s0, s1, s7, s8, ()), ()) (fun w => k0 w.1.1, fun w => k1 (), ())
theorem f78c79_L2_0 {α n s0 s1 s7 s8 k0 k1} : f78c79_L2 (α := α) n 0 s0 s1 s7 s8 k0 k1 = none := rfl
theorem f78c79_L2_s {α n m s0 s1 s7 s8 k0 k1} : f78c79_L2 (α := α) n (m + 1) s0 s1 s7 s8 k0 k1 = f78c79_L2B n s0 s1 s7 s8 (fun s0 s1 s7 s8 => f78c79_L2 n m s0 s1 s7 s8 k0 k1) k0 k1 := rfl
def f78c79 (n : Nat) (a0 : List LR) (a1 : Int) : Option Int :=
 f78c79_L2 n n a0 a1 (a0.length : Int) 0
  (fun z_2 => (
   some z_2))
  (fun (_ : Unit) => (
   some (-1)))
def f78c79_E (n : Nat) : Ent := ⟨78, [(.sl hRs), (.clo 79 (.ref hI))], [hI], fun x => f78c79 n x.1 x.2⟩
def f78c79_D (α : Type) (n : Nat) : D3 α := { reg := [(4, ⟨0, [], [(5, { ent := some (f79_E n) })]⟩)], join := [], loop := [(2, ⟨f78c79_L2H, f78c79_L2O, rounds (f78c79_L2U n) n⟩)] }
theorem f78c79_ents (α : Type) (n : Nat) : AllS Try.prog (entsOf (f78c79_D α n).reg) := ⟨f79_ok n, trivial⟩
theorem f78c79_L2_d (α : Type) (n : Nat) : D3.OK Try.prog (tyOf Try.prog) ⟨19, []⟩ (f78c79_D α n) ((bodyOf Try.f78).at [1, 0, 1, 0, 0]) :=
 D3.OK.mk3 (f78c79_ents α n) (show loopsOf ((bodyOf Try.f78).at [1, 0, 1, 0, 0]) = [] by kernel_rfl) trivial
theorem f78c79_L2_ok (α : Type) (n : Nat) : LO.Sound (α := α) Try.prog ⟨19, []⟩ ⟨f78c79_L2H, f78c79_L2O, rounds (f78c79_L2U n) n⟩ (.loop ((bodyOf Try.f78).at [1, 0, 1, 0, 0])) :=
 loop_ok (tyOf_ok _) prog_fol (f78c79_L2U n) (f78c79_L2_d α n) (by intro v f ks; kernel_rfl) n
theorem f78c79_d (α : Type) (n : Nat) : D3.OK Try.prog (tyOf Try.prog) ⟨19, []⟩ (f78c79_D α n) (bodyOf Try.f78) :=
 D3.OK.mk3 (f78c79_ents α n) (show loopsOf (bodyOf Try.f78) = [(2, (.loop ((bodyOf Try.f78).at [1, 0, 1, 0, 0])))] by kernel_rfl) ⟨look_sound rfl (f78c79_L2_ok α n), trivial⟩
theorem f78c79_ok (n : Nat) : (f78c79_E n).Sound Try.prog :=
 fn_ok (tyOf_ok _) prog_fol (f78c79_D _ n) (show Try.prog.funcs[78]? = some Try.f78 by kernel_rfl) (by kernel_rfl) (show Try.f78.body = some (bodyOf Try.f78) by kernel_rfl) rfl rfl (Nat.le_of_ble_eq_true rfl) (f78c79_d _ n) (by intro x; kernel_rfl) 

def f81 (n : Nat) (a0 : Rq) : Option Rq :=
 bif (!a0.1) then
  ob (f80 n a0) fun r_1 =>
  ob (f115 n a0.2.1) fun r_2 =>
  ob (f115 n a0.2.2) fun r_3 =>
  some ((!r_1), r_2, r_3)
 else
  ob (f115 n a0.2.1) fun r_4 =>
  ob (f115 n a0.2.2) fun r_5 =>
  some (false, r_4, r_5)
def f81_E (n : Nat) : Ent := ⟨81, [hR], [hR], fun x => f81 n x⟩
def f81_D (α : Type) (n : Nat) : D3 α := { reg := [(1, ⟨14, [], [(5, { ent := some (f80_E n) }), (10, { ent := some (f115_E n) }), (13, { ent := some (f115_E n) })]⟩)], join := [], loop := [] }
theorem f81_ents (α : Type) (n : Nat) : AllS Try.prog (entsOf (f81_D α n).reg) := ⟨f80_ok n, f115_ok n, f115_ok n, trivial⟩
theorem f81_d (α : Type) (n : Nat) : D3.OK Try.prog (tyOf Try.prog) ⟨18, []⟩ (f81_D α n) (bodyOf Try.f81) :=
 D3.OK.mk3 (f81_ents α n) (show loopsOf (bodyOf Try.f81) = [] by kernel_rfl) trivial
theorem f81_ok (n : Nat) : (f81_E n).Sound Try.prog :=
 fn_ok (tyOf_ok _) prog_fol (f81_D _ n) (show Try.prog.funcs[81]? = some Try.f81 by kernel_rfl) (by kernel_rfl) (show Try.f81.body = some (bodyOf Try.f81) by kernel_rfl) rfl rfl (Nat.le_of_ble_eq_true rfl) (f81_d _ n) (by intro x; kernel_rfl) 

abbrev f94_J5 : Tm := ⟨[(0, .d .bool), (1, .d hIs), (2, .d hIs), (6, .k (.hp 6 0 0))], [(6, .var 31 true false [.d .bool, .d .nil, .d .nil])], [], []⟩
def f94 (n : Nat) (a0 : Bool) (a1 a2 : LI) : Option Rq :=
 let J_12 := fun (y_6 : LI) (y_7 : LI) => (
  bif a0 then
   ob (f115 n y_6) fun r_8 =>
   ob (f115 n y_7) fun r_9 =>
   some ((decide ((y_6.length : Int) > 0)), r_8, r_9)
  else
   ob (f115 n y_6) fun r_10 =>
   ob (f115 n y_7) fun r_11 =>
   some (false, r_10, r_11))
 ob (f128 n a1 a2) fun r_1 =>
 ob (f117 n) fun r_2 =>
 ob (f119 n r_1 r_2) fun r_3 =>
 bif (r_3 != 0) then
  ob (f129 n a1 r_1) fun r_4 =>
  ob (f129 n a2 r_1) fun r_5 =>
  J_12 r_4.1 r_5.1
 else
  J_12 a1 a2
def f94_E (n : Nat) : Ent := ⟨94, [.bool, hIs, hIs], [hR], fun x => f94 n x.1 x.2.1 x.2.2⟩
def f94_D (α : Type) (n : Nat) : D3 α := { reg := [(1, ⟨0, [], [(2, { ent := some (f128_E n) })]⟩), (2, ⟨0, [], [(1, { ent := some (f117_E n) }), (2, { ent := some (f119_E n) })]⟩), (3, ⟨0, [], [(2, { ent := some (f129_E n) })]⟩), (4, ⟨0, [], [(2, { ent := some (f129_E n) })]⟩), (5, ⟨0, [], [(7, { ent := some (f115_E n) }), (9, { ent := some (f115_E n) })]⟩)], join := [(5, f94_J5)], loop := [] }
theorem f94_ents (α : Type) (n : Nat) : AllS Try.prog (entsOf (f94_D α n).reg) := ⟨f128_ok n, f117_ok n, f119_ok n, f129_ok n, f129_ok n, f115_ok n, f115_ok n, trivial⟩
theorem f94_d (α : Type) (n : Nat) : D3.OK Try.prog (tyOf Try.prog) ⟨38, []⟩ (f94_D α n) (bodyOf Try.f94) :=
 D3.OK.mk3 (f94_ents α n) (show loopsOf (bodyOf Try.f94) = [] by kernel_rfl) trivial
theorem f94_ok (n : Nat) : (f94_E n).Sound Try.prog :=
 fn_ok (tyOf_ok _) prog_fol (f94_D _ n) (show Try.prog.funcs[94]? = some Try.f94 by kernel_rfl) (by kernel_rfl) (show Try.f94.body = some (bodyOf Try.f94) by kernel_rfl) rfl rfl (Nat.le_of_ble_eq_true rfl) (f94_d _ n) (by intro x; kernel_rfl) 

def f46 (n : Nat) (a0 a1 : Rq) : Option Rq :=
 ob (f95 n a0.2.1 a1.2.1) fun r_1 =>
 ob (f95 n a0.2.2 a1.2.2) fun r_2 =>
 ob (f94 n (!(a0.1 == a1.1)) r_1 r_2) fun r_3 =>
 some r_3
def f46_E (n : Nat) : Ent := ⟨46, [hR, hR], [hR], fun x => f46 n x.1 x.2⟩
def f46_D (α : Type) (n : Nat) : D3 α := { reg := [(1, ⟨15, [], [(9, { ent := some (f95_E n) }), (14, { ent := some (f95_E n) }), (15, { ent := some (f94_E n) })]⟩)], join := [], loop := [] }
theorem f46_ents (α : Type) (n : Nat) : AllS Try.prog (entsOf (f46_D α n).reg) := ⟨f95_ok n, f95_ok n, f94_ok n, trivial⟩
theorem f46_d (α : Type) (n : Nat) : D3.OK Try.prog (tyOf Try.prog) ⟨21, []⟩ (f46_D α n) (bodyOf Try.f46) :=
 D3.OK.mk3 (f46_ents α n) (show loopsOf (bodyOf Try.f46) = [] by kernel_rfl) trivial
theorem f46_ok (n : Nat) : (f46_E n).Sound Try.prog :=
 fn_ok (tyOf_ok _) prog_fol (f46_D _ n) (show Try.prog.funcs[46]? = some Try.f46 by kernel_rfl) (by kernel_rfl) (show Try.f46.body = some (bodyOf Try.f46) by kernel_rfl) rfl rfl (Nat.le_of_ble_eq_true rfl) (f46_d _ n) (by intro x; kernel_rfl) 

def f83 (n : Nat) (a0 a1 : Rq) : Option Rq :=
 ob (f95 n a0.2.1 a1.2.2) fun r_1 =>
 ob (f95 n a0.2.2 a1.2.1) fun r_2 =>
 ob (f94 n (!(a0.1 == a1.1)) r_1 r_2) fun r_3 =>
 some r_3
def f83_E (n : Nat) : Ent := ⟨83, [hR, hR], [hR], fun x => f83 n x.1 x.2⟩
def f83_D (α : Type) (n : Nat) : D3 α := { reg := [(1, ⟨15, [], [(9, { ent := some (f95_E n) }), (14, { ent := some (f95_E n) }), (15, { ent := some (f94_E n) })]⟩)], join := [], loop := [] }
theorem f83_ents (α : Type) (n : Nat) : AllS Try.prog (entsOf (f83_D α n).reg) := ⟨f95_ok n, f95_ok n, f94_ok n, trivial⟩
theorem f83_d (α : Type) (n : Nat) : D3.OK Try.prog (tyOf Try.prog) ⟨21, []⟩ (f83_D α n) (bodyOf Try.f83) :=
 D3.OK.mk3 (f83_ents α n) (show loopsOf (bodyOf Try.f83) = [] by kernel_rfl) trivial
theorem f83_ok (n : Nat) : (f83_E n).Sound Try.prog :=
 fn_ok (tyOf_ok _) prog_fol (f83_D _ n) (show Try.prog.funcs[83]? = some Try.f83 by kernel_rfl) (by kernel_rfl) (show Try.f83.body = some (bodyOf Try.f83) by kernel_rfl) rfl rfl (Nat.le_of_ble_eq_true rfl) (f83_d _ n) (by intro x; kernel_rfl) 

def f118_L3B {α : Type} (n : Nat) (s0 s1 : LI) (s6 s7 : Int) (b8 : LI) (f : LI → LI → Int → Int → LI → Option α) (k0 : LI → Option α) : Option α :=
 let J_5 := fun (_ : Unit) => (
  let J_4 := fun (y_1 : Int) => (
   let J_3 := fun (y_2 : Int) => (
    gd (decide ((b8.length + 1) * 8 ≤ 140737488355328)) (
     f s0 s1 (W (Int.tdiv y_2 10000)) (W (s7 + 1)) (b8 ++ [(Int.tmod y_2 10000)])))
   bif (decide (s7 < (s1.length : Int))) then
    gd (decide (0 ≤ s7) && decide (s7 < (s1.length : Int))) (
     J_3 (W (y_1 + (s1.getD s7.toNat 0))))
   else
    J_3 y_1)
  bif (decide (s7 < (s0.length : Int))) then
   gd (decide (0 ≤ s7) && decide (s7 < (s0.length : Int))) (
    J_4 (W (s6 + (s0.getD s7.toNat 0))))
  else
   J_4 s6)
 bif (decide (s7 < (max (s0.length : Int) (s1.length : Int)))) then
  J_5 ()
 else
  bif (decide (s6 > 0)) then
   J_5 ()
  else
   k0 b8
abbrev f118_L3H : Tm := ⟨[(0, .d hIs), (1, .d hIs), (5, .k (.hw 8)), (6, .d hI), (7, .d hI)], [(8, .arr 3 hI false)], [45], []⟩
abbrev f118_L3X0 : Tm := ⟨[(5, .k (.hw 8))], [(8, .arr 3 hI false)], [], []⟩
abbrev f118_L3O : List (Exit × Tm) := [(.exit 0, f118_L3X0)]
def f118_L3U {α : Type} (n : Nat) (v : f118_L3H.den) (f : f118_L3H.den → Option α) (ks : KS α f118_L3O) : Option α := f118_L3B n v.1.1 v.1.2.1 v.1.2.2.2.1 v.1.2.2.2.2.1 v.2.1 (fun s0 s1 s6 s7 b8 => f ((s0, s1, (), s6, s7, ()), (b8, ()))) (fun w0 => ks.1 (((), ()), (w0, ())))
def f118_L3 {α : Type} (n m : Nat) (s0 s1 : LI) (s6 s7 : Int) (b8 : LI) (k0 : LI → Option α) : Option α := rounds (f118_L3U n) m ((s0, s1, (), s6, s7, ()), (b8, ())) (fun w => k0 w.2.1, ())
theorem f118_L3_0 {α n s0 s1 s6 s7 b8 k0} : f118_L3 (α := α) n 0 s0 s1 s6 s7 b8 k0 = none := rfl
theorem f118_L3_s {α n m s0 s1 s6 s7 b8 k0} : f118_L3 (α := α) n (m + 1) s0 s1 s6 s7 b8 k0 = f118_L3B n s0 s1 s6 s7 b8 (fun s0 s1 s6 s7 b8 => f118_L3 n m s0 s1 s6 s7 b8 k0) k0 := rfl
abbrev f118_J5 : Tm := ⟨[(0, .d hIs), (1, .d hIs), (5, .k (.hw 8)), (6, .d hI), (7, .d hI)], [(8, .arr 3 hI false)], [], []⟩
abbrev f118_J7 : Tm := ⟨[(0, .d hIs), (1, .d hIs), (5, .k (.hw 8)), (6, .d hI), (7, .d hI)], [(8, .arr 3 hI false)], [], []⟩
abbrev f118_J9 : Tm := ⟨[(0, .d hIs), (1, .d hIs), (5, .k (.hw 8)), (6, .d hI), (7, .d hI)], [(8, .arr 3 hI false)], [], []⟩
def f118 (n : Nat) (a0 a1 : LI) : Option LI :=
 f118_L3 n n a0 a1 0 0 []
  (fun z_6 => (
   some z_6))
def f118_E (n : Nat) : Ent := ⟨118, [hIs, hIs], [hIs], fun x => f118 n x.1 x.2⟩
def f118_D (α : Type) (n : Nat) : D3 α := { reg := [(1, ⟨0, [], [(0, { sh := some hI })]⟩), (9, ⟨0, [], [(3, { sh := some hI })]⟩)], join := [(5, f118_J5), (7, f118_J7), (9, f118_J9)], loop := [(3, ⟨f118_L3H, f118_L3O, rounds (f118_L3U n) n⟩)] }
theorem f118_ents (α : Type) (n : Nat) : AllS Try.prog (entsOf (f118_D α n).reg) := trivial
theorem f118_L3_d (α : Type) (n : Nat) : D3.OK Try.prog (tyOf Try.prog) ⟨50, []⟩ (f118_D α n) ((bodyOf Try.f118).at [1, 1, 0, 1, 0, 0]) :=
 D3.OK.mk3 (f118_ents α n) (show loopsOf ((bodyOf Try.f118).at [1, 1, 0, 1, 0, 0]) = [] by kernel_rfl) trivial
theorem f118_L3_ok (α : Type) (n : Nat) : LO.Sound (α := α) Try.prog ⟨50, []⟩ ⟨f118_L3H, f118_L3O, rounds (f118_L3U n) n⟩ (.loop ((bodyOf Try.f118).at [1, 1, 0, 1, 0, 0])) :=
 loop_ok (tyOf_ok _) prog_fol (f118_L3U n) (f118_L3_d α n) (by intro v f ks; kernel_rfl) n
theorem f118_d (α : Type) (n : Nat) : D3.OK Try.prog (tyOf Try.prog) ⟨50, []⟩ (f118_D α n) (bodyOf Try.f118) :=
 D3.OK.mk3 (f118_ents α n) (show loopsOf (bodyOf Try.f118) = [(3, (.loop ((bodyOf Try.f118).at [1, 1, 0, 1, 0, 0])))] by kernel_rfl) ⟨look_sound rfl (f118_L3_ok α n), trivial⟩
theorem f118_ok (n : Nat) : (f118_E n).Sound Try.prog :=
 fn_ok (tyOf_ok _) prog_fol (f118_D _ n) (show Try.prog.funcs[118]? = some Try.f118 by kernel_rfl) (by kernel_rfl) (show Try.f118.body = some (bodyOf Try.f118) by kernel_rfl) rfl rfl (Nat.le_of_ble_eq_true rfl) (f118_d _ n) (by intro x; kernel_rfl) 

def f120_L3B {α : Type} (n : Nat) (s1 : LI) (s6 s12 s13 : Int) (b310 : LI) (f : LI → Int → Int → Int → LI → Option α) (k0 : LI → Option α) : Option α :=
 bif (decide (s13 < s12)) then
  gd (decide (0 ≤ s13) && decide (s13 < (b310.length : Int))) (
   gd (decide (s13.toNat < b310.length)) (
    let J_3 := fun (y_2 : Int) => (
     bif (decide (y_2 < 0)) then
      gd (decide (0 ≤ s13) && decide (s13 < (b310.length : Int))) (
       gd (decide (s13.toNat < b310.length)) (
        f s1 1 s12 (W (s13 + 1)) (b310.set s13.toNat (W (y_2 + 10000)))))
     else
      gd (decide (0 ≤ s13) && decide (s13 < (b310.length : Int))) (
       gd (decide (s13.toNat < b310.length)) (
        f s1 0 s12 (W (s13 + 1)) (b310.set s13.toNat y_2))))
    bif (decide (s13 < (s1.length : Int))) then
     gd (decide (0 ≤ s13) && decide (s13 < (s1.length : Int))) (
      J_3 (W ((W ((b310.getD s13.toNat 0) - s6)) - (s1.getD s13.toNat 0))))
    else
     J_3 (W ((b310.getD s13.toNat 0) - s6))))
 else
  k0 b310
abbrev f120_L3H : Tm := ⟨[(1, .d hIs), (5, .k (.hw 310)), (6, .d hI), (12, .d hI), (13, .d hI)], [(310, .arr 3 hI false)], [], []⟩
abbrev f120_L3X0 : Tm := ⟨[(5, .k (.hw 310))], [(310, .arr 3 hI false)], [], []⟩
abbrev f120_L3O : List (Exit × Tm) := [(.exit 0, f120_L3X0)]
def f120_L3U {α : Type} (n : Nat) (v : f120_L3H.den) (f : f120_L3H.den → Option α) (ks : KS α f120_L3O) : Option α := f120_L3B n v.1.1 v.1.2.2.1 v.1.2.2.2.1 v.1.2.2.2.2.1 v.2.1 (fun s1 s6 s12 s13 b310 => f ((s1, (), s6, s12, s13, ()), (b310, ()))) (fun w0 => ks.1 (((), ()), (w0, ())))
def f120_L3 {α : Type} (n m : Nat) (s1 : LI) (s6 s12 s13 : Int) (b310 : LI) (k0 : LI → Option α) : Option α := rounds (f120_L3U n) m ((s1, (), s6, s12, s13, ()), (b310, ())) (fun w => k0 w.2.1, ())
theorem f120_L3_0 {α n s1 s6 s12 s13 b310 k0} : f120_L3 (α := α) n 0 s1 s6 s12 s13 b310 k0 = none := rfl
theorem f120_L3_s {α n m s1 s6 s12 s13 b310 k0} : f120_L3 (α := α) n (m + 1) s1 s6 s12 s13 b310 k0 = f120_L3B n s1 s6 s12 s13 b310 (fun s1 s6 s12 s13 b310 => f120_L3 n m s1 s6 s12 s13 b310 k0) k0 := rfl
abbrev f120_J8 : Tm := ⟨[(1, .d hIs), (5, .k (.hw 310)), (7, .d hI), (8, .d hI), (12, .d hI), (13, .d hI)], [(310, .arr 3 hI false)], [], []⟩
def f120 (n : Nat) (a0 a1 : LI) : Option LI :=
 ob (f115B n a0) fun r_1 =>
 f120_L3 n n a1 0 (r_1.length : Int) 0 r_1
  (fun z_4 => (
   ob (f130 n z_4) fun r_5 =>
   some r_5))
def f120_E (n : Nat) : Ent := ⟨120, [hIs, hIs], [hIs], fun x => f120 n x.1 x.2⟩
def f120_D (α : Type) (n : Nat) : D3 α := { reg := [(1, ⟨0, [], [(1, { entB := some (f115B_E n), hb := 310 })]⟩), (13, ⟨0, [], [(1, { ent := some (f130_E n), fz := [(41, hIs)] })]⟩)], join := [(8, f120_J8)], loop := [(3, ⟨f120_L3H, f120_L3O, rounds (f120_L3U n) n⟩)] }
theorem f120_ents (α : Type) (n : Nat) : AllS Try.prog (entsOf (f120_D α n).reg) := ⟨f115B_ok n, f130_ok n, trivial⟩
theorem f120_L3_d (α : Type) (n : Nat) : D3.OK Try.prog (tyOf Try.prog) ⟨43, []⟩ (f120_D α n) ((bodyOf Try.f120).at [1, 1, 0, 1, 0, 0]) :=
 D3.OK.mk3 (f120_ents α n) (show loopsOf ((bodyOf Try.f120).at [1, 1, 0, 1, 0, 0]) = [] by kernel_rfl) trivial
theorem f120_L3_ok (α : Type) (n : Nat) : LO.Sound (α := α) Try.prog ⟨43, []⟩ ⟨f120_L3H, f120_L3O, rounds (f120_L3U n) n⟩ (.loop ((bodyOf Try.f120).at [1, 1, 0, 1, 0, 0])) :=
 loop_ok (tyOf_ok _) prog_fol (f120_L3U n) (f120_L3_d α n) (by intro v f ks; kernel_rfl) n
theorem f120_d (α : Type) (n : Nat) : D3.OK Try.prog (tyOf Try.prog) ⟨43, []⟩ (f120_D α n) (bodyOf Try.f120) :=
 D3.OK.mk3 (f120_ents α n) (show loopsOf (bodyOf Try.f120) = [(3, (.loop ((bodyOf Try.f120).at [1, 1, 0, 1, 0, 0])))] by kernel_rfl) ⟨look_sound rfl (f120_L3_ok α n), trivial⟩
theorem f120_ok (n : Nat) : (f120_E n).Sound Try.prog :=
 fn_ok (tyOf_ok _) prog_fol (f120_D _ n) (show Try.prog.funcs[120]? = some Try.f120 by kernel_rfl) (by kernel_rfl) (show Try.f120.body = some (bodyOf Try.f120) by kernel_rfl) rfl rfl (Nat.le_of_ble_eq_true rfl) (f120_d _ n) (by intro x; kernel_rfl) 

def f77 (n : Nat) (a0 a1 : Rq) : Option Rq :=
 ob (f95 n a0.2.1 a1.2.2) fun r_1 =>
 ob (f95 n a1.2.1 a0.2.2) fun r_2 =>
 ob (f95 n a0.2.2 a1.2.2) fun r_3 =>
 bif (a0.1 == a1.1) then
  ob (f118 n r_1 r_2) fun r_4 =>
  ob (f94 n a0.1 r_4 r_3) fun r_5 =>
  some r_5
 else
  ob (f119 n r_1 r_2) fun r_6 =>
  bif (decide (r_6 ≥ 0)) then
   ob (f120 n r_1 r_2) fun r_7 =>
   ob (f94 n a0.1 r_7 r_3) fun r_8 =>
   some r_8
  else
   ob (f120 n r_2 r_1) fun r_9 =>
   ob (f94 n a1.1 r_9 r_3) fun r_10 =>
   some r_10
def f77_E (n : Nat) : Ent := ⟨77, [hR, hR], [hR], fun x => f77 n x.1 x.2⟩
def f77_D (α : Type) (n : Nat) : D3 α := { reg := [(1, ⟨9, [], [(4, { ent := some (f95_E n) }), (9, { ent := some (f95_E n) })]⟩), (2, ⟨0, [], [(4, { ent := some (f95_E n) })]⟩), (4, ⟨6, [], [(4, { ent := some (f118_E n) }), (6, { ent := some (f94_E n) })]⟩), (5, ⟨0, [], [(2, { ent := some (f119_E n) })]⟩), (6, ⟨6, [], [(4, { ent := some (f120_E n) }), (6, { ent := some (f94_E n) })]⟩), (7, ⟨6, [], [(4, { ent := some (f120_E n) }), (6, { ent := some (f94_E n) })]⟩)], join := [], loop := [] }
theorem f77_ents (α : Type) (n : Nat) : AllS Try.prog (entsOf (f77_D α n).reg) := ⟨f95_ok n, f95_ok n, f95_ok n, f118_ok n, f94_ok n, f119_ok n, f120_ok n, f94_ok n, f120_ok n, f94_ok n, trivial⟩
theorem f77_d (α : Type) (n : Nat) : D3.OK Try.prog (tyOf Try.prog) ⟨55, []⟩ (f77_D α n) (bodyOf Try.f77) :=
 D3.OK.mk3 (f77_ents α n) (show loopsOf (bodyOf Try.f77) = [] by kernel_rfl) trivial
theorem f77_ok (n : Nat) : (f77_E n).Sound Try.prog :=
 fn_ok (tyOf_ok _) prog_fol (f77_D _ n) (show Try.prog.funcs[77]? = some Try.f77 by kernel_rfl) (by kernel_rfl) (show Try.f77.body = some (bodyOf Try.f77) by kernel_rfl) rfl rfl (Nat.le_of_ble_eq_true rfl) (f77_d _ n) (by intro x; kernel_rfl) 

def f121 (n : Nat) (a0 : Int) (a1 : Rq) (a2 a3 : LR) : Option Rq :=
 gd (decide (0 ≤ a0) && decide (a0 < (a2.length : Int))) (
  let x_1 := a2.getD a0.toNat (false, [], [])
  ob (f46 n a1 x_1) fun r_2 =>
  gd (decide (0 ≤ a0) && decide (a0 < (a3.length : Int))) (
   let x_3 := a3.getD a0.toNat (false, [], [])
   ob (f77 n r_2 x_3) fun r_4 =>
   some r_4))
def f121_E (n : Nat) : Ent := ⟨121, [hI, (.ref hR), (.ref hRs), (.ref hRs)], [hR], fun x => f121 n x.1 x.2.1 x.2.2.1 x.2.2.2⟩
def f121_D (α : Type) (n : Nat) : D3 α := { reg := [(1, ⟨10, [], [(5, { ent := some (f46_E n) }), (10, { ent := some (f77_E n) })]⟩)], join := [], loop := [] }
theorem f121_ents (α : Type) (n : Nat) : AllS Try.prog (entsOf (f121_D α n).reg) := ⟨f46_ok n, f77_ok n, trivial⟩
theorem f121_d (α : Type) (n : Nat) : D3.OK Try.prog (tyOf Try.prog) ⟨17, []⟩ (f121_D α n) (bodyOf Try.f121) :=
 D3.OK.mk3 (f121_ents α n) (show loopsOf (bodyOf Try.f121) = [] by kernel_rfl) trivial
theorem f121_ok (n : Nat) : (f121_E n).Sound Try.prog :=
 fn_ok (tyOf_ok _) prog_fol (f121_D _ n) (show Try.prog.funcs[121]? = some Try.f121 by kernel_rfl) (by kernel_rfl) (show Try.f121.body = some (bodyOf Try.f121) by kernel_rfl) rfl rfl (Nat.le_of_ble_eq_true rfl) (f121_d _ n) (by intro x; kernel_rfl) 

def f35c121_L3B {α : Type} (n : Nat) (s1 : Rq × LR × LR) (s8 s9 : Int) (b7 : LR) (f : (Rq × LR × LR) → Int → Int → LR → Option α) (k0 : LR → Option α) : Option α :=
 bif (decide (s9 < s8)) then
  ob (f121 n s9 s1.1 s1.2.1 s1.2.2) fun r_1 =>
  ob (f75 n r_1) fun r_2 =>
  gd (decide ((b7.length + 1) * 56 ≤ 140737488355328)) (
   f s1 s8 (W (s9 + 1)) (b7 ++ [r_2]))
 else
  k0 b7
abbrev f35c121_L3H : Tm := ⟨[(1, .d (.clo 121 (.pair (.ref hR) (.pair (.ref hRs) (.ref hRs))))), (5, .k (.hw 7)), (8, .d hI), (9, .d hI)], [(7, .arr 31 hR false)], [17], []⟩
abbrev f35c121_L3X0 : Tm := ⟨[(5, .k (.hw 7))], [(7, .arr 31 hR false)], [], []⟩
abbrev f35c121_L3O : List (Exit × Tm) := [(.exit 0, f35c121_L3X0)]
def f35c121_L3U {α : Type} (n : Nat) (v : f35c121_L3H.den) (f : f35c121_L3H.den → Option α) (ks : KS α f35c121_L3O) : Option α := f35c121_L3B n v.1.1 v.1.2.2.1 v.1.2.2.2.1 v.2.1 (fun s1 s8 s9 b7 => f ((s1, (), s8, s9, ()), (b7, ()))) (fun w0 => ks.1 (((), ()), (w0, ())))
def f35c121_L3 {α : Type} (n m : Nat) (s1 : Rq × LR × LR) (s8 s9 : Int) (b7 : LR) (k0 : LR → Option α) : Option α := rounds (f35c121_L3U n) m ((s1, (), s8, s9, ()), (b7, ())) (fun w => k0 w.2.1, ())
theorem f35c121_L3_0 {α n s1 s8 s9 b7 k0} : f35c121_L3 (α := α) n 0 s1 s8 s9 b7 k0 = none := rfl
theorem f35c121_L3_s {α n m s1 s8 s9 b7 k0} : f35c121_L3 (α := α) n (m + 1) s1 s8 s9 b7 k0 = f35c121_L3B n s1 s8 s9 b7 (fun s1 s8 s9 b7 => f35c121_L3 n m s1 s8 s9 b7 k0) k0 := rfl
def f35c121 (n : Nat) (a0 : Int) (a1 : Rq × LR × LR) : Option LR :=
 f35c121_L3 n n a1 a0 0 []
  (fun z_3 => (
   some z_3))
def f35c121_E (n : Nat) : Ent := ⟨35, [hI, (.clo 121 (.pair (.ref hR) (.pair (.ref hRs) (.ref hRs))))], [hRs], fun x => f35c121 n x.1 x.2⟩
def f35c121_D (α : Type) (n : Nat) : D3 α := { reg := [(1, ⟨0, [], [(0, { sh := some hR })]⟩), (5, ⟨0, [], [(3, { ent := some (f121_E n) }), (4, { ent := some (f75_E n) }), (5, { sh := some hR })]⟩)], join := [], loop := [(3, ⟨f35c121_L3H, f35c121_L3O, rounds (f35c121_L3U n) n⟩)] }
theorem f35c121_ents (α : Type) (n : Nat) : AllS Try.prog (entsOf (f35c121_D α n).reg) := ⟨f121_ok n, f75_ok n, trivial⟩
theorem f35c121_L3_d (α : Type) (n : Nat) : D3.OK Try.prog (tyOf Try.prog) ⟨21, []⟩ (f35c121_D α n) ((bodyOf Try.f35).at [1, 1, 0, 1, 0, 0]) :=
 D3.OK.mk3 (f35c121_ents α n) (show loopsOf ((bodyOf Try.f35).at [1, 1, 0, 1, 0, 0]) = [] by kernel_rfl) trivial
theorem f35c121_L3_ok (α : Type) (n : Nat) : LO.Sound (α := α) Try.prog ⟨21, []⟩ ⟨f35c121_L3H, f35c121_L3O, rounds (f35c121_L3U n) n⟩ (.loop ((bodyOf Try.f35).at [1, 1, 0, 1, 0, 0])) :=
 loop_ok (tyOf_ok _) prog_fol (f35c121_L3U n) (f35c121_L3_d α n) (by intro v f ks; kernel_rfl) n
theorem f35c121_d (α : Type) (n : Nat) : D3.OK Try.prog (tyOf Try.prog) ⟨21, []⟩ (f35c121_D α n) (bodyOf Try.f35) :=
 D3.OK.mk3 (f35c121_ents α n) (show loopsOf (bodyOf Try.f35) = [(3, (.loop ((bodyOf Try.f35).at [1, 1, 0, 1, 0, 0])))] by kernel_rfl) ⟨look_sound rfl (f35c121_L3_ok α n), trivial⟩
theorem f35c121_ok (n : Nat) : (f35c121_E n).Sound Try.prog :=
 fn_ok (tyOf_ok _) prog_fol (f35c121_D _ n) (show Try.prog.funcs[35]? = some Try.f35 by kernel_rfl) (by kernel_rfl) (show Try.f35.body = some (bodyOf Try.f35) by kernel_rfl) rfl rfl (Nat.le_of_ble_eq_true rfl) (f35c121_d _ n) (by intro x; kernel_rfl) 

def f82 (n : Nat) (a0 : Rq) (a1 a2 : LR) : Option LR :=
 ob (f35c121 n (a1.length : Int) (a0, a1, a2)) fun r_1 =>
 some r_1
def f82_E (n : Nat) : Ent := ⟨82, [hR, hRs, hRs], [hRs], fun x => f82 n x.1 x.2.1 x.2.2⟩
def f82_D (α : Type) (n : Nat) : D3 α := { reg := [(1, ⟨0, [], [(2, { sh := some (.pair (.ref hR) (.pair (.ref hRs) (.ref hRs))) }), (3, { ent := some (f35c121_E n) })]⟩)], join := [], loop := [] }
theorem f82_ents (α : Type) (n : Nat) : AllS Try.prog (entsOf (f82_D α n).reg) := ⟨f35c121_ok n, trivial⟩
theorem f82_d (α : Type) (n : Nat) : D3.OK Try.prog (tyOf Try.prog) ⟨11, []⟩ (f82_D α n) (bodyOf Try.f82) :=
 D3.OK.mk3 (f82_ents α n) (show loopsOf (bodyOf Try.f82) = [] by kernel_rfl) trivial
theorem f82_ok (n : Nat) : (f82_E n).Sound Try.prog :=
 fn_ok (tyOf_ok _) prog_fol (f82_D _ n) (show Try.prog.funcs[82]? = some Try.f82 by kernel_rfl) (by kernel_rfl) (show Try.f82.body = some (bodyOf Try.f82) by kernel_rfl) rfl rfl (Nat.le_of_ble_eq_true rfl) (f82_d _ n) (by intro x; kernel_rfl) 

def f39B_L13B {α : Type} (n : Nat) (s6 s9 s10 : Int) (c2_0 c3_0 : Bool) (c3_1 c3_2 : LI) (c4_0 : Int) (b1000 : List LR) (f : Int → Int → Int → Bool → Bool → LI → LI → Int → (List LR) → Option α) (k0 : Int → Int → Bool → Bool → LI → LI → (List LR) → Option α) : Option α :=
 bif (decide (s6 < (b1000.length : Int))) then
  gd (decide (0 ≤ s6) && decide (s6 < (b1000.length : Int))) (
   gd (decide (s6.toNat < b1000.length)) (
    gd (decide (0 ≤ c4_0) && decide (c4_0 < (((b1000.getD s6.toNat []).length : Nat) : Int))) (
     let x_11 := (b1000.getD s6.toNat []).getD c4_0.toNat (false, [], [])
     gd (decide (0 ≤ c4_0) && decide (c4_0 < (b1000.length : Int))) (
      gd (decide (c4_0.toNat < b1000.length)) (
       gd (decide (0 ≤ c4_0) && decide (c4_0 < (((b1000.getD c4_0.toNat []).length : Nat) : Int))) (
        let x_12 := (b1000.getD c4_0.toNat []).getD c4_0.toNat (false, [], [])
        ob (f83 n x_11 x_12) fun r_13 =>
        ob (f81 n r_13) fun r_14 =>
        gd (decide (0 ≤ c4_0) && decide (c4_0 < (b1000.length : Int))) (
         gd (decide (c4_0.toNat < b1000.length)) (
          gd (decide (0 ≤ s6) && decide (s6 < (b1000.length : Int))) (
           gd (decide (s6.toNat < b1000.length)) (
            ob (f82 n r_14 (b1000.getD c4_0.toNat []) (b1000.getD s6.toNat [])) fun r_15 =>
            gd (decide (0 ≤ s6) && decide (s6 < (b1000.length : Int))) (
             gd (decide (s6.toNat < b1000.length)) (
              f (W (s6 + 1)) s9 s10 c2_0 c3_0 c3_1 c3_2 c4_0 (b1000.set s6.toNat r_15)))))))))))))
 else
  k0 s9 s10 c2_0 c3_0 c3_1 c3_2 b1000
abbrev f39B_L13H : Tm := ⟨[(0, .k (.hw 1000)), (2, .k (.hp 2 0 0)), (3, .k (.hp 3 0 0)), (4, .k (.hp 4 0 0)), (6, .d hI), (9, .d hI), (10, .d hI)], [(2, .var 31 true false [.d .bool, .d .nil, .d .nil]), (3, .var 31 true false [.d .bool, .d hIs, .d hIs]), (4, .var 3 true true [.d hI]), (1000, .arr 24 hRs false)], [], []⟩
abbrev f39B_L13X0 : Tm := ⟨[(0, .k (.hw 1000)), (2, .k (.hp 2 0 0)), (3, .k (.hp 3 0 0)), (9, .d hI), (10, .d hI)], [(2, .var 31 true false [.d .bool, .d .nil, .d .nil]), (3, .var 31 true false [.d .bool, .d hIs, .d hIs]), (1000, .arr 24 hRs false)], [4], []⟩
abbrev f39B_L13O : List (Exit × Tm) := [(.exit 2, f39B_L13X0)]
def f39B_L13U {α : Type} (n : Nat) (v : f39B_L13H.den) (f : f39B_L13H.den → Option α) (ks : KS α f39B_L13O) : Option α := f39B_L13B n v.1.2.2.2.2.1 v.1.2.2.2.2.2.1 v.1.2.2.2.2.2.2.1 v.2.1.1 v.2.2.1.1 v.2.2.1.2.1 v.2.2.1.2.2.1 v.2.2.2.1.1 v.2.2.2.2.1 (fun s6 s9 s10 c2_0 c3_0 c3_1 c3_2 c4_0 b1000 => f (((), (), (), (), s6, s9, s10, ()), ((c2_0, (), (), ()), (c3_0, c3_1, c3_2, ()), (c4_0, ()), b1000, ()))) (fun w0 w1 w2 w3 w4 w5 w6 => ks.1 (((), (), (), w0, w1, ()), ((w2, (), (), ()), (w3, w4, w5, ()), w6, ())))
def f39B_L13 {α : Type} (n m : Nat) (s6 s9 s10 : Int) (c2_0 c3_0 : Bool) (c3_1 c3_2 : LI) (c4_0 : Int) (b1000 : List LR) (k0 : Int → Int → Bool → Bool → LI → LI → (List LR) → Option α) : Option α := rounds (f39B_L13U n) m (((), (), (), (), s6, s9, s10, ()), ((c2_0, (), (), ()), (c3_0, c3_1, c3_2, ()), (c4_0, ()), b1000, ())) (fun w => k0 w.1.2.2.2.1 w.1.2.2.2.2.1 w.2.1.1 w.2.2.1.1 w.2.2.1.2.1 w.2.2.1.2.2.1 w.2.2.2.1, ())
theorem f39B_L13_0 {α n s6 s9 s10 c2_0 c3_0 c3_1 c3_2 c4_0 b1000 k0} : f39B_L13 (α := α) n 0 s6 s9 s10 c2_0 c3_0 c3_1 c3_2 c4_0 b1000 k0 = none := rfl
theorem f39B_L13_s {α n m s6 s9 s10 c2_0 c3_0 c3_1 c3_2 c4_0 b1000 k0} : f39B_L13 (α := α) n (m + 1) s6 s9 s10 c2_0 c3_0 c3_1 c3_2 c4_0 b1000 k0 = f39B_L13B n s6 s9 s10 c2_0 c3_0 c3_1 c3_2 c4_0 b1000 (fun s6 s9 s10 c2_0 c3_0 c3_1 c3_2 c4_0 b1000 => f39B_L13 n m s6 s9 s10 c2_0 c3_0 c3_1 c3_2 c4_0 b1000 k0) k0 := rfl
def f39B_L3B {α : Type} (n : Nat) (s9 s10 : Int) (c2_0 c3_0 : Bool) (c3_1 c3_2 : LI) (b1000 : List LR) (f : Int → Int → Bool → Bool → LI → LI → (List LR) → Option α) (k0 : Bool → LI → LI → (List LR) → Option α) (k1 : Bool → Bool → LI → LI → (List LR) → Option α) : Option α :=
 bif (decide (s10 < s9)) then
  gd (decide (0 ≤ s10) && decide (s10 ≤ (b1000.length : Int)) && decide ((b1000.length : Int) ≤ (b1000.length : Int))) (
   gd ((decide (s10.toNat + ((b1000.length : Int).toNat - s10.toNat) ≤ b1000.length)) && true) (
    ob (f78c79 n ((b1000.drop s10.toNat).take ((b1000.length : Int).toNat - s10.toNat)) s10) fun r_2 =>
    bif (decide (r_2 < 0)) then
     ob (f76 n 0) fun r_3 =>
     k0 r_3.1 r_3.2.1 r_3.2.2 b1000
    else
     let J_18 := fun (y_5 : Bool) (y_6 : LI) (y_7 : LI) (y_8 : List LR) => (
      gd (decide (0 ≤ s10) && decide (s10 < (y_8.length : Int))) (
       gd (decide (s10.toNat < y_8.length)) (
        gd (decide (0 ≤ s10) && decide (s10 < (((y_8.getD s10.toNat []).length : Nat) : Int))) (
         let x_9 := (y_8.getD s10.toNat []).getD s10.toNat (false, [], [])
         ob (f46 n (y_5, y_6, y_7) x_9) fun r_10 =>
         f39B_L13 n n (W (s10 + 1)) s9 s10 c2_0 r_10.1 r_10.2.1 r_10.2.2 s10 y_8
          (fun z_11 z_12 z_13 z_14 z_15 z_16 z_17 => (
           f z_11 (W (z_12 + 1)) z_13 z_14 z_15 z_16 z_17))))))
     bif (decide (r_2 > 0)) then
      gd (decide (0 ≤ (W (s10 + r_2))) && decide ((W (s10 + r_2)) < (b1000.length : Int))) (
       gd (decide ((W (s10 + r_2)).toNat < b1000.length)) (
        gd (decide (0 ≤ s10) && decide (s10 < (b1000.length : Int))) (
         gd (decide (s10.toNat < b1000.length)) (
          gd (decide (0 ≤ s10) && decide (s10 < (b1000.length : Int))) (
           gd (decide (s10.toNat < b1000.length)) (
            gd (decide (0 ≤ (W (s10 + r_2))) && decide ((W (s10 + r_2)) < (((b1000.set s10.toNat (b1000.getD ((W (s10 + r_2)).toNat) [])).length : Nat) : Int))) (
             gd (decide ((W (s10 + r_2)).toNat < (b1000.set s10.toNat (b1000.getD ((W (s10 + r_2)).toNat) [])).length)) (
              ob (f81 n (c3_0, c3_1, c3_2)) fun r_4 =>
              J_18 r_4.1 r_4.2.1 r_4.2.2 ((b1000.set s10.toNat (b1000.getD ((W (s10 + r_2)).toNat) [])).set ((W (s10 + r_2)).toNat) (b1000.getD s10.toNat []))))))))))
     else
      J_18 c3_0 c3_1 c3_2 b1000))
 else
  k1 c2_0 c3_0 c3_1 c3_2 b1000
abbrev f39B_L3H : Tm := ⟨[(0, .k (.hw 1000)), (2, .k (.hp 2 0 0)), (3, .k (.hp 3 0 0)), (9, .d hI), (10, .d hI)], [(2, .var 31 true false [.d .bool, .d .nil, .d .nil]), (3, .var 31 true false [.d .bool, .d hIs, .d hIs]), (1000, .arr 24 hRs false)], [], []⟩
abbrev f39B_L3X0 : Tm := ⟨[(2, .k (.hp 2 0 0))], [(2, .var 31 true false [.d .bool, .d hIs, .d hIs]), (1000, .arr 24 hRs false)], [3, 4], []⟩
abbrev f39B_L3X1 : Tm := ⟨[(2, .k (.hp 2 0 0)), (3, .k (.hp 3 0 0))], [(2, .var 31 true false [.d .bool, .d .nil, .d .nil]), (3, .var 31 true false [.d .bool, .d hIs, .d hIs]), (1000, .arr 24 hRs false)], [], []⟩
abbrev f39B_L3O : List (Exit × Tm) := [(.ret, f39B_L3X0), (.exit 0, f39B_L3X1)]
def f39B_L3U {α : Type} (n : Nat) (v : f39B_L3H.den) (f : f39B_L3H.den → Option α) (ks : KS α f39B_L3O) : Option α := f39B_L3B n v.1.2.2.2.1 v.1.2.2.2.2.1 v.2.1.1 v.2.2.1.1 v.2.2.1.2.1 v.2.2.1.2.2.1 v.2.2.2.1 (fun s9 s10 c2_0 c3_0 c3_1 c3_2 b1000 => f (((), (), (), s9, s10, ()), ((c2_0, (), (), ()), (c3_0, c3_1, c3_2, ()), b1000, ()))) (fun w0 w1 w2 w3 => ks.1 (((), ()), ((w0, w1, w2, ()), w3, ()))) (fun w0 w1 w2 w3 w4 => ks.2.1 (((), (), ()), ((w0, (), (), ()), (w1, w2, w3, ()), w4, ())))
def f39B_L3 {α : Type} (n m : Nat) (s9 s10 : Int) (c2_0 c3_0 : Bool) (c3_1 c3_2 : LI) (b1000 : List LR) (k0 : Bool → LI → LI → (List LR) → Option α) (k1 : Bool → Bool → LI → LI → (List LR) → Option α) : Option α := rounds (f39B_L3U n) m (((), (), (), s9, s10, ()), ((c2_0, (), (), ()), (c3_0, c3_1, c3_2, ()), b1000, ())) (fun w => k0 w.2.1.1 w.2.1.2.1 w.2.1.2.2.1 w.2.2.1, fun w => k1 w.2.1.1 w.2.2.1.1 w.2.2.1.2.1 w.2.2.1.2.2.1 w.2.2.2.1, ())
theorem f39B_L3_0 {α n s9 s10 c2_0 c3_0 c3_1 c3_2 b1000 k0 k1} : f39B_L3 (α := α) n 0 s9 s10 c2_0 c3_0 c3_1 c3_2 b1000 k0 k1 = none := rfl
theorem f39B_L3_s {α n m s9 s10 c2_0 c3_0 c3_1 c3_2 b1000 k0 k1} : f39B_L3 (α := α) n (m + 1) s9 s10 c2_0 c3_0 c3_1 c3_2 b1000 k0 k1 = f39B_L3B n s9 s10 c2_0 c3_0 c3_1 c3_2 b1000 (fun s9 s10 c2_0 c3_0 c3_1 c3_2 b1000 => f39B_L3 n m s9 s10 c2_0 c3_0 c3_1 c3_2 b1000 k0 k1) k0 k1 := rfl
abbrev f39B_G9 : Tm := ⟨[(0, .k (.hw 1000)), (2, .k (.hp 2 0 0)), (3, .k (.hp 3 0 0)), (4, .k (.hp 4 0 0)), (5, .d hI), (9, .d hI), (10, .d hI)], [(2, .var 31 true false [.d .bool, .d .nil, .d .nil]), (3, .var 31 true false [.d .bool, .d hIs, .d hIs]), (4, .var 3 true true [.d hI]), (1000, .arr 24 hRs false)], [], []⟩
abbrev f39B_J11 : Tm := ⟨[(0, .k (.hw 1000)), (2, .k (.hp 2 0 0)), (3, .k (.hp 3 0 0)), (4, .k (.hp 4 0 0)), (9, .d hI), (10, .d hI)], [(2, .var 31 true false [.d .bool, .d .nil, .d .nil]), (3, .var 31 true false [.d .bool, .d hIs, .d hIs]), (4, .var 3 true true [.d hI]), (1000, .arr 24 hRs false)], [], []⟩
def f39B (n : Nat) (a0 : List LR) : Option (Rq × (List LR)) :=
 ob (f76 n 1) fun r_1 =>
 f39B_L3 n n (a0.length : Int) 0 false r_1.1 r_1.2.1 r_1.2.2 a0
  (fun z_19 z_20 z_21 z_22 => (
   some ((z_19, z_20, z_21), z_22)))
  (fun z_23 z_24 z_25 z_26 z_27 => (
   some ((z_24, z_25, z_26), z_27)))
def f39B_E (n : Nat) : Ent3 := ⟨39, [.one (.own 24 hRs)], [[.im hR]], fun x => f39B n x⟩
def f39B_D (α : Type) (n : Nat) : D3 α := { reg := [(1, ⟨0, [], [(0, { ent := some (f76_E n) })]⟩), (5, ⟨0, [], [(3, { sh := some (.ref hI) }), (4, { ent := some (f78c79_E n) })]⟩), (7, ⟨0, [], [(0, { ent := some (f76_E n) })]⟩), (10, ⟨0, [], [(1, { ent := some (f81_E n) })]⟩), (11, ⟨8, [], [(8, { ent := some (f46_E n) })]⟩), (15, ⟨27, [], [(16, { ent := some (f83_E n) }), (17, { ent := some (f81_E n) }), (26, { ent := some (f82_E n) })]⟩)], join := [(11, f39B_J11)], loop := [(13, ⟨f39B_L13H, f39B_L13O, rounds (f39B_L13U n) n⟩), (3, ⟨f39B_L3H, f39B_L3O, rounds (f39B_L3U n) n⟩)], any := [(9, f39B_G9)] }
set_option maxHeartbeats 8000000 in
theorem f39B_A9 (n : Nat) : FamAll (tyOf Try.prog) ⟨90, []⟩ [] f39B_G9 (regOps ((bodyOf Try.f39).at [1, 1, 0, 1, 0, 0, 1, 1, 0, 0, 1, 1, 1, 0, 1, 0, 0])) := by
 refine ⟨by kernel_rfl, fun w q hq => ?_⟩
 have e : WT [] (swapIdx (regOps ((bodyOf Try.f39).at [1, 1, 0, 1, 0, 0, 1, 1, 0, 0, 1, 1, 1, 0, 1, 0, 0])).toList) q = (q = []) := by kernel_rfl
 rw [e] at hq
 obtain rfl := hq
 all_goals exact .inr ⟨18, by kernel_rfl, by kernel_rfl, by kernel_rfl⟩
theorem f39B_ents (α : Type) (n : Nat) : AllS Try.prog (entsOf (f39B_D α n).reg) := ⟨f76_ok n, f78c79_ok n, f76_ok n, f81_ok n, f46_ok n, f83_ok n, f81_ok n, f82_ok n, trivial⟩
theorem f39B_L13_d (α : Type) (n : Nat) : D3.OK Try.prog (tyOf Try.prog) ⟨90, []⟩ (f39B_D α n) ((bodyOf Try.f39).at [1, 1, 0, 1, 0, 0, 1, 1, 0, 0, 1, 1, 1, 1, 1, 1, 0, 0]) :=
 D3.OK.mk3a (f39B_ents α n) (show loopsOf ((bodyOf Try.f39).at [1, 1, 0, 1, 0, 0, 1, 1, 0, 0, 1, 1, 1, 1, 1, 1, 0, 0]) = [] by kernel_rfl) trivial (show anysOf ((bodyOf Try.f39).at [1, 1, 0, 1, 0, 0, 1, 1, 0, 0, 1, 1, 1, 1, 1, 1, 0, 0]) = [(15, regOps ((bodyOf Try.f39).at [1, 1, 0, 1, 0, 0, 1, 1, 0, 0, 1, 1, 1, 1, 1, 1, 0, 0, 1, 0, 0]))] by kernel_rfl) ⟨fun X h => (by cases h), trivial⟩
theorem f39B_L13_ok (α : Type) (n : Nat) : LO.Sound (α := α) Try.prog ⟨90, []⟩ ⟨f39B_L13H, f39B_L13O, rounds (f39B_L13U n) n⟩ (.loop ((bodyOf Try.f39).at [1, 1, 0, 1, 0, 0, 1, 1, 0, 0, 1, 1, 1, 1, 1, 1, 0, 0])) :=
 loop_ok (tyOf_ok _) prog_fol (f39B_L13U n) (f39B_L13_d α n) (by intro v f ks; kernel_rfl) n
theorem f39B_L3_d (α : Type) (n : Nat) : D3.OK Try.prog (tyOf Try.prog) ⟨90, []⟩ (f39B_D α n) ((bodyOf Try.f39).at [1, 1, 0, 1, 0, 0]) :=
 D3.OK.mk3a (f39B_ents α n) (show loopsOf ((bodyOf Try.f39).at [1, 1, 0, 1, 0, 0]) = [(13, (.loop ((bodyOf Try.f39).at [1, 1, 0, 1, 0, 0, 1, 1, 0, 0, 1, 1, 1, 1, 1, 1, 0, 0])))] by kernel_rfl) ⟨look_sound rfl (f39B_L13_ok α n), trivial⟩ (show anysOf ((bodyOf Try.f39).at [1, 1, 0, 1, 0, 0]) = [(9, regOps ((bodyOf Try.f39).at [1, 1, 0, 1, 0, 0, 1, 1, 0, 0, 1, 1, 1, 0, 1, 0, 0])), (11, regOps ((bodyOf Try.f39).at [1, 1, 0, 1, 0, 0, 1, 1, 0, 0, 1, 1, 1, 1, 0]))] by kernel_rfl) ⟨fun X h => (by cases h; exact f39B_A9 n), fun X h => (by cases h), trivial⟩
theorem f39B_L3_ok (α : Type) (n : Nat) : LO.Sound (α := α) Try.prog ⟨90, []⟩ ⟨f39B_L3H, f39B_L3O, rounds (f39B_L3U n) n⟩ (.loop ((bodyOf Try.f39).at [1, 1, 0, 1, 0, 0])) :=
 loop_ok (tyOf_ok _) prog_fol (f39B_L3U n) (f39B_L3_d α n) (by intro v f ks; kernel_rfl) n
theorem f39B_d (α : Type) (n : Nat) : D3.OK Try.prog (tyOf Try.prog) ⟨90, []⟩ (f39B_D α n) (bodyOf Try.f39) :=
 D3.OK.mk3a (f39B_ents α n) (show loopsOf (bodyOf Try.f39) = [(3, (.loop ((bodyOf Try.f39).at [1, 1, 0, 1, 0, 0])))] by kernel_rfl) ⟨look_sound rfl (f39B_L3_ok α n), trivial⟩ (show anysOf (bodyOf Try.f39) = [] by kernel_rfl) trivial
theorem f39B_ok (n : Nat) : (f39B_E n).Sound Try.prog :=
 fn_okB (tyOf_ok _) prog_fol (f39B_D _ n) (show Try.prog.funcs[39]? = some Try.f39 by kernel_rfl) (by kernel_rfl) (show Try.f39.body = some (bodyOf Try.f39) by kernel_rfl) rfl rfl (Nat.le_of_ble_eq_true rfl) (f39B_d _ n) (by intro x; kernel_rfl) 

def f56_L8B {α : Type} (n : Nat) (s0 : LR) (s1 s5 s20 s21 : Int) (b19 : LR) (f : LR → Int → Int → Int → Int → LR → Option α) (k0 : LR → Int → Int → LR → Option α) : Option α :=
 bif (decide (s21 < s20)) then
  gd (decide (0 ≤ (W (s21 * s1))) && decide ((W (s21 * s1)) ≤ (W ((W (s21 * s1)) + s5))) && decide ((W ((W (s21 * s1)) + s5)) ≤ (s0.length : Int))) (
   gd (decide ((b19.length + ((s0.drop ((W (s21 * s1)).toNat)).take ((W ((W (s21 * s1)) + s5)).toNat - (W (s21 * s1)).toNat)).length) * 56 ≤ 140737488355328)) (
    f s0 s1 s5 s20 (W (s21 + 1)) (b19 ++ ((s0.drop ((W (s21 * s1)).toNat)).take ((W ((W (s21 * s1)) + s5)).toNat - (W (s21 * s1)).toNat)))))
 else
  k0 s0 s1 s5 b19
abbrev f56_L8H : Tm := ⟨[(0, .d hRs), (1, .d hI), (5, .d hI), (6, .k (.hw 19)), (20, .d hI), (21, .d hI)], [(19, .arr 31 hR false)], [], []⟩
abbrev f56_L8X0 : Tm := ⟨[(0, .d hRs), (1, .d hI), (5, .d hI), (6, .k (.hw 19))], [(19, .arr 31 hR false)], [], []⟩
abbrev f56_L8O : List (Exit × Tm) := [(.exit 2, f56_L8X0)]
def f56_L8U {α : Type} (n : Nat) (v : f56_L8H.den) (f : f56_L8H.den → Option α) (ks : KS α f56_L8O) : Option α := f56_L8B n v.1.1 v.1.2.1 v.1.2.2.1 v.1.2.2.2.2.1 v.1.2.2.2.2.2.1 v.2.1 (fun s0 s1 s5 s20 s21 b19 => f ((s0, s1, s5, (), s20, s21, ()), (b19, ()))) (fun w0 w1 w2 w3 => ks.1 ((w0, w1, w2, (), ()), (w3, ())))
def f56_L8 {α : Type} (n m : Nat) (s0 : LR) (s1 s5 s20 s21 : Int) (b19 : LR) (k0 : LR → Int → Int → LR → Option α) : Option α := rounds (f56_L8U n) m ((s0, s1, s5, (), s20, s21, ()), (b19, ())) (fun w => k0 w.1.1 w.1.2.1 w.1.2.2.1 w.2.1, ())
theorem f56_L8_0 {α n s0 s1 s5 s20 s21 b19 k0} : f56_L8 (α := α) n 0 s0 s1 s5 s20 s21 b19 k0 = none := rfl
theorem f56_L8_s {α n m s0 s1 s5 s20 s21 b19 k0} : f56_L8 (α := α) n (m + 1) s0 s1 s5 s20 s21 b19 k0 = f56_L8B n s0 s1 s5 s20 s21 b19 (fun s0 s1 s5 s20 s21 b19 => f56_L8 n m s0 s1 s5 s20 s21 b19 k0) k0 := rfl
def f56_L4B {α : Type} (n : Nat) (s0 : LR) (s1 s5 : Int) (f : LR → Int → Int → Option α) (k0 : Bool → Option α) (k1 : Unit → Option α) : Option α :=
 bif (decide (s5 ≤ s1)) then
  f56_L8 n n s0 s1 s5 s5 0 []
   (fun z_3 z_4 z_5 z_6 => (
    ob (f40B n z_6 z_5 ()) fun r_7 =>
    ob (f39B n r_7) fun r_8 =>
    gd (Nat.beq r_8.2.length r_7.length && true) (
     ob (f103 n r_8.1) fun r_9 =>
     bif (decide (r_9 ≤ 0)) then
      k0 false
     else
      f z_3 z_4 (W (z_5 + 1)))))
 else
  k1 ()
abbrev f56_L4H : Tm := ⟨[(0, .d hRs), (1, .d hI), (5, .d hI)], [], [19, 310], []⟩
abbrev f56_L4X0 : Tm := ⟨[(4, .d .bool)], [], [19, 310], []⟩
abbrev f56_L4X1 : Tm := ⟨[], [], [], []⟩
abbrev f56_L4O : List (Exit × Tm) := [(.ret, f56_L4X0), (.exit 0, f56_L4X1)]
def f56_L4U {α : Type} (n : Nat) (v : f56_L4H.den) (f : f56_L4H.den → Option α) (ks : KS α f56_L4O) : Option α := f56_L4B n v.1.1 v.1.2.1 v.1.2.2.1 (fun s0 s1 s5 => f ((s0, s1, s5, ()), ())) (fun w0 => ks.1 ((w0, ()), ())) (fun _ => ks.2.1 ((), ()))
def f56_L4 {α : Type} (n m : Nat) (s0 : LR) (s1 s5 : Int) (k0 : Bool → Option α) (k1 : Unit → Option α) : Option α := rounds (f56_L4U n) m ((s0, s1, s5, ()), ()) (fun w => k0 w.1.1, fun w => k1 (), ())
theorem f56_L4_0 {α n s0 s1 s5 k0 k1} : f56_L4 (α := α) n 0 s0 s1 s5 k0 k1 = none := rfl
theorem f56_L4_s {α n m s0 s1 s5 k0 k1} : f56_L4 (α := α) n (m + 1) s0 s1 s5 k0 k1 = f56_L4B n s0 s1 s5 (fun s0 s1 s5 => f56_L4 n m s0 s1 s5 k0 k1) k0 k1 := rfl
def f56 (n : Nat) (a0 : LR) (a1 : Int) : Option Bool :=
 ob (f33 n a0 a1) fun r_1 =>
 ob (f102 n a0 r_1) fun r_2 =>
 bif (!r_2) then
  some false
 else
  f56_L4 n n a0 a1 1
   (fun z_10 => (
    some z_10))
   (fun (_ : Unit) => (
    some true))
def f56_E (n : Nat) : Ent := ⟨56, [hRs, hI], [.bool], fun x => f56 n x.1 x.2⟩
def f56_D (α : Type) (n : Nat) : D3 α := { reg := [(1, ⟨0, [], [(3, { ent := some (f33_E n) }), (4, { ent := some (f102_E n) })]⟩), (6, ⟨0, [], [(0, { sh := some hR })]⟩), (12, ⟨0, [], [(2, { entB := some (f40B_E n), hb := 310, fz := [(37, hRs)] }), (3, { entB := some (f39B_E n), hb := 320 }), (4, { ent := some (f103_E n) })]⟩)], join := [], loop := [(8, ⟨f56_L8H, f56_L8O, rounds (f56_L8U n) n⟩), (4, ⟨f56_L4H, f56_L4O, rounds (f56_L4U n) n⟩)] }
theorem f56_ents (α : Type) (n : Nat) : AllS Try.prog (entsOf (f56_D α n).reg) := ⟨f33_ok n, f102_ok n, f40B_ok n, f39B_ok n, f103_ok n, trivial⟩
theorem f56_L8_d (α : Type) (n : Nat) : D3.OK Try.prog (tyOf Try.prog) ⟨43, []⟩ (f56_D α n) ((bodyOf Try.f56).at [1, 1, 0, 1, 0, 0, 1, 0, 0, 1, 0, 1, 0, 0]) :=
 D3.OK.mk3 (f56_ents α n) (show loopsOf ((bodyOf Try.f56).at [1, 1, 0, 1, 0, 0, 1, 0, 0, 1, 0, 1, 0, 0]) = [] by kernel_rfl) trivial
theorem f56_L8_ok (α : Type) (n : Nat) : LO.Sound (α := α) Try.prog ⟨43, []⟩ ⟨f56_L8H, f56_L8O, rounds (f56_L8U n) n⟩ (.loop ((bodyOf Try.f56).at [1, 1, 0, 1, 0, 0, 1, 0, 0, 1, 0, 1, 0, 0])) :=
 loop_ok (tyOf_ok _) prog_fol (f56_L8U n) (f56_L8_d α n) (by intro v f ks; kernel_rfl) n
theorem f56_L4_d (α : Type) (n : Nat) : D3.OK Try.prog (tyOf Try.prog) ⟨43, []⟩ (f56_D α n) ((bodyOf Try.f56).at [1, 1, 0, 1, 0, 0]) :=
 D3.OK.mk3 (f56_ents α n) (show loopsOf ((bodyOf Try.f56).at [1, 1, 0, 1, 0, 0]) = [(8, (.loop ((bodyOf Try.f56).at [1, 1, 0, 1, 0, 0, 1, 0, 0, 1, 0, 1, 0, 0])))] by kernel_rfl) ⟨look_sound rfl (f56_L8_ok α n), trivial⟩
theorem f56_L4_ok (α : Type) (n : Nat) : LO.Sound (α := α) Try.prog ⟨43, []⟩ ⟨f56_L4H, f56_L4O, rounds (f56_L4U n) n⟩ (.loop ((bodyOf Try.f56).at [1, 1, 0, 1, 0, 0])) :=
 loop_ok (tyOf_ok _) prog_fol (f56_L4U n) (f56_L4_d α n) (by intro v f ks; kernel_rfl) n
theorem f56_d (α : Type) (n : Nat) : D3.OK Try.prog (tyOf Try.prog) ⟨43, []⟩ (f56_D α n) (bodyOf Try.f56) :=
 D3.OK.mk3 (f56_ents α n) (show loopsOf (bodyOf Try.f56) = [(4, (.loop ((bodyOf Try.f56).at [1, 1, 0, 1, 0, 0])))] by kernel_rfl) ⟨look_sound rfl (f56_L4_ok α n), trivial⟩
theorem f56_ok (n : Nat) : (f56_E n).Sound Try.prog :=
 fn_ok (tyOf_ok _) prog_fol (f56_D _ n) (show Try.prog.funcs[56]? = some Try.f56 by kernel_rfl) (by kernel_rfl) (show Try.f56.body = some (bodyOf Try.f56) by kernel_rfl) rfl rfl (Nat.le_of_ble_eq_true rfl) (f56_d _ n) (by intro x; kernel_rfl) 

def f24 (n : Nat) (a0 : LR) (a1 : Int) : Option (Bool × Int) :=
 ob (f32 n a1 [a0]) fun r_1 =>
 bif (r_1 != 0) then
  some (false, r_1)
 else
  ob (f56 n a0 a1) fun r_2 =>
  some (r_2, 0)
def f24_E (n : Nat) : Ent := ⟨24, [hRs, hI], [.bool, hI], fun x => f24 n x.1 x.2⟩
def f24_D (α : Type) (n : Nat) : D3 α := { reg := [(1, ⟨0, [], [(2, { sh := some hRs }), (3, { ent := some (f32_E n) })]⟩), (4, ⟨0, [], [(2, { ent := some (f56_E n) })]⟩)], join := [], loop := [] }
theorem f24_ents (α : Type) (n : Nat) : AllS Try.prog (entsOf (f24_D α n).reg) := ⟨f32_ok n, f56_ok n, trivial⟩
theorem f24_d (α : Type) (n : Nat) : D3.OK Try.prog (tyOf Try.prog) ⟨17, []⟩ (f24_D α n) (bodyOf Try.f24) :=
 D3.OK.mk3 (f24_ents α n) (show loopsOf (bodyOf Try.f24) = [] by kernel_rfl) trivial
theorem f24_ok (n : Nat) : (f24_E n).Sound Try.prog :=
 fn_ok (tyOf_ok _) prog_fol (f24_D _ n) (show Try.prog.funcs[24]? = some Try.f24 by kernel_rfl) (by kernel_rfl) (show Try.f24.body = some (bodyOf Try.f24) by kernel_rfl) rfl rfl (Nat.le_of_ble_eq_true rfl) (f24_d _ n) (by intro x; kernel_rfl) 

def f52_L4B {α : Type} (n : Nat) (s0 s1 : LI) (s5 : Int) (f : LI → LI → Int → Option α) (k0 : Bool → Option α) (k1 : Unit → Option α) : Option α :=
 bif (decide (s5 < (s0.length : Int))) then
  gd (decide (0 ≤ s5) && decide (s5 < (s0.length : Int))) (
   gd (decide (0 ≤ s5) && decide (s5 < (s1.length : Int))) (
    bif ((s0.getD s5.toNat 0) != (s1.getD s5.toNat 0)) then
     k0 false
    else
     f s0 s1 (W (s5 + 1))))
 else
  k1 ()
abbrev f52_L4H : Tm := ⟨[(0, .d hIs), (1, .d hIs), (5, .d hI)], [], [], []⟩
abbrev f52_L4X0 : Tm := ⟨[(4, .d .bool)], [], [], []⟩
abbrev f52_L4X1 : Tm := ⟨[], [], [], []⟩
abbrev f52_L4O : List (Exit × Tm) := [(.ret, f52_L4X0), (.exit 0, f52_L4X1)]
def f52_L4U {α : Type} (n : Nat) (v : f52_L4H.den) (f : f52_L4H.den → Option α) (ks : KS α f52_L4O) : Option α := f52_L4B n v.1.1 v.1.2.1 v.1.2.2.1 (fun s0 s1 s5 => f ((s0, s1, s5, ()), ())) (fun w0 => ks.1 ((w0, ()), ())) (fun _ => ks.2.1 ((), ()))
def f52_L4 {α : Type} (n m : Nat) (s0 s1 : LI) (s5 : Int) (k0 : Bool → Option α) (k1 : Unit → Option α) : Option α := rounds (f52_L4U n) m ((s0, s1, s5, ()), ()) (fun w => k0 w.1.1, fun w => k1 (), ())
theorem f52_L4_0 {α n s0 s1 s5 k0 k1} : f52_L4 (α := α) n 0 s0 s1 s5 k0 k1 = none := rfl
theorem f52_L4_s {α n m s0 s1 s5 k0 k1} : f52_L4 (α := α) n (m + 1) s0 s1 s5 k0 k1 = f52_L4B n s0 s1 s5 (fun s0 s1 s5 => f52_L4 n m s0 s1 s5 k0 k1) k0 k1 := rfl
def f52 (n : Nat) (a0 a1 : LI) : Option Bool :=
 bif ((a0.length : Int) != (a1.length : Int)) then
  some false
 else
  f52_L4 n n a0 a1 0
   (fun z_1 => (
    some z_1))
   (fun (_ : Unit) => (
    some true))
def f52_E (n : Nat) : Ent := ⟨52, [hIs, hIs], [.bool], fun x => f52 n x.1 x.2⟩
def f52_D (α : Type) (n : Nat) : D3 α := { reg := [(6, ⟨8, [], []⟩)], join := [], loop := [(4, ⟨f52_L4H, f52_L4O, rounds (f52_L4U n) n⟩)] }
theorem f52_ents (α : Type) (n : Nat) : AllS Try.prog (entsOf (f52_D α n).reg) := trivial
theorem f52_L4_d (α : Type) (n : Nat) : D3.OK Try.prog (tyOf Try.prog) ⟨26, []⟩ (f52_D α n) ((bodyOf Try.f52).at [1, 1, 0, 1, 0, 0]) :=
 D3.OK.mk3 (f52_ents α n) (show loopsOf ((bodyOf Try.f52).at [1, 1, 0, 1, 0, 0]) = [] by kernel_rfl) trivial
theorem f52_L4_ok (α : Type) (n : Nat) : LO.Sound (α := α) Try.prog ⟨26, []⟩ ⟨f52_L4H, f52_L4O, rounds (f52_L4U n) n⟩ (.loop ((bodyOf Try.f52).at [1, 1, 0, 1, 0, 0])) :=
 loop_ok (tyOf_ok _) prog_fol (f52_L4U n) (f52_L4_d α n) (by intro v f ks; kernel_rfl) n
theorem f52_d (α : Type) (n : Nat) : D3.OK Try.prog (tyOf Try.prog) ⟨26, []⟩ (f52_D α n) (bodyOf Try.f52) :=
 D3.OK.mk3 (f52_ents α n) (show loopsOf (bodyOf Try.f52) = [(4, (.loop ((bodyOf Try.f52).at [1, 1, 0, 1, 0, 0])))] by kernel_rfl) ⟨look_sound rfl (f52_L4_ok α n), trivial⟩
theorem f52_ok (n : Nat) : (f52_E n).Sound Try.prog :=
 fn_ok (tyOf_ok _) prog_fol (f52_D _ n) (show Try.prog.funcs[52]? = some Try.f52 by kernel_rfl) (by kernel_rfl) (show Try.f52.body = some (bodyOf Try.f52) by kernel_rfl) rfl rfl (Nat.le_of_ble_eq_true rfl) (f52_d _ n) (by intro x; kernel_rfl) 

def f18 (n : Nat) (a0 a1 : Rq) : Option Bool :=
 bif (!(a0.1 == a1.1)) then
  some false
 else
  ob (f52 n a0.2.1 a1.2.1) fun r_1 =>
  bif (!r_1) then
   some false
  else
   ob (f52 n a0.2.2 a1.2.2) fun r_2 =>
   bif (!r_2) then
    some false
   else
    some true
def f18_E (n : Nat) : Ent := ⟨18, [hR, hR], [.bool], fun x => f18 n x.1 x.2⟩
def f18_D (α : Type) (n : Nat) : D3 α := { reg := [(3, ⟨0, [], [(4, { ent := some (f52_E n) })]⟩), (5, ⟨0, [], [(4, { ent := some (f52_E n) })]⟩)], join := [], loop := [] }
theorem f18_ents (α : Type) (n : Nat) : AllS Try.prog (entsOf (f18_D α n).reg) := ⟨f52_ok n, f52_ok n, trivial⟩
theorem f18_d (α : Type) (n : Nat) : D3.OK Try.prog (tyOf Try.prog) ⟨22, []⟩ (f18_D α n) (bodyOf Try.f18) :=
 D3.OK.mk3 (f18_ents α n) (show loopsOf (bodyOf Try.f18) = [] by kernel_rfl) trivial
theorem f18_ok (n : Nat) : (f18_E n).Sound Try.prog :=
 fn_ok (tyOf_ok _) prog_fol (f18_D _ n) (show Try.prog.funcs[18]? = some Try.f18 by kernel_rfl) (by kernel_rfl) (show Try.f18.body = some (bodyOf Try.f18) by kernel_rfl) rfl rfl (Nat.le_of_ble_eq_true rfl) (f18_d _ n) (by intro x; kernel_rfl) 

def f19_L4B {α : Type} (n : Nat) (s0 s1 : LR) (s5 : Int) (f : LR → LR → Int → Option α) (k0 : Bool → Option α) (k1 : Unit → Option α) : Option α :=
 bif (decide (s5 < (s0.length : Int))) then
  gd (decide (0 ≤ s5) && decide (s5 < (s0.length : Int))) (
   let x_1 := s0.getD s5.toNat (false, [], [])
   gd (decide (0 ≤ s5) && decide (s5 < (s1.length : Int))) (
    let x_2 := s1.getD s5.toNat (false, [], [])
    ob (f18 n x_1 x_2) fun r_3 =>
    bif (!r_3) then
     k0 false
    else
     f s0 s1 (W (s5 + 1))))
 else
  k1 ()
abbrev f19_L4H : Tm := ⟨[(0, .d hRs), (1, .d hRs), (5, .d hI)], [], [], []⟩
abbrev f19_L4X0 : Tm := ⟨[(4, .d .bool)], [], [], []⟩
abbrev f19_L4X1 : Tm := ⟨[], [], [], []⟩
abbrev f19_L4O : List (Exit × Tm) := [(.ret, f19_L4X0), (.exit 0, f19_L4X1)]
def f19_L4U {α : Type} (n : Nat) (v : f19_L4H.den) (f : f19_L4H.den → Option α) (ks : KS α f19_L4O) : Option α := f19_L4B n v.1.1 v.1.2.1 v.1.2.2.1 (fun s0 s1 s5 => f ((s0, s1, s5, ()), ())) (fun w0 => ks.1 ((w0, ()), ())) (fun _ => ks.2.1 ((), ()))
def f19_L4 {α : Type} (n m : Nat) (s0 s1 : LR) (s5 : Int) (k0 : Bool → Option α) (k1 : Unit → Option α) : Option α := rounds (f19_L4U n) m ((s0, s1, s5, ()), ()) (fun w => k0 w.1.1, fun w => k1 (), ())
theorem f19_L4_0 {α n s0 s1 s5 k0 k1} : f19_L4 (α := α) n 0 s0 s1 s5 k0 k1 = none := rfl
theorem f19_L4_s {α n m s0 s1 s5 k0 k1} : f19_L4 (α := α) n (m + 1) s0 s1 s5 k0 k1 = f19_L4B n s0 s1 s5 (fun s0 s1 s5 => f19_L4 n m s0 s1 s5 k0 k1) k0 k1 := rfl
def f19 (n : Nat) (a0 a1 : LR) : Option Bool :=
 bif ((a0.length : Int) != (a1.length : Int)) then
  some false
 else
  f19_L4 n n a0 a1 0
   (fun z_4 => (
    some z_4))
   (fun (_ : Unit) => (
    some true))
def f19_E (n : Nat) : Ent := ⟨19, [hRs, hRs], [.bool], fun x => f19 n x.1 x.2⟩
def f19_D (α : Type) (n : Nat) : D3 α := { reg := [(6, ⟨8, [], [(8, { ent := some (f18_E n) })]⟩)], join := [], loop := [(4, ⟨f19_L4H, f19_L4O, rounds (f19_L4U n) n⟩)] }
theorem f19_ents (α : Type) (n : Nat) : AllS Try.prog (entsOf (f19_D α n).reg) := ⟨f18_ok n, trivial⟩
theorem f19_L4_d (α : Type) (n : Nat) : D3.OK Try.prog (tyOf Try.prog) ⟨27, []⟩ (f19_D α n) ((bodyOf Try.f19).at [1, 1, 0, 1, 0, 0]) :=
 D3.OK.mk3 (f19_ents α n) (show loopsOf ((bodyOf Try.f19).at [1, 1, 0, 1, 0, 0]) = [] by kernel_rfl) trivial
theorem f19_L4_ok (α : Type) (n : Nat) : LO.Sound (α := α) Try.prog ⟨27, []⟩ ⟨f19_L4H, f19_L4O, rounds (f19_L4U n) n⟩ (.loop ((bodyOf Try.f19).at [1, 1, 0, 1, 0, 0])) :=
 loop_ok (tyOf_ok _) prog_fol (f19_L4U n) (f19_L4_d α n) (by intro v f ks; kernel_rfl) n
theorem f19_d (α : Type) (n : Nat) : D3.OK Try.prog (tyOf Try.prog) ⟨27, []⟩ (f19_D α n) (bodyOf Try.f19) :=
 D3.OK.mk3 (f19_ents α n) (show loopsOf (bodyOf Try.f19) = [(4, (.loop ((bodyOf Try.f19).at [1, 1, 0, 1, 0, 0])))] by kernel_rfl) ⟨look_sound rfl (f19_L4_ok α n), trivial⟩
theorem f19_ok (n : Nat) : (f19_E n).Sound Try.prog :=
 fn_ok (tyOf_ok _) prog_fol (f19_D _ n) (show Try.prog.funcs[19]? = some Try.f19 by kernel_rfl) (by kernel_rfl) (show Try.f19.body = some (bodyOf Try.f19) by kernel_rfl) rfl rfl (Nat.le_of_ble_eq_true rfl) (f19_d _ n) (by intro x; kernel_rfl) 

def f5 (n : Nat) (a0 : LR) (a1 : Int) : Option Bool :=
 ob (f16 n a0 1048576) fun r_1 =>
 bif (decide (r_1 < 0)) then
  some true
 else
  ob (f17 n a0) fun r_2 =>
  ob (f23 n r_2 a1) fun r_3 =>
  ob (f17 n a0) fun r_4 =>
  ob (f24 n r_4 a1) fun r_5 =>
  bif (!(r_5.1 == r_3.1)) then
   some false
  else
   bif (r_5.2 != r_3.2) then
    some false
   else
    ob (f17 n a0) fun r_6 =>
    ob (f19 n r_4 r_6) fun r_7 =>
    bif (!r_7) then
     some false
    else
     some true
def f5_E (n : Nat) : Ent := ⟨5, [hRs, hI], [.bool], fun x => f5 n x.1 x.2⟩
def f5_D (α : Type) (n : Nat) : D3 α := { reg := [(2, ⟨0, [], [(2, { ent := some (f16_E n) })]⟩), (5, ⟨0, [], [(1, { ent := some (f17_E n) }), (3, { ent := some (f23_E n) })]⟩), (6, ⟨0, [], [(1, { ent := some (f17_E n) })]⟩), (7, ⟨0, [], [(2, { ent := some (f24_E n) })]⟩), (10, ⟨0, [], [(2, { ent := some (f17_E n) }), (3, { ent := some (f19_E n) })]⟩)], join := [], loop := [] }
theorem f5_ents (α : Type) (n : Nat) : AllS Try.prog (entsOf (f5_D α n).reg) := ⟨f16_ok n, f17_ok n, f23_ok n, f17_ok n, f24_ok n, f17_ok n, f19_ok n, trivial⟩
theorem f5_d (α : Type) (n : Nat) : D3.OK Try.prog (tyOf Try.prog) ⟨44, []⟩ (f5_D α n) (bodyOf Try.f5) :=
 D3.OK.mk3 (f5_ents α n) (show loopsOf (bodyOf Try.f5) = [] by kernel_rfl) trivial
theorem f5_ok (n : Nat) : (f5_E n).Sound Try.prog :=
 fn_ok (tyOf_ok _) prog_fol (f5_D _ n) (show Try.prog.funcs[5]? = some Try.f5 by kernel_rfl) (by kernel_rfl) (show Try.f5.body = some (bodyOf Try.f5) by kernel_rfl) rfl rfl (Nat.le_of_ble_eq_true rfl) (f5_d _ n) (by intro x; kernel_rfl) 

end Go.Ev
