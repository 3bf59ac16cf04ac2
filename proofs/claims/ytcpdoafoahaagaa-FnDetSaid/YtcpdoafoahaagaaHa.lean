/- DERIVED. What the functions compute, and that they do. -/
import Derived.Test.YtcpdoafoahaagaaEe

set_option linter.all false
set_option linter.unusedVariables false
set_option linter.unusedSimpArgs false

namespace Go.Ev
open Go Go.Proofs Go.RowKit Go.Shelf
def f7 (n : Nat) (a0 : LI) (a1 a2 : Int) : Option Int :=
 bif (decide (a2 ≤ 1)) then
  some 0
 else
  bif ((a0.length : Int) == 0) then
   gd (decide (a2 ≠ 0)) (
    some (Int.tmod (W (a1 * 7)) a2))
  else
   gd (decide ((a0.length : Int) ≠ 0)) (
    gd (decide (0 ≤ (Int.tmod a1 (a0.length : Int))) && decide ((Int.tmod a1 (a0.length : Int)) < (a0.length : Int))) (
     gd (decide ((a0.length : Int) ≠ 0)) (
      gd (decide (0 ≤ (Int.tmod (W (a1 + 1)) (a0.length : Int))) && decide ((Int.tmod (W (a1 + 1)) (a0.length : Int)) < (a0.length : Int))) (
       gd (decide ((a0.length : Int) ≠ 0)) (
        gd (decide (a2 ≠ 0)) (
         some (Int.tmod (W ((W ((W ((W (a0.getD ((Int.tmod a1 (a0.length : Int)).toNat) 0)) * 31)) + (W (a0.getD ((Int.tmod (W (a1 + 1)) (a0.length : Int)).toNat) 0)))) + (W (Int.tdiv a1 (a0.length : Int))))) a2)))))))
def f7_E (n : Nat) : Ent := ⟨7, [(.sl (.int .u8)), hI, hI], [hI], fun x => f7 n x.1 x.2.1 x.2.2⟩
def f7_D (α : Type) (n : Nat) : D3 α := { reg := [(5, ⟨25, [], []⟩)], join := [], loop := [] }
theorem f7_ents (α : Type) (n : Nat) : AllS Try.prog (entsOf (f7_D α n).reg) := trivial
theorem f7_d (α : Type) (n : Nat) : D3.OK Try.prog (tyOf Try.prog) ⟨42, []⟩ (f7_D α n) (bodyOf Try.f7) :=
 D3.OK.mk3 (f7_ents α n) (show loopsOf (bodyOf Try.f7) = [] by kernel_rfl) trivial
theorem f7_ok (n : Nat) : (f7_E n).Sound Try.prog :=
 fn_ok (tyOf_ok _) prog_fol (f7_D _ n) (show Try.prog.funcs[7]? = some Try.f7 by kernel_rfl) (by kernel_rfl) (show Try.f7.body = some (bodyOf Try.f7) by kernel_rfl) rfl rfl (Nat.le_of_ble_eq_true rfl) (f7_d _ n) (by intro x; kernel_rfl) 

def f30B (n : Nat) (a0 : LI) : Option (LI × Int × Int) :=
 some (a0, 0, (Int.tmod (a0.length : Int) 1000))
def f30B_E (n : Nat) : Ent3 := ⟨30, [.im (.sl (.int .u8))], [[.one (.ptr 94 (.st (.pair (.sl (.int .u8)) (.pair hI hI))))]], fun x => f30B n x⟩
def f30B_D (α : Type) (n : Nat) : D3 α := { reg := [], join := [], loop := [] }
theorem f30B_ents (α : Type) (n : Nat) : AllS Try.prog (entsOf (f30B_D α n).reg) := trivial
theorem f30B_d (α : Type) (n : Nat) : D3.OK Try.prog (tyOf Try.prog) ⟨9, []⟩ (f30B_D α n) (bodyOf Try.f30) :=
 D3.OK.mk3 (f30B_ents α n) (show loopsOf (bodyOf Try.f30) = [] by kernel_rfl) trivial
theorem f30B_ok (n : Nat) : (f30B_E n).Sound Try.prog :=
 fn_okB (tyOf_ok _) prog_fol (f30B_D _ n) (show Try.prog.funcs[30]? = some Try.f30 by kernel_rfl) (by kernel_rfl) (show Try.f30.body = some (bodyOf Try.f30) by kernel_rfl) rfl rfl (Nat.le_of_ble_eq_true rfl) (f30B_d _ n) (by intro x; kernel_rfl) 

def f112B (n : Nat) (a0 : LI × Int × Int) : Option (Int × (LI × Int × Int)) :=
 bif (decide ((W (a0.2.1 + 1)) ≤ (a0.1.length : Int))) then
  gd (decide (0 ≤ (W ((W (a0.2.1 + 1)) - 1))) && decide ((W ((W (a0.2.1 + 1)) - 1)) < (a0.1.length : Int))) (
   gd (decide (0 ≤ (W ((W (a0.2.1 + 1)) - 1))) && decide ((W ((W (a0.2.1 + 1)) - 1)) < (a0.1.length : Int))) (
    some ((W (a0.1.getD ((W ((W (a0.2.1 + 1)) - 1)).toNat) 0)), (a0.1, (W (a0.2.1 + 1)), (Int.tmod (W ((W ((W (a0.2.2 * 31)) + (W (a0.1.getD ((W ((W (a0.2.1 + 1)) - 1)).toNat) 0)))) + 7)) 2147483648)))))
 else
  bif (decide ((W (a0.2.1 + 1)) > 3000)) then
   some (0, (a0.1, (W (a0.2.1 + 1)), a0.2.2))
  else
   some ((Int.tmod (W (Int.tdiv (Int.tmod (W ((W (a0.2.2 * 1103515245)) + 12345)) 2147483648) 65536)) 256), (a0.1, (W (a0.2.1 + 1)), (Int.tmod (W ((W (a0.2.2 * 1103515245)) + 12345)) 2147483648)))
def f112B_E (n : Nat) : Ent3 := ⟨112, [.one (.ptr 94 (.st (.pair (.sl (.int .u8)) (.pair hI hI))))], [[.im hI]], fun x => f112B n x⟩
def f112B_D (α : Type) (n : Nat) : D3 α := { reg := [(2, ⟨9, [], []⟩), (3, ⟨21, [], []⟩), (4, ⟨9, [], []⟩)], join := [], loop := [] }
theorem f112B_ents (α : Type) (n : Nat) : AllS Try.prog (entsOf (f112B_D α n).reg) := trivial
theorem f112B_d (α : Type) (n : Nat) : D3.OK Try.prog (tyOf Try.prog) ⟨76, []⟩ (f112B_D α n) (bodyOf Try.f112) :=
 D3.OK.mk3 (f112B_ents α n) (show loopsOf (bodyOf Try.f112) = [] by kernel_rfl) trivial
theorem f112B_ok (n : Nat) : (f112B_E n).Sound Try.prog :=
 fn_okB (tyOf_ok _) prog_fol (f112B_D _ n) (show Try.prog.funcs[112]? = some Try.f112 by kernel_rfl) (by kernel_rfl) (show Try.f112.body = some (bodyOf Try.f112) by kernel_rfl) rfl rfl (Nat.le_of_ble_eq_true rfl) (f112B_d _ n) (by intro x; kernel_rfl) 

def f65B (n : Nat) (a0 : LI × Int × Int) (a1 : Int) : Option (Int × (LI × Int × Int)) :=
 bif (decide (a1 ≤ 1)) then
  some (0, a0)
 else
  bif (decide (a1 ≤ 256)) then
   ob (f112B n a0) fun r_1 =>
   gd (decide (a1 ≠ 0)) (
    some ((Int.tmod r_1.1 a1), r_1.2))
  else
   ob (f112B n a0) fun r_2 =>
   ob (f112B n r_2.2) fun r_3 =>
   ob (f112B n r_3.2) fun r_4 =>
   gd (decide (a1 ≠ 0)) (
    some ((Int.tmod (W ((W ((W (r_2.1 * 65536)) + (W (r_3.1 * 256)))) + r_4.1)) a1), r_4.2))
def f65B_E (n : Nat) : Ent3 := ⟨65, [.one (.ptr 94 (.st (.pair (.sl (.int .u8)) (.pair hI hI)))), .im hI], [[.im hI]], fun x => f65B n x.1 x.2⟩
def f65B_D (α : Type) (n : Nat) : D3 α := { reg := [(4, ⟨0, [], [(1, { entB := some (f112B_E n), hb := 310 })]⟩), (5, ⟨0, [], [(1, { entB := some (f112B_E n), hb := 320 })]⟩), (6, ⟨0, [], [(1, { entB := some (f112B_E n), hb := 330 })]⟩), (7, ⟨0, [], [(1, { entB := some (f112B_E n), hb := 340 })]⟩)], join := [], loop := [] }
theorem f65B_ents (α : Type) (n : Nat) : AllS Try.prog (entsOf (f65B_D α n).reg) := ⟨f112B_ok n, f112B_ok n, f112B_ok n, f112B_ok n, trivial⟩
theorem f65B_d (α : Type) (n : Nat) : D3.OK Try.prog (tyOf Try.prog) ⟨31, []⟩ (f65B_D α n) (bodyOf Try.f65) :=
 D3.OK.mk3 (f65B_ents α n) (show loopsOf (bodyOf Try.f65) = [] by kernel_rfl) trivial
theorem f65B_ok (n : Nat) : (f65B_E n).Sound Try.prog :=
 fn_okB (tyOf_ok _) prog_fol (f65B_D _ n) (show Try.prog.funcs[65]? = some Try.f65 by kernel_rfl) (by kernel_rfl) (show Try.f65.body = some (bodyOf Try.f65) by kernel_rfl) rfl rfl (Nat.le_of_ble_eq_true rfl) (f65B_d _ n) (by intro x; kernel_rfl) 

def f111_L2B {α : Type} (n : Nat) (s0 : Int) (b4 : LI) (f : Int → LI → Option α) (k0 : LI → Option α) : Option α :=
 bif (decide (s0 > 0)) then
  gd (decide ((b4.length + 1) * 8 ≤ 140737488355328)) (
   f (W (Int.tdiv s0 10000)) (b4 ++ [(Int.tmod s0 10000)]))
 else
  k0 b4
abbrev f111_L2H : Tm := ⟨[(0, .d hI), (3, .k (.hw 4))], [(4, .arr 3 hI false)], [10], []⟩
abbrev f111_L2X0 : Tm := ⟨[(3, .k (.hw 4))], [(4, .arr 3 hI false)], [], []⟩
abbrev f111_L2O : List (Exit × Tm) := [(.exit 0, f111_L2X0)]
def f111_L2U {α : Type} (n : Nat) (v : f111_L2H.den) (f : f111_L2H.den → Option α) (ks : KS α f111_L2O) : Option α := f111_L2B n v.1.1 v.2.1 (fun s0 b4 => f ((s0, (), ()), (b4, ()))) (fun w0 => ks.1 (((), ()), (w0, ())))
def f111_L2 {α : Type} (n m : Nat) (s0 : Int) (b4 : LI) (k0 : LI → Option α) : Option α := rounds (f111_L2U n) m ((s0, (), ()), (b4, ())) (fun w => k0 w.2.1, ())
theorem f111_L2_0 {α n s0 b4 k0} : f111_L2 (α := α) n 0 s0 b4 k0 = none := rfl
theorem f111_L2_s {α n m s0 b4 k0} : f111_L2 (α := α) n (m + 1) s0 b4 k0 = f111_L2B n s0 b4 (fun s0 b4 => f111_L2 n m s0 b4 k0) k0 := rfl
def f111 (n : Nat) (a0 : Int) : Option LI :=
 f111_L2 n n a0 []
  (fun z_1 => (
   some z_1))
def f111_E (n : Nat) : Ent := ⟨111, [hI], [hIs], fun x => f111 n x⟩
def f111_D (α : Type) (n : Nat) : D3 α := { reg := [(1, ⟨0, [], [(0, { sh := some hI })]⟩), (3, ⟨0, [], [(3, { sh := some hI })]⟩)], join := [], loop := [(2, ⟨f111_L2H, f111_L2O, rounds (f111_L2U n) n⟩)] }
theorem f111_ents (α : Type) (n : Nat) : AllS Try.prog (entsOf (f111_D α n).reg) := trivial
theorem f111_L2_d (α : Type) (n : Nat) : D3.OK Try.prog (tyOf Try.prog) ⟨15, []⟩ (f111_D α n) ((bodyOf Try.f111).at [1, 1, 0, 0, 0]) :=
 D3.OK.mk3 (f111_ents α n) (show loopsOf ((bodyOf Try.f111).at [1, 1, 0, 0, 0]) = [] by kernel_rfl) trivial
theorem f111_L2_ok (α : Type) (n : Nat) : LO.Sound (α := α) Try.prog ⟨15, []⟩ ⟨f111_L2H, f111_L2O, rounds (f111_L2U n) n⟩ (.loop ((bodyOf Try.f111).at [1, 1, 0, 0, 0])) :=
 loop_ok (tyOf_ok _) prog_fol (f111_L2U n) (f111_L2_d α n) (by intro v f ks; kernel_rfl) n
theorem f111_d (α : Type) (n : Nat) : D3.OK Try.prog (tyOf Try.prog) ⟨15, []⟩ (f111_D α n) (bodyOf Try.f111) :=
 D3.OK.mk3 (f111_ents α n) (show loopsOf (bodyOf Try.f111) = [(2, (.loop ((bodyOf Try.f111).at [1, 1, 0, 0, 0])))] by kernel_rfl) ⟨look_sound rfl (f111_L2_ok α n), trivial⟩
theorem f111_ok (n : Nat) : (f111_E n).Sound Try.prog :=
 fn_ok (tyOf_ok _) prog_fol (f111_D _ n) (show Try.prog.funcs[111]? = some Try.f111 by kernel_rfl) (by kernel_rfl) (show Try.f111.body = some (bodyOf Try.f111) by kernel_rfl) rfl rfl (Nat.le_of_ble_eq_true rfl) (f111_d _ n) (by intro x; kernel_rfl) 

def f64 (n : Nat) (a0 : Int) : Option Rq :=
 bif (decide (a0 < 0)) then
  ob (f111 n (W (0 - a0))) fun r_1 =>
  some (true, r_1, [1])
 else
  ob (f111 n a0) fun r_2 =>
  some (false, r_2, [1])
def f64_E (n : Nat) : Ent := ⟨64, [hI], [hR], fun x => f64 n x⟩
def f64_D (α : Type) (n : Nat) : D3 α := { reg := [(2, ⟨0, [], [(2, { ent := some (f111_E n) }), (3, { sh := some hI })]⟩), (3, ⟨0, [], [(1, { ent := some (f111_E n) }), (2, { sh := some hI })]⟩)], join := [], loop := [] }
theorem f64_ents (α : Type) (n : Nat) : AllS Try.prog (entsOf (f64_D α n).reg) := ⟨f111_ok n, f111_ok n, trivial⟩
theorem f64_d (α : Type) (n : Nat) : D3.OK Try.prog (tyOf Try.prog) ⟨14, []⟩ (f64_D α n) (bodyOf Try.f64) :=
 D3.OK.mk3 (f64_ents α n) (show loopsOf (bodyOf Try.f64) = [] by kernel_rfl) trivial
theorem f64_ok (n : Nat) : (f64_E n).Sound Try.prog :=
 fn_ok (tyOf_ok _) prog_fol (f64_D _ n) (show Try.prog.funcs[64]? = some Try.f64 by kernel_rfl) (by kernel_rfl) (show Try.f64.body = some (bodyOf Try.f64) by kernel_rfl) rfl rfl (Nat.le_of_ble_eq_true rfl) (f64_d _ n) (by intro x; kernel_rfl) 

def f31B_L3B {α : Type} (n : Nat) (s1 s6 : Int) (b7 : LR) (c1000_0 : LI) (c1000_1 c1000_2 : Int) (f : Int → Int → LR → LI → Int → Int → Option α) (k0 : LR → LI → Int → Int → Option α) : Option α :=
 bif (decide (s6 < (W (s1 * s1)))) then
  ob (f65B n (c1000_0, c1000_1, c1000_2) 7) fun r_1 =>
  ob (f64 n (W (r_1.1 - 3))) fun r_2 =>
  gd (decide ((b7.length + 1) * 56 ≤ 140737488355328)) (
   f s1 (W (s6 + 1)) (b7 ++ [r_2]) r_1.2.1 r_1.2.2.1 r_1.2.2.2)
 else
  k0 b7 c1000_0 c1000_1 c1000_2
abbrev f31B_L3H : Tm := ⟨[(0, .k (.hp 1000 0 0)), (1, .d hI), (5, .k (.hw 7)), (6, .d hI)], [(7, .arr 31 hR false), (1000, .var 94 true false [.d (.sl (.int .u8)), .d hI, .d hI])], [20], []⟩
abbrev f31B_L3X0 : Tm := ⟨[(5, .k (.hw 7))], [(7, .arr 31 hR false), (1000, .var 94 true false [.d (.sl (.int .u8)), .d hI, .d hI])], [], []⟩
abbrev f31B_L3O : List (Exit × Tm) := [(.exit 0, f31B_L3X0)]
def f31B_L3U {α : Type} (n : Nat) (v : f31B_L3H.den) (f : f31B_L3H.den → Option α) (ks : KS α f31B_L3O) : Option α := f31B_L3B n v.1.2.1 v.1.2.2.2.1 v.2.1 v.2.2.1.1 v.2.2.1.2.1 v.2.2.1.2.2.1 (fun s1 s6 b7 c1000_0 c1000_1 c1000_2 => f (((), s1, (), s6, ()), (b7, (c1000_0, c1000_1, c1000_2, ()), ()))) (fun w0 w1 w2 w3 => ks.1 (((), ()), (w0, (w1, w2, w3, ()), ())))
def f31B_L3 {α : Type} (n m : Nat) (s1 s6 : Int) (b7 : LR) (c1000_0 : LI) (c1000_1 c1000_2 : Int) (k0 : LR → LI → Int → Int → Option α) : Option α := rounds (f31B_L3U n) m (((), s1, (), s6, ()), (b7, (c1000_0, c1000_1, c1000_2, ()), ())) (fun w => k0 w.2.1 w.2.2.1.1 w.2.2.1.2.1 w.2.2.1.2.2.1, ())
theorem f31B_L3_0 {α n s1 s6 b7 c1000_0 c1000_1 c1000_2 k0} : f31B_L3 (α := α) n 0 s1 s6 b7 c1000_0 c1000_1 c1000_2 k0 = none := rfl
theorem f31B_L3_s {α n m s1 s6 b7 c1000_0 c1000_1 c1000_2 k0} : f31B_L3 (α := α) n (m + 1) s1 s6 b7 c1000_0 c1000_1 c1000_2 k0 = f31B_L3B n s1 s6 b7 c1000_0 c1000_1 c1000_2 (fun s1 s6 b7 c1000_0 c1000_1 c1000_2 => f31B_L3 n m s1 s6 b7 c1000_0 c1000_1 c1000_2 k0) k0 := rfl
def f31B (n : Nat) (a0 : LI × Int × Int) (a1 : Int) : Option (LR × (LI × Int × Int)) :=
 f31B_L3 n n a1 0 [] a0.1 a0.2.1 a0.2.2
  (fun z_3 z_4 z_5 z_6 => (
   some (z_3, (z_4, z_5, z_6))))
def f31B_E (n : Nat) : Ent3 := ⟨31, [.one (.ptr 94 (.st (.pair (.sl (.int .u8)) (.pair hI hI)))), .im hI], [[.im hRs]], fun x => f31B n x.1 x.2⟩
def f31B_D (α : Type) (n : Nat) : D3 α := { reg := [(1, ⟨0, [], [(0, { sh := some hR })]⟩), (5, ⟨0, [], [(2, { entB := some (f65B_E n), hb := 310 }), (4, { ent := some (f64_E n) }), (5, { sh := some hR })]⟩)], join := [], loop := [(3, ⟨f31B_L3H, f31B_L3O, rounds (f31B_L3U n) n⟩)] }
theorem f31B_ents (α : Type) (n : Nat) : AllS Try.prog (entsOf (f31B_D α n).reg) := ⟨f65B_ok n, f64_ok n, trivial⟩
theorem f31B_L3_d (α : Type) (n : Nat) : D3.OK Try.prog (tyOf Try.prog) ⟨23, []⟩ (f31B_D α n) ((bodyOf Try.f31).at [1, 1, 0, 1, 0, 0]) :=
 D3.OK.mk3 (f31B_ents α n) (show loopsOf ((bodyOf Try.f31).at [1, 1, 0, 1, 0, 0]) = [] by kernel_rfl) trivial
theorem f31B_L3_ok (α : Type) (n : Nat) : LO.Sound (α := α) Try.prog ⟨23, []⟩ ⟨f31B_L3H, f31B_L3O, rounds (f31B_L3U n) n⟩ (.loop ((bodyOf Try.f31).at [1, 1, 0, 1, 0, 0])) :=
 loop_ok (tyOf_ok _) prog_fol (f31B_L3U n) (f31B_L3_d α n) (by intro v f ks; kernel_rfl) n
theorem f31B_d (α : Type) (n : Nat) : D3.OK Try.prog (tyOf Try.prog) ⟨23, []⟩ (f31B_D α n) (bodyOf Try.f31) :=
 D3.OK.mk3 (f31B_ents α n) (show loopsOf (bodyOf Try.f31) = [(3, (.loop ((bodyOf Try.f31).at [1, 1, 0, 1, 0, 0])))] by kernel_rfl) ⟨look_sound rfl (f31B_L3_ok α n), trivial⟩
theorem f31B_ok (n : Nat) : (f31B_E n).Sound Try.prog :=
 fn_okB (tyOf_ok _) prog_fol (f31B_D _ n) (show Try.prog.funcs[31]? = some Try.f31 by kernel_rfl) (by kernel_rfl) (show Try.f31.body = some (bodyOf Try.f31) by kernel_rfl) rfl rfl (Nat.le_of_ble_eq_true rfl) (f31B_d _ n) (by intro x; kernel_rfl) 

def f8 (n : Nat) (a0 : LI) (a1 : Int) : Option LR :=
 ob (f30B n a0) fun r_1 =>
 ob (f31B n r_1 a1) fun r_2 =>
 some r_2.1
def f8_E (n : Nat) : Ent := ⟨8, [(.sl (.int .u8)), hI], [hRs], fun x => f8 n x.1 x.2⟩
def f8_D (α : Type) (n : Nat) : D3 α := { reg := [(1, ⟨0, [], [(1, { entB := some (f30B_E n), hb := 310 }), (3, { entB := some (f31B_E n), hb := 320 })]⟩)], join := [], loop := [] }
theorem f8_ents (α : Type) (n : Nat) : AllS Try.prog (entsOf (f8_D α n).reg) := ⟨f30B_ok n, f31B_ok n, trivial⟩
theorem f8_d (α : Type) (n : Nat) : D3.OK Try.prog (tyOf Try.prog) ⟨9, []⟩ (f8_D α n) (bodyOf Try.f8) :=
 D3.OK.mk3 (f8_ents α n) (show loopsOf (bodyOf Try.f8) = [] by kernel_rfl) trivial
theorem f8_ok (n : Nat) : (f8_E n).Sound Try.prog :=
 fn_ok (tyOf_ok _) prog_fol (f8_D _ n) (show Try.prog.funcs[8]? = some Try.f8 by kernel_rfl) (by kernel_rfl) (show Try.f8.body = some (bodyOf Try.f8) by kernel_rfl) rfl rfl (Nat.le_of_ble_eq_true rfl) (f8_d _ n) (by intro x; kernel_rfl) 

def f113_L2B {α : Type} (n : Nat) (s0 : Int) (s7 : LI) (s8 s9 : Int) (f : Int → LI → Int → Int → Option α) (k0 : Int → Option α) (k1 : Unit → Option α) : Option α :=
 bif (decide (s9 < s8)) then
  gd (decide (0 ≤ s9) && decide (s9 < (s7.length : Int))) (
   bif (decide ((s7.getD s9.toNat 0) > s0)) then
    k0 2
   else
    f s0 s7 s8 (W (s9 + 1)))
 else
  k1 ()
abbrev f113_L2H : Tm := ⟨[(0, .d hI), (7, .d hIs), (8, .d hI), (9, .d hI)], [], [], []⟩
abbrev f113_L2X0 : Tm := ⟨[(4, .d hI)], [], [], []⟩
abbrev f113_L2X1 : Tm := ⟨[], [], [], []⟩
abbrev f113_L2O : List (Exit × Tm) := [(.ret, f113_L2X0), (.exit 0, f113_L2X1)]
def f113_L2U {α : Type} (n : Nat) (v : f113_L2H.den) (f : f113_L2H.den → Option α) (ks : KS α f113_L2O) : Option α := f113_L2B n v.1.1 v.1.2.1 v.1.2.2.1 v.1.2.2.2.1 (fun s0 s7 s8 s9 => f ((s0, s7, s8, s9, ()), ())) (fun w0 => ks.1 ((w0, ()), ())) (fun _ => ks.2.1 ((), ()))
def f113_L2 {α : Type} (n m : Nat) (s0 : Int) (s7 : LI) (s8 s9 : Int) (k0 : Int → Option α) (k1 : Unit → Option α) : Option α := rounds (f113_L2U n) m ((s0, s7, s8, s9, ()), ()) (fun w => k0 w.1.1, fun w => k1 (), ())
theorem f113_L2_0 {α n s0 s7 s8 s9 k0 k1} : f113_L2 (α := α) n 0 s0 s7 s8 s9 k0 k1 = none := rfl
theorem f113_L2_s {α n m s0 s7 s8 s9 k0 k1} : f113_L2 (α := α) n (m + 1) s0 s7 s8 s9 k0 k1 = f113_L2B n s0 s7 s8 s9 (fun s0 s7 s8 s9 => f113_L2 n m s0 s7 s8 s9 k0 k1) k0 k1 := rfl
def f113 (n : Nat) (a0 : Int) (a1 : LI) : Option Int :=
 f113_L2 n n a0 a1 (a1.length : Int) 0
  (fun z_1 => (
   some z_1))
  (fun (_ : Unit) => (
   some 0))
def f113_E (n : Nat) : Ent := ⟨113, [hI, hIs], [hI], fun x => f113 n x.1 x.2⟩
def f113_D (α : Type) (n : Nat) : D3 α := { reg := [], join := [], loop := [(2, ⟨f113_L2H, f113_L2O, rounds (f113_L2U n) n⟩)] }
theorem f113_ents (α : Type) (n : Nat) : AllS Try.prog (entsOf (f113_D α n).reg) := trivial
theorem f113_L2_d (α : Type) (n : Nat) : D3.OK Try.prog (tyOf Try.prog) ⟨17, []⟩ (f113_D α n) ((bodyOf Try.f113).at [1, 0, 1, 0, 0]) :=
 D3.OK.mk3 (f113_ents α n) (show loopsOf ((bodyOf Try.f113).at [1, 0, 1, 0, 0]) = [] by kernel_rfl) trivial
theorem f113_L2_ok (α : Type) (n : Nat) : LO.Sound (α := α) Try.prog ⟨17, []⟩ ⟨f113_L2H, f113_L2O, rounds (f113_L2U n) n⟩ (.loop ((bodyOf Try.f113).at [1, 0, 1, 0, 0])) :=
 loop_ok (tyOf_ok _) prog_fol (f113_L2U n) (f113_L2_d α n) (by intro v f ks; kernel_rfl) n
theorem f113_d (α : Type) (n : Nat) : D3.OK Try.prog (tyOf Try.prog) ⟨17, []⟩ (f113_D α n) (bodyOf Try.f113) :=
 D3.OK.mk3 (f113_ents α n) (show loopsOf (bodyOf Try.f113) = [(2, (.loop ((bodyOf Try.f113).at [1, 0, 1, 0, 0])))] by kernel_rfl) ⟨look_sound rfl (f113_L2_ok α n), trivial⟩
theorem f113_ok (n : Nat) : (f113_E n).Sound Try.prog :=
 fn_ok (tyOf_ok _) prog_fol (f113_D _ n) (show Try.prog.funcs[113]? = some Try.f113 by kernel_rfl) (by kernel_rfl) (show Try.f113.body = some (bodyOf Try.f113) by kernel_rfl) rfl rfl (Nat.le_of_ble_eq_true rfl) (f113_d _ n) (by intro x; kernel_rfl) 

def f67_L3B {α : Type} (n : Nat) (s7 : List LR) (s8 s9 : Int) (b6 : LI) (f : (List LR) → Int → Int → LI → Option α) (k0 : LI → Option α) : Option α :=
 bif (decide (s9 < s8)) then
  gd (decide (0 ≤ s9) && decide (s9 < (s7.length : Int))) (
   gd (decide ((b6.length + 1) * 8 ≤ 140737488355328)) (
    f s7 s8 (W (s9 + 1)) (b6 ++ [(((s7.getD s9.toNat []).length : Nat) : Int)])))
 else
  k0 b6
abbrev f67_L3H : Tm := ⟨[(3, .k (.hw 6)), (7, .d (.sl hRs)), (8, .d hI), (9, .d hI)], [(6, .arr 3 hI false)], [16], []⟩
abbrev f67_L3X0 : Tm := ⟨[(3, .k (.hw 6))], [(6, .arr 3 hI false)], [], []⟩
abbrev f67_L3O : List (Exit × Tm) := [(.exit 0, f67_L3X0)]
def f67_L3U {α : Type} (n : Nat) (v : f67_L3H.den) (f : f67_L3H.den → Option α) (ks : KS α f67_L3O) : Option α := f67_L3B n v.1.2.1 v.1.2.2.1 v.1.2.2.2.1 v.2.1 (fun s7 s8 s9 b6 => f (((), s7, s8, s9, ()), (b6, ()))) (fun w0 => ks.1 (((), ()), (w0, ())))
def f67_L3 {α : Type} (n m : Nat) (s7 : List LR) (s8 s9 : Int) (b6 : LI) (k0 : LI → Option α) : Option α := rounds (f67_L3U n) m (((), s7, s8, s9, ()), (b6, ())) (fun w => k0 w.2.1, ())
theorem f67_L3_0 {α n s7 s8 s9 b6 k0} : f67_L3 (α := α) n 0 s7 s8 s9 b6 k0 = none := rfl
theorem f67_L3_s {α n m s7 s8 s9 b6 k0} : f67_L3 (α := α) n (m + 1) s7 s8 s9 b6 k0 = f67_L3B n s7 s8 s9 b6 (fun s7 s8 s9 b6 => f67_L3 n m s7 s8 s9 b6 k0) k0 := rfl
def f67 (n : Nat) (a0 : List LR) : Option Int :=
 f67_L3 n n a0 (a0.length : Int) 0 []
  (fun z_1 => (
   ob (f113 n 4096 z_1) fun r_2 =>
   some r_2))
def f67_E (n : Nat) : Ent := ⟨67, [(.sl hRs)], [hI], fun x => f67 n x⟩
def f67_D (α : Type) (n : Nat) : D3 α := { reg := [(1, ⟨0, [], [(0, { sh := some hI })]⟩), (5, ⟨0, [], [(3, { sh := some hI })]⟩), (7, ⟨0, [], [(1, { ent := some (f113_E n) })]⟩)], join := [], loop := [(3, ⟨f67_L3H, f67_L3O, rounds (f67_L3U n) n⟩)] }
theorem f67_ents (α : Type) (n : Nat) : AllS Try.prog (entsOf (f67_D α n).reg) := ⟨f113_ok n, trivial⟩
theorem f67_L3_d (α : Type) (n : Nat) : D3.OK Try.prog (tyOf Try.prog) ⟨21, []⟩ (f67_D α n) ((bodyOf Try.f67).at [1, 1, 0, 1, 0, 0]) :=
 D3.OK.mk3 (f67_ents α n) (show loopsOf ((bodyOf Try.f67).at [1, 1, 0, 1, 0, 0]) = [] by kernel_rfl) trivial
theorem f67_L3_ok (α : Type) (n : Nat) : LO.Sound (α := α) Try.prog ⟨21, []⟩ ⟨f67_L3H, f67_L3O, rounds (f67_L3U n) n⟩ (.loop ((bodyOf Try.f67).at [1, 1, 0, 1, 0, 0])) :=
 loop_ok (tyOf_ok _) prog_fol (f67_L3U n) (f67_L3_d α n) (by intro v f ks; kernel_rfl) n
theorem f67_d (α : Type) (n : Nat) : D3.OK Try.prog (tyOf Try.prog) ⟨21, []⟩ (f67_D α n) (bodyOf Try.f67) :=
 D3.OK.mk3 (f67_ents α n) (show loopsOf (bodyOf Try.f67) = [(3, (.loop ((bodyOf Try.f67).at [1, 1, 0, 1, 0, 0])))] by kernel_rfl) ⟨look_sound rfl (f67_L3_ok α n), trivial⟩
theorem f67_ok (n : Nat) : (f67_E n).Sound Try.prog :=
 fn_ok (tyOf_ok _) prog_fol (f67_D _ n) (show Try.prog.funcs[67]? = some Try.f67 by kernel_rfl) (by kernel_rfl) (show Try.f67.body = some (bodyOf Try.f67) by kernel_rfl) rfl rfl (Nat.le_of_ble_eq_true rfl) (f67_d _ n) (by intro x; kernel_rfl) 

def f48 (n : Nat) (a0 a1 a2 : Int) : Option Bool :=
 bif (decide (a1 ≤ a0)) then
  some (decide (a0 ≤ a2))
 else
  some false
def f48_E (n : Nat) : Ent := ⟨48, [hI, hI, hI], [.bool], fun x => f48 n x.1 x.2.1 x.2.2⟩
def f48_D (α : Type) (n : Nat) : D3 α := { reg := [], join := [], loop := [] }
theorem f48_ents (α : Type) (n : Nat) : AllS Try.prog (entsOf (f48_D α n).reg) := trivial
theorem f48_d (α : Type) (n : Nat) : D3.OK Try.prog (tyOf Try.prog) ⟨15, []⟩ (f48_D α n) (bodyOf Try.f48) :=
 D3.OK.mk3 (f48_ents α n) (show loopsOf (bodyOf Try.f48) = [] by kernel_rfl) trivial
theorem f48_ok (n : Nat) : (f48_E n).Sound Try.prog :=
 fn_ok (tyOf_ok _) prog_fol (f48_D _ n) (show Try.prog.funcs[48]? = some Try.f48 by kernel_rfl) (by kernel_rfl) (show Try.f48.body = some (bodyOf Try.f48) by kernel_rfl) rfl rfl (Nat.le_of_ble_eq_true rfl) (f48_d _ n) (by intro x; kernel_rfl) 

def f154 (n : Nat) (a0 : Int) : Option Bool :=
 bif (decide (a0 < 0)) then
  some true
 else
  some (decide (a0 ≥ 10000))
def f154_E (n : Nat) : Ent := ⟨154, [hI], [.bool], fun x => f154 n x⟩
def f154_D (α : Type) (n : Nat) : D3 α := { reg := [], join := [], loop := [] }
theorem f154_ents (α : Type) (n : Nat) : AllS Try.prog (entsOf (f154_D α n).reg) := trivial
theorem f154_d (α : Type) (n : Nat) : D3.OK Try.prog (tyOf Try.prog) ⟨9, []⟩ (f154_D α n) (bodyOf Try.f154) :=
 D3.OK.mk3 (f154_ents α n) (show loopsOf (bodyOf Try.f154) = [] by kernel_rfl) trivial
theorem f154_ok (n : Nat) : (f154_E n).Sound Try.prog :=
 fn_ok (tyOf_ok _) prog_fol (f154_D _ n) (show Try.prog.funcs[154]? = some Try.f154 by kernel_rfl) (by kernel_rfl) (show Try.f154.body = some (bodyOf Try.f154) by kernel_rfl) rfl rfl (Nat.le_of_ble_eq_true rfl) (f154_d _ n) (by intro x; kernel_rfl) 

def f158c154_L2B {α : Type} (n : Nat) (s0 : LI) (s7 s8 : Int) (f : LI → Int → Int → Option α) (k0 : Int → Option α) (k1 : Unit → Option α) : Option α :=
 bif (decide (s8 < s7)) then
  gd (decide (0 ≤ s8) && decide (s8 < (s0.length : Int))) (
   ob (f154 n (s0.getD s8.toNat 0)) fun r_1 =>
   bif r_1 then
    k0 s8
   else
    f s0 s7 (W (s8 + 1)))
 else
  k1 ()
abbrev f158c154_L2H : Tm := ⟨[(0, .d hIs), (1, .d (.fn 154)), (7, .d hI), (8, .d hI)], [], [], []⟩
abbrev f158c154_L2X0 : Tm := ⟨[(4, .d hI)], [], [], []⟩
abbrev f158c154_L2X1 : Tm := ⟨[], [], [], []⟩
abbrev f158c154_L2O : List (Exit × Tm) := [(.ret, f158c154_L2X0), (.exit 0, f158c154_L2X1)]
def f158c154_L2U {α : Type} (n : Nat) (v : f158c154_L2H.den) (f : f158c154_L2H.den → Option α) (ks : KS α f158c154_L2O) : Option α := f158c154_L2B n v.1.1 v.1.2.2.1 v.1.2.2.2.1 (fun s0 s7 s8 => f ((s0, (), s7, s8, ()), ())) (fun w0 => ks.1 ((w0, ()), ())) (fun _ => ks.2.1 ((), ()))
def f158c154_L2 {α : Type} (n m : Nat) (s0 : LI) (s7 s8 : Int) (k0 : Int → Option α) (k1 : Unit → Option α) : Option α := rounds (f158c154_L2U n) m ((s0, (), s7, s8, ()), ()) (fun w => k0 w.1.1, fun w => k1 (), ())
theorem f158c154_L2_0 {α n s0 s7 s8 k0 k1} : f158c154_L2 (α := α) n 0 s0 s7 s8 k0 k1 = none := rfl
theorem f158c154_L2_s {α n m s0 s7 s8 k0 k1} : f158c154_L2 (α := α) n (m + 1) s0 s7 s8 k0 k1 = f158c154_L2B n s0 s7 s8 (fun s0 s7 s8 => f158c154_L2 n m s0 s7 s8 k0 k1) k0 k1 := rfl
def f158c154 (n : Nat) (a0 : LI) (a1 : Unit) : Option Int :=
 f158c154_L2 n n a0 (a0.length : Int) 0
  (fun z_2 => (
   some z_2))
  (fun (_ : Unit) => (
   some (-1)))
def f158c154_E (n : Nat) : Ent := ⟨158, [hIs, (.fn 154)], [hI], fun x => f158c154 n x.1 x.2⟩
def f158c154_D (α : Type) (n : Nat) : D3 α := { reg := [(4, ⟨0, [], [(5, { ent := some (f154_E n) })]⟩)], join := [], loop := [(2, ⟨f158c154_L2H, f158c154_L2O, rounds (f158c154_L2U n) n⟩)] }
theorem f158c154_ents (α : Type) (n : Nat) : AllS Try.prog (entsOf (f158c154_D α n).reg) := ⟨f154_ok n, trivial⟩
theorem f158c154_L2_d (α : Type) (n : Nat) : D3.OK Try.prog (tyOf Try.prog) ⟨19, []⟩ (f158c154_D α n) ((bodyOf Try.f158).at [1, 0, 1, 0, 0]) :=
 D3.OK.mk3 (f158c154_ents α n) (show loopsOf ((bodyOf Try.f158).at [1, 0, 1, 0, 0]) = [] by kernel_rfl) trivial
theorem f158c154_L2_ok (α : Type) (n : Nat) : LO.Sound (α := α) Try.prog ⟨19, []⟩ ⟨f158c154_L2H, f158c154_L2O, rounds (f158c154_L2U n) n⟩ (.loop ((bodyOf Try.f158).at [1, 0, 1, 0, 0])) :=
 loop_ok (tyOf_ok _) prog_fol (f158c154_L2U n) (f158c154_L2_d α n) (by intro v f ks; kernel_rfl) n
theorem f158c154_d (α : Type) (n : Nat) : D3.OK Try.prog (tyOf Try.prog) ⟨19, []⟩ (f158c154_D α n) (bodyOf Try.f158) :=
 D3.OK.mk3 (f158c154_ents α n) (show loopsOf (bodyOf Try.f158) = [(2, (.loop ((bodyOf Try.f158).at [1, 0, 1, 0, 0])))] by kernel_rfl) ⟨look_sound rfl (f158c154_L2_ok α n), trivial⟩
theorem f158c154_ok (n : Nat) : (f158c154_E n).Sound Try.prog :=
 fn_ok (tyOf_ok _) prog_fol (f158c154_D _ n) (show Try.prog.funcs[158]? = some Try.f158 by kernel_rfl) (by kernel_rfl) (show Try.f158.body = some (bodyOf Try.f158) by kernel_rfl) rfl rfl (Nat.le_of_ble_eq_true rfl) (f158c154_d _ n) (by intro x; kernel_rfl) 

def f153c154 (n : Nat) (a0 : LI) (a1 : Unit) : Option Bool :=
 ob (f158c154 n a0 a1) fun r_1 =>
 some (decide (r_1 ≥ 0))
def f153c154_E (n : Nat) : Ent := ⟨153, [hIs, (.fn 154)], [.bool], fun x => f153c154 n x.1 x.2⟩
def f153c154_D (α : Type) (n : Nat) : D3 α := { reg := [(1, ⟨0, [], [(2, { ent := some (f158c154_E n) })]⟩)], join := [], loop := [] }
theorem f153c154_ents (α : Type) (n : Nat) : AllS Try.prog (entsOf (f153c154_D α n).reg) := ⟨f158c154_ok n, trivial⟩
theorem f153c154_d (α : Type) (n : Nat) : D3.OK Try.prog (tyOf Try.prog) ⟨9, []⟩ (f153c154_D α n) (bodyOf Try.f153) :=
 D3.OK.mk3 (f153c154_ents α n) (show loopsOf (bodyOf Try.f153) = [] by kernel_rfl) trivial
theorem f153c154_ok (n : Nat) : (f153c154_E n).Sound Try.prog :=
 fn_ok (tyOf_ok _) prog_fol (f153c154_D _ n) (show Try.prog.funcs[153]? = some Try.f153 by kernel_rfl) (by kernel_rfl) (show Try.f153.body = some (bodyOf Try.f153) by kernel_rfl) rfl rfl (Nat.le_of_ble_eq_true rfl) (f153c154_d _ n) (by intro x; kernel_rfl) 

def f131 (n : Nat) (a0 : LI) : Option Bool :=
 bif (decide ((a0.length : Int) > 40)) then
  some false
 else
  bif (decide ((a0.length : Int) > 0)) then
   gd (decide (0 ≤ (W ((a0.length : Int) - 1))) && decide ((W ((a0.length : Int) - 1)) < (a0.length : Int))) (
    bif ((a0.getD ((W ((a0.length : Int) - 1)).toNat) 0) == 0) then
     some false
    else
     ob (f153c154 n a0 ()) fun r_1 =>
     some (!r_1))
  else
   ob (f153c154 n a0 ()) fun r_2 =>
   some (!r_2)
def f131_E (n : Nat) : Ent := ⟨131, [hIs], [.bool], fun x => f131 n x⟩
def f131_D (α : Type) (n : Nat) : D3 α := { reg := [(4, ⟨0, [], [(1, { ent := some (f153c154_E n) })]⟩)], join := [], loop := [] }
theorem f131_ents (α : Type) (n : Nat) : AllS Try.prog (entsOf (f131_D α n).reg) := ⟨f153c154_ok n, trivial⟩
theorem f131_d (α : Type) (n : Nat) : D3.OK Try.prog (tyOf Try.prog) ⟨23, []⟩ (f131_D α n) (bodyOf Try.f131) :=
 D3.OK.mk3 (f131_ents α n) (show loopsOf (bodyOf Try.f131) = [] by kernel_rfl) trivial
theorem f131_ok (n : Nat) : (f131_E n).Sound Try.prog :=
 fn_ok (tyOf_ok _) prog_fol (f131_D _ n) (show Try.prog.funcs[131]? = some Try.f131 by kernel_rfl) (by kernel_rfl) (show Try.f131.body = some (bodyOf Try.f131) by kernel_rfl) rfl rfl (Nat.le_of_ble_eq_true rfl) (f131_d _ n) (by intro x; kernel_rfl) 

def f80 (n : Nat) (a0 : Rq) : Option Bool :=
 some ((a0.2.1.length : Int) == 0)
def f80_E (n : Nat) : Ent := ⟨80, [hR], [.bool], fun x => f80 n x⟩
def f80_D (α : Type) (n : Nat) : D3 α := { reg := [], join := [], loop := [] }
theorem f80_ents (α : Type) (n : Nat) : AllS Try.prog (entsOf (f80_D α n).reg) := trivial
theorem f80_d (α : Type) (n : Nat) : D3.OK Try.prog (tyOf Try.prog) ⟨7, []⟩ (f80_D α n) (bodyOf Try.f80) :=
 D3.OK.mk3 (f80_ents α n) (show loopsOf (bodyOf Try.f80) = [] by kernel_rfl) trivial
theorem f80_ok (n : Nat) : (f80_E n).Sound Try.prog :=
 fn_ok (tyOf_ok _) prog_fol (f80_D _ n) (show Try.prog.funcs[80]? = some Try.f80 by kernel_rfl) (by kernel_rfl) (show Try.f80.body = some (bodyOf Try.f80) by kernel_rfl) rfl rfl (Nat.le_of_ble_eq_true rfl) (f80_d _ n) (by intro x; kernel_rfl) 

def f146 (n : Nat) (a0 : LI) : Option LI :=
 some a0
def f146_E (n : Nat) : Ent := ⟨146, [hIs], [(.clo 157 (.ref hIs))], fun x => f146 n x⟩
def f146_D (α : Type) (n : Nat) : D3 α := { reg := [(1, ⟨0, [], [(0, { sh := some (.ref hIs) })]⟩)], join := [], loop := [] }
theorem f146_ents (α : Type) (n : Nat) : AllS Try.prog (entsOf (f146_D α n).reg) := trivial
theorem f146_d (α : Type) (n : Nat) : D3.OK Try.prog (tyOf Try.prog) ⟨4, []⟩ (f146_D α n) (bodyOf Try.f146) :=
 D3.OK.mk3 (f146_ents α n) (show loopsOf (bodyOf Try.f146) = [] by kernel_rfl) trivial
theorem f146_ok (n : Nat) : (f146_E n).Sound Try.prog :=
 fn_ok (tyOf_ok _) prog_fol (f146_D _ n) (show Try.prog.funcs[146]? = some Try.f146 by kernel_rfl) (by kernel_rfl) (show Try.f146.body = some (bodyOf Try.f146) by kernel_rfl) rfl rfl (Nat.le_of_ble_eq_true rfl) (f146_d _ n) (by intro x; kernel_rfl) 

def f119_L6B {α : Type} (n : Nat) (i : Nat) (z : Int) (s18 : LI) (c3_0 : LI) (c4_0 : Int) (f : LI → LI → Int → Option α) (k0 : Int → Option α) (k1 : Int → Option α) : Option α :=
 gd (decide (0 ≤ (i : Int)) && decide ((i : Int) < (c3_0.length : Int))) (
  bif (z != (c3_0.getD ((i : Int).toNat) 0)) then
   gd (decide (0 ≤ (i : Int)) && decide ((i : Int) < (c3_0.length : Int))) (
    bif (decide (z < (c3_0.getD ((i : Int).toNat) 0))) then
     k1 (-1)
    else
     k1 1)
  else
   f s18 c3_0 c4_0)
abbrev f119_L6H : Tm := ⟨[(3, .k (.hp 3 0 0)), (4, .k (.hp 4 0 0)), (18, .d (.clo 157 (.ref hIs)))], [(3, .var 29 true false [.d hIs]), (4, .var 3 true false [.d hI])], [], []⟩
abbrev f119_L6X0 : Tm := ⟨[(4, .k (.hp 4 0 0))], [(4, .var 3 true false [.d hI])], [3], []⟩
abbrev f119_L6X1 : Tm := ⟨[(4, .k (.hp 4 0 0))], [(4, .var 3 true false [.d hI])], [3], []⟩
abbrev f119_L6O : List (Exit × Tm) := [(.normal, f119_L6X0), (.ret, f119_L6X1)]
def f119_L6Z (v : f119_L6H.den) : List Int := (fun s18 c3_0 c4_0 => s18) v.1.2.2.1 v.2.1.1 v.2.2.1.1
def f119_L6U {α : Type} (n : Nat) (i : Nat) (z : Int) (v : f119_L6H.den) (f : f119_L6H.den → Option α) (ks : KS α f119_L6O) : Option α := f119_L6B n i z v.1.2.2.1 v.2.1.1 v.2.2.1.1 (fun s18 c3_0 c4_0 => f (((), (), s18, ()), ((c3_0, ()), (c4_0, ()), ()))) (fun w0 => ks.1 (((), ()), ((w0, ()), ()))) (fun w0 => ks.2.1 (((), ()), ((w0, ()), ())))
def f119_L6N {α : Type} (v : f119_L6H.den) (ks : KS α f119_L6O) : Option α := (fun s18 c3_0 c4_0 => ks.1 (((), ()), ((c4_0, ()), ()))) v.1.2.2.1 v.2.1.1 v.2.2.1.1
def f119_L6 {α : Type} (n : Nat) (s18 : LI) (c3_0 : LI) (c4_0 : Int) (k0 : Int → Option α) (k1 : Int → Option α) : Option α := rangeR f119_L6Z (f119_L6U n) f119_L6N (((), (), s18, ()), ((c3_0, ()), (c4_0, ()), ())) (fun w => k0 w.2.1.1, fun w => k1 w.2.1.1, ())
def f119_L6R {α : Type} (n : Nat) (zs : List Int) (i : Nat) (s18 : LI) (c3_0 : LI) (c4_0 : Int) (k0 : Int → Option α) (k1 : Int → Option α) : Option α := rangeB f119_L6Z (f119_L6U n) zs i (((), (), s18, ()), ((c3_0, ()), (c4_0, ()), ())) (fun v => f119_L6N v (fun w => k0 w.2.1.1, fun w => k1 w.2.1.1, ())) (fun w => k0 w.2.1.1, fun w => k1 w.2.1.1, ())
theorem f119_L6_e {α : Type} (n : Nat) (s18 : LI) (c3_0 : LI) (c4_0 : Int) (k0 : Int → Option α) (k1 : Int → Option α) : f119_L6 (α := α) n s18 c3_0 c4_0 k0 k1 = gd (decide (s18.length ≤ 4611686018427387904)) (f119_L6R n s18 s18.length s18 c3_0 c4_0 k0 k1) := rfl
theorem f119_L6_0 {α : Type} (n : Nat) (zs : List Int) (s18 : LI) (c3_0 : LI) (c4_0 : Int) (k0 : Int → Option α) (k1 : Int → Option α) : f119_L6R (α := α) n zs 0 s18 c3_0 c4_0 k0 k1 = k0 c4_0 := rfl
theorem f119_L6_s {α : Type} (n : Nat) (zs : List Int) (i : Nat) (s18 : LI) (c3_0 : LI) (c4_0 : Int) (k0 : Int → Option α) (k1 : Int → Option α) : f119_L6R (α := α) n zs (i + 1) s18 c3_0 c4_0 k0 k1 = f119_L6B n i (zs.getD i 0) s18 c3_0 c4_0 (fun s18 c3_0 c4_0 => gd (decide (s18 = zs)) (f119_L6R n zs i s18 c3_0 c4_0 k0 k1)) k0 k1 := rfl
def f119 (n : Nat) (a0 a1 : LI) : Option Int :=
 bif ((a0.length : Int) != (a1.length : Int)) then
  bif (decide ((a0.length : Int) < (a1.length : Int))) then
   some (-1)
  else
   some 1
 else
  ob (f146 n a0) fun r_1 =>
  f119_L6 n r_1 a1 0
   (fun z_2 => (
    some 0))
   (fun z_3 => (
    some z_3))
def f119_E (n : Nat) : Ent := ⟨119, [hIs, hIs], [hI], fun x => f119 n x.1 x.2⟩
def f119_D (α : Type) (n : Nat) : D3 α := { reg := [(5, ⟨0, [], [(1, { ent := some (f146_E n) })]⟩)], join := [], loop := [(6, ⟨f119_L6H, f119_L6O, rangeR f119_L6Z (f119_L6U n) f119_L6N⟩)] }
theorem f119_ents (α : Type) (n : Nat) : AllS Try.prog (entsOf (f119_D α n).reg) := ⟨f146_ok n, trivial⟩
theorem f119_L6A_d (α : Type) (n : Nat) : D3.OK Try.prog (tyOf Try.prog) ⟨33, []⟩ (f119_D α n) ((bodyOf Try.f119).at [1, 1, 0, 1, 0, 0]) :=
 D3.OK.mk3 (f119_ents α n) (show loopsOf ((bodyOf Try.f119).at [1, 1, 0, 1, 0, 0]) = [] by kernel_rfl) trivial
theorem f119_L6B_d (α : Type) (n : Nat) : D3.OK Try.prog (tyOf Try.prog) ⟨33, []⟩ (f119_D α n) ((bodyOf Try.f119).at [1, 1, 0, 1, 0, 1]) :=
 D3.OK.mk3 (f119_ents α n) (show loopsOf ((bodyOf Try.f119).at [1, 1, 0, 1, 0, 1]) = [] by kernel_rfl) trivial
theorem f119_L6_ok (α : Type) (n : Nat) : LO.Sound (α := α) Try.prog ⟨33, []⟩ ⟨f119_L6H, f119_L6O, rangeR f119_L6Z (f119_L6U n) f119_L6N⟩ (.rangeFunc (.tmp 18) #[19, 20] ((bodyOf Try.f119).at [1, 1, 0, 1, 0, 0]) ((bodyOf Try.f119).at [1, 1, 0, 1, 0, 1])) :=
 range_ok (tyOf_ok _) prog_fol f119_L6Z (f119_L6U n) f119_L6N back_ok rfl rfl rfl rfl (f119_L6A_d α n) (f119_L6B_d α n) (by intro v; rfl) (by intro i z v f ks; kernel_rfl) (by intro v ks; kernel_rfl)
theorem f119_d (α : Type) (n : Nat) : D3.OK Try.prog (tyOf Try.prog) ⟨33, []⟩ (f119_D α n) (bodyOf Try.f119) :=
 D3.OK.mk3 (f119_ents α n) (show loopsOf (bodyOf Try.f119) = [(6, (.rangeFunc (.tmp 18) #[19, 20] ((bodyOf Try.f119).at [1, 1, 0, 1, 0, 0]) ((bodyOf Try.f119).at [1, 1, 0, 1, 0, 1])))] by kernel_rfl) ⟨look_sound rfl (f119_L6_ok α n), trivial⟩
theorem f119_ok (n : Nat) : (f119_E n).Sound Try.prog :=
 fn_ok (tyOf_ok _) prog_fol (f119_D _ n) (show Try.prog.funcs[119]? = some Try.f119 by kernel_rfl) (by kernel_rfl) (show Try.f119.body = some (bodyOf Try.f119) by kernel_rfl) rfl rfl (Nat.le_of_ble_eq_true rfl) (f119_d _ n) (by intro x; kernel_rfl) 

def f115G (n : Nat) (a0 : LI) : Option LI :=
 gd ((!a0.isEmpty)) (
  gd (decide ((0 + a0.length) * 8 ≤ 140737488355328)) (
   some a0))
def f115G_E (n : Nat) : Ent := ⟨115, [hIs], [hIs], fun x => f115G n x⟩
def f115G_D (α : Type) (n : Nat) : D3 α := { reg := [(3, ⟨0, [], [(0, { sh := some hI })]⟩)], join := [], loop := [] }
theorem f115G_ents (α : Type) (n : Nat) : AllS Try.prog (entsOf (f115G_D α n).reg) := trivial
theorem f115G_d (α : Type) (n : Nat) : D3.OK Try.prog (tyOf Try.prog) ⟨8, []⟩ (f115G_D α n) (bodyOf Try.f115) :=
 D3.OK.mk3 (f115G_ents α n) (show loopsOf (bodyOf Try.f115) = [] by kernel_rfl) trivial
theorem f115G_ok (n : Nat) : (f115G_E n).Sound Try.prog :=
 fn_ok (tyOf_ok _) prog_fol (f115G_D _ n) (show Try.prog.funcs[115]? = some Try.f115 by kernel_rfl) (by kernel_rfl) (show Try.f115.body = some (bodyOf Try.f115) by kernel_rfl) rfl rfl (Nat.le_of_ble_eq_true rfl) (f115G_d _ n) (by intro x; kernel_rfl) 

set_option maxRecDepth 100000 in
set_option maxHeartbeats 2000000 in
theorem clone_nil (ad : Option Addr) (cap : Nat) (hc : ad = none → cap = 0) (w : World) : Calls Try.prog 115 #[.slice ad 0 cap] w fun e w' => (∃ a c, e = .returned (.slice a 0 c) ∧ (a = none → c = 0)) ∧ w.grownBy w' none := by
 refine (callsIn_wide (n := 3)).1 ?_
 refine callsIn_of_wp Try.func115 rfl trivial ?_ rfl
 simp only [Try.ntmps115, List.size_toArray, List.length_cons, List.length_nil, Nat.reduceAdd, Nat.reduceSub, Array.replicate_succ, Array.replicate_zero, List.push_toArray, List.append_toArray, List.nil_append, List.cons_append]
 have hi : ∃ i, Try.prog.info? 3 = some i := ⟨_, rfl⟩
 obtain ⟨i3, hi3⟩ := hi
 have hap : ∀ (base : Option Addr) (sCap : Nat) (a : Option Addr) (cp : Nat) (w : World), (Builtin.append_ #[29, 29] 29 #[.slice base 0 sCap, .slice a 0 cp]).run Try.prog w = .ok (.slice base 0 sCap) w := fun base sCap a cp w =>
  run_append_none w 29 29 3 i3 Try.underlying29 hi3 base 0 sCap (Nat.zero_le _) a cp
 cases ad with
 | none =>
  obtain rfl := hc rfl
  have hb : ∀ w, (binOp BinOp.eql 29 (.slice none 0 0) (.slice none 0 0)).run Try.prog w = .ok (.bool true) w := fun w => by kernel_rfl
  gi_wp2
  refine bodyPost_ret (results_tmp rfl _ _ _) rfl ?_
  exact ⟨⟨none, 0, rfl, fun _ => rfl⟩, ⟨rfl, rfl, rfl, Nat.le_refl _, fun _ _ _ => rfl⟩⟩
 | some ad =>
  have hb : ∀ w, (binOp BinOp.eql 29 (.slice (some ad) 0 cap) (.slice none 0 0)).run Try.prog w = .ok (.bool false) w := fun w => by kernel_rfl
  gi_wp2
  refine bodyPost_ret (results_tmp rfl _ _ _) rfl ?_
  exact ⟨⟨_, 0, rfl, fun _ => rfl⟩, World.grownBy_alloc w _ none⟩
def f115 (n : Nat) (a0 : List Int) : Option (List Int) := bif a0.isEmpty then some [] else f115G n a0
def f115_E (n : Nat) : Ent := ⟨115, [hIs], [hIs], fun x => f115 n x⟩
theorem f115_nil (nt : Nat) : FDen Try.prog 115 nt [] [] [.one (.i (.sl 0 false 1 []))] (.v (.one (.i (.sl 0 false 1 [])))) nt [] := by
 refine ⟨⟨Try.f115, by kernel_rfl, by kernel_rfl, by kernel_rfl⟩, fun w E vs hin hv => ?_⟩
 obtain ⟨hl, hget⟩ := hv
 match vs, hl with
 | [v], _ =>
  have h1 : Rv w E v (.one (.i (.sl 0 false 1 []))) := hget 0 v _ rfl rfl
  cases h1 with
  | one h1 =>
   cases h1 with
   | i h1 =>
    cases h1 with
    | sl _ _ _ _ _ _ _ hne => exact absurd rfl hne
    | nil _ _ cap a _ hn hc =>
     refine (clone_nil a cap hc w).mono ?_
     rintro e w' ⟨⟨a', c', rfl, hc'⟩, hg⟩
     exact ⟨_, E, rfl, .v (.one (.i (.nil 0 1 c' a' false (fun e => by cases e) hc'))), ⟨hg.os, hg.tape, hg.output, hg.size, fun b hb _ => hg.block b hb (by simp)⟩,
      ⟨fun b hb => Nat.lt_of_lt_of_le (hin.wf.alt b hb) hg.size, hin.wf.tag, hin.wf.inj, fun b h hb => by cases hin.odom b h hb⟩, fun _ _ => Iff.rfl, Nat.le_refl _, fun _ _ => rfl, fun t g ht h => absurd (hin.wf.tag t g h).1 (Nat.not_lt.2 ht),
      fun h b hb => (by cases hb), fun h h' b b' g g' z z' hb => (by cases hb), fun h b g z hb => (by cases hb), fun h b hb => (by cases hb), fun g h hg => (by cases hin.odom g h hg)⟩
theorem f115_ok (n : Nat) : (f115_E n).Sound Try.prog := by
 intro nt x r h
 cases x with
 | cons z l => exact f115G_ok n nt (z :: l) r h
 | nil =>
  have h : some ([] : List Int) = some r := h
  obtain rfl := Option.some.inj h
  exact f115_nil nt

def f130_L2B {α : Type} (n : Nat) (s0 : LI) (s3 : Int) (f : LI → Int → Option α) (k0 : LI → Int → Option α) : Option α :=
 bif (decide (s3 > 0)) then
  gd (decide (0 ≤ (W (s3 - 1))) && decide ((W (s3 - 1)) < (s0.length : Int))) (
   bif ((s0.getD ((W (s3 - 1)).toNat) 0) == 0) then
    f s0 (W (s3 - 1))
   else
    k0 s0 s3)
 else
  k0 s0 s3
abbrev f130_L2H : Tm := ⟨[(0, .d hIs), (3, .d hI)], [], [], []⟩
abbrev f130_L2X0 : Tm := ⟨[(0, .d hIs), (3, .d hI)], [], [], []⟩
abbrev f130_L2O : List (Exit × Tm) := [(.exit 0, f130_L2X0)]
def f130_L2U {α : Type} (n : Nat) (v : f130_L2H.den) (f : f130_L2H.den → Option α) (ks : KS α f130_L2O) : Option α := f130_L2B n v.1.1 v.1.2.1 (fun s0 s3 => f ((s0, s3, ()), ())) (fun w0 w1 => ks.1 ((w0, w1, ()), ()))
def f130_L2 {α : Type} (n m : Nat) (s0 : LI) (s3 : Int) (k0 : LI → Int → Option α) : Option α := rounds (f130_L2U n) m ((s0, s3, ()), ()) (fun w => k0 w.1.1 w.1.2.1, ())
theorem f130_L2_0 {α n s0 s3 k0} : f130_L2 (α := α) n 0 s0 s3 k0 = none := rfl
theorem f130_L2_s {α n m s0 s3 k0} : f130_L2 (α := α) n (m + 1) s0 s3 k0 = f130_L2B n s0 s3 (fun s0 s3 => f130_L2 n m s0 s3 k0) k0 := rfl
def f130 (n : Nat) (a0 : LI) : Option LI :=
 f130_L2 n n a0 (a0.length : Int)
  (fun z_1 z_2 => (
   gd (decide (0 ≤ z_2) && decide (z_2 ≤ (z_1.length : Int))) (
    some ((z_1.drop 0).take (z_2.toNat - 0)))))
def f130_E (n : Nat) : Ent := ⟨130, [hIs], [hIs], fun x => f130 n x⟩
def f130_D (α : Type) (n : Nat) : D3 α := { reg := [], join := [], loop := [(2, ⟨f130_L2H, f130_L2O, rounds (f130_L2U n) n⟩)] }
theorem f130_ents (α : Type) (n : Nat) : AllS Try.prog (entsOf (f130_D α n).reg) := trivial
theorem f130_L2_d (α : Type) (n : Nat) : D3.OK Try.prog (tyOf Try.prog) ⟨21, []⟩ (f130_D α n) ((bodyOf Try.f130).at [1, 1, 0, 0, 0]) :=
 D3.OK.mk3 (f130_ents α n) (show loopsOf ((bodyOf Try.f130).at [1, 1, 0, 0, 0]) = [] by kernel_rfl) trivial
theorem f130_L2_ok (α : Type) (n : Nat) : LO.Sound (α := α) Try.prog ⟨21, []⟩ ⟨f130_L2H, f130_L2O, rounds (f130_L2U n) n⟩ (.loop ((bodyOf Try.f130).at [1, 1, 0, 0, 0])) :=
 loop_ok (tyOf_ok _) prog_fol (f130_L2U n) (f130_L2_d α n) (by intro v f ks; kernel_rfl) n
theorem f130_d (α : Type) (n : Nat) : D3.OK Try.prog (tyOf Try.prog) ⟨21, []⟩ (f130_D α n) (bodyOf Try.f130) :=
 D3.OK.mk3 (f130_ents α n) (show loopsOf (bodyOf Try.f130) = [(2, (.loop ((bodyOf Try.f130).at [1, 1, 0, 0, 0])))] by kernel_rfl) ⟨look_sound rfl (f130_L2_ok α n), trivial⟩
theorem f130_ok (n : Nat) : (f130_E n).Sound Try.prog :=
 fn_ok (tyOf_ok _) prog_fol (f130_D _ n) (show Try.prog.funcs[130]? = some Try.f130 by kernel_rfl) (by kernel_rfl) (show Try.f130.body = some (bodyOf Try.f130) by kernel_rfl) rfl rfl (Nat.le_of_ble_eq_true rfl) (f130_d _ n) (by intro x; kernel_rfl) 

def f116_L2B {α : Type} (n : Nat) (s0 : Int) (b4 : LI) (f : Int → LI → Option α) (k0 : LI → Option α) : Option α :=
 bif (decide (s0 > 0)) then
  gd (decide ((b4.length + 1) * 8 ≤ 140737488355328)) (
   f (W (Int.tdiv s0 10000)) (b4 ++ [(Int.tmod s0 10000)]))
 else
  k0 b4
abbrev f116_L2H : Tm := ⟨[(0, .d hI), (3, .k (.hw 4))], [(4, .arr 3 hI false)], [12], []⟩
abbrev f116_L2X0 : Tm := ⟨[(3, .k (.hw 4))], [(4, .arr 3 hI false)], [], []⟩
abbrev f116_L2O : List (Exit × Tm) := [(.exit 0, f116_L2X0)]
def f116_L2U {α : Type} (n : Nat) (v : f116_L2H.den) (f : f116_L2H.den → Option α) (ks : KS α f116_L2O) : Option α := f116_L2B n v.1.1 v.2.1 (fun s0 b4 => f ((s0, (), ()), (b4, ()))) (fun w0 => ks.1 (((), ()), (w0, ())))
def f116_L2 {α : Type} (n m : Nat) (s0 : Int) (b4 : LI) (k0 : LI → Option α) : Option α := rounds (f116_L2U n) m ((s0, (), ()), (b4, ())) (fun w => k0 w.2.1, ())
theorem f116_L2_0 {α n s0 b4 k0} : f116_L2 (α := α) n 0 s0 b4 k0 = none := rfl
theorem f116_L2_s {α n m s0 b4 k0} : f116_L2 (α := α) n (m + 1) s0 b4 k0 = f116_L2B n s0 b4 (fun s0 b4 => f116_L2 n m s0 b4 k0) k0 := rfl
def f116 (n : Nat) (a0 : Int) : Option LI :=
 f116_L2 n n a0 []
  (fun z_1 => (
   some z_1))
def f116_E (n : Nat) : Ent := ⟨116, [hI], [hIs], fun x => f116 n x⟩
def f116_D (α : Type) (n : Nat) : D3 α := { reg := [(1, ⟨0, [], [(0, { sh := some hI })]⟩), (4, ⟨0, [], [(3, { sh := some hI })]⟩)], join := [], loop := [(2, ⟨f116_L2H, f116_L2O, rounds (f116_L2U n) n⟩)] }
theorem f116_ents (α : Type) (n : Nat) : AllS Try.prog (entsOf (f116_D α n).reg) := trivial
theorem f116_L2_d (α : Type) (n : Nat) : D3.OK Try.prog (tyOf Try.prog) ⟨15, []⟩ (f116_D α n) ((bodyOf Try.f116).at [1, 1, 0, 0, 0]) :=
 D3.OK.mk3 (f116_ents α n) (show loopsOf ((bodyOf Try.f116).at [1, 1, 0, 0, 0]) = [] by kernel_rfl) trivial
theorem f116_L2_ok (α : Type) (n : Nat) : LO.Sound (α := α) Try.prog ⟨15, []⟩ ⟨f116_L2H, f116_L2O, rounds (f116_L2U n) n⟩ (.loop ((bodyOf Try.f116).at [1, 1, 0, 0, 0])) :=
 loop_ok (tyOf_ok _) prog_fol (f116_L2U n) (f116_L2_d α n) (by intro v f ks; kernel_rfl) n
theorem f116_d (α : Type) (n : Nat) : D3.OK Try.prog (tyOf Try.prog) ⟨15, []⟩ (f116_D α n) (bodyOf Try.f116) :=
 D3.OK.mk3 (f116_ents α n) (show loopsOf (bodyOf Try.f116) = [(2, (.loop ((bodyOf Try.f116).at [1, 1, 0, 0, 0])))] by kernel_rfl) ⟨look_sound rfl (f116_L2_ok α n), trivial⟩
theorem f116_ok (n : Nat) : (f116_E n).Sound Try.prog :=
 fn_ok (tyOf_ok _) prog_fol (f116_D _ n) (show Try.prog.funcs[116]? = some Try.f116 by kernel_rfl) (by kernel_rfl) (show Try.f116.body = some (bodyOf Try.f116) by kernel_rfl) rfl rfl (Nat.le_of_ble_eq_true rfl) (f116_d _ n) (by intro x; kernel_rfl) 

def f115B (n : Nat) (a0 : LI) : Option LI :=
 gd ((!a0.isEmpty)) (
  gd (decide ((0 + a0.length) * 8 ≤ 140737488355328)) (
   some a0))
def f115B_E (n : Nat) : Ent3 := ⟨115, [.im hIs], [[.one (.own 3 hI)]], fun x => f115B n x⟩
def f115B_D (α : Type) (n : Nat) : D3 α := { reg := [(3, ⟨0, [], [(0, { sh := some hI })]⟩)], join := [], loop := [] }
theorem f115B_ents (α : Type) (n : Nat) : AllS Try.prog (entsOf (f115B_D α n).reg) := trivial
theorem f115B_d (α : Type) (n : Nat) : D3.OK Try.prog (tyOf Try.prog) ⟨8, []⟩ (f115B_D α n) (bodyOf Try.f115) :=
 D3.OK.mk3 (f115B_ents α n) (show loopsOf (bodyOf Try.f115) = [] by kernel_rfl) trivial
theorem f115B_ok (n : Nat) : (f115B_E n).Sound Try.prog :=
 fn_okB (tyOf_ok _) prog_fol (f115B_D _ n) (show Try.prog.funcs[115]? = some Try.f115 by kernel_rfl) (by kernel_rfl) (show Try.f115.body = some (bodyOf Try.f115) by kernel_rfl) rfl rfl (Nat.le_of_ble_eq_true rfl) (f115B_d _ n) (by intro x; kernel_rfl) 

def f152B_L6B {α : Type} (n : Nat) (s0o s0l : Nat) (s1 : LI) (s5 s7 s8 s50 s51 : Int) (b1000 : LI) (f : Nat → Nat → LI → Int → Int → Int → Int → Int → LI → Option α) (k0 : Nat → Nat → LI → Int → Int → Int → LI → Option α) : Option α :=
 bif (decide (s51 < s50)) then
  gd (decide (0 ≤ s51) && decide (s51 < (s0l : Int))) (
   gd (decide ((s0o + s51.toNat) < b1000.length)) (
    let J_4 := fun (y_1 : Int) => (
     let J_3 := fun (y_2 : Int) => (
      gd (decide (0 ≤ s51) && decide (s51 < (s0l : Int))) (
       gd (decide ((s0o + s51.toNat) < b1000.length)) (
        f s0o s0l s1 s5 s7 y_2 s50 (W (s51 + 1)) (b1000.set (s0o + s51.toNat) (W (y_1 - (W (y_2 * 10000))))))))
     bif (decide (y_1 < 0)) then
      J_3 (W (Int.tdiv (W ((W (y_1 - 10000)) + 1)) 10000))
     else
      J_3 0)
    bif (decide (s51 < s5)) then
     gd (decide (0 ≤ s51) && decide (s51 < (s1.length : Int))) (
      J_4 (W ((W ((b1000.getD (s0o + s51.toNat) 0) + s8)) - (W (s7 * (s1.getD s51.toNat 0))))))
    else
     J_4 (W ((b1000.getD (s0o + s51.toNat) 0) + s8))))
 else
  k0 s0o s0l s1 s5 s7 s8 b1000
abbrev f152B_L6H : Tm := ⟨[(0, .hs 1000), (1, .d hIs), (5, .d hI), (7, .d hI), (8, .d hI), (50, .d hI), (51, .d hI)], [(1000, .arr 3 hI false)], [], []⟩
abbrev f152B_L6X0 : Tm := ⟨[(0, .hs 1000), (1, .d hIs), (5, .d hI), (7, .d hI), (8, .d hI)], [(1000, .arr 3 hI false)], [], []⟩
abbrev f152B_L6O : List (Exit × Tm) := [(.exit 0, f152B_L6X0)]
def f152B_L6U {α : Type} (n : Nat) (v : f152B_L6H.den) (f : f152B_L6H.den → Option α) (ks : KS α f152B_L6O) : Option α := f152B_L6B n v.1.1.1 v.1.1.2 v.1.2.1 v.1.2.2.1 v.1.2.2.2.1 v.1.2.2.2.2.1 v.1.2.2.2.2.2.1 v.1.2.2.2.2.2.2.1 v.2.1 (fun s0o s0l s1 s5 s7 s8 s50 s51 b1000 => f (((s0o, s0l), s1, s5, s7, s8, s50, s51, ()), (b1000, ()))) (fun w0 w1 w2 w3 w4 w5 w6 => ks.1 (((w0, w1), w2, w3, w4, w5, ()), (w6, ())))
def f152B_L6 {α : Type} (n m : Nat) (s0o s0l : Nat) (s1 : LI) (s5 s7 s8 s50 s51 : Int) (b1000 : LI) (k0 : Nat → Nat → LI → Int → Int → Int → LI → Option α) : Option α := rounds (f152B_L6U n) m (((s0o, s0l), s1, s5, s7, s8, s50, s51, ()), (b1000, ())) (fun w => k0 w.1.1.1 w.1.1.2 w.1.2.1 w.1.2.2.1 w.1.2.2.2.1 w.1.2.2.2.2.1 w.2.1, ())
theorem f152B_L6_0 {α n s0o s0l s1 s5 s7 s8 s50 s51 b1000 k0} : f152B_L6 (α := α) n 0 s0o s0l s1 s5 s7 s8 s50 s51 b1000 k0 = none := rfl
theorem f152B_L6_s {α n m s0o s0l s1 s5 s7 s8 s50 s51 b1000 k0} : f152B_L6 (α := α) n (m + 1) s0o s0l s1 s5 s7 s8 s50 s51 b1000 k0 = f152B_L6B n s0o s0l s1 s5 s7 s8 s50 s51 b1000 (fun s0o s0l s1 s5 s7 s8 s50 s51 b1000 => f152B_L6 n m s0o s0l s1 s5 s7 s8 s50 s51 b1000 k0) k0 := rfl
def f152B_L20B {α : Type} (n : Nat) (s0o s0l : Nat) (s1 : LI) (s5 s7 s8 s11 s90 s91 : Int) (b1000 : LI) (f : Nat → Nat → LI → Int → Int → Int → Int → Int → Int → LI → Option α) (k0 : Nat → Nat → LI → Int → Int → Int → Int → LI → Option α) : Option α :=
 bif (decide (s91 < s90)) then
  gd (decide (0 ≤ s91) && decide (s91 < (s0l : Int))) (
   gd (decide ((s0o + s91.toNat) < b1000.length)) (
    let J_13 := fun (y_12 : Int) => (
     gd (decide (0 ≤ s91) && decide (s91 < (s0l : Int))) (
      gd (decide ((s0o + s91.toNat) < b1000.length)) (
       f s0o s0l s1 s5 s7 s8 (W (Int.tdiv y_12 10000)) s90 (W (s91 + 1)) (b1000.set (s0o + s91.toNat) (Int.tmod y_12 10000)))))
    bif (decide (s91 < s5)) then
     gd (decide (0 ≤ s91) && decide (s91 < (s1.length : Int))) (
      J_13 (W ((W ((b1000.getD (s0o + s91.toNat) 0) + s11)) + (s1.getD s91.toNat 0))))
    else
     J_13 (W ((b1000.getD (s0o + s91.toNat) 0) + s11))))
 else
  k0 s0o s0l s1 s5 s7 s8 s11 b1000
abbrev f152B_L20H : Tm := ⟨[(0, .hs 1000), (1, .d hIs), (5, .d hI), (7, .d hI), (8, .d hI), (11, .d hI), (90, .d hI), (91, .d hI)], [(1000, .arr 3 hI false)], [], []⟩
abbrev f152B_L20X0 : Tm := ⟨[(0, .hs 1000), (1, .d hIs), (5, .d hI), (7, .d hI), (8, .d hI), (11, .d hI)], [(1000, .arr 3 hI false)], [], []⟩
abbrev f152B_L20O : List (Exit × Tm) := [(.exit 4, f152B_L20X0)]
def f152B_L20U {α : Type} (n : Nat) (v : f152B_L20H.den) (f : f152B_L20H.den → Option α) (ks : KS α f152B_L20O) : Option α := f152B_L20B n v.1.1.1 v.1.1.2 v.1.2.1 v.1.2.2.1 v.1.2.2.2.1 v.1.2.2.2.2.1 v.1.2.2.2.2.2.1 v.1.2.2.2.2.2.2.1 v.1.2.2.2.2.2.2.2.1 v.2.1 (fun s0o s0l s1 s5 s7 s8 s11 s90 s91 b1000 => f (((s0o, s0l), s1, s5, s7, s8, s11, s90, s91, ()), (b1000, ()))) (fun w0 w1 w2 w3 w4 w5 w6 w7 => ks.1 (((w0, w1), w2, w3, w4, w5, w6, ()), (w7, ())))
def f152B_L20 {α : Type} (n m : Nat) (s0o s0l : Nat) (s1 : LI) (s5 s7 s8 s11 s90 s91 : Int) (b1000 : LI) (k0 : Nat → Nat → LI → Int → Int → Int → Int → LI → Option α) : Option α := rounds (f152B_L20U n) m (((s0o, s0l), s1, s5, s7, s8, s11, s90, s91, ()), (b1000, ())) (fun w => k0 w.1.1.1 w.1.1.2 w.1.2.1 w.1.2.2.1 w.1.2.2.2.1 w.1.2.2.2.2.1 w.1.2.2.2.2.2.1 w.2.1, ())
theorem f152B_L20_0 {α n s0o s0l s1 s5 s7 s8 s11 s90 s91 b1000 k0} : f152B_L20 (α := α) n 0 s0o s0l s1 s5 s7 s8 s11 s90 s91 b1000 k0 = none := rfl
theorem f152B_L20_s {α n m s0o s0l s1 s5 s7 s8 s11 s90 s91 b1000 k0} : f152B_L20 (α := α) n (m + 1) s0o s0l s1 s5 s7 s8 s11 s90 s91 b1000 k0 = f152B_L20B n s0o s0l s1 s5 s7 s8 s11 s90 s91 b1000 (fun s0o s0l s1 s5 s7 s8 s11 s90 s91 b1000 => f152B_L20 n m s0o s0l s1 s5 s7 s8 s11 s90 s91 b1000 k0) k0 := rfl
def f152B_L16B {α : Type} (n : Nat) (s0o s0l : Nat) (s1 : LI) (s5 s7 s8 : Int) (b1000 : LI) (f : Nat → Nat → LI → Int → Int → Int → LI → Option α) (k0 : Int → LI → Option α) : Option α :=
 bif (decide (s8 < 0)) then
  f152B_L20 n n s0o s0l s1 s5 (W (s7 - 1)) s8 0 (s0l : Int) 0 b1000
   (fun z_12 z_13 z_14 z_15 z_16 z_17 z_18 z_19 => (
    f z_12 z_13 z_14 z_15 z_16 (W (z_17 + z_18)) z_19))
 else
  k0 s7 b1000
abbrev f152B_L16H : Tm := ⟨[(0, .hs 1000), (1, .d hIs), (5, .d hI), (7, .d hI), (8, .d hI)], [(1000, .arr 3 hI false)], [], []⟩
abbrev f152B_L16X0 : Tm := ⟨[(7, .d hI)], [(1000, .arr 3 hI false)], [], []⟩
abbrev f152B_L16O : List (Exit × Tm) := [(.exit 2, f152B_L16X0)]
def f152B_L16U {α : Type} (n : Nat) (v : f152B_L16H.den) (f : f152B_L16H.den → Option α) (ks : KS α f152B_L16O) : Option α := f152B_L16B n v.1.1.1 v.1.1.2 v.1.2.1 v.1.2.2.1 v.1.2.2.2.1 v.1.2.2.2.2.1 v.2.1 (fun s0o s0l s1 s5 s7 s8 b1000 => f (((s0o, s0l), s1, s5, s7, s8, ()), (b1000, ()))) (fun w0 w1 => ks.1 ((w0, ()), (w1, ())))
def f152B_L16 {α : Type} (n m : Nat) (s0o s0l : Nat) (s1 : LI) (s5 s7 s8 : Int) (b1000 : LI) (k0 : Int → LI → Option α) : Option α := rounds (f152B_L16U n) m (((s0o, s0l), s1, s5, s7, s8, ()), (b1000, ())) (fun w => k0 w.1.1 w.2.1, ())
theorem f152B_L16_0 {α n s0o s0l s1 s5 s7 s8 b1000 k0} : f152B_L16 (α := α) n 0 s0o s0l s1 s5 s7 s8 b1000 k0 = none := rfl
theorem f152B_L16_s {α n m s0o s0l s1 s5 s7 s8 b1000 k0} : f152B_L16 (α := α) n (m + 1) s0o s0l s1 s5 s7 s8 b1000 k0 = f152B_L16B n s0o s0l s1 s5 s7 s8 b1000 (fun s0o s0l s1 s5 s7 s8 b1000 => f152B_L16 n m s0o s0l s1 s5 s7 s8 b1000 k0) k0 := rfl
abbrev f152B_J11 : Tm := ⟨[(0, .hs 1000), (1, .d hIs), (5, .d hI), (7, .d hI), (9, .d hI), (10, .d hI), (50, .d hI), (51, .d hI)], [(1000, .arr 3 hI false)], [], []⟩
abbrev f152B_J14 : Tm := ⟨[(0, .hs 1000), (1, .d hIs), (5, .d hI), (7, .d hI), (8, .d hI), (9, .d hI), (10, .d hI), (50, .d hI), (51, .d hI)], [(1000, .arr 3 hI false)], [], []⟩
abbrev f152B_J25 : Tm := ⟨[(0, .hs 1000), (1, .d hIs), (5, .d hI), (7, .d hI), (8, .d hI), (12, .d hI), (13, .d hI), (90, .d hI), (91, .d hI)], [(1000, .arr 3 hI false)], [], []⟩
def f152B (n : Nat) (a0 : LI × Nat × Nat) (a1 : LI) : Option (Int × LI) :=
 gd (decide (0 ≤ (a1.length : Int)) && decide ((a1.length : Int) < (a0.2.2 : Int))) (
  gd (decide ((a0.2.1 + (a1.length : Int).toNat) < a0.1.length)) (
   gd (decide (0 ≤ (W ((a1.length : Int) - 1))) && decide ((W ((a1.length : Int) - 1)) < (a0.2.2 : Int))) (
    gd (decide ((a0.2.1 + (W ((a1.length : Int) - 1)).toNat) < a0.1.length)) (
     gd (decide (0 ≤ (W ((a1.length : Int) - 2))) && decide ((W ((a1.length : Int) - 2)) < (a0.2.2 : Int))) (
      gd (decide ((a0.2.1 + (W ((a1.length : Int) - 2)).toNat) < a0.1.length)) (
       gd (decide (0 ≤ (W ((a1.length : Int) - 1))) && decide ((W ((a1.length : Int) - 1)) < (a1.length : Int))) (
        gd (decide (0 ≤ (W ((a1.length : Int) - 2))) && decide ((W ((a1.length : Int) - 2)) < (a1.length : Int))) (
         gd (decide ((W ((W ((a1.getD ((W ((a1.length : Int) - 1)).toNat) 0) * 10000)) + (a1.getD ((W ((a1.length : Int) - 2)).toNat) 0))) ≠ 0)) (
          f152B_L6 n n a0.2.1 a0.2.2 a1 (a1.length : Int) (min (W (Int.tdiv (W ((W ((W ((W ((a0.1.getD (a0.2.1 + (a1.length : Int).toNat) 0) * 10000)) + (a0.1.getD (a0.2.1 + (W ((a1.length : Int) - 1)).toNat) 0))) * 10000)) + (a0.1.getD (a0.2.1 + (W ((a1.length : Int) - 2)).toNat) 0))) (W ((W ((a1.getD ((W ((a1.length : Int) - 1)).toNat) 0) * 10000)) + (a1.getD ((W ((a1.length : Int) - 2)).toNat) 0))))) 9999) 0 (a0.2.2 : Int) 0 a0.1
           (fun z_5 z_6 z_7 z_8 z_9 z_10 z_11 => (
            f152B_L16 n n z_5 z_6 z_7 z_8 z_9 z_10 z_11
             (fun z_20 z_21 => (
              some (z_20, z_21))))))))))))))
def f152B_E (n : Nat) : Ent3 := ⟨152, [.one (.win 3 hI), .im hIs], [[.im hI]], fun x => f152B n x.1 x.2⟩
def f152B_D (α : Type) (n : Nat) : D3 α := { reg := [(2, ⟨17, [], []⟩), (3, ⟨13, [], []⟩)], join := [(11, f152B_J11), (14, f152B_J14), (25, f152B_J25)], loop := [(6, ⟨f152B_L6H, f152B_L6O, rounds (f152B_L6U n) n⟩), (20, ⟨f152B_L20H, f152B_L20O, rounds (f152B_L20U n) n⟩), (16, ⟨f152B_L16H, f152B_L16O, rounds (f152B_L16U n) n⟩)] }
theorem f152B_ents (α : Type) (n : Nat) : AllS Try.prog (entsOf (f152B_D α n).reg) := trivial
theorem f152B_L6_d (α : Type) (n : Nat) : D3.OK Try.prog (tyOf Try.prog) ⟨121, []⟩ (f152B_D α n) ((bodyOf Try.f152).at [1, 1, 1, 1, 1, 0, 1, 0, 0]) :=
 D3.OK.mk3 (f152B_ents α n) (show loopsOf ((bodyOf Try.f152).at [1, 1, 1, 1, 1, 0, 1, 0, 0]) = [] by kernel_rfl) trivial
theorem f152B_L6_ok (α : Type) (n : Nat) : LO.Sound (α := α) Try.prog ⟨121, []⟩ ⟨f152B_L6H, f152B_L6O, rounds (f152B_L6U n) n⟩ (.loop ((bodyOf Try.f152).at [1, 1, 1, 1, 1, 0, 1, 0, 0])) :=
 loop_ok (tyOf_ok _) prog_fol (f152B_L6U n) (f152B_L6_d α n) (by intro v f ks; kernel_rfl) n
theorem f152B_L20_d (α : Type) (n : Nat) : D3.OK Try.prog (tyOf Try.prog) ⟨121, []⟩ (f152B_D α n) ((bodyOf Try.f152).at [1, 1, 1, 1, 1, 1, 0, 0, 0, 1, 0, 1, 1, 0, 1, 0, 0]) :=
 D3.OK.mk3 (f152B_ents α n) (show loopsOf ((bodyOf Try.f152).at [1, 1, 1, 1, 1, 1, 0, 0, 0, 1, 0, 1, 1, 0, 1, 0, 0]) = [] by kernel_rfl) trivial
theorem f152B_L20_ok (α : Type) (n : Nat) : LO.Sound (α := α) Try.prog ⟨121, []⟩ ⟨f152B_L20H, f152B_L20O, rounds (f152B_L20U n) n⟩ (.loop ((bodyOf Try.f152).at [1, 1, 1, 1, 1, 1, 0, 0, 0, 1, 0, 1, 1, 0, 1, 0, 0])) :=
 loop_ok (tyOf_ok _) prog_fol (f152B_L20U n) (f152B_L20_d α n) (by intro v f ks; kernel_rfl) n
theorem f152B_L16_d (α : Type) (n : Nat) : D3.OK Try.prog (tyOf Try.prog) ⟨121, []⟩ (f152B_D α n) ((bodyOf Try.f152).at [1, 1, 1, 1, 1, 1, 0, 0, 0]) :=
 D3.OK.mk3 (f152B_ents α n) (show loopsOf ((bodyOf Try.f152).at [1, 1, 1, 1, 1, 1, 0, 0, 0]) = [(20, (.loop ((bodyOf Try.f152).at [1, 1, 1, 1, 1, 1, 0, 0, 0, 1, 0, 1, 1, 0, 1, 0, 0])))] by kernel_rfl) ⟨look_sound rfl (f152B_L20_ok α n), trivial⟩
theorem f152B_L16_ok (α : Type) (n : Nat) : LO.Sound (α := α) Try.prog ⟨121, []⟩ ⟨f152B_L16H, f152B_L16O, rounds (f152B_L16U n) n⟩ (.loop ((bodyOf Try.f152).at [1, 1, 1, 1, 1, 1, 0, 0, 0])) :=
 loop_ok (tyOf_ok _) prog_fol (f152B_L16U n) (f152B_L16_d α n) (by intro v f ks; kernel_rfl) n
theorem f152B_d (α : Type) (n : Nat) : D3.OK Try.prog (tyOf Try.prog) ⟨121, []⟩ (f152B_D α n) (bodyOf Try.f152) :=
 D3.OK.mk3 (f152B_ents α n) (show loopsOf (bodyOf Try.f152) = [(6, (.loop ((bodyOf Try.f152).at [1, 1, 1, 1, 1, 0, 1, 0, 0]))), (16, (.loop ((bodyOf Try.f152).at [1, 1, 1, 1, 1, 1, 0, 0, 0])))] by kernel_rfl) ⟨look_sound rfl (f152B_L6_ok α n), look_sound rfl (f152B_L16_ok α n), trivial⟩
theorem f152B_ok (n : Nat) : (f152B_E n).Sound Try.prog :=
 fn_okB (tyOf_ok _) prog_fol (f152B_D _ n) (show Try.prog.funcs[152]? = some Try.f152 by kernel_rfl) (by kernel_rfl) (show Try.f152.body = some (bodyOf Try.f152) by kernel_rfl) rfl rfl (Nat.le_of_ble_eq_true rfl) (f152B_d _ n) (by intro x; kernel_rfl) 

def f129_L7B {α : Type} (n : Nat) (i : Nat) (z : Int) (s29 : LI) (c3_0 : LI) (c8_0 : Int) (b27 : LI) (f : LI → LI → Int → LI → Option α) (k0 : Int → LI → Option α) : Option α :=
 gd (decide (0 < (c3_0.length : Int))) (
  gd (decide ((c3_0.getD 0 0) ≠ 0)) (
   gd (decide (0 < (c3_0.length : Int))) (
    gd (decide ((c3_0.getD 0 0) ≠ 0)) (
     gd (decide (0 ≤ (i : Int)) && decide ((i : Int) < (b27.length : Int))) (
      gd (decide ((i : Int).toNat < b27.length)) (
       f s29 c3_0 (Int.tmod (W ((W (c8_0 * 10000)) + z)) (c3_0.getD 0 0)) (b27.set ((i : Int).toNat) (W (Int.tdiv (W ((W (c8_0 * 10000)) + z)) (c3_0.getD 0 0))))))))))
abbrev f129_L7H : Tm := ⟨[(3, .k (.hp 3 0 0)), (7, .k (.hp 7 0 0)), (8, .k (.hp 8 0 0)), (29, .d (.clo 157 (.ref hIs)))], [(3, .var 29 true false [.d hIs]), (7, .var 29 false false [.k (.hw 27)]), (8, .var 3 true false [.d hI]), (27, .arr 3 hI false)], [], []⟩
abbrev f129_L7X0 : Tm := ⟨[(7, .k (.hp 7 0 0)), (8, .k (.hp 8 0 0))], [(7, .var 29 false false [.k (.hw 27)]), (8, .var 3 true false [.d hI]), (27, .arr 3 hI false)], [3], []⟩
abbrev f129_L7O : List (Exit × Tm) := [(.normal, f129_L7X0)]
def f129_L7Z (v : f129_L7H.den) : List Int := (fun s29 c3_0 c8_0 b27 => s29) v.1.2.2.2.1 v.2.1.1 v.2.2.2.1.1 v.2.2.2.2.1
def f129_L7U {α : Type} (n : Nat) (i : Nat) (z : Int) (v : f129_L7H.den) (f : f129_L7H.den → Option α) (ks : KS α f129_L7O) : Option α := f129_L7B n i z v.1.2.2.2.1 v.2.1.1 v.2.2.2.1.1 v.2.2.2.2.1 (fun s29 c3_0 c8_0 b27 => f (((), (), (), s29, ()), ((c3_0, ()), ((), ()), (c8_0, ()), b27, ()))) (fun w0 w1 => ks.1 (((), (), ()), (((), ()), (w0, ()), w1, ())))
def f129_L7N {α : Type} (v : f129_L7H.den) (ks : KS α f129_L7O) : Option α := (fun s29 c3_0 c8_0 b27 => ks.1 (((), (), ()), (((), ()), (c8_0, ()), b27, ()))) v.1.2.2.2.1 v.2.1.1 v.2.2.2.1.1 v.2.2.2.2.1
def f129_L7 {α : Type} (n : Nat) (s29 : LI) (c3_0 : LI) (c8_0 : Int) (b27 : LI) (k0 : Int → LI → Option α) : Option α := rangeR f129_L7Z (f129_L7U n) f129_L7N (((), (), (), s29, ()), ((c3_0, ()), ((), ()), (c8_0, ()), b27, ())) (fun w => k0 w.2.2.1.1 w.2.2.2.1, ())
def f129_L7R {α : Type} (n : Nat) (zs : List Int) (i : Nat) (s29 : LI) (c3_0 : LI) (c8_0 : Int) (b27 : LI) (k0 : Int → LI → Option α) : Option α := rangeB f129_L7Z (f129_L7U n) zs i (((), (), (), s29, ()), ((c3_0, ()), ((), ()), (c8_0, ()), b27, ())) (fun v => f129_L7N v (fun w => k0 w.2.2.1.1 w.2.2.2.1, ())) (fun w => k0 w.2.2.1.1 w.2.2.2.1, ())
theorem f129_L7_e {α : Type} (n : Nat) (s29 : LI) (c3_0 : LI) (c8_0 : Int) (b27 : LI) (k0 : Int → LI → Option α) : f129_L7 (α := α) n s29 c3_0 c8_0 b27 k0 = gd (decide (s29.length ≤ 4611686018427387904)) (f129_L7R n s29 s29.length s29 c3_0 c8_0 b27 k0) := rfl
theorem f129_L7_0 {α : Type} (n : Nat) (zs : List Int) (s29 : LI) (c3_0 : LI) (c8_0 : Int) (b27 : LI) (k0 : Int → LI → Option α) : f129_L7R (α := α) n zs 0 s29 c3_0 c8_0 b27 k0 = k0 c8_0 b27 := rfl
theorem f129_L7_s {α : Type} (n : Nat) (zs : List Int) (i : Nat) (s29 : LI) (c3_0 : LI) (c8_0 : Int) (b27 : LI) (k0 : Int → LI → Option α) : f129_L7R (α := α) n zs (i + 1) s29 c3_0 c8_0 b27 k0 = f129_L7B n i (zs.getD i 0) s29 c3_0 c8_0 b27 (fun s29 c3_0 c8_0 b27 => gd (decide (s29 = zs)) (f129_L7R n zs i s29 c3_0 c8_0 b27 k0)) k0 := rfl
def f129_L14B {α : Type} (n : Nat) (s6 s13 : Int) (c3_0 b62 b310 : LI) (f : Int → Int → LI → LI → LI → Option α) (k0 : LI → LI → Option α) : Option α :=
 bif (decide (s13 ≥ 0)) then
  gd (decide (0 ≤ s13) && decide (s13 ≤ (W ((W (s13 + s6)) + 1))) && decide ((W ((W (s13 + s6)) + 1)) ≤ (b310.length : Int))) (
   ob (f152B n (b310, s13.toNat, ((W ((W (s13 + s6)) + 1)).toNat - s13.toNat)) c3_0) fun r_9 =>
   gd (Nat.beq r_9.2.length b310.length && true) (
    gd (decide (0 ≤ s13) && decide (s13 < (b62.length : Int))) (
     gd (decide (s13.toNat < b62.length)) (
      f s6 (W (s13 - 1)) c3_0 (b62.set s13.toNat r_9.1) r_9.2))))
 else
  k0 b62 b310
abbrev f129_L14H : Tm := ⟨[(3, .k (.hp 3 0 0)), (6, .d hI), (11, .k (.hw 310)), (12, .k (.hw 62)), (13, .d hI)], [(3, .var 29 true false [.d hIs]), (62, .arr 3 hI false), (310, .arr 3 hI false)], [55], []⟩
abbrev f129_L14X0 : Tm := ⟨[(11, .k (.hw 310)), (12, .k (.hw 62))], [(62, .arr 3 hI false), (310, .arr 3 hI false)], [3], []⟩
abbrev f129_L14O : List (Exit × Tm) := [(.exit 2, f129_L14X0)]
def f129_L14U {α : Type} (n : Nat) (v : f129_L14H.den) (f : f129_L14H.den → Option α) (ks : KS α f129_L14O) : Option α := f129_L14B n v.1.2.1 v.1.2.2.2.2.1 v.2.1.1 v.2.2.1 v.2.2.2.1 (fun s6 s13 c3_0 b62 b310 => f (((), s6, (), (), s13, ()), ((c3_0, ()), b62, b310, ()))) (fun w0 w1 => ks.1 (((), (), ()), (w0, w1, ())))
def f129_L14 {α : Type} (n m : Nat) (s6 s13 : Int) (c3_0 b62 b310 : LI) (k0 : LI → LI → Option α) : Option α := rounds (f129_L14U n) m (((), s6, (), (), s13, ()), ((c3_0, ()), b62, b310, ())) (fun w => k0 w.2.1 w.2.2.1, ())
theorem f129_L14_0 {α n s6 s13 c3_0 b62 b310 k0} : f129_L14 (α := α) n 0 s6 s13 c3_0 b62 b310 k0 = none := rfl
theorem f129_L14_s {α n m s6 s13 c3_0 b62 b310 k0} : f129_L14 (α := α) n (m + 1) s6 s13 c3_0 b62 b310 k0 = f129_L14B n s6 s13 c3_0 b62 b310 (fun s6 s13 c3_0 b62 b310 => f129_L14 n m s6 s13 c3_0 b62 b310 k0) k0 := rfl
abbrev f129_G10 : Tm := ⟨[(3, .k (.hp 3 0 0)), (7, .k (.hp 7 0 0)), (8, .k (.hp 8 0 0)), (9, .d hI), (10, .d hI), (29, .d (.clo 157 (.ref hIs))), (30, .d hI), (31, .d hI)], [(3, .var 29 true false [.d hIs]), (7, .var 29 false false [.k (.hw 27)]), (8, .var 3 true false [.d hI]), (27, .arr 3 hI false)], [], []⟩
abbrev f129_G11 : Tm := ⟨[(7, .k (.hp 7 0 0)), (8, .k (.hp 8 0 0))], [(7, .var 29 false false [.k (.hw 27)]), (8, .var 3 true false [.d hI]), (27, .arr 3 hI false)], [], []⟩
abbrev f129_G12 : Tm := ⟨[(0, .d hIs), (3, .k (.hp 3 0 0)), (6, .d hI)], [(3, .var 29 true false [.d hIs])], [], []⟩
abbrev f129_G16 : Tm := ⟨[(3, .k (.hp 3 0 0)), (6, .d hI), (11, .k (.hw 310)), (12, .k (.hw 62)), (13, .d hI)], [(3, .var 29 true false [.d hIs]), (62, .arr 3 hI false), (310, .arr 3 hI false)], [], []⟩
def f129 (n : Nat) (a0 a1 : LI) : Option (LI × LI) :=
 ob (f119 n a0 a1) fun r_1 =>
 bif (decide (r_1 < 0)) then
  ob (f115 n a0) fun r_2 =>
  some ([], r_2)
 else
  bif ((a1.length : Int) == 1) then
   gd (decide (0 ≤ (a0.length : Int)) && decide ((a0.length : Int) ≤ 4611686018427387904) && decide ((8 : Int) * (a0.length : Int) ≤ 281474976710656)) (
    ob (f146 n a0) fun r_3 =>
    f129_L7 n r_3 a1 0 (List.replicate ((a0.length : Int).toNat) 0)
     (fun z_4 z_5 => (
      ob (f130 n z_5) fun r_6 =>
      ob (f116 n z_4) fun r_7 =>
      some (r_6, r_7))))
  else
   ob (f115B n a0) fun r_8 =>
   gd (decide ((r_8.length + 1) * 8 ≤ 140737488355328)) (
    gd (decide (0 ≤ (W ((W ((a0.length : Int) - (a1.length : Int))) + 1))) && decide ((W ((W ((a0.length : Int) - (a1.length : Int))) + 1)) ≤ 4611686018427387904) && decide ((8 : Int) * (W ((W ((a0.length : Int) - (a1.length : Int))) + 1)) ≤ 281474976710656)) (
     f129_L14 n n (a1.length : Int) (W ((a0.length : Int) - (a1.length : Int))) a1 (List.replicate ((W ((W ((a0.length : Int) - (a1.length : Int))) + 1)).toNat) 0) (r_8 ++ [0])
      (fun z_10 z_11 => (
       ob (f130 n z_10) fun r_12 =>
       ob (f130 n z_11) fun r_13 =>
       some (r_12, r_13)))))
def f129_E (n : Nat) : Ent := ⟨129, [hIs, hIs], [hIs, hIs], fun x => f129 n x.1 x.2⟩
def f129_D (α : Type) (n : Nat) : D3 α := { reg := [(1, ⟨0, [], [(2, { ent := some (f119_E n) })]⟩), (2, ⟨0, [], [(0, { sh := some hI }), (2, { ent := some (f115_E n) })]⟩), (6, ⟨0, [], [(1, { ent := some (f146_E n) })]⟩), (11, ⟨0, [], [(1, { ent := some (f130_E n), fz := [(49, hIs)] }), (3, { ent := some (f116_E n) })]⟩), (12, ⟨0, [], [(1, { entB := some (f115B_E n), hb := 310 }), (2, { sh := some hI })]⟩), (16, ⟨0, [], [(10, { entB := some (f152B_E n), hb := 320 })]⟩), (17, ⟨0, [], [(1, { ent := some (f130_E n), fz := [(83, hIs)] }), (3, { ent := some (f130_E n), fz := [(85, hIs)] })]⟩)], join := [], loop := [(7, ⟨f129_L7H, f129_L7O, rangeR f129_L7Z (f129_L7U n) f129_L7N⟩), (14, ⟨f129_L14H, f129_L14O, rounds (f129_L14U n) n⟩)], any := [(10, f129_G10), (11, f129_G11), (12, f129_G12), (16, f129_G16)] }
set_option maxHeartbeats 8000000 in
theorem f129_A10 (n : Nat) : FamAll (tyOf Try.prog) ⟨87, []⟩ [] f129_G10 (regOps ((bodyOf Try.f129).at [1, 1, 1, 0, 1, 0, 1, 0, 1, 0, 1, 0, 1])) := by
 refine ⟨by kernel_rfl, fun w q hq => ?_⟩
 have e : WT [] (swapIdx (regOps ((bodyOf Try.f129).at [1, 1, 1, 0, 1, 0, 1, 0, 1, 0, 1, 0, 1])).toList) q = (q = []) := by kernel_rfl
 rw [e] at hq
 obtain rfl := hq
 all_goals exact .inr ⟨14, by kernel_rfl, by kernel_rfl, by kernel_rfl⟩
set_option maxHeartbeats 8000000 in
theorem f129_A11 (n : Nat) : FamAll (tyOf Try.prog) ⟨87, []⟩ [(1, { ent := some (f130_E n), fz := [(49, hIs)] }), (3, { ent := some (f116_E n) })] f129_G11 (regOps ((bodyOf Try.f129).at [1, 1, 1, 0, 1, 0, 1, 1, 0])) := by
 refine ⟨by kernel_rfl, fun w q hq => ?_⟩
 have e : WT [(1, { ent := some (f130_E n), fz := [(49, hIs)] }), (3, { ent := some (f116_E n) })] (swapIdx (regOps ((bodyOf Try.f129).at [1, 1, 1, 0, 1, 0, 1, 1, 0])).toList) q = (∃ (y0 : HL (f130_E n).rs) (q0 : List (Nat × RV)), q = (1, .sv (resSV (f130_E n).rs y0)) :: q0 ∧ ∃ (y1 : HL (f116_E n).rs) (q1 : List (Nat × RV)), q0 = (3, .sv (resSV (f116_E n).rs y1)) :: q1 ∧ q1 = []) := by kernel_rfl
 rw [e] at hq
 obtain ⟨y0, q0, rfl, y1, q1, rfl, rfl⟩ := hq
 all_goals exact .inl (FamEq.mk (by kernel_rfl))
set_option maxHeartbeats 8000000 in
theorem f129_A12 (n : Nat) : FamAll (tyOf Try.prog) ⟨87, []⟩ [(1, { entB := some (f115B_E n), hb := 310 }), (2, { sh := some hI })] f129_G12 (regOps ((bodyOf Try.f129).at [1, 1, 1, 1, 0])) := by
 refine ⟨by kernel_rfl, fun w q hq => ?_⟩
 have e : WT [(1, { entB := some (f115B_E n), hb := 310 }), (2, { sh := some hI })] (swapIdx (regOps ((bodyOf Try.f129).at [1, 1, 1, 1, 0])).toList) q = (∃ (y0 : HF (ownsP 1000 (f115B_E n).ts) (f115B_E n).forms) (q0 : List (Nat × RV)), q = (1, .bx (f115B_E n) y0) :: q0 ∧ q0 = []) := by kernel_rfl
 rw [e] at hq
 obtain ⟨y0, q0, rfl, rfl⟩ := hq
 all_goals exact .inl (FamEq.mk (by kernel_rfl))
set_option maxHeartbeats 8000000 in
theorem f129_A16 (n : Nat) : FamAll (tyOf Try.prog) ⟨87, []⟩ [(10, { entB := some (f152B_E n), hb := 320 })] f129_G16 (regOps ((bodyOf Try.f129).at [1, 1, 1, 1, 1, 0, 1, 0, 0, 1, 0, 0])) := by
 refine ⟨by kernel_rfl, fun w q hq => ?_⟩
 have e : WT [(10, { entB := some (f152B_E n), hb := 320 })] (swapIdx (regOps ((bodyOf Try.f129).at [1, 1, 1, 1, 1, 0, 1, 0, 0, 1, 0, 0])).toList) q = (∃ (y0 : HF (ownsP 1000 (f152B_E n).ts) (f152B_E n).forms) (q0 : List (Nat × RV)), q = (10, .bx (f152B_E n) y0) :: q0 ∧ q0 = []) := by kernel_rfl
 rw [e] at hq
 obtain ⟨y0, q0, rfl, rfl⟩ := hq
 all_goals exact .inl (FamEq.mk (by kernel_rfl))
theorem f129_ents (α : Type) (n : Nat) : AllS Try.prog (entsOf (f129_D α n).reg) := ⟨f119_ok n, f115_ok n, f146_ok n, f130_ok n, f116_ok n, f115B_ok n, f152B_ok n, f130_ok n, f130_ok n, trivial⟩
theorem f129_L7A_d (α : Type) (n : Nat) : D3.OK Try.prog (tyOf Try.prog) ⟨87, []⟩ (f129_D α n) ((bodyOf Try.f129).at [1, 1, 1, 0, 1, 0, 1, 0, 1, 0, 0]) :=
 D3.OK.mk3a (f129_ents α n) (show loopsOf ((bodyOf Try.f129).at [1, 1, 1, 0, 1, 0, 1, 0, 1, 0, 0]) = [] by kernel_rfl) trivial (show anysOf ((bodyOf Try.f129).at [1, 1, 1, 0, 1, 0, 1, 0, 1, 0, 0]) = [] by kernel_rfl) trivial
theorem f129_L7B_d (α : Type) (n : Nat) : D3.OK Try.prog (tyOf Try.prog) ⟨87, []⟩ (f129_D α n) ((bodyOf Try.f129).at [1, 1, 1, 0, 1, 0, 1, 0, 1, 0, 1]) :=
 D3.OK.mk3a (f129_ents α n) (show loopsOf ((bodyOf Try.f129).at [1, 1, 1, 0, 1, 0, 1, 0, 1, 0, 1]) = [] by kernel_rfl) trivial (show anysOf ((bodyOf Try.f129).at [1, 1, 1, 0, 1, 0, 1, 0, 1, 0, 1]) = [(10, regOps ((bodyOf Try.f129).at [1, 1, 1, 0, 1, 0, 1, 0, 1, 0, 1, 0, 1]))] by kernel_rfl) ⟨fun X h => (by cases h; exact f129_A10 n), trivial⟩
theorem f129_L7_ok (α : Type) (n : Nat) : LO.Sound (α := α) Try.prog ⟨87, []⟩ ⟨f129_L7H, f129_L7O, rangeR f129_L7Z (f129_L7U n) f129_L7N⟩ (.rangeFunc (.tmp 29) #[30, 31] ((bodyOf Try.f129).at [1, 1, 1, 0, 1, 0, 1, 0, 1, 0, 0]) ((bodyOf Try.f129).at [1, 1, 1, 0, 1, 0, 1, 0, 1, 0, 1])) :=
 range_ok (tyOf_ok _) prog_fol f129_L7Z (f129_L7U n) f129_L7N back_ok rfl rfl rfl rfl (f129_L7A_d α n) (f129_L7B_d α n) (by intro v; rfl) (by intro i z v f ks; kernel_rfl) (by intro v ks; kernel_rfl)
theorem f129_L14_d (α : Type) (n : Nat) : D3.OK Try.prog (tyOf Try.prog) ⟨87, []⟩ (f129_D α n) ((bodyOf Try.f129).at [1, 1, 1, 1, 1, 0, 1, 0, 0]) :=
 D3.OK.mk3a (f129_ents α n) (show loopsOf ((bodyOf Try.f129).at [1, 1, 1, 1, 1, 0, 1, 0, 0]) = [] by kernel_rfl) trivial (show anysOf ((bodyOf Try.f129).at [1, 1, 1, 1, 1, 0, 1, 0, 0]) = [(16, regOps ((bodyOf Try.f129).at [1, 1, 1, 1, 1, 0, 1, 0, 0, 1, 0, 0]))] by kernel_rfl) ⟨fun X h => (by cases h; exact f129_A16 n), trivial⟩
theorem f129_L14_ok (α : Type) (n : Nat) : LO.Sound (α := α) Try.prog ⟨87, []⟩ ⟨f129_L14H, f129_L14O, rounds (f129_L14U n) n⟩ (.loop ((bodyOf Try.f129).at [1, 1, 1, 1, 1, 0, 1, 0, 0])) :=
 loop_ok (tyOf_ok _) prog_fol (f129_L14U n) (f129_L14_d α n) (by intro v f ks; kernel_rfl) n
theorem f129_d (α : Type) (n : Nat) : D3.OK Try.prog (tyOf Try.prog) ⟨87, []⟩ (f129_D α n) (bodyOf Try.f129) :=
 D3.OK.mk3a (f129_ents α n) (show loopsOf (bodyOf Try.f129) = [(7, (.rangeFunc (.tmp 29) #[30, 31] ((bodyOf Try.f129).at [1, 1, 1, 0, 1, 0, 1, 0, 1, 0, 0]) ((bodyOf Try.f129).at [1, 1, 1, 0, 1, 0, 1, 0, 1, 0, 1]))), (14, (.loop ((bodyOf Try.f129).at [1, 1, 1, 1, 1, 0, 1, 0, 0])))] by kernel_rfl) ⟨look_sound rfl (f129_L7_ok α n), look_sound rfl (f129_L14_ok α n), trivial⟩ (show anysOf (bodyOf Try.f129) = [(11, regOps ((bodyOf Try.f129).at [1, 1, 1, 0, 1, 0, 1, 1, 0])), (12, regOps ((bodyOf Try.f129).at [1, 1, 1, 1, 0]))] by kernel_rfl) ⟨fun X h => (by cases h; exact f129_A11 n), fun X h => (by cases h; exact f129_A12 n), trivial⟩
theorem f129_ok (n : Nat) : (f129_E n).Sound Try.prog :=
 fn_ok (tyOf_ok _) prog_fol (f129_D _ n) (show Try.prog.funcs[129]? = some Try.f129 by kernel_rfl) (by kernel_rfl) (show Try.f129.body = some (bodyOf Try.f129) by kernel_rfl) rfl rfl (Nat.le_of_ble_eq_true rfl) (f129_d _ n) (by intro x; kernel_rfl) 

def f128_L1B {α : Type} (n : Nat) (s0 s1 : LI) (f : LI → LI → Option α) (k0 : LI → Option α) : Option α :=
 bif (decide ((s1.length : Int) > 0)) then
  ob (f129 n s0 s1) fun r_1 =>
  f s1 r_1.2
 else
  k0 s0
abbrev f128_L1H : Tm := ⟨[(0, .d hIs), (1, .d hIs)], [], [], []⟩
abbrev f128_L1X0 : Tm := ⟨[(0, .d hIs)], [], [], []⟩
abbrev f128_L1O : List (Exit × Tm) := [(.exit 0, f128_L1X0)]
def f128_L1U {α : Type} (n : Nat) (v : f128_L1H.den) (f : f128_L1H.den → Option α) (ks : KS α f128_L1O) : Option α := f128_L1B n v.1.1 v.1.2.1 (fun s0 s1 => f ((s0, s1, ()), ())) (fun w0 => ks.1 ((w0, ()), ()))
def f128_L1 {α : Type} (n m : Nat) (s0 s1 : LI) (k0 : LI → Option α) : Option α := rounds (f128_L1U n) m ((s0, s1, ()), ()) (fun w => k0 w.1.1, ())
theorem f128_L1_0 {α n s0 s1 k0} : f128_L1 (α := α) n 0 s0 s1 k0 = none := rfl
theorem f128_L1_s {α n m s0 s1 k0} : f128_L1 (α := α) n (m + 1) s0 s1 k0 = f128_L1B n s0 s1 (fun s0 s1 => f128_L1 n m s0 s1 k0) k0 := rfl
def f128 (n : Nat) (a0 a1 : LI) : Option LI :=
 f128_L1 n n a0 a1
  (fun z_2 => (
   some z_2))
def f128_E (n : Nat) : Ent := ⟨128, [hIs, hIs], [hIs], fun x => f128 n x.1 x.2⟩
def f128_D (α : Type) (n : Nat) : D3 α := { reg := [(2, ⟨0, [], [(2, { ent := some (f129_E n) })]⟩)], join := [], loop := [(1, ⟨f128_L1H, f128_L1O, rounds (f128_L1U n) n⟩)] }
theorem f128_ents (α : Type) (n : Nat) : AllS Try.prog (entsOf (f128_D α n).reg) := ⟨f129_ok n, trivial⟩
theorem f128_L1_d (α : Type) (n : Nat) : D3.OK Try.prog (tyOf Try.prog) ⟨19, []⟩ (f128_D α n) ((bodyOf Try.f128).at [1, 0, 0, 0]) :=
 D3.OK.mk3 (f128_ents α n) (show loopsOf ((bodyOf Try.f128).at [1, 0, 0, 0]) = [] by kernel_rfl) trivial
theorem f128_L1_ok (α : Type) (n : Nat) : LO.Sound (α := α) Try.prog ⟨19, []⟩ ⟨f128_L1H, f128_L1O, rounds (f128_L1U n) n⟩ (.loop ((bodyOf Try.f128).at [1, 0, 0, 0])) :=
 loop_ok (tyOf_ok _) prog_fol (f128_L1U n) (f128_L1_d α n) (by intro v f ks; kernel_rfl) n
theorem f128_d (α : Type) (n : Nat) : D3.OK Try.prog (tyOf Try.prog) ⟨19, []⟩ (f128_D α n) (bodyOf Try.f128) :=
 D3.OK.mk3 (f128_ents α n) (show loopsOf (bodyOf Try.f128) = [(1, (.loop ((bodyOf Try.f128).at [1, 0, 0, 0])))] by kernel_rfl) ⟨look_sound rfl (f128_L1_ok α n), trivial⟩
theorem f128_ok (n : Nat) : (f128_E n).Sound Try.prog :=
 fn_ok (tyOf_ok _) prog_fol (f128_D _ n) (show Try.prog.funcs[128]? = some Try.f128 by kernel_rfl) (by kernel_rfl) (show Try.f128.body = some (bodyOf Try.f128) by kernel_rfl) rfl rfl (Nat.le_of_ble_eq_true rfl) (f128_d _ n) (by intro x; kernel_rfl) 

def f117 (n : Nat)  : Option LI :=
 some [1]
def f117_E (n : Nat) : Ent := ⟨117, [], [hIs], fun _ => f117 n⟩
def f117_D (α : Type) (n : Nat) : D3 α := { reg := [(1, ⟨0, [], [(0, { sh := some hI })]⟩)], join := [], loop := [] }
theorem f117_ents (α : Type) (n : Nat) : AllS Try.prog (entsOf (f117_D α n).reg) := trivial
theorem f117_d (α : Type) (n : Nat) : D3.OK Try.prog (tyOf Try.prog) ⟨2, []⟩ (f117_D α n) (bodyOf Try.f117) :=
 D3.OK.mk3 (f117_ents α n) (show loopsOf (bodyOf Try.f117) = [] by kernel_rfl) trivial
theorem f117_ok (n : Nat) : (f117_E n).Sound Try.prog :=
 fn_ok (tyOf_ok _) prog_fol (f117_D _ n) (show Try.prog.funcs[117]? = some Try.f117 by kernel_rfl) (by kernel_rfl) (show Try.f117.body = some (bodyOf Try.f117) by kernel_rfl) rfl rfl (Nat.le_of_ble_eq_true rfl) (f117_d _ n) (by intro x; kernel_rfl) 

abbrev f97_J3 : Tm := ⟨[(1, .k (.hp 1 0 0))], [(1, .var 31 true false [.d .bool, .d hIs, .d hIs])], [], []⟩
def f97 (n : Nat) (a0 : Rq) : Option Bool :=
 let J_7 := fun (_ : Unit) => (
  ob (f128 n a0.2.1 a0.2.2) fun r_4 =>
  ob (f117 n) fun r_5 =>
  ob (f119 n r_4 r_5) fun r_6 =>
  some (r_6 == 0))
 ob (f131 n a0.2.1) fun r_1 =>
 bif (!r_1) then
  some false
 else
  ob (f131 n a0.2.2) fun r_2 =>
  bif (!r_2) then
   some false
  else
   bif ((a0.2.2.length : Int) == 0) then
    some false
   else
    bif a0.1 then
     ob (f80 n a0) fun r_3 =>
     bif r_3 then
      some false
     else
      J_7 ()
    else
     J_7 ()
def f97_E (n : Nat) : Ent := ⟨97, [hR], [.bool], fun x => f97 n x⟩
def f97_D (α : Type) (n : Nat) : D3 α := { reg := [(1, ⟨0, [], [(2, { ent := some (f131_E n) }), (7, { ent := some (f131_E n) }), (21, { ent := some (f80_E n) })]⟩), (3, ⟨0, [], [(4, { ent := some (f128_E n) }), (5, { ent := some (f117_E n) }), (6, { ent := some (f119_E n) })]⟩)], join := [(3, f97_J3)], loop := [] }
theorem f97_ents (α : Type) (n : Nat) : AllS Try.prog (entsOf (f97_D α n).reg) := ⟨f131_ok n, f131_ok n, f80_ok n, f128_ok n, f117_ok n, f119_ok n, trivial⟩
theorem f97_d (α : Type) (n : Nat) : D3.OK Try.prog (tyOf Try.prog) ⟨35, []⟩ (f97_D α n) (bodyOf Try.f97) :=
 D3.OK.mk3 (f97_ents α n) (show loopsOf (bodyOf Try.f97) = [] by kernel_rfl) trivial
theorem f97_ok (n : Nat) : (f97_E n).Sound Try.prog :=
 fn_ok (tyOf_ok _) prog_fol (f97_D _ n) (show Try.prog.funcs[97]? = some Try.f97 by kernel_rfl) (by kernel_rfl) (show Try.f97.body = some (bodyOf Try.f97) by kernel_rfl) rfl rfl (Nat.le_of_ble_eq_true rfl) (f97_d _ n) (by intro x; kernel_rfl) 

def f96 (n : Nat) (a0 : Rq) : Option Bool :=
 ob (f97 n a0) fun r_1 =>
 some (!r_1)
def f96_E (n : Nat) : Ent := ⟨96, [hR], [.bool], fun x => f96 n x⟩
def f96_D (α : Type) (n : Nat) : D3 α := { reg := [(1, ⟨0, [], [(1, { ent := some (f97_E n) })]⟩)], join := [], loop := [] }
theorem f96_ents (α : Type) (n : Nat) : AllS Try.prog (entsOf (f96_D α n).reg) := ⟨f97_ok n, trivial⟩
theorem f96_d (α : Type) (n : Nat) : D3.OK Try.prog (tyOf Try.prog) ⟨6, []⟩ (f96_D α n) (bodyOf Try.f96) :=
 D3.OK.mk3 (f96_ents α n) (show loopsOf (bodyOf Try.f96) = [] by kernel_rfl) trivial
theorem f96_ok (n : Nat) : (f96_E n).Sound Try.prog :=
 fn_ok (tyOf_ok _) prog_fol (f96_D _ n) (show Try.prog.funcs[96]? = some Try.f96 by kernel_rfl) (by kernel_rfl) (show Try.f96.body = some (bodyOf Try.f96) by kernel_rfl) rfl rfl (Nat.le_of_ble_eq_true rfl) (f96_d _ n) (by intro x; kernel_rfl) 

def f114c96_L2B {α : Type} (n : Nat) (s0 : LR) (s7 s8 : Int) (f : LR → Int → Int → Option α) (k0 : Int → Option α) (k1 : Unit → Option α) : Option α :=
 bif (decide (s8 < s7)) then
  gd (decide (0 ≤ s8) && decide (s8 < (s0.length : Int))) (
   let x_1 := s0.getD s8.toNat (false, [], [])
   ob (f96 n x_1) fun r_2 =>
   bif r_2 then
    k0 s8
   else
    f s0 s7 (W (s8 + 1)))
 else
  k1 ()
abbrev f114c96_L2H : Tm := ⟨[(0, .d hRs), (1, .d (.fn 96)), (7, .d hI), (8, .d hI)], [], [], []⟩
abbrev f114c96_L2X0 : Tm := ⟨[(4, .d hI)], [], [], []⟩
abbrev f114c96_L2X1 : Tm := ⟨[], [], [], []⟩
abbrev f114c96_L2O : List (Exit × Tm) := [(.ret, f114c96_L2X0), (.exit 0, f114c96_L2X1)]
def f114c96_L2U {α : Type} (n : Nat) (v : f114c96_L2H.den) (f : f114c96_L2H.den → Option α) (ks : KS α f114c96_L2O) : Option α := f114c96_L2B n v.1.1 v.1.2.2.1 v.1.2.2.2.1 (fun s0 s7 s8 => f ((s0, (), s7, s8, ()), ())) (fun w0 => ks.1 ((w0, ()), ())) (fun _ => ks.2.1 ((), ()))
def f114c96_L2 {α : Type} (n m : Nat) (s0 : LR) (s7 s8 : Int) (k0 : Int → Option α) (k1 : Unit → Option α) : Option α := rounds (f114c96_L2U n) m ((s0, (), s7, s8, ()), ()) (fun w => k0 w.1.1, fun w => k1 (), ())
theorem f114c96_L2_0 {α n s0 s7 s8 k0 k1} : f114c96_L2 (α := α) n 0 s0 s7 s8 k0 k1 = none := rfl
theorem f114c96_L2_s {α n m s0 s7 s8 k0 k1} : f114c96_L2 (α := α) n (m + 1) s0 s7 s8 k0 k1 = f114c96_L2B n s0 s7 s8 (fun s0 s7 s8 => f114c96_L2 n m s0 s7 s8 k0 k1) k0 k1 := rfl
def f114c96 (n : Nat) (a0 : LR) (a1 : Unit) : Option Int :=
 f114c96_L2 n n a0 (a0.length : Int) 0
  (fun z_3 => (
   some z_3))
  (fun (_ : Unit) => (
   some (-1)))
def f114c96_E (n : Nat) : Ent := ⟨114, [hRs, (.fn 96)], [hI], fun x => f114c96 n x.1 x.2⟩
def f114c96_D (α : Type) (n : Nat) : D3 α := { reg := [(4, ⟨0, [], [(5, { ent := some (f96_E n) })]⟩)], join := [], loop := [(2, ⟨f114c96_L2H, f114c96_L2O, rounds (f114c96_L2U n) n⟩)] }
theorem f114c96_ents (α : Type) (n : Nat) : AllS Try.prog (entsOf (f114c96_D α n).reg) := ⟨f96_ok n, trivial⟩
theorem f114c96_L2_d (α : Type) (n : Nat) : D3.OK Try.prog (tyOf Try.prog) ⟨19, []⟩ (f114c96_D α n) ((bodyOf Try.f114).at [1, 0, 1, 0, 0]) :=
 D3.OK.mk3 (f114c96_ents α n) (show loopsOf ((bodyOf Try.f114).at [1, 0, 1, 0, 0]) = [] by kernel_rfl) trivial
theorem f114c96_L2_ok (α : Type) (n : Nat) : LO.Sound (α := α) Try.prog ⟨19, []⟩ ⟨f114c96_L2H, f114c96_L2O, rounds (f114c96_L2U n) n⟩ (.loop ((bodyOf Try.f114).at [1, 0, 1, 0, 0])) :=
 loop_ok (tyOf_ok _) prog_fol (f114c96_L2U n) (f114c96_L2_d α n) (by intro v f ks; kernel_rfl) n
theorem f114c96_d (α : Type) (n : Nat) : D3.OK Try.prog (tyOf Try.prog) ⟨19, []⟩ (f114c96_D α n) (bodyOf Try.f114) :=
 D3.OK.mk3 (f114c96_ents α n) (show loopsOf (bodyOf Try.f114) = [(2, (.loop ((bodyOf Try.f114).at [1, 0, 1, 0, 0])))] by kernel_rfl) ⟨look_sound rfl (f114c96_L2_ok α n), trivial⟩
theorem f114c96_ok (n : Nat) : (f114c96_E n).Sound Try.prog :=
 fn_ok (tyOf_ok _) prog_fol (f114c96_D _ n) (show Try.prog.funcs[114]? = some Try.f114 by kernel_rfl) (by kernel_rfl) (show Try.f114.body = some (bodyOf Try.f114) by kernel_rfl) rfl rfl (Nat.le_of_ble_eq_true rfl) (f114c96_d _ n) (by intro x; kernel_rfl) 

def f72c96 (n : Nat) (a0 : LR) (a1 : Unit) : Option Bool :=
 ob (f114c96 n a0 a1) fun r_1 =>
 some (decide (r_1 ≥ 0))
def f72c96_E (n : Nat) : Ent := ⟨72, [hRs, (.fn 96)], [.bool], fun x => f72c96 n x.1 x.2⟩
def f72c96_D (α : Type) (n : Nat) : D3 α := { reg := [(1, ⟨0, [], [(2, { ent := some (f114c96_E n) })]⟩)], join := [], loop := [] }
theorem f72c96_ents (α : Type) (n : Nat) : AllS Try.prog (entsOf (f72c96_D α n).reg) := ⟨f114c96_ok n, trivial⟩
theorem f72c96_d (α : Type) (n : Nat) : D3.OK Try.prog (tyOf Try.prog) ⟨9, []⟩ (f72c96_D α n) (bodyOf Try.f72) :=
 D3.OK.mk3 (f72c96_ents α n) (show loopsOf (bodyOf Try.f72) = [] by kernel_rfl) trivial
theorem f72c96_ok (n : Nat) : (f72c96_E n).Sound Try.prog :=
 fn_ok (tyOf_ok _) prog_fol (f72c96_D _ n) (show Try.prog.funcs[72]? = some Try.f72 by kernel_rfl) (by kernel_rfl) (show Try.f72.body = some (bodyOf Try.f72) by kernel_rfl) rfl rfl (Nat.le_of_ble_eq_true rfl) (f72c96_d _ n) (by intro x; kernel_rfl) 

def f68 (n : Nat) (a0 : Bool) (a1 : Int) : Option Int :=
 bif a0 then
  some 0
 else
  some a1
def f68_E (n : Nat) : Ent := ⟨68, [.bool, hI], [hI], fun x => f68 n x.1 x.2⟩
def f68_D (α : Type) (n : Nat) : D3 α := { reg := [], join := [], loop := [] }
theorem f68_ents (α : Type) (n : Nat) : AllS Try.prog (entsOf (f68_D α n).reg) := trivial
theorem f68_d (α : Type) (n : Nat) : D3.OK Try.prog (tyOf Try.prog) ⟨7, []⟩ (f68_D α n) (bodyOf Try.f68) :=
 D3.OK.mk3 (f68_ents α n) (show loopsOf (bodyOf Try.f68) = [] by kernel_rfl) trivial
theorem f68_ok (n : Nat) : (f68_E n).Sound Try.prog :=
 fn_ok (tyOf_ok _) prog_fol (f68_D _ n) (show Try.prog.funcs[68]? = some Try.f68 by kernel_rfl) (by kernel_rfl) (show Try.f68.body = some (bodyOf Try.f68) by kernel_rfl) rfl rfl (Nat.le_of_ble_eq_true rfl) (f68_d _ n) (by intro x; kernel_rfl) 

def f49 (n : Nat) (a0 : LR) : Option Int :=
 ob (f72c96 n a0 ()) fun r_1 =>
 ob (f68 n (!r_1) 1) fun r_2 =>
 some r_2
def f49_E (n : Nat) : Ent := ⟨49, [hRs], [hI], fun x => f49 n x⟩
def f49_D (α : Type) (n : Nat) : D3 α := { reg := [(1, ⟨0, [], [(1, { ent := some (f72c96_E n) }), (3, { ent := some (f68_E n) })]⟩)], join := [], loop := [] }
theorem f49_ents (α : Type) (n : Nat) : AllS Try.prog (entsOf (f49_D α n).reg) := ⟨f72c96_ok n, f68_ok n, trivial⟩
theorem f49_d (α : Type) (n : Nat) : D3.OK Try.prog (tyOf Try.prog) ⟨7, []⟩ (f49_D α n) (bodyOf Try.f49) :=
 D3.OK.mk3 (f49_ents α n) (show loopsOf (bodyOf Try.f49) = [] by kernel_rfl) trivial
theorem f49_ok (n : Nat) : (f49_E n).Sound Try.prog :=
 fn_ok (tyOf_ok _) prog_fol (f49_D _ n) (show Try.prog.funcs[49]? = some Try.f49 by kernel_rfl) (by kernel_rfl) (show Try.f49.body = some (bodyOf Try.f49) by kernel_rfl) rfl rfl (Nat.le_of_ble_eq_true rfl) (f49_d _ n) (by intro x; kernel_rfl) 

def f15 (n : Nat) (a0 : LR) (a1 : Int) : Option Bool :=
 ob (f48 n a1 1 4) fun r_1 =>
 bif r_1 then
  bif ((a0.length : Int) == (W (a1 * a1))) then
   ob (f49 n a0) fun r_2 =>
   some (r_2 == 0)
  else
   some false
 else
  some false
def f15_E (n : Nat) : Ent := ⟨15, [hRs, hI], [.bool], fun x => f15 n x.1 x.2⟩
def f15_D (α : Type) (n : Nat) : D3 α := { reg := [(1, ⟨0, [], [(1, { ent := some (f48_E n) }), (12, { ent := some (f49_E n) })]⟩)], join := [], loop := [] }
theorem f15_ents (α : Type) (n : Nat) : AllS Try.prog (entsOf (f15_D α n).reg) := ⟨f48_ok n, f49_ok n, trivial⟩
theorem f15_d (α : Type) (n : Nat) : D3.OK Try.prog (tyOf Try.prog) ⟨20, []⟩ (f15_D α n) (bodyOf Try.f15) :=
 D3.OK.mk3 (f15_ents α n) (show loopsOf (bodyOf Try.f15) = [] by kernel_rfl) trivial
theorem f15_ok (n : Nat) : (f15_E n).Sound Try.prog :=
 fn_ok (tyOf_ok _) prog_fol (f15_D _ n) (show Try.prog.funcs[15]? = some Try.f15 by kernel_rfl) (by kernel_rfl) (show Try.f15.body = some (bodyOf Try.f15) by kernel_rfl) rfl rfl (Nat.le_of_ble_eq_true rfl) (f15_d _ n) (by intro x; kernel_rfl) 

def f70 (n : Nat) (a0 : LR) (a1 : Int) : Option Bool :=
 ob (f15 n a0 a1) fun r_1 =>
 some (!r_1)
def f70_E (n : Nat) : Ent := ⟨70, [hRs, (.ref hI)], [.bool], fun x => f70 n x.1 x.2⟩
def f70_D (α : Type) (n : Nat) : D3 α := { reg := [(1, ⟨0, [], [(2, { ent := some (f15_E n) })]⟩)], join := [], loop := [] }
theorem f70_ents (α : Type) (n : Nat) : AllS Try.prog (entsOf (f70_D α n).reg) := ⟨f15_ok n, trivial⟩
theorem f70_d (α : Type) (n : Nat) : D3.OK Try.prog (tyOf Try.prog) ⟨8, []⟩ (f70_D α n) (bodyOf Try.f70) :=
 D3.OK.mk3 (f70_ents α n) (show loopsOf (bodyOf Try.f70) = [] by kernel_rfl) trivial
theorem f70_ok (n : Nat) : (f70_E n).Sound Try.prog :=
 fn_ok (tyOf_ok _) prog_fol (f70_D _ n) (show Try.prog.funcs[70]? = some Try.f70 by kernel_rfl) (by kernel_rfl) (show Try.f70.body = some (bodyOf Try.f70) by kernel_rfl) rfl rfl (Nat.le_of_ble_eq_true rfl) (f70_d _ n) (by intro x; kernel_rfl) 

def f78c70_L2B {α : Type} (n : Nat) (s0 : List LR) (s1 s7 s8 : Int) (f : (List LR) → Int → Int → Int → Option α) (k0 : Int → Option α) (k1 : Unit → Option α) : Option α :=
 bif (decide (s8 < s7)) then
  gd (decide (0 ≤ s8) && decide (s8 < (s0.length : Int))) (
   ob (f70 n (s0.getD s8.toNat []) s1) fun r_1 =>
   bif r_1 then
    k0 s8
   else
    f s0 s1 s7 (W (s8 + 1)))
 else
  k1 ()
abbrev f78c70_L2H : Tm := ⟨[(0, .d (.sl hRs)), (1, .d (.clo 70 (.ref hI))), (7, .d hI), (8, .d hI)], [], [], []⟩
abbrev f78c70_L2X0 : Tm := ⟨[(4, .d hI)], [], [], []⟩
abbrev f78c70_L2X1 : Tm := ⟨[], [], [], []⟩
abbrev f78c70_L2O : List (Exit × Tm) := [(.ret, f78c70_L2X0), (.exit 0, f78c70_L2X1)]
def f78c70_L2U {α : Type} (n : Nat) (v : f78c70_L2H.den) (f : f78c70_L2H.den → Option α) (ks : KS α f78c70_L2O) : Option α := f78c70_L2B n v.1.1 v.1.2.1 v.1.2.2.1 v.1.2.2.2.1 (fun s0 s1 s7 s8 => f ((s0, s1, s7, s8, ()), ())) (fun w0 => ks.1 ((w0, ()), ())) (fun _ => ks.2.1 ((), ()))
def f78c70_L2 {α : Type} (n m : Nat) (s0 : List LR) (s1 s7 s8 : Int) (k0 : Int → Option α) (k1 : Unit → Option α) : Option α := rounds (f78c70_L2U n) m ((s0, s1, s7, s8, ()), ()) (fun w => k0 w.1.1, fun w => k1 (), ())
theorem f78c70_L2_0 {α n s0 s1 s7 s8 k0 k1} : f78c70_L2 (α := α) n 0 s0 s1 s7 s8 k0 k1 = none := rfl
theorem f78c70_L2_s {α n m s0 s1 s7 s8 k0 k1} : f78c70_L2 (α := α) n (m + 1) s0 s1 s7 s8 k0 k1 = f78c70_L2B n s0 s1 s7 s8 (fun s0 s1 s7 s8 => f78c70_L2 n m s0 s1 s7 s8 k0 k1) k0 k1 := rfl
def f78c70 (n : Nat) (a0 : List LR) (a1 : Int) : Option Int :=
 f78c70_L2 n n a0 a1 (a0.length : Int) 0
  (fun z_2 => (
   some z_2))
  (fun (_ : Unit) => (
   some (-1)))
def f78c70_E (n : Nat) : Ent := ⟨78, [(.sl hRs), (.clo 70 (.ref hI))], [hI], fun x => f78c70 n x.1 x.2⟩
def f78c70_D (α : Type) (n : Nat) : D3 α := { reg := [(4, ⟨0, [], [(5, { ent := some (f70_E n) })]⟩)], join := [], loop := [(2, ⟨f78c70_L2H, f78c70_L2O, rounds (f78c70_L2U n) n⟩)] }
theorem f78c70_ents (α : Type) (n : Nat) : AllS Try.prog (entsOf (f78c70_D α n).reg) := ⟨f70_ok n, trivial⟩
theorem f78c70_L2_d (α : Type) (n : Nat) : D3.OK Try.prog (tyOf Try.prog) ⟨19, []⟩ (f78c70_D α n) ((bodyOf Try.f78).at [1, 0, 1, 0, 0]) :=
 D3.OK.mk3 (f78c70_ents α n) (show loopsOf ((bodyOf Try.f78).at [1, 0, 1, 0, 0]) = [] by kernel_rfl) trivial
theorem f78c70_L2_ok (α : Type) (n : Nat) : LO.Sound (α := α) Try.prog ⟨19, []⟩ ⟨f78c70_L2H, f78c70_L2O, rounds (f78c70_L2U n) n⟩ (.loop ((bodyOf Try.f78).at [1, 0, 1, 0, 0])) :=
 loop_ok (tyOf_ok _) prog_fol (f78c70_L2U n) (f78c70_L2_d α n) (by intro v f ks; kernel_rfl) n
theorem f78c70_d (α : Type) (n : Nat) : D3.OK Try.prog (tyOf Try.prog) ⟨19, []⟩ (f78c70_D α n) (bodyOf Try.f78) :=
 D3.OK.mk3 (f78c70_ents α n) (show loopsOf (bodyOf Try.f78) = [(2, (.loop ((bodyOf Try.f78).at [1, 0, 1, 0, 0])))] by kernel_rfl) ⟨look_sound rfl (f78c70_L2_ok α n), trivial⟩
theorem f78c70_ok (n : Nat) : (f78c70_E n).Sound Try.prog :=
 fn_ok (tyOf_ok _) prog_fol (f78c70_D _ n) (show Try.prog.funcs[78]? = some Try.f78 by kernel_rfl) (by kernel_rfl) (show Try.f78.body = some (bodyOf Try.f78) by kernel_rfl) rfl rfl (Nat.le_of_ble_eq_true rfl) (f78c70_d _ n) (by intro x; kernel_rfl) 

end Go.Ev
