/- DERIVED. What the functions compute, and that they do. -/
import Derived.Test.YtcpdoafoahaagaaGreatEe

set_option linter.all false
set_option linter.unusedVariables false
set_option linter.unusedSimpArgs false

namespace Go.Ev
open Go Go.Proofs Go.RowKit Go.Shelf
def f10 (n : Nat) (a0 : LI) (a1 a2 : Int) : Option Int :=
 bif (decide (a2 ≤ 1)) then
  some 0
 else
  bif ((a0.length : Int) == 0) then
   gd (decide (a2 ≠ 0)) (
    some (Int.tmod (W (a1 * 7)) a2))
  else
   gd (decide ((a0.length : Int) ≠ 0)) (
    gd (decide (0 ≤ (Int.tmod a1 (a0.length : Int))) && decide ((Int.tmod a1 (a0.length : Int)) < (a0.length : Int))) (
     gd (decide ((a0.length : Int) ≠ 0)) (
      gd (decide (0 ≤ (Int.tmod (W (a1 + 1)) (a0.length : Int))) && decide ((Int.tmod (W (a1 + 1)) (a0.length : Int)) < (a0.length : Int))) (
       gd (decide ((a0.length : Int) ≠ 0)) (
        gd (decide (a2 ≠ 0)) (
         some (Int.tmod (W ((W ((W ((W (a0.getD ((Int.tmod a1 (a0.length : Int)).toNat) 0)) * 31)) + (W (a0.getD ((Int.tmod (W (a1 + 1)) (a0.length : Int)).toNat) 0)))) + (W (Int.tdiv a1 (a0.length : Int))))) a2)))))))
def f10_E (n : Nat) : Ent := ⟨10, [(.sl (.int .u8)), hI, hI], [hI], fun x => f10 n x.1 x.2.1 x.2.2⟩
def f10_D (α : Type) (n : Nat) : D3 α := { reg := [(5, ⟨25, [], []⟩)], join := [], loop := [] }
theorem f10_ents (α : Type) (n : Nat) : AllS Tryz.prog (entsOf (f10_D α n).reg) := trivial
theorem f10_d (α : Type) (n : Nat) : D3.OK Tryz.prog (tyOf Tryz.prog) ⟨42, []⟩ (f10_D α n) (bodyOf Tryz.f10) :=
 D3.OK.mk3 (f10_ents α n) (show loopsOf (bodyOf Tryz.f10) = [] by kernel_rfl) trivial
theorem f10_ok (n : Nat) : (f10_E n).Sound Tryz.prog :=
 fn_ok (tyOf_ok _) prog_fol (f10_D _ n) (show Tryz.prog.funcs[10]? = some Tryz.f10 by kernel_rfl) (by kernel_rfl) (show Tryz.f10.body = some (bodyOf Tryz.f10) by kernel_rfl) rfl rfl (Nat.le_of_ble_eq_true rfl) (f10_d _ n) (by intro x; kernel_rfl) 

def f46B (n : Nat) (a0 : LI) : Option (LI × Int × Int) :=
 some (a0, 0, (Int.tmod (a0.length : Int) 1000))
def f46B_E (n : Nat) : Ent3 := ⟨46, [.im (.sl (.int .u8))], [[.one (.ptr 125 (.st (.pair (.sl (.int .u8)) (.pair hI hI))))]], fun x => f46B n x⟩
def f46B_D (α : Type) (n : Nat) : D3 α := { reg := [], join := [], loop := [] }
theorem f46B_ents (α : Type) (n : Nat) : AllS Tryz.prog (entsOf (f46B_D α n).reg) := trivial
theorem f46B_d (α : Type) (n : Nat) : D3.OK Tryz.prog (tyOf Tryz.prog) ⟨9, []⟩ (f46B_D α n) (bodyOf Tryz.f46) :=
 D3.OK.mk3 (f46B_ents α n) (show loopsOf (bodyOf Tryz.f46) = [] by kernel_rfl) trivial
theorem f46B_ok (n : Nat) : (f46B_E n).Sound Tryz.prog :=
 fn_okB (tyOf_ok _) prog_fol (f46B_D _ n) (show Tryz.prog.funcs[46]? = some Tryz.f46 by kernel_rfl) (by kernel_rfl) (show Tryz.f46.body = some (bodyOf Tryz.f46) by kernel_rfl) rfl rfl (Nat.le_of_ble_eq_true rfl) (f46B_d _ n) (by intro x; kernel_rfl) 

def f173B (n : Nat) (a0 : LI × Int × Int) : Option (Int × (LI × Int × Int)) :=
 bif (decide ((W (a0.2.1 + 1)) ≤ (a0.1.length : Int))) then
  gd (decide (0 ≤ (W ((W (a0.2.1 + 1)) - 1))) && decide ((W ((W (a0.2.1 + 1)) - 1)) < (a0.1.length : Int))) (
   gd (decide (0 ≤ (W ((W (a0.2.1 + 1)) - 1))) && decide ((W ((W (a0.2.1 + 1)) - 1)) < (a0.1.length : Int))) (
    some ((W (a0.1.getD ((W ((W (a0.2.1 + 1)) - 1)).toNat) 0)), (a0.1, (W (a0.2.1 + 1)), (Int.tmod (W ((W ((W (a0.2.2 * 31)) + (W (a0.1.getD ((W ((W (a0.2.1 + 1)) - 1)).toNat) 0)))) + 7)) 2147483648)))))
 else
  bif (decide ((W (a0.2.1 + 1)) > 3000)) then
   some (0, (a0.1, (W (a0.2.1 + 1)), a0.2.2))
  else
   some ((Int.tmod (W (Int.tdiv (Int.tmod (W ((W (a0.2.2 * 1103515245)) + 12345)) 2147483648) 65536)) 256), (a0.1, (W (a0.2.1 + 1)), (Int.tmod (W ((W (a0.2.2 * 1103515245)) + 12345)) 2147483648)))
def f173B_E (n : Nat) : Ent3 := ⟨173, [.one (.ptr 125 (.st (.pair (.sl (.int .u8)) (.pair hI hI))))], [[.im hI]], fun x => f173B n x⟩
def f173B_D (α : Type) (n : Nat) : D3 α := { reg := [(2, ⟨9, [], []⟩), (3, ⟨21, [], []⟩), (4, ⟨9, [], []⟩)], join := [], loop := [] }
theorem f173B_ents (α : Type) (n : Nat) : AllS Tryz.prog (entsOf (f173B_D α n).reg) := trivial
theorem f173B_d (α : Type) (n : Nat) : D3.OK Tryz.prog (tyOf Tryz.prog) ⟨76, []⟩ (f173B_D α n) (bodyOf Tryz.f173) :=
 D3.OK.mk3 (f173B_ents α n) (show loopsOf (bodyOf Tryz.f173) = [] by kernel_rfl) trivial
theorem f173B_ok (n : Nat) : (f173B_E n).Sound Tryz.prog :=
 fn_okB (tyOf_ok _) prog_fol (f173B_D _ n) (show Tryz.prog.funcs[173]? = some Tryz.f173 by kernel_rfl) (by kernel_rfl) (show Tryz.f173.body = some (bodyOf Tryz.f173) by kernel_rfl) rfl rfl (Nat.le_of_ble_eq_true rfl) (f173B_d _ n) (by intro x; kernel_rfl) 

def f107B (n : Nat) (a0 : LI × Int × Int) (a1 : Int) : Option (Int × (LI × Int × Int)) :=
 bif (decide (a1 ≤ 1)) then
  some (0, a0)
 else
  bif (decide (a1 ≤ 256)) then
   ob (f173B n a0) fun r_1 =>
   gd (decide (a1 ≠ 0)) (
    some ((Int.tmod r_1.1 a1), r_1.2))
  else
   ob (f173B n a0) fun r_2 =>
   ob (f173B n r_2.2) fun r_3 =>
   ob (f173B n r_3.2) fun r_4 =>
   gd (decide (a1 ≠ 0)) (
    some ((Int.tmod (W ((W ((W (r_2.1 * 65536)) + (W (r_3.1 * 256)))) + r_4.1)) a1), r_4.2))
def f107B_E (n : Nat) : Ent3 := ⟨107, [.one (.ptr 125 (.st (.pair (.sl (.int .u8)) (.pair hI hI)))), .im hI], [[.im hI]], fun x => f107B n x.1 x.2⟩
def f107B_D (α : Type) (n : Nat) : D3 α := { reg := [(4, ⟨0, [], [(1, { entB := some (f173B_E n), hb := 310 })]⟩), (5, ⟨0, [], [(1, { entB := some (f173B_E n), hb := 320 })]⟩), (6, ⟨0, [], [(1, { entB := some (f173B_E n), hb := 330 })]⟩), (7, ⟨0, [], [(1, { entB := some (f173B_E n), hb := 340 })]⟩)], join := [], loop := [] }
theorem f107B_ents (α : Type) (n : Nat) : AllS Tryz.prog (entsOf (f107B_D α n).reg) := ⟨f173B_ok n, f173B_ok n, f173B_ok n, f173B_ok n, trivial⟩
theorem f107B_d (α : Type) (n : Nat) : D3.OK Tryz.prog (tyOf Tryz.prog) ⟨31, []⟩ (f107B_D α n) (bodyOf Tryz.f107) :=
 D3.OK.mk3 (f107B_ents α n) (show loopsOf (bodyOf Tryz.f107) = [] by kernel_rfl) trivial
theorem f107B_ok (n : Nat) : (f107B_E n).Sound Tryz.prog :=
 fn_okB (tyOf_ok _) prog_fol (f107B_D _ n) (show Tryz.prog.funcs[107]? = some Tryz.f107 by kernel_rfl) (by kernel_rfl) (show Tryz.f107.body = some (bodyOf Tryz.f107) by kernel_rfl) rfl rfl (Nat.le_of_ble_eq_true rfl) (f107B_d _ n) (by intro x; kernel_rfl) 

def f172_L2B {α : Type} (n : Nat) (s0 : Int) (b4 : LI) (f : Int → LI → Option α) (k0 : LI → Option α) : Option α :=
 bif (decide (s0 > 0)) then
  gd (decide ((b4.length + 1) * 8 ≤ 140737488355328)) (
   f (W (Int.tdiv s0 10000)) (b4 ++ [(Int.tmod s0 10000)]))
 else
  k0 b4
abbrev f172_L2H : Tm := ⟨[(0, .d hI), (3, .k (.hw 4))], [(4, .arr 3 hI false)], [10], []⟩
abbrev f172_L2X0 : Tm := ⟨[(3, .k (.hw 4))], [(4, .arr 3 hI false)], [], []⟩
abbrev f172_L2O : List (Exit × Tm) := [(.exit 0, f172_L2X0)]
def f172_L2U {α : Type} (n : Nat) (v : f172_L2H.den) (f : f172_L2H.den → Option α) (ks : KS α f172_L2O) : Option α := f172_L2B n v.1.1 v.2.1 (fun s0 b4 => f ((s0, (), ()), (b4, ()))) (fun w0 => ks.1 (((), ()), (w0, ())))
def f172_L2 {α : Type} (n m : Nat) (s0 : Int) (b4 : LI) (k0 : LI → Option α) : Option α := rounds (f172_L2U n) m ((s0, (), ()), (b4, ())) (fun w => k0 w.2.1, ())
theorem f172_L2_0 {α n s0 b4 k0} : f172_L2 (α := α) n 0 s0 b4 k0 = none := rfl
theorem f172_L2_s {α n m s0 b4 k0} : f172_L2 (α := α) n (m + 1) s0 b4 k0 = f172_L2B n s0 b4 (fun s0 b4 => f172_L2 n m s0 b4 k0) k0 := rfl
def f172 (n : Nat) (a0 : Int) : Option LI :=
 f172_L2 n n a0 []
  (fun z_1 => (
   some z_1))
def f172_E (n : Nat) : Ent := ⟨172, [hI], [hIs], fun x => f172 n x⟩
def f172_D (α : Type) (n : Nat) : D3 α := { reg := [(1, ⟨0, [], [(0, { sh := some hI })]⟩), (3, ⟨0, [], [(3, { sh := some hI })]⟩)], join := [], loop := [(2, ⟨f172_L2H, f172_L2O, rounds (f172_L2U n) n⟩)] }
theorem f172_ents (α : Type) (n : Nat) : AllS Tryz.prog (entsOf (f172_D α n).reg) := trivial
theorem f172_L2_d (α : Type) (n : Nat) : D3.OK Tryz.prog (tyOf Tryz.prog) ⟨15, []⟩ (f172_D α n) ((bodyOf Tryz.f172).at [1, 1, 0, 0, 0]) :=
 D3.OK.mk3 (f172_ents α n) (show loopsOf ((bodyOf Tryz.f172).at [1, 1, 0, 0, 0]) = [] by kernel_rfl) trivial
theorem f172_L2_ok (α : Type) (n : Nat) : LO.Sound (α := α) Tryz.prog ⟨15, []⟩ ⟨f172_L2H, f172_L2O, rounds (f172_L2U n) n⟩ (.loop ((bodyOf Tryz.f172).at [1, 1, 0, 0, 0])) :=
 loop_ok (tyOf_ok _) prog_fol (f172_L2U n) (f172_L2_d α n) (by intro v f ks; kernel_rfl) n
theorem f172_d (α : Type) (n : Nat) : D3.OK Tryz.prog (tyOf Tryz.prog) ⟨15, []⟩ (f172_D α n) (bodyOf Tryz.f172) :=
 D3.OK.mk3 (f172_ents α n) (show loopsOf (bodyOf Tryz.f172) = [(2, (.loop ((bodyOf Tryz.f172).at [1, 1, 0, 0, 0])))] by kernel_rfl) ⟨look_sound rfl (f172_L2_ok α n), trivial⟩
theorem f172_ok (n : Nat) : (f172_E n).Sound Tryz.prog :=
 fn_ok (tyOf_ok _) prog_fol (f172_D _ n) (show Tryz.prog.funcs[172]? = some Tryz.f172 by kernel_rfl) (by kernel_rfl) (show Tryz.f172.body = some (bodyOf Tryz.f172) by kernel_rfl) rfl rfl (Nat.le_of_ble_eq_true rfl) (f172_d _ n) (by intro x; kernel_rfl) 

def f106 (n : Nat) (a0 : Int) : Option Rq :=
 bif (decide (a0 < 0)) then
  ob (f172 n (W (0 - a0))) fun r_1 =>
  some (true, r_1, [1])
 else
  ob (f172 n a0) fun r_2 =>
  some (false, r_2, [1])
def f106_E (n : Nat) : Ent := ⟨106, [hI], [hR], fun x => f106 n x⟩
def f106_D (α : Type) (n : Nat) : D3 α := { reg := [(2, ⟨0, [], [(2, { ent := some (f172_E n) }), (3, { sh := some hI })]⟩), (3, ⟨0, [], [(1, { ent := some (f172_E n) }), (2, { sh := some hI })]⟩)], join := [], loop := [] }
theorem f106_ents (α : Type) (n : Nat) : AllS Tryz.prog (entsOf (f106_D α n).reg) := ⟨f172_ok n, f172_ok n, trivial⟩
theorem f106_d (α : Type) (n : Nat) : D3.OK Tryz.prog (tyOf Tryz.prog) ⟨14, []⟩ (f106_D α n) (bodyOf Tryz.f106) :=
 D3.OK.mk3 (f106_ents α n) (show loopsOf (bodyOf Tryz.f106) = [] by kernel_rfl) trivial
theorem f106_ok (n : Nat) : (f106_E n).Sound Tryz.prog :=
 fn_ok (tyOf_ok _) prog_fol (f106_D _ n) (show Tryz.prog.funcs[106]? = some Tryz.f106 by kernel_rfl) (by kernel_rfl) (show Tryz.f106.body = some (bodyOf Tryz.f106) by kernel_rfl) rfl rfl (Nat.le_of_ble_eq_true rfl) (f106_d _ n) (by intro x; kernel_rfl) 

def f47B_L3B {α : Type} (n : Nat) (s1 s6 : Int) (b7 : LR) (c1000_0 : LI) (c1000_1 c1000_2 : Int) (f : Int → Int → LR → LI → Int → Int → Option α) (k0 : LR → LI → Int → Int → Option α) : Option α :=
 bif (decide (s6 < (W (s1 * s1)))) then
  ob (f107B n (c1000_0, c1000_1, c1000_2) 7) fun r_1 =>
  ob (f106 n (W (r_1.1 - 3))) fun r_2 =>
  gd (decide ((b7.length + 1) * 56 ≤ 140737488355328)) (
   f s1 (W (s6 + 1)) (b7 ++ [r_2]) r_1.2.1 r_1.2.2.1 r_1.2.2.2)
 else
  k0 b7 c1000_0 c1000_1 c1000_2
abbrev f47B_L3H : Tm := ⟨[(0, .k (.hp 1000 0 0)), (1, .d hI), (5, .k (.hw 7)), (6, .d hI)], [(7, .arr 30 hR false), (1000, .var 125 true false [.d (.sl (.int .u8)), .d hI, .d hI])], [20], []⟩
abbrev f47B_L3X0 : Tm := ⟨[(5, .k (.hw 7))], [(7, .arr 30 hR false), (1000, .var 125 true false [.d (.sl (.int .u8)), .d hI, .d hI])], [], []⟩
abbrev f47B_L3O : List (Exit × Tm) := [(.exit 0, f47B_L3X0)]
def f47B_L3U {α : Type} (n : Nat) (v : f47B_L3H.den) (f : f47B_L3H.den → Option α) (ks : KS α f47B_L3O) : Option α := f47B_L3B n v.1.2.1 v.1.2.2.2.1 v.2.1 v.2.2.1.1 v.2.2.1.2.1 v.2.2.1.2.2.1 (fun s1 s6 b7 c1000_0 c1000_1 c1000_2 => f (((), s1, (), s6, ()), (b7, (c1000_0, c1000_1, c1000_2, ()), ()))) (fun w0 w1 w2 w3 => ks.1 (((), ()), (w0, (w1, w2, w3, ()), ())))
def f47B_L3 {α : Type} (n m : Nat) (s1 s6 : Int) (b7 : LR) (c1000_0 : LI) (c1000_1 c1000_2 : Int) (k0 : LR → LI → Int → Int → Option α) : Option α := rounds (f47B_L3U n) m (((), s1, (), s6, ()), (b7, (c1000_0, c1000_1, c1000_2, ()), ())) (fun w => k0 w.2.1 w.2.2.1.1 w.2.2.1.2.1 w.2.2.1.2.2.1, ())
theorem f47B_L3_0 {α n s1 s6 b7 c1000_0 c1000_1 c1000_2 k0} : f47B_L3 (α := α) n 0 s1 s6 b7 c1000_0 c1000_1 c1000_2 k0 = none := rfl
theorem f47B_L3_s {α n m s1 s6 b7 c1000_0 c1000_1 c1000_2 k0} : f47B_L3 (α := α) n (m + 1) s1 s6 b7 c1000_0 c1000_1 c1000_2 k0 = f47B_L3B n s1 s6 b7 c1000_0 c1000_1 c1000_2 (fun s1 s6 b7 c1000_0 c1000_1 c1000_2 => f47B_L3 n m s1 s6 b7 c1000_0 c1000_1 c1000_2 k0) k0 := rfl
def f47B (n : Nat) (a0 : LI × Int × Int) (a1 : Int) : Option (LR × (LI × Int × Int)) :=
 f47B_L3 n n a1 0 [] a0.1 a0.2.1 a0.2.2
  (fun z_3 z_4 z_5 z_6 => (
   some (z_3, (z_4, z_5, z_6))))
def f47B_E (n : Nat) : Ent3 := ⟨47, [.one (.ptr 125 (.st (.pair (.sl (.int .u8)) (.pair hI hI)))), .im hI], [[.im hRs]], fun x => f47B n x.1 x.2⟩
def f47B_D (α : Type) (n : Nat) : D3 α := { reg := [(1, ⟨0, [], [(0, { sh := some hR })]⟩), (5, ⟨0, [], [(2, { entB := some (f107B_E n), hb := 310 }), (4, { ent := some (f106_E n) }), (5, { sh := some hR })]⟩)], join := [], loop := [(3, ⟨f47B_L3H, f47B_L3O, rounds (f47B_L3U n) n⟩)] }
theorem f47B_ents (α : Type) (n : Nat) : AllS Tryz.prog (entsOf (f47B_D α n).reg) := ⟨f107B_ok n, f106_ok n, trivial⟩
theorem f47B_L3_d (α : Type) (n : Nat) : D3.OK Tryz.prog (tyOf Tryz.prog) ⟨23, []⟩ (f47B_D α n) ((bodyOf Tryz.f47).at [1, 1, 0, 1, 0, 0]) :=
 D3.OK.mk3 (f47B_ents α n) (show loopsOf ((bodyOf Tryz.f47).at [1, 1, 0, 1, 0, 0]) = [] by kernel_rfl) trivial
theorem f47B_L3_ok (α : Type) (n : Nat) : LO.Sound (α := α) Tryz.prog ⟨23, []⟩ ⟨f47B_L3H, f47B_L3O, rounds (f47B_L3U n) n⟩ (.loop ((bodyOf Tryz.f47).at [1, 1, 0, 1, 0, 0])) :=
 loop_ok (tyOf_ok _) prog_fol (f47B_L3U n) (f47B_L3_d α n) (by intro v f ks; kernel_rfl) n
theorem f47B_d (α : Type) (n : Nat) : D3.OK Tryz.prog (tyOf Tryz.prog) ⟨23, []⟩ (f47B_D α n) (bodyOf Tryz.f47) :=
 D3.OK.mk3 (f47B_ents α n) (show loopsOf (bodyOf Tryz.f47) = [(3, (.loop ((bodyOf Tryz.f47).at [1, 1, 0, 1, 0, 0])))] by kernel_rfl) ⟨look_sound rfl (f47B_L3_ok α n), trivial⟩
theorem f47B_ok (n : Nat) : (f47B_E n).Sound Tryz.prog :=
 fn_okB (tyOf_ok _) prog_fol (f47B_D _ n) (show Tryz.prog.funcs[47]? = some Tryz.f47 by kernel_rfl) (by kernel_rfl) (show Tryz.f47.body = some (bodyOf Tryz.f47) by kernel_rfl) rfl rfl (Nat.le_of_ble_eq_true rfl) (f47B_d _ n) (by intro x; kernel_rfl) 

def f11 (n : Nat) (a0 : LI) (a1 : Int) : Option LR :=
 ob (f46B n a0) fun r_1 =>
 ob (f47B n r_1 a1) fun r_2 =>
 some r_2.1
def f11_E (n : Nat) : Ent := ⟨11, [(.sl (.int .u8)), hI], [hRs], fun x => f11 n x.1 x.2⟩
def f11_D (α : Type) (n : Nat) : D3 α := { reg := [(1, ⟨0, [], [(1, { entB := some (f46B_E n), hb := 310 }), (3, { entB := some (f47B_E n), hb := 320 })]⟩)], join := [], loop := [] }
theorem f11_ents (α : Type) (n : Nat) : AllS Tryz.prog (entsOf (f11_D α n).reg) := ⟨f46B_ok n, f47B_ok n, trivial⟩
theorem f11_d (α : Type) (n : Nat) : D3.OK Tryz.prog (tyOf Tryz.prog) ⟨9, []⟩ (f11_D α n) (bodyOf Tryz.f11) :=
 D3.OK.mk3 (f11_ents α n) (show loopsOf (bodyOf Tryz.f11) = [] by kernel_rfl) trivial
theorem f11_ok (n : Nat) : (f11_E n).Sound Tryz.prog :=
 fn_ok (tyOf_ok _) prog_fol (f11_D _ n) (show Tryz.prog.funcs[11]? = some Tryz.f11 by kernel_rfl) (by kernel_rfl) (show Tryz.f11.body = some (bodyOf Tryz.f11) by kernel_rfl) rfl rfl (Nat.le_of_ble_eq_true rfl) (f11_d _ n) (by intro x; kernel_rfl) 

def f65 (n : Nat) (a0 a1 a2 : Int) : Option Bool :=
 bif (decide (a1 ≤ a0)) then
  some (decide (a0 ≤ a2))
 else
  some false
def f65_E (n : Nat) : Ent := ⟨65, [hI, hI, hI], [.bool], fun x => f65 n x.1 x.2.1 x.2.2⟩
def f65_D (α : Type) (n : Nat) : D3 α := { reg := [], join := [], loop := [] }
theorem f65_ents (α : Type) (n : Nat) : AllS Tryz.prog (entsOf (f65_D α n).reg) := trivial
theorem f65_d (α : Type) (n : Nat) : D3.OK Tryz.prog (tyOf Tryz.prog) ⟨15, []⟩ (f65_D α n) (bodyOf Tryz.f65) :=
 D3.OK.mk3 (f65_ents α n) (show loopsOf (bodyOf Tryz.f65) = [] by kernel_rfl) trivial
theorem f65_ok (n : Nat) : (f65_E n).Sound Tryz.prog :=
 fn_ok (tyOf_ok _) prog_fol (f65_D _ n) (show Tryz.prog.funcs[65]? = some Tryz.f65 by kernel_rfl) (by kernel_rfl) (show Tryz.f65.body = some (bodyOf Tryz.f65) by kernel_rfl) rfl rfl (Nat.le_of_ble_eq_true rfl) (f65_d _ n) (by intro x; kernel_rfl) 

def f203_L2B {α : Type} (n : Nat) (s0 : LI) (s3 : Int) (f : LI → Int → Option α) (k0 : LI → Int → Option α) : Option α :=
 bif (decide (s3 > 0)) then
  gd (decide (0 ≤ (W (s3 - 1))) && decide ((W (s3 - 1)) < (s0.length : Int))) (
   bif ((s0.getD ((W (s3 - 1)).toNat) 0) == 0) then
    f s0 (W (s3 - 1))
   else
    k0 s0 s3)
 else
  k0 s0 s3
abbrev f203_L2H : Tm := ⟨[(0, .d hIs), (3, .d hI)], [], [], []⟩
abbrev f203_L2X0 : Tm := ⟨[(0, .d hIs), (3, .d hI)], [], [], []⟩
abbrev f203_L2O : List (Exit × Tm) := [(.exit 0, f203_L2X0)]
def f203_L2U {α : Type} (n : Nat) (v : f203_L2H.den) (f : f203_L2H.den → Option α) (ks : KS α f203_L2O) : Option α := f203_L2B n v.1.1 v.1.2.1 (fun s0 s3 => f ((s0, s3, ()), ())) (fun w0 w1 => ks.1 ((w0, w1, ()), ()))
def f203_L2 {α : Type} (n m : Nat) (s0 : LI) (s3 : Int) (k0 : LI → Int → Option α) : Option α := rounds (f203_L2U n) m ((s0, s3, ()), ()) (fun w => k0 w.1.1 w.1.2.1, ())
theorem f203_L2_0 {α n s0 s3 k0} : f203_L2 (α := α) n 0 s0 s3 k0 = none := rfl
theorem f203_L2_s {α n m s0 s3 k0} : f203_L2 (α := α) n (m + 1) s0 s3 k0 = f203_L2B n s0 s3 (fun s0 s3 => f203_L2 n m s0 s3 k0) k0 := rfl
def f203 (n : Nat) (a0 : LI) : Option LI :=
 f203_L2 n n a0 (a0.length : Int)
  (fun z_1 z_2 => (
   gd (decide (0 ≤ z_2) && decide (z_2 ≤ (z_1.length : Int))) (
    gd (decide ((0 + ((z_1.drop 0).take (z_2.toNat - 0)).length) * 8 ≤ 140737488355328)) (
     some ((z_1.drop 0).take (z_2.toNat - 0))))))
def f203_E (n : Nat) : Ent := ⟨203, [hIs], [hIs], fun x => f203 n x⟩
def f203_D (α : Type) (n : Nat) : D3 α := { reg := [(4, ⟨0, [], [(0, { sh := some hI })]⟩)], join := [], loop := [(2, ⟨f203_L2H, f203_L2O, rounds (f203_L2U n) n⟩)] }
theorem f203_ents (α : Type) (n : Nat) : AllS Tryz.prog (entsOf (f203_D α n).reg) := trivial
theorem f203_L2_d (α : Type) (n : Nat) : D3.OK Tryz.prog (tyOf Tryz.prog) ⟨23, []⟩ (f203_D α n) ((bodyOf Tryz.f203).at [1, 1, 0, 0, 0]) :=
 D3.OK.mk3 (f203_ents α n) (show loopsOf ((bodyOf Tryz.f203).at [1, 1, 0, 0, 0]) = [] by kernel_rfl) trivial
theorem f203_L2_ok (α : Type) (n : Nat) : LO.Sound (α := α) Tryz.prog ⟨23, []⟩ ⟨f203_L2H, f203_L2O, rounds (f203_L2U n) n⟩ (.loop ((bodyOf Tryz.f203).at [1, 1, 0, 0, 0])) :=
 loop_ok (tyOf_ok _) prog_fol (f203_L2U n) (f203_L2_d α n) (by intro v f ks; kernel_rfl) n
theorem f203_d (α : Type) (n : Nat) : D3.OK Tryz.prog (tyOf Tryz.prog) ⟨23, []⟩ (f203_D α n) (bodyOf Tryz.f203) :=
 D3.OK.mk3 (f203_ents α n) (show loopsOf (bodyOf Tryz.f203) = [(2, (.loop ((bodyOf Tryz.f203).at [1, 1, 0, 0, 0])))] by kernel_rfl) ⟨look_sound rfl (f203_L2_ok α n), trivial⟩
theorem f203_ok (n : Nat) : (f203_E n).Sound Tryz.prog :=
 fn_ok (tyOf_ok _) prog_fol (f203_D _ n) (show Tryz.prog.funcs[203]? = some Tryz.f203 by kernel_rfl) (by kernel_rfl) (show Tryz.f203.body = some (bodyOf Tryz.f203) by kernel_rfl) rfl rfl (Nat.le_of_ble_eq_true rfl) (f203_d _ n) (by intro x; kernel_rfl) 

def f147 (n : Nat) (a0 : Bool) : Option Int :=
 bif a0 then
  some 1
 else
  some 0
def f147_E (n : Nat) : Ent := ⟨147, [.bool], [hI], fun x => f147 n x⟩
def f147_D (α : Type) (n : Nat) : D3 α := { reg := [], join := [], loop := [] }
theorem f147_ents (α : Type) (n : Nat) : AllS Tryz.prog (entsOf (f147_D α n).reg) := trivial
theorem f147_d (α : Type) (n : Nat) : D3.OK Tryz.prog (tyOf Tryz.prog) ⟨4, []⟩ (f147_D α n) (bodyOf Tryz.f147) :=
 D3.OK.mk3 (f147_ents α n) (show loopsOf (bodyOf Tryz.f147) = [] by kernel_rfl) trivial
theorem f147_ok (n : Nat) : (f147_E n).Sound Tryz.prog :=
 fn_ok (tyOf_ok _) prog_fol (f147_D _ n) (show Tryz.prog.funcs[147]? = some Tryz.f147 by kernel_rfl) (by kernel_rfl) (show Tryz.f147.body = some (bodyOf Tryz.f147) by kernel_rfl) rfl rfl (Nat.le_of_ble_eq_true rfl) (f147_d _ n) (by intro x; kernel_rfl) 

def f187_L4B {α : Type} (n : Nat) (s0 s1 : LI) (s5 : Int) (f : LI → LI → Int → Option α) (k0 : Int → Option α) (k1 : Unit → Option α) : Option α :=
 bif (decide (s5 ≥ 0)) then
  gd (decide (0 ≤ s5) && decide (s5 < (s0.length : Int))) (
   gd (decide (0 ≤ s5) && decide (s5 < (s1.length : Int))) (
    bif ((s0.getD s5.toNat 0) != (s1.getD s5.toNat 0)) then
     gd (decide (0 ≤ s5) && decide (s5 < (s0.length : Int))) (
      gd (decide (0 ≤ s5) && decide (s5 < (s1.length : Int))) (
       ob (f147 n (decide ((s0.getD s5.toNat 0) > (s1.getD s5.toNat 0)))) fun r_2 =>
       k0 (W ((W (2 * r_2)) - 1))))
    else
     f s0 s1 (W (s5 - 1))))
 else
  k1 ()
abbrev f187_L4H : Tm := ⟨[(0, .d hIs), (1, .d hIs), (5, .d hI)], [], [], []⟩
abbrev f187_L4X0 : Tm := ⟨[(4, .d hI)], [], [], []⟩
abbrev f187_L4X1 : Tm := ⟨[], [], [], []⟩
abbrev f187_L4O : List (Exit × Tm) := [(.ret, f187_L4X0), (.exit 0, f187_L4X1)]
def f187_L4U {α : Type} (n : Nat) (v : f187_L4H.den) (f : f187_L4H.den → Option α) (ks : KS α f187_L4O) : Option α := f187_L4B n v.1.1 v.1.2.1 v.1.2.2.1 (fun s0 s1 s5 => f ((s0, s1, s5, ()), ())) (fun w0 => ks.1 ((w0, ()), ())) (fun _ => ks.2.1 ((), ()))
def f187_L4 {α : Type} (n m : Nat) (s0 s1 : LI) (s5 : Int) (k0 : Int → Option α) (k1 : Unit → Option α) : Option α := rounds (f187_L4U n) m ((s0, s1, s5, ()), ()) (fun w => k0 w.1.1, fun w => k1 (), ())
theorem f187_L4_0 {α n s0 s1 s5 k0 k1} : f187_L4 (α := α) n 0 s0 s1 s5 k0 k1 = none := rfl
theorem f187_L4_s {α n m s0 s1 s5 k0 k1} : f187_L4 (α := α) n (m + 1) s0 s1 s5 k0 k1 = f187_L4B n s0 s1 s5 (fun s0 s1 s5 => f187_L4 n m s0 s1 s5 k0 k1) k0 k1 := rfl
def f187 (n : Nat) (a0 a1 : LI) : Option Int :=
 bif ((a0.length : Int) != (a1.length : Int)) then
  ob (f147 n (decide ((a0.length : Int) > (a1.length : Int)))) fun r_1 =>
  some (W ((W (2 * r_1)) - 1))
 else
  f187_L4 n n a0 a1 (W ((a0.length : Int) - 1))
   (fun z_3 => (
    some z_3))
   (fun (_ : Unit) => (
    some 0))
def f187_E (n : Nat) : Ent := ⟨187, [hIs, hIs], [hI], fun x => f187 n x.1 x.2⟩
def f187_D (α : Type) (n : Nat) : D3 α := { reg := [(2, ⟨0, [], [(5, { ent := some (f147_E n) })]⟩), (6, ⟨8, [], []⟩), (7, ⟨8, [], [(9, { ent := some (f147_E n) })]⟩)], join := [], loop := [(4, ⟨f187_L4H, f187_L4O, rounds (f187_L4U n) n⟩)] }
theorem f187_ents (α : Type) (n : Nat) : AllS Tryz.prog (entsOf (f187_D α n).reg) := ⟨f147_ok n, f147_ok n, trivial⟩
theorem f187_L4_d (α : Type) (n : Nat) : D3.OK Tryz.prog (tyOf Tryz.prog) ⟨47, []⟩ (f187_D α n) ((bodyOf Tryz.f187).at [1, 1, 0, 1, 0, 0]) :=
 D3.OK.mk3 (f187_ents α n) (show loopsOf ((bodyOf Tryz.f187).at [1, 1, 0, 1, 0, 0]) = [] by kernel_rfl) trivial
theorem f187_L4_ok (α : Type) (n : Nat) : LO.Sound (α := α) Tryz.prog ⟨47, []⟩ ⟨f187_L4H, f187_L4O, rounds (f187_L4U n) n⟩ (.loop ((bodyOf Tryz.f187).at [1, 1, 0, 1, 0, 0])) :=
 loop_ok (tyOf_ok _) prog_fol (f187_L4U n) (f187_L4_d α n) (by intro v f ks; kernel_rfl) n
theorem f187_d (α : Type) (n : Nat) : D3.OK Tryz.prog (tyOf Tryz.prog) ⟨47, []⟩ (f187_D α n) (bodyOf Tryz.f187) :=
 D3.OK.mk3 (f187_ents α n) (show loopsOf (bodyOf Tryz.f187) = [(4, (.loop ((bodyOf Tryz.f187).at [1, 1, 0, 1, 0, 0])))] by kernel_rfl) ⟨look_sound rfl (f187_L4_ok α n), trivial⟩
theorem f187_ok (n : Nat) : (f187_E n).Sound Tryz.prog :=
 fn_ok (tyOf_ok _) prog_fol (f187_D _ n) (show Tryz.prog.funcs[187]? = some Tryz.f187 by kernel_rfl) (by kernel_rfl) (show Tryz.f187.body = some (bodyOf Tryz.f187) by kernel_rfl) rfl rfl (Nat.le_of_ble_eq_true rfl) (f187_d _ n) (by intro x; kernel_rfl) 

def f178_L7B {α : Type} (n : Nat) (s0 s1 : LI) (s6 s7 s8 : Int) (b16 : LI) (f : LI → LI → Int → Int → Int → LI → Option α) (k0 : LI → LI → Int → LI → Option α) : Option α :=
 let J_3 := fun (_ : Unit) => (
  gd (decide (0 ≤ (W (s6 + s8))) && decide ((W (s6 + s8)) < (b16.length : Int))) (
   gd (decide ((W (s6 + s8)).toNat < b16.length)) (
    let J_2 := fun (y_1 : Int) => (
     gd (decide (0 ≤ (W (s6 + s8))) && decide ((W (s6 + s8)) < (b16.length : Int))) (
      gd (decide ((W (s6 + s8)).toNat < b16.length)) (
       f s0 s1 s6 (W (Int.tdiv y_1 10000)) (W (s8 + 1)) (b16.set ((W (s6 + s8)).toNat) (Int.tmod y_1 10000)))))
    bif (decide (s8 < (s1.length : Int))) then
     gd (decide (0 ≤ s6) && decide (s6 < (s0.length : Int))) (
      gd (decide (0 ≤ s8) && decide (s8 < (s1.length : Int))) (
       J_2 (W ((W ((b16.getD ((W (s6 + s8)).toNat) 0) + s7)) + (W ((s0.getD s6.toNat 0) * (s1.getD s8.toNat 0)))))))
    else
     J_2 (W ((b16.getD ((W (s6 + s8)).toNat) 0) + s7)))))
 bif (decide (s8 < (s1.length : Int))) then
  J_3 ()
 else
  bif (decide (s7 > 0)) then
   J_3 ()
  else
   k0 s0 s1 s6 b16
abbrev f178_L7H : Tm := ⟨[(0, .d hIs), (1, .d hIs), (5, .k (.hw 16)), (6, .d hI), (7, .d hI), (8, .d hI)], [(16, .arr 3 hI false)], [], []⟩
abbrev f178_L7X0 : Tm := ⟨[(0, .d hIs), (1, .d hIs), (5, .k (.hw 16)), (6, .d hI)], [(16, .arr 3 hI false)], [], []⟩
abbrev f178_L7O : List (Exit × Tm) := [(.exit 2, f178_L7X0)]
def f178_L7U {α : Type} (n : Nat) (v : f178_L7H.den) (f : f178_L7H.den → Option α) (ks : KS α f178_L7O) : Option α := f178_L7B n v.1.1 v.1.2.1 v.1.2.2.2.1 v.1.2.2.2.2.1 v.1.2.2.2.2.2.1 v.2.1 (fun s0 s1 s6 s7 s8 b16 => f ((s0, s1, (), s6, s7, s8, ()), (b16, ()))) (fun w0 w1 w2 w3 => ks.1 ((w0, w1, (), w2, ()), (w3, ())))
def f178_L7 {α : Type} (n m : Nat) (s0 s1 : LI) (s6 s7 s8 : Int) (b16 : LI) (k0 : LI → LI → Int → LI → Option α) : Option α := rounds (f178_L7U n) m ((s0, s1, (), s6, s7, s8, ()), (b16, ())) (fun w => k0 w.1.1 w.1.2.1 w.1.2.2.2.1 w.2.1, ())
theorem f178_L7_0 {α n s0 s1 s6 s7 s8 b16 k0} : f178_L7 (α := α) n 0 s0 s1 s6 s7 s8 b16 k0 = none := rfl
theorem f178_L7_s {α n m s0 s1 s6 s7 s8 b16 k0} : f178_L7 (α := α) n (m + 1) s0 s1 s6 s7 s8 b16 k0 = f178_L7B n s0 s1 s6 s7 s8 b16 (fun s0 s1 s6 s7 s8 b16 => f178_L7 n m s0 s1 s6 s7 s8 b16 k0) k0 := rfl
def f178_L3B {α : Type} (n : Nat) (s0 s1 : LI) (s6 : Int) (b16 : LI) (f : LI → LI → Int → LI → Option α) (k0 : LI → Option α) : Option α :=
 bif (decide (s6 < (s0.length : Int))) then
  f178_L7 n n s0 s1 s6 0 0 b16
   (fun z_1 z_2 z_3 z_4 => (
    f z_1 z_2 (W (z_3 + 1)) z_4))
 else
  k0 b16
abbrev f178_L3H : Tm := ⟨[(0, .d hIs), (1, .d hIs), (5, .k (.hw 16)), (6, .d hI)], [(16, .arr 3 hI false)], [], []⟩
abbrev f178_L3X0 : Tm := ⟨[(5, .k (.hw 16))], [(16, .arr 3 hI false)], [], []⟩
abbrev f178_L3O : List (Exit × Tm) := [(.exit 0, f178_L3X0)]
def f178_L3U {α : Type} (n : Nat) (v : f178_L3H.den) (f : f178_L3H.den → Option α) (ks : KS α f178_L3O) : Option α := f178_L3B n v.1.1 v.1.2.1 v.1.2.2.2.1 v.2.1 (fun s0 s1 s6 b16 => f ((s0, s1, (), s6, ()), (b16, ()))) (fun w0 => ks.1 (((), ()), (w0, ())))
def f178_L3 {α : Type} (n m : Nat) (s0 s1 : LI) (s6 : Int) (b16 : LI) (k0 : LI → Option α) : Option α := rounds (f178_L3U n) m ((s0, s1, (), s6, ()), (b16, ())) (fun w => k0 w.2.1, ())
theorem f178_L3_0 {α n s0 s1 s6 b16 k0} : f178_L3 (α := α) n 0 s0 s1 s6 b16 k0 = none := rfl
theorem f178_L3_s {α n m s0 s1 s6 b16 k0} : f178_L3 (α := α) n (m + 1) s0 s1 s6 b16 k0 = f178_L3B n s0 s1 s6 b16 (fun s0 s1 s6 b16 => f178_L3 n m s0 s1 s6 b16 k0) k0 := rfl
abbrev f178_J9 : Tm := ⟨[(0, .d hIs), (1, .d hIs), (5, .k (.hw 16)), (6, .d hI), (7, .d hI), (8, .d hI)], [(16, .arr 3 hI false)], [], []⟩
abbrev f178_J12 : Tm := ⟨[(0, .d hIs), (1, .d hIs), (5, .k (.hw 16)), (6, .d hI), (8, .d hI), (9, .d hI)], [(16, .arr 3 hI false)], [], []⟩
def f178 (n : Nat) (a0 a1 : LI) : Option LI :=
 gd (decide (0 ≤ (W ((W ((a0.length : Int) + (a1.length : Int))) + 1))) && decide ((W ((W ((a0.length : Int) + (a1.length : Int))) + 1)) ≤ 4611686018427387904) && decide ((8 : Int) * (W ((W ((a0.length : Int) + (a1.length : Int))) + 1)) ≤ 281474976710656)) (
  f178_L3 n n a0 a1 0 (List.replicate ((W ((W ((a0.length : Int) + (a1.length : Int))) + 1)).toNat) 0)
   (fun z_5 => (
    ob (f203 n z_5) fun r_6 =>
    some r_6)))
def f178_E (n : Nat) : Ent := ⟨178, [hIs, hIs], [hIs], fun x => f178 n x.1 x.2⟩
def f178_D (α : Type) (n : Nat) : D3 α := { reg := [(11, ⟨10, [], []⟩), (14, ⟨0, [], [(1, { ent := some (f203_E n), fz := [(65, hIs)] })]⟩)], join := [(9, f178_J9), (12, f178_J12)], loop := [(7, ⟨f178_L7H, f178_L7O, rounds (f178_L7U n) n⟩), (3, ⟨f178_L3H, f178_L3O, rounds (f178_L3U n) n⟩)] }
theorem f178_ents (α : Type) (n : Nat) : AllS Tryz.prog (entsOf (f178_D α n).reg) := ⟨f203_ok n, trivial⟩
theorem f178_L7_d (α : Type) (n : Nat) : D3.OK Tryz.prog (tyOf Tryz.prog) ⟨67, []⟩ (f178_D α n) ((bodyOf Tryz.f178).at [1, 1, 0, 1, 0, 0, 1, 0, 0, 1, 1, 0, 0]) :=
 D3.OK.mk3 (f178_ents α n) (show loopsOf ((bodyOf Tryz.f178).at [1, 1, 0, 1, 0, 0, 1, 0, 0, 1, 1, 0, 0]) = [] by kernel_rfl) trivial
theorem f178_L7_ok (α : Type) (n : Nat) : LO.Sound (α := α) Tryz.prog ⟨67, []⟩ ⟨f178_L7H, f178_L7O, rounds (f178_L7U n) n⟩ (.loop ((bodyOf Tryz.f178).at [1, 1, 0, 1, 0, 0, 1, 0, 0, 1, 1, 0, 0])) :=
 loop_ok (tyOf_ok _) prog_fol (f178_L7U n) (f178_L7_d α n) (by intro v f ks; kernel_rfl) n
theorem f178_L3_d (α : Type) (n : Nat) : D3.OK Tryz.prog (tyOf Tryz.prog) ⟨67, []⟩ (f178_D α n) ((bodyOf Tryz.f178).at [1, 1, 0, 1, 0, 0]) :=
 D3.OK.mk3 (f178_ents α n) (show loopsOf ((bodyOf Tryz.f178).at [1, 1, 0, 1, 0, 0]) = [(7, (.loop ((bodyOf Tryz.f178).at [1, 1, 0, 1, 0, 0, 1, 0, 0, 1, 1, 0, 0])))] by kernel_rfl) ⟨look_sound rfl (f178_L7_ok α n), trivial⟩
theorem f178_L3_ok (α : Type) (n : Nat) : LO.Sound (α := α) Tryz.prog ⟨67, []⟩ ⟨f178_L3H, f178_L3O, rounds (f178_L3U n) n⟩ (.loop ((bodyOf Tryz.f178).at [1, 1, 0, 1, 0, 0])) :=
 loop_ok (tyOf_ok _) prog_fol (f178_L3U n) (f178_L3_d α n) (by intro v f ks; kernel_rfl) n
theorem f178_d (α : Type) (n : Nat) : D3.OK Tryz.prog (tyOf Tryz.prog) ⟨67, []⟩ (f178_D α n) (bodyOf Tryz.f178) :=
 D3.OK.mk3 (f178_ents α n) (show loopsOf (bodyOf Tryz.f178) = [(3, (.loop ((bodyOf Tryz.f178).at [1, 1, 0, 1, 0, 0])))] by kernel_rfl) ⟨look_sound rfl (f178_L3_ok α n), trivial⟩
theorem f178_ok (n : Nat) : (f178_E n).Sound Tryz.prog :=
 fn_ok (tyOf_ok _) prog_fol (f178_D _ n) (show Tryz.prog.funcs[178]? = some Tryz.f178 by kernel_rfl) (by kernel_rfl) (show Tryz.f178.body = some (bodyOf Tryz.f178) by kernel_rfl) rfl rfl (Nat.le_of_ble_eq_true rfl) (f178_d _ n) (by intro x; kernel_rfl) 

def f188_L4B {α : Type} (n : Nat) (s0 s1 : LI) (s6 s7 : Int) (b9 : LI) (f : LI → LI → Int → Int → LI → Option α) (k0 : LI → Option α) : Option α :=
 bif (decide (s7 < (s0.length : Int))) then
  gd (decide (0 ≤ s7) && decide (s7 < (s0.length : Int))) (
   let J_3 := fun (y_1 : Int) => (
    ob (f147 n (decide (y_1 < 0))) fun r_2 =>
    gd (decide ((b9.length + 1) * 8 ≤ 140737488355328)) (
     f s0 s1 r_2 (W (s7 + 1)) (b9 ++ [(W (y_1 + (W (r_2 * 10000))))])))
   bif (decide (s7 < (s1.length : Int))) then
    gd (decide (0 ≤ s7) && decide (s7 < (s1.length : Int))) (
     J_3 (W ((W ((s0.getD s7.toNat 0) - s6)) - (s1.getD s7.toNat 0))))
   else
    J_3 (W ((s0.getD s7.toNat 0) - s6)))
 else
  k0 b9
abbrev f188_L4H : Tm := ⟨[(0, .d hIs), (1, .d hIs), (5, .k (.hw 9)), (6, .d hI), (7, .d hI)], [(9, .arr 3 hI false)], [40], []⟩
abbrev f188_L4X0 : Tm := ⟨[(5, .k (.hw 9))], [(9, .arr 3 hI false)], [], []⟩
abbrev f188_L4O : List (Exit × Tm) := [(.exit 0, f188_L4X0)]
def f188_L4U {α : Type} (n : Nat) (v : f188_L4H.den) (f : f188_L4H.den → Option α) (ks : KS α f188_L4O) : Option α := f188_L4B n v.1.1 v.1.2.1 v.1.2.2.2.1 v.1.2.2.2.2.1 v.2.1 (fun s0 s1 s6 s7 b9 => f ((s0, s1, (), s6, s7, ()), (b9, ()))) (fun w0 => ks.1 (((), ()), (w0, ())))
def f188_L4 {α : Type} (n m : Nat) (s0 s1 : LI) (s6 s7 : Int) (b9 : LI) (k0 : LI → Option α) : Option α := rounds (f188_L4U n) m ((s0, s1, (), s6, s7, ()), (b9, ())) (fun w => k0 w.2.1, ())
theorem f188_L4_0 {α n s0 s1 s6 s7 b9 k0} : f188_L4 (α := α) n 0 s0 s1 s6 s7 b9 k0 = none := rfl
theorem f188_L4_s {α n m s0 s1 s6 s7 b9 k0} : f188_L4 (α := α) n (m + 1) s0 s1 s6 s7 b9 k0 = f188_L4B n s0 s1 s6 s7 b9 (fun s0 s1 s6 s7 b9 => f188_L4 n m s0 s1 s6 s7 b9 k0) k0 := rfl
abbrev f188_J9 : Tm := ⟨[(0, .d hIs), (1, .d hIs), (5, .k (.hw 9)), (7, .d hI), (8, .d hI)], [(9, .arr 3 hI false)], [], []⟩
def f188 (n : Nat) (a0 a1 : LI) : Option LI :=
 f188_L4 n n a0 a1 0 0 []
  (fun z_4 => (
   ob (f203 n z_4) fun r_5 =>
   some r_5))
def f188_E (n : Nat) : Ent := ⟨188, [hIs, hIs], [hIs], fun x => f188 n x.1 x.2⟩
def f188_D (α : Type) (n : Nat) : D3 α := { reg := [(1, ⟨0, [], [(0, { sh := some hI })]⟩), (9, ⟨0, [], [(2, { ent := some (f147_E n) })]⟩), (10, ⟨0, [], [(5, { sh := some hI })]⟩), (11, ⟨0, [], [(1, { ent := some (f203_E n), fz := [(42, hIs)] })]⟩)], join := [(9, f188_J9)], loop := [(4, ⟨f188_L4H, f188_L4O, rounds (f188_L4U n) n⟩)] }
theorem f188_ents (α : Type) (n : Nat) : AllS Tryz.prog (entsOf (f188_D α n).reg) := ⟨f147_ok n, f203_ok n, trivial⟩
theorem f188_L4_d (α : Type) (n : Nat) : D3.OK Tryz.prog (tyOf Tryz.prog) ⟨44, []⟩ (f188_D α n) ((bodyOf Tryz.f188).at [1, 1, 1, 0, 1, 0, 0]) :=
 D3.OK.mk3 (f188_ents α n) (show loopsOf ((bodyOf Tryz.f188).at [1, 1, 1, 0, 1, 0, 0]) = [] by kernel_rfl) trivial
theorem f188_L4_ok (α : Type) (n : Nat) : LO.Sound (α := α) Tryz.prog ⟨44, []⟩ ⟨f188_L4H, f188_L4O, rounds (f188_L4U n) n⟩ (.loop ((bodyOf Tryz.f188).at [1, 1, 1, 0, 1, 0, 0])) :=
 loop_ok (tyOf_ok _) prog_fol (f188_L4U n) (f188_L4_d α n) (by intro v f ks; kernel_rfl) n
theorem f188_d (α : Type) (n : Nat) : D3.OK Tryz.prog (tyOf Tryz.prog) ⟨44, []⟩ (f188_D α n) (bodyOf Tryz.f188) :=
 D3.OK.mk3 (f188_ents α n) (show loopsOf (bodyOf Tryz.f188) = [(4, (.loop ((bodyOf Tryz.f188).at [1, 1, 1, 0, 1, 0, 0])))] by kernel_rfl) ⟨look_sound rfl (f188_L4_ok α n), trivial⟩
theorem f188_ok (n : Nat) : (f188_E n).Sound Tryz.prog :=
 fn_ok (tyOf_ok _) prog_fol (f188_D _ n) (show Tryz.prog.funcs[188]? = some Tryz.f188 by kernel_rfl) (by kernel_rfl) (show Tryz.f188.body = some (bodyOf Tryz.f188) by kernel_rfl) rfl rfl (Nat.le_of_ble_eq_true rfl) (f188_d _ n) (by intro x; kernel_rfl) 

def f202_L10B {α : Type} (n : Nat) (s0 s1 s7 : LI) (s8 s9 s10 : Int) (b14 : LI) (f : LI → LI → LI → Int → Int → Int → LI → Option α) (k0 : LI → LI → LI → Int → Int → LI → Option α) : Option α :=
 bif (decide ((W (s10 - s9)) > 1)) then
  ob (f172 n (W (Int.tdiv (W (s9 + s10)) 2))) fun r_3 =>
  ob (f178 n s1 r_3) fun r_4 =>
  ob (f187 n r_4 s7) fun r_5 =>
  bif (decide (r_5 ≤ 0)) then
   f s0 s1 s7 s8 (W (Int.tdiv (W (s9 + s10)) 2)) s10 b14
  else
   f s0 s1 s7 s8 s9 (W (Int.tdiv (W (s9 + s10)) 2)) b14
 else
  k0 s0 s1 s7 s8 s9 b14
abbrev f202_L10H : Tm := ⟨[(0, .d hIs), (1, .d hIs), (6, .k (.hw 14)), (7, .d hIs), (8, .d hI), (9, .d hI), (10, .d hI)], [(14, .arr 3 hI false)], [27], []⟩
abbrev f202_L10X0 : Tm := ⟨[(0, .d hIs), (1, .d hIs), (6, .k (.hw 14)), (7, .d hIs), (8, .d hI), (9, .d hI)], [(14, .arr 3 hI false)], [], []⟩
abbrev f202_L10O : List (Exit × Tm) := [(.exit 2, f202_L10X0)]
def f202_L10U {α : Type} (n : Nat) (v : f202_L10H.den) (f : f202_L10H.den → Option α) (ks : KS α f202_L10O) : Option α := f202_L10B n v.1.1 v.1.2.1 v.1.2.2.2.1 v.1.2.2.2.2.1 v.1.2.2.2.2.2.1 v.1.2.2.2.2.2.2.1 v.2.1 (fun s0 s1 s7 s8 s9 s10 b14 => f ((s0, s1, (), s7, s8, s9, s10, ()), (b14, ()))) (fun w0 w1 w2 w3 w4 w5 => ks.1 ((w0, w1, (), w2, w3, w4, ()), (w5, ())))
def f202_L10 {α : Type} (n m : Nat) (s0 s1 s7 : LI) (s8 s9 s10 : Int) (b14 : LI) (k0 : LI → LI → LI → Int → Int → LI → Option α) : Option α := rounds (f202_L10U n) m ((s0, s1, (), s7, s8, s9, s10, ()), (b14, ())) (fun w => k0 w.1.1 w.1.2.1 w.1.2.2.2.1 w.1.2.2.2.2.1 w.1.2.2.2.2.2.1 w.2.1, ())
theorem f202_L10_0 {α n s0 s1 s7 s8 s9 s10 b14 k0} : f202_L10 (α := α) n 0 s0 s1 s7 s8 s9 s10 b14 k0 = none := rfl
theorem f202_L10_s {α n m s0 s1 s7 s8 s9 s10 b14 k0} : f202_L10 (α := α) n (m + 1) s0 s1 s7 s8 s9 s10 b14 k0 = f202_L10B n s0 s1 s7 s8 s9 s10 b14 (fun s0 s1 s7 s8 s9 s10 b14 => f202_L10 n m s0 s1 s7 s8 s9 s10 b14 k0) k0 := rfl
def f202_L4B {α : Type} (n : Nat) (s0 s1 s7 : LI) (s8 : Int) (b14 : LI) (f : LI → LI → LI → Int → LI → Option α) (k0 : LI → LI → Option α) : Option α :=
 bif (decide (s8 ≥ 0)) then
  gd (decide (0 ≤ s8) && decide (s8 < (s0.length : Int))) (
   gd (decide ((1 + s7.length) * 8 ≤ 140737488355328)) (
    ob (f203 n ([(s0.getD s8.toNat 0)] ++ s7)) fun r_1 =>
    ob (f187 n r_1 s1) fun r_2 =>
    bif (decide (r_2 < 0)) then
     f s0 s1 r_1 (W (s8 - 1)) b14
    else
     f202_L10 n n s0 s1 r_1 s8 0 10000 b14
      (fun z_3 z_4 z_5 z_6 z_7 z_8 => (
       gd (decide (0 ≤ z_6) && decide (z_6 < (z_8.length : Int))) (
        gd (decide (z_6.toNat < z_8.length)) (
         ob (f172 n z_7) fun r_9 =>
         ob (f178 n z_4 r_9) fun r_10 =>
         ob (f188 n z_5 r_10) fun r_11 =>
         f z_3 z_4 r_11 (W (z_6 - 1)) (z_8.set z_6.toNat z_7)))))))
 else
  k0 s7 b14
abbrev f202_L4H : Tm := ⟨[(0, .d hIs), (1, .d hIs), (6, .k (.hw 14)), (7, .d hIs), (8, .d hI)], [(14, .arr 3 hI false)], [15, 27], [(7, hIs)]⟩
abbrev f202_L4X0 : Tm := ⟨[(6, .k (.hw 14)), (7, .d hIs)], [(14, .arr 3 hI false)], [], []⟩
abbrev f202_L4O : List (Exit × Tm) := [(.exit 0, f202_L4X0)]
def f202_L4U {α : Type} (n : Nat) (v : f202_L4H.den) (f : f202_L4H.den → Option α) (ks : KS α f202_L4O) : Option α := f202_L4B n v.1.1 v.1.2.1 v.1.2.2.2.1 v.1.2.2.2.2.1 v.2.1 (fun s0 s1 s7 s8 b14 => f ((s0, s1, (), s7, s8, ()), (b14, ()))) (fun w0 w1 => ks.1 (((), w0, ()), (w1, ())))
def f202_L4 {α : Type} (n m : Nat) (s0 s1 s7 : LI) (s8 : Int) (b14 : LI) (k0 : LI → LI → Option α) : Option α := rounds (f202_L4U n) m ((s0, s1, (), s7, s8, ()), (b14, ())) (fun w => k0 w.1.2.1 w.2.1, ())
theorem f202_L4_0 {α n s0 s1 s7 s8 b14 k0} : f202_L4 (α := α) n 0 s0 s1 s7 s8 b14 k0 = none := rfl
theorem f202_L4_s {α n m s0 s1 s7 s8 b14 k0} : f202_L4 (α := α) n (m + 1) s0 s1 s7 s8 b14 k0 = f202_L4B n s0 s1 s7 s8 b14 (fun s0 s1 s7 s8 b14 => f202_L4 n m s0 s1 s7 s8 b14 k0) k0 := rfl
def f202 (n : Nat) (a0 a1 : LI) : Option (LI × LI) :=
 gd (decide (0 ≤ (a0.length : Int)) && decide ((a0.length : Int) ≤ 4611686018427387904) && decide ((8 : Int) * (a0.length : Int) ≤ 281474976710656)) (
  f202_L4 n n a0 a1 [] (W ((a0.length : Int) - 1)) (List.replicate ((a0.length : Int).toNat) 0)
   (fun z_12 z_13 => (
    ob (f203 n z_13) fun r_14 =>
    some (r_14, z_12))))
def f202_E (n : Nat) : Ent := ⟨202, [hIs, hIs], [hIs, hIs], fun x => f202 n x.1 x.2⟩
def f202_D (α : Type) (n : Nat) : D3 α := { reg := [(2, ⟨0, [], [(0, { sh := some hI })]⟩), (6, ⟨0, [], [(4, { sh := some hI }), (7, { ent := some (f203_E n), fz := [(29, hIs)] })]⟩), (7, ⟨0, [], [(2, { ent := some (f187_E n) })]⟩), (12, ⟨0, [], [(2, { ent := some (f172_E n) }), (3, { ent := some (f178_E n) }), (5, { ent := some (f187_E n) })]⟩), (16, ⟨0, [], [(3, { ent := some (f172_E n) }), (4, { ent := some (f178_E n) }), (5, { ent := some (f188_E n) })]⟩), (17, ⟨0, [], [(1, { ent := some (f203_E n), fz := [(62, hIs)] })]⟩)], join := [], loop := [(10, ⟨f202_L10H, f202_L10O, rounds (f202_L10U n) n⟩), (4, ⟨f202_L4H, f202_L4O, rounds (f202_L4U n) n⟩)] }
theorem f202_ents (α : Type) (n : Nat) : AllS Tryz.prog (entsOf (f202_D α n).reg) := ⟨f203_ok n, f187_ok n, f172_ok n, f178_ok n, f187_ok n, f172_ok n, f178_ok n, f188_ok n, f203_ok n, trivial⟩
theorem f202_L10_d (α : Type) (n : Nat) : D3.OK Tryz.prog (tyOf Tryz.prog) ⟨65, []⟩ (f202_D α n) ((bodyOf Tryz.f202).at [1, 1, 1, 0, 1, 0, 0, 1, 0, 0, 1, 1, 1, 1, 0, 0, 0]) :=
 D3.OK.mk3 (f202_ents α n) (show loopsOf ((bodyOf Tryz.f202).at [1, 1, 1, 0, 1, 0, 0, 1, 0, 0, 1, 1, 1, 1, 0, 0, 0]) = [] by kernel_rfl) trivial
theorem f202_L10_ok (α : Type) (n : Nat) : LO.Sound (α := α) Tryz.prog ⟨65, []⟩ ⟨f202_L10H, f202_L10O, rounds (f202_L10U n) n⟩ (.loop ((bodyOf Tryz.f202).at [1, 1, 1, 0, 1, 0, 0, 1, 0, 0, 1, 1, 1, 1, 0, 0, 0])) :=
 loop_ok (tyOf_ok _) prog_fol (f202_L10U n) (f202_L10_d α n) (by intro v f ks; kernel_rfl) n
theorem f202_L4_d (α : Type) (n : Nat) : D3.OK Tryz.prog (tyOf Tryz.prog) ⟨65, []⟩ (f202_D α n) ((bodyOf Tryz.f202).at [1, 1, 1, 0, 1, 0, 0]) :=
 D3.OK.mk3 (f202_ents α n) (show loopsOf ((bodyOf Tryz.f202).at [1, 1, 1, 0, 1, 0, 0]) = [(10, (.loop ((bodyOf Tryz.f202).at [1, 1, 1, 0, 1, 0, 0, 1, 0, 0, 1, 1, 1, 1, 0, 0, 0])))] by kernel_rfl) ⟨look_sound rfl (f202_L10_ok α n), trivial⟩
theorem f202_L4_ok (α : Type) (n : Nat) : LO.Sound (α := α) Tryz.prog ⟨65, []⟩ ⟨f202_L4H, f202_L4O, rounds (f202_L4U n) n⟩ (.loop ((bodyOf Tryz.f202).at [1, 1, 1, 0, 1, 0, 0])) :=
 loop_ok (tyOf_ok _) prog_fol (f202_L4U n) (f202_L4_d α n) (by intro v f ks; kernel_rfl) n
theorem f202_d (α : Type) (n : Nat) : D3.OK Tryz.prog (tyOf Tryz.prog) ⟨65, []⟩ (f202_D α n) (bodyOf Tryz.f202) :=
 D3.OK.mk3 (f202_ents α n) (show loopsOf (bodyOf Tryz.f202) = [(4, (.loop ((bodyOf Tryz.f202).at [1, 1, 1, 0, 1, 0, 0])))] by kernel_rfl) ⟨look_sound rfl (f202_L4_ok α n), trivial⟩
theorem f202_ok (n : Nat) : (f202_E n).Sound Tryz.prog :=
 fn_ok (tyOf_ok _) prog_fol (f202_D _ n) (show Tryz.prog.funcs[202]? = some Tryz.f202 by kernel_rfl) (by kernel_rfl) (show Tryz.f202.body = some (bodyOf Tryz.f202) by kernel_rfl) rfl rfl (Nat.le_of_ble_eq_true rfl) (f202_d _ n) (by intro x; kernel_rfl) 

def f190_L1B {α : Type} (n : Nat) (s0 s1 : LI) (f : LI → LI → Option α) (k0 : LI → Option α) : Option α :=
 bif (decide ((s1.length : Int) > 0)) then
  ob (f202 n s0 s1) fun r_1 =>
  f s1 r_1.2
 else
  k0 s0
abbrev f190_L1H : Tm := ⟨[(0, .d hIs), (1, .d hIs)], [], [], []⟩
abbrev f190_L1X0 : Tm := ⟨[(0, .d hIs)], [], [], []⟩
abbrev f190_L1O : List (Exit × Tm) := [(.exit 0, f190_L1X0)]
def f190_L1U {α : Type} (n : Nat) (v : f190_L1H.den) (f : f190_L1H.den → Option α) (ks : KS α f190_L1O) : Option α := f190_L1B n v.1.1 v.1.2.1 (fun s0 s1 => f ((s0, s1, ()), ())) (fun w0 => ks.1 ((w0, ()), ()))
def f190_L1 {α : Type} (n m : Nat) (s0 s1 : LI) (k0 : LI → Option α) : Option α := rounds (f190_L1U n) m ((s0, s1, ()), ()) (fun w => k0 w.1.1, ())
theorem f190_L1_0 {α n s0 s1 k0} : f190_L1 (α := α) n 0 s0 s1 k0 = none := rfl
theorem f190_L1_s {α n m s0 s1 k0} : f190_L1 (α := α) n (m + 1) s0 s1 k0 = f190_L1B n s0 s1 (fun s0 s1 => f190_L1 n m s0 s1 k0) k0 := rfl
def f190 (n : Nat) (a0 a1 : LI) : Option LI :=
 f190_L1 n n a0 a1
  (fun z_2 => (
   gd (decide ((0 + z_2.length) * 8 ≤ 140737488355328)) (
    some z_2)))
def f190_E (n : Nat) : Ent := ⟨190, [hIs, hIs], [hIs], fun x => f190 n x.1 x.2⟩
def f190_D (α : Type) (n : Nat) : D3 α := { reg := [(2, ⟨0, [], [(2, { ent := some (f202_E n) })]⟩), (5, ⟨0, [], [(0, { sh := some hI })]⟩)], join := [], loop := [(1, ⟨f190_L1H, f190_L1O, rounds (f190_L1U n) n⟩)] }
theorem f190_ents (α : Type) (n : Nat) : AllS Tryz.prog (entsOf (f190_D α n).reg) := ⟨f202_ok n, trivial⟩
theorem f190_L1_d (α : Type) (n : Nat) : D3.OK Tryz.prog (tyOf Tryz.prog) ⟨21, []⟩ (f190_D α n) ((bodyOf Tryz.f190).at [1, 0, 0, 0]) :=
 D3.OK.mk3 (f190_ents α n) (show loopsOf ((bodyOf Tryz.f190).at [1, 0, 0, 0]) = [] by kernel_rfl) trivial
theorem f190_L1_ok (α : Type) (n : Nat) : LO.Sound (α := α) Tryz.prog ⟨21, []⟩ ⟨f190_L1H, f190_L1O, rounds (f190_L1U n) n⟩ (.loop ((bodyOf Tryz.f190).at [1, 0, 0, 0])) :=
 loop_ok (tyOf_ok _) prog_fol (f190_L1U n) (f190_L1_d α n) (by intro v f ks; kernel_rfl) n
theorem f190_d (α : Type) (n : Nat) : D3.OK Tryz.prog (tyOf Tryz.prog) ⟨21, []⟩ (f190_D α n) (bodyOf Tryz.f190) :=
 D3.OK.mk3 (f190_ents α n) (show loopsOf (bodyOf Tryz.f190) = [(1, (.loop ((bodyOf Tryz.f190).at [1, 0, 0, 0])))] by kernel_rfl) ⟨look_sound rfl (f190_L1_ok α n), trivial⟩
theorem f190_ok (n : Nat) : (f190_E n).Sound Tryz.prog :=
 fn_ok (tyOf_ok _) prog_fol (f190_D _ n) (show Tryz.prog.funcs[190]? = some Tryz.f190 by kernel_rfl) (by kernel_rfl) (show Tryz.f190.body = some (bodyOf Tryz.f190) by kernel_rfl) rfl rfl (Nat.le_of_ble_eq_true rfl) (f190_d _ n) (by intro x; kernel_rfl) 

def f177 (n : Nat) (a0 : Bool) (a1 a2 : LI) : Option Rq :=
 ob (f190 n a1 a2) fun r_1 =>
 ob (f202 n a1 r_1) fun r_2 =>
 ob (f202 n a2 r_1) fun r_3 =>
 bif a0 then
  some ((decide ((r_2.1.length : Int) > 0)), r_2.1, r_3.1)
 else
  some (false, r_2.1, r_3.1)
def f177_E (n : Nat) : Ent := ⟨177, [.bool, hIs, hIs], [hR], fun x => f177 n x.1 x.2.1 x.2.2⟩
def f177_D (α : Type) (n : Nat) : D3 α := { reg := [(1, ⟨0, [], [(2, { ent := some (f190_E n) })]⟩), (2, ⟨0, [], [(2, { ent := some (f202_E n) })]⟩), (3, ⟨0, [], [(2, { ent := some (f202_E n) })]⟩)], join := [], loop := [] }
theorem f177_ents (α : Type) (n : Nat) : AllS Tryz.prog (entsOf (f177_D α n).reg) := ⟨f190_ok n, f202_ok n, f202_ok n, trivial⟩
theorem f177_d (α : Type) (n : Nat) : D3.OK Tryz.prog (tyOf Tryz.prog) ⟨36, []⟩ (f177_D α n) (bodyOf Tryz.f177) :=
 D3.OK.mk3 (f177_ents α n) (show loopsOf (bodyOf Tryz.f177) = [] by kernel_rfl) trivial
theorem f177_ok (n : Nat) : (f177_E n).Sound Tryz.prog :=
 fn_ok (tyOf_ok _) prog_fol (f177_D _ n) (show Tryz.prog.funcs[177]? = some Tryz.f177 by kernel_rfl) (by kernel_rfl) (show Tryz.f177.body = some (bodyOf Tryz.f177) by kernel_rfl) rfl rfl (Nat.le_of_ble_eq_true rfl) (f177_d _ n) (by intro x; kernel_rfl) 

def f174 (n : Nat) (a0 a1 : Int) : Option (Rq × Int) :=
 ob (f65 n a0 (-1000000000) 1000000000) fun r_1 =>
 bif (!r_1) then
  some ((false, [], []), 4)
 else
  ob (f65 n a1 (-1000000000) 1000000000) fun r_2 =>
  bif (!r_2) then
   some ((false, [], []), 4)
  else
   bif (a1 == 0) then
    some ((false, [], []), 9)
   else
    ob (f106 n a0) fun r_3 =>
    ob (f106 n a1) fun r_4 =>
    ob (f177 n (!(r_3.1 == r_4.1)) r_3.2.1 r_4.2.1) fun r_5 =>
    some (r_5, 0)
def f174_E (n : Nat) : Ent := ⟨174, [hI, hI], [hR, hI], fun x => f174 n x.1 x.2⟩
def f174_D (α : Type) (n : Nat) : D3 α := { reg := [(1, ⟨0, [], [(1, { ent := some (f65_E n) }), (5, { ent := some (f65_E n) })]⟩), (5, ⟨0, [], [(1, { ent := some (f106_E n) })]⟩), (6, ⟨0, [], [(1, { ent := some (f106_E n) })]⟩), (7, ⟨0, [], [(9, { ent := some (f177_E n) })]⟩)], join := [], loop := [] }
theorem f174_ents (α : Type) (n : Nat) : AllS Tryz.prog (entsOf (f174_D α n).reg) := ⟨f65_ok n, f65_ok n, f106_ok n, f106_ok n, f177_ok n, trivial⟩
theorem f174_d (α : Type) (n : Nat) : D3.OK Tryz.prog (tyOf Tryz.prog) ⟨34, []⟩ (f174_D α n) (bodyOf Tryz.f174) :=
 D3.OK.mk3 (f174_ents α n) (show loopsOf (bodyOf Tryz.f174) = [] by kernel_rfl) trivial
theorem f174_ok (n : Nat) : (f174_E n).Sound Tryz.prog :=
 fn_ok (tyOf_ok _) prog_fol (f174_D _ n) (show Tryz.prog.funcs[174]? = some Tryz.f174 by kernel_rfl) (by kernel_rfl) (show Tryz.f174.body = some (bodyOf Tryz.f174) by kernel_rfl) rfl rfl (Nat.le_of_ble_eq_true rfl) (f174_d _ n) (by intro x; kernel_rfl) 

def f108B (n : Nat) (a0 : LI × Int × Int) : Option (Rq × (LI × Int × Int)) :=
 ob (f107B n a0 21) fun r_1 =>
 ob (f107B n r_1.2 6) fun r_2 =>
 ob (f174 n (W (r_1.1 - 10)) (W (1 + r_2.1))) fun r_3 =>
 some (r_3.1, r_2.2)
def f108B_E (n : Nat) : Ent3 := ⟨108, [.one (.ptr 125 (.st (.pair (.sl (.int .u8)) (.pair hI hI))))], [[.im hR]], fun x => f108B n x⟩
def f108B_D (α : Type) (n : Nat) : D3 α := { reg := [(1, ⟨0, [], [(1, { entB := some (f107B_E n), hb := 310 }), (4, { entB := some (f107B_E n), hb := 320 }), (6, { ent := some (f174_E n) })]⟩)], join := [], loop := [] }
theorem f108B_ents (α : Type) (n : Nat) : AllS Tryz.prog (entsOf (f108B_D α n).reg) := ⟨f107B_ok n, f107B_ok n, f174_ok n, trivial⟩
theorem f108B_d (α : Type) (n : Nat) : D3.OK Tryz.prog (tyOf Tryz.prog) ⟨16, []⟩ (f108B_D α n) (bodyOf Tryz.f108) :=
 D3.OK.mk3 (f108B_ents α n) (show loopsOf (bodyOf Tryz.f108) = [] by kernel_rfl) trivial
theorem f108B_ok (n : Nat) : (f108B_E n).Sound Tryz.prog :=
 fn_okB (tyOf_ok _) prog_fol (f108B_D _ n) (show Tryz.prog.funcs[108]? = some Tryz.f108 by kernel_rfl) (by kernel_rfl) (show Tryz.f108.body = some (bodyOf Tryz.f108) by kernel_rfl) rfl rfl (Nat.le_of_ble_eq_true rfl) (f108B_d _ n) (by intro x; kernel_rfl) 

def f48B_L3B {α : Type} (n : Nat) (s1 s6 : Int) (b7 : LR) (c1000_0 : LI) (c1000_1 c1000_2 : Int) (f : Int → Int → LR → LI → Int → Int → Option α) (k0 : LR → LI → Int → Int → Option α) : Option α :=
 bif (decide (s6 < s1)) then
  ob (f108B n (c1000_0, c1000_1, c1000_2)) fun r_1 =>
  gd (decide ((b7.length + 1) * 56 ≤ 140737488355328)) (
   f s1 (W (s6 + 1)) (b7 ++ [r_1.1]) r_1.2.1 r_1.2.2.1 r_1.2.2.2)
 else
  k0 b7 c1000_0 c1000_1 c1000_2
abbrev f48B_L3H : Tm := ⟨[(0, .k (.hp 1000 0 0)), (1, .d hI), (5, .k (.hw 7)), (6, .d hI)], [(7, .arr 30 hR false), (1000, .var 125 true false [.d (.sl (.int .u8)), .d hI, .d hI])], [16], []⟩
abbrev f48B_L3X0 : Tm := ⟨[(5, .k (.hw 7))], [(7, .arr 30 hR false), (1000, .var 125 true false [.d (.sl (.int .u8)), .d hI, .d hI])], [], []⟩
abbrev f48B_L3O : List (Exit × Tm) := [(.exit 0, f48B_L3X0)]
def f48B_L3U {α : Type} (n : Nat) (v : f48B_L3H.den) (f : f48B_L3H.den → Option α) (ks : KS α f48B_L3O) : Option α := f48B_L3B n v.1.2.1 v.1.2.2.2.1 v.2.1 v.2.2.1.1 v.2.2.1.2.1 v.2.2.1.2.2.1 (fun s1 s6 b7 c1000_0 c1000_1 c1000_2 => f (((), s1, (), s6, ()), (b7, (c1000_0, c1000_1, c1000_2, ()), ()))) (fun w0 w1 w2 w3 => ks.1 (((), ()), (w0, (w1, w2, w3, ()), ())))
def f48B_L3 {α : Type} (n m : Nat) (s1 s6 : Int) (b7 : LR) (c1000_0 : LI) (c1000_1 c1000_2 : Int) (k0 : LR → LI → Int → Int → Option α) : Option α := rounds (f48B_L3U n) m (((), s1, (), s6, ()), (b7, (c1000_0, c1000_1, c1000_2, ()), ())) (fun w => k0 w.2.1 w.2.2.1.1 w.2.2.1.2.1 w.2.2.1.2.2.1, ())
theorem f48B_L3_0 {α n s1 s6 b7 c1000_0 c1000_1 c1000_2 k0} : f48B_L3 (α := α) n 0 s1 s6 b7 c1000_0 c1000_1 c1000_2 k0 = none := rfl
theorem f48B_L3_s {α n m s1 s6 b7 c1000_0 c1000_1 c1000_2 k0} : f48B_L3 (α := α) n (m + 1) s1 s6 b7 c1000_0 c1000_1 c1000_2 k0 = f48B_L3B n s1 s6 b7 c1000_0 c1000_1 c1000_2 (fun s1 s6 b7 c1000_0 c1000_1 c1000_2 => f48B_L3 n m s1 s6 b7 c1000_0 c1000_1 c1000_2 k0) k0 := rfl
def f48B (n : Nat) (a0 : LI × Int × Int) (a1 : Int) : Option (LR × (LI × Int × Int)) :=
 f48B_L3 n n a1 0 [] a0.1 a0.2.1 a0.2.2
  (fun z_2 z_3 z_4 z_5 => (
   some (z_2, (z_3, z_4, z_5))))
def f48B_E (n : Nat) : Ent3 := ⟨48, [.one (.ptr 125 (.st (.pair (.sl (.int .u8)) (.pair hI hI)))), .im hI], [[.im hRs]], fun x => f48B n x.1 x.2⟩
def f48B_D (α : Type) (n : Nat) : D3 α := { reg := [(1, ⟨0, [], [(0, { sh := some hR })]⟩), (5, ⟨0, [], [(2, { entB := some (f108B_E n), hb := 310 }), (3, { sh := some hR })]⟩)], join := [], loop := [(3, ⟨f48B_L3H, f48B_L3O, rounds (f48B_L3U n) n⟩)] }
theorem f48B_ents (α : Type) (n : Nat) : AllS Tryz.prog (entsOf (f48B_D α n).reg) := ⟨f108B_ok n, trivial⟩
theorem f48B_L3_d (α : Type) (n : Nat) : D3.OK Tryz.prog (tyOf Tryz.prog) ⟨19, []⟩ (f48B_D α n) ((bodyOf Tryz.f48).at [1, 1, 0, 1, 0, 0]) :=
 D3.OK.mk3 (f48B_ents α n) (show loopsOf ((bodyOf Tryz.f48).at [1, 1, 0, 1, 0, 0]) = [] by kernel_rfl) trivial
theorem f48B_L3_ok (α : Type) (n : Nat) : LO.Sound (α := α) Tryz.prog ⟨19, []⟩ ⟨f48B_L3H, f48B_L3O, rounds (f48B_L3U n) n⟩ (.loop ((bodyOf Tryz.f48).at [1, 1, 0, 1, 0, 0])) :=
 loop_ok (tyOf_ok _) prog_fol (f48B_L3U n) (f48B_L3_d α n) (by intro v f ks; kernel_rfl) n
theorem f48B_d (α : Type) (n : Nat) : D3.OK Tryz.prog (tyOf Tryz.prog) ⟨19, []⟩ (f48B_D α n) (bodyOf Tryz.f48) :=
 D3.OK.mk3 (f48B_ents α n) (show loopsOf (bodyOf Tryz.f48) = [(3, (.loop ((bodyOf Tryz.f48).at [1, 1, 0, 1, 0, 0])))] by kernel_rfl) ⟨look_sound rfl (f48B_L3_ok α n), trivial⟩
theorem f48B_ok (n : Nat) : (f48B_E n).Sound Tryz.prog :=
 fn_okB (tyOf_ok _) prog_fol (f48B_D _ n) (show Tryz.prog.funcs[48]? = some Tryz.f48 by kernel_rfl) (by kernel_rfl) (show Tryz.f48.body = some (bodyOf Tryz.f48) by kernel_rfl) rfl rfl (Nat.le_of_ble_eq_true rfl) (f48B_d _ n) (by intro x; kernel_rfl) 

def f12 (n : Nat) (a0 : LI) (a1 : Int) : Option LR :=
 ob (f46B n a0) fun r_1 =>
 ob (f48B n r_1 a1) fun r_2 =>
 some r_2.1
def f12_E (n : Nat) : Ent := ⟨12, [(.sl (.int .u8)), hI], [hRs], fun x => f12 n x.1 x.2⟩
def f12_D (α : Type) (n : Nat) : D3 α := { reg := [(1, ⟨0, [], [(1, { entB := some (f46B_E n), hb := 310 }), (3, { entB := some (f48B_E n), hb := 320 })]⟩)], join := [], loop := [] }
theorem f12_ents (α : Type) (n : Nat) : AllS Tryz.prog (entsOf (f12_D α n).reg) := ⟨f46B_ok n, f48B_ok n, trivial⟩
theorem f12_d (α : Type) (n : Nat) : D3.OK Tryz.prog (tyOf Tryz.prog) ⟨9, []⟩ (f12_D α n) (bodyOf Tryz.f12) :=
 D3.OK.mk3 (f12_ents α n) (show loopsOf (bodyOf Tryz.f12) = [] by kernel_rfl) trivial
theorem f12_ok (n : Nat) : (f12_E n).Sound Tryz.prog :=
 fn_ok (tyOf_ok _) prog_fol (f12_D _ n) (show Tryz.prog.funcs[12]? = some Tryz.f12 by kernel_rfl) (by kernel_rfl) (show Tryz.f12.body = some (bodyOf Tryz.f12) by kernel_rfl) rfl rfl (Nat.le_of_ble_eq_true rfl) (f12_d _ n) (by intro x; kernel_rfl) 

def f167_L2B {α : Type} (n : Nat) (s0 : Int) (s7 : LI) (s8 s9 : Int) (f : Int → LI → Int → Int → Option α) (k0 : Int → Option α) (k1 : Unit → Option α) : Option α :=
 bif (decide (s9 < s8)) then
  gd (decide (0 ≤ s9) && decide (s9 < (s7.length : Int))) (
   bif (decide ((s7.getD s9.toNat 0) > s0)) then
    k0 2
   else
    f s0 s7 s8 (W (s9 + 1)))
 else
  k1 ()
abbrev f167_L2H : Tm := ⟨[(0, .d hI), (7, .d hIs), (8, .d hI), (9, .d hI)], [], [], []⟩
abbrev f167_L2X0 : Tm := ⟨[(4, .d hI)], [], [], []⟩
abbrev f167_L2X1 : Tm := ⟨[], [], [], []⟩
abbrev f167_L2O : List (Exit × Tm) := [(.ret, f167_L2X0), (.exit 0, f167_L2X1)]
def f167_L2U {α : Type} (n : Nat) (v : f167_L2H.den) (f : f167_L2H.den → Option α) (ks : KS α f167_L2O) : Option α := f167_L2B n v.1.1 v.1.2.1 v.1.2.2.1 v.1.2.2.2.1 (fun s0 s7 s8 s9 => f ((s0, s7, s8, s9, ()), ())) (fun w0 => ks.1 ((w0, ()), ())) (fun _ => ks.2.1 ((), ()))
def f167_L2 {α : Type} (n m : Nat) (s0 : Int) (s7 : LI) (s8 s9 : Int) (k0 : Int → Option α) (k1 : Unit → Option α) : Option α := rounds (f167_L2U n) m ((s0, s7, s8, s9, ()), ()) (fun w => k0 w.1.1, fun w => k1 (), ())
theorem f167_L2_0 {α n s0 s7 s8 s9 k0 k1} : f167_L2 (α := α) n 0 s0 s7 s8 s9 k0 k1 = none := rfl
theorem f167_L2_s {α n m s0 s7 s8 s9 k0 k1} : f167_L2 (α := α) n (m + 1) s0 s7 s8 s9 k0 k1 = f167_L2B n s0 s7 s8 s9 (fun s0 s7 s8 s9 => f167_L2 n m s0 s7 s8 s9 k0 k1) k0 k1 := rfl
def f167 (n : Nat) (a0 : Int) (a1 : LI) : Option Int :=
 f167_L2 n n a0 a1 (a1.length : Int) 0
  (fun z_1 => (
   some z_1))
  (fun (_ : Unit) => (
   some 0))
def f167_E (n : Nat) : Ent := ⟨167, [hI, hIs], [hI], fun x => f167 n x.1 x.2⟩
def f167_D (α : Type) (n : Nat) : D3 α := { reg := [], join := [], loop := [(2, ⟨f167_L2H, f167_L2O, rounds (f167_L2U n) n⟩)] }
theorem f167_ents (α : Type) (n : Nat) : AllS Tryz.prog (entsOf (f167_D α n).reg) := trivial
theorem f167_L2_d (α : Type) (n : Nat) : D3.OK Tryz.prog (tyOf Tryz.prog) ⟨17, []⟩ (f167_D α n) ((bodyOf Tryz.f167).at [1, 0, 1, 0, 0]) :=
 D3.OK.mk3 (f167_ents α n) (show loopsOf ((bodyOf Tryz.f167).at [1, 0, 1, 0, 0]) = [] by kernel_rfl) trivial
theorem f167_L2_ok (α : Type) (n : Nat) : LO.Sound (α := α) Tryz.prog ⟨17, []⟩ ⟨f167_L2H, f167_L2O, rounds (f167_L2U n) n⟩ (.loop ((bodyOf Tryz.f167).at [1, 0, 1, 0, 0])) :=
 loop_ok (tyOf_ok _) prog_fol (f167_L2U n) (f167_L2_d α n) (by intro v f ks; kernel_rfl) n
theorem f167_d (α : Type) (n : Nat) : D3.OK Tryz.prog (tyOf Tryz.prog) ⟨17, []⟩ (f167_D α n) (bodyOf Tryz.f167) :=
 D3.OK.mk3 (f167_ents α n) (show loopsOf (bodyOf Tryz.f167) = [(2, (.loop ((bodyOf Tryz.f167).at [1, 0, 1, 0, 0])))] by kernel_rfl) ⟨look_sound rfl (f167_L2_ok α n), trivial⟩
theorem f167_ok (n : Nat) : (f167_E n).Sound Tryz.prog :=
 fn_ok (tyOf_ok _) prog_fol (f167_D _ n) (show Tryz.prog.funcs[167]? = some Tryz.f167 by kernel_rfl) (by kernel_rfl) (show Tryz.f167.body = some (bodyOf Tryz.f167) by kernel_rfl) rfl rfl (Nat.le_of_ble_eq_true rfl) (f167_d _ n) (by intro x; kernel_rfl) 

def f98_L3B {α : Type} (n : Nat) (s7 : List LR) (s8 s9 : Int) (b6 : LI) (f : (List LR) → Int → Int → LI → Option α) (k0 : LI → Option α) : Option α :=
 bif (decide (s9 < s8)) then
  gd (decide (0 ≤ s9) && decide (s9 < (s7.length : Int))) (
   gd (decide ((b6.length + 1) * 8 ≤ 140737488355328)) (
    f s7 s8 (W (s9 + 1)) (b6 ++ [(((s7.getD s9.toNat []).length : Nat) : Int)])))
 else
  k0 b6
abbrev f98_L3H : Tm := ⟨[(3, .k (.hw 6)), (7, .d (.sl hRs)), (8, .d hI), (9, .d hI)], [(6, .arr 3 hI false)], [16], []⟩
abbrev f98_L3X0 : Tm := ⟨[(3, .k (.hw 6))], [(6, .arr 3 hI false)], [], []⟩
abbrev f98_L3O : List (Exit × Tm) := [(.exit 0, f98_L3X0)]
def f98_L3U {α : Type} (n : Nat) (v : f98_L3H.den) (f : f98_L3H.den → Option α) (ks : KS α f98_L3O) : Option α := f98_L3B n v.1.2.1 v.1.2.2.1 v.1.2.2.2.1 v.2.1 (fun s7 s8 s9 b6 => f (((), s7, s8, s9, ()), (b6, ()))) (fun w0 => ks.1 (((), ()), (w0, ())))
def f98_L3 {α : Type} (n m : Nat) (s7 : List LR) (s8 s9 : Int) (b6 : LI) (k0 : LI → Option α) : Option α := rounds (f98_L3U n) m (((), s7, s8, s9, ()), (b6, ())) (fun w => k0 w.2.1, ())
theorem f98_L3_0 {α n s7 s8 s9 b6 k0} : f98_L3 (α := α) n 0 s7 s8 s9 b6 k0 = none := rfl
theorem f98_L3_s {α n m s7 s8 s9 b6 k0} : f98_L3 (α := α) n (m + 1) s7 s8 s9 b6 k0 = f98_L3B n s7 s8 s9 b6 (fun s7 s8 s9 b6 => f98_L3 n m s7 s8 s9 b6 k0) k0 := rfl
def f98 (n : Nat) (a0 : List LR) : Option Int :=
 f98_L3 n n a0 (a0.length : Int) 0 []
  (fun z_1 => (
   ob (f167 n 4096 z_1) fun r_2 =>
   some r_2))
def f98_E (n : Nat) : Ent := ⟨98, [(.sl hRs)], [hI], fun x => f98 n x⟩
def f98_D (α : Type) (n : Nat) : D3 α := { reg := [(1, ⟨0, [], [(0, { sh := some hI })]⟩), (5, ⟨0, [], [(3, { sh := some hI })]⟩), (7, ⟨0, [], [(1, { ent := some (f167_E n) })]⟩)], join := [], loop := [(3, ⟨f98_L3H, f98_L3O, rounds (f98_L3U n) n⟩)] }
theorem f98_ents (α : Type) (n : Nat) : AllS Tryz.prog (entsOf (f98_D α n).reg) := ⟨f167_ok n, trivial⟩
theorem f98_L3_d (α : Type) (n : Nat) : D3.OK Tryz.prog (tyOf Tryz.prog) ⟨21, []⟩ (f98_D α n) ((bodyOf Tryz.f98).at [1, 1, 0, 1, 0, 0]) :=
 D3.OK.mk3 (f98_ents α n) (show loopsOf ((bodyOf Tryz.f98).at [1, 1, 0, 1, 0, 0]) = [] by kernel_rfl) trivial
theorem f98_L3_ok (α : Type) (n : Nat) : LO.Sound (α := α) Tryz.prog ⟨21, []⟩ ⟨f98_L3H, f98_L3O, rounds (f98_L3U n) n⟩ (.loop ((bodyOf Tryz.f98).at [1, 1, 0, 1, 0, 0])) :=
 loop_ok (tyOf_ok _) prog_fol (f98_L3U n) (f98_L3_d α n) (by intro v f ks; kernel_rfl) n
theorem f98_d (α : Type) (n : Nat) : D3.OK Tryz.prog (tyOf Tryz.prog) ⟨21, []⟩ (f98_D α n) (bodyOf Tryz.f98) :=
 D3.OK.mk3 (f98_ents α n) (show loopsOf (bodyOf Tryz.f98) = [(3, (.loop ((bodyOf Tryz.f98).at [1, 1, 0, 1, 0, 0])))] by kernel_rfl) ⟨look_sound rfl (f98_L3_ok α n), trivial⟩
theorem f98_ok (n : Nat) : (f98_E n).Sound Tryz.prog :=
 fn_ok (tyOf_ok _) prog_fol (f98_D _ n) (show Tryz.prog.funcs[98]? = some Tryz.f98 by kernel_rfl) (by kernel_rfl) (show Tryz.f98.body = some (bodyOf Tryz.f98) by kernel_rfl) rfl rfl (Nat.le_of_ble_eq_true rfl) (f98_d _ n) (by intro x; kernel_rfl) 

def f211 (n : Nat) (a0 : Int) : Option Bool :=
 bif (decide (a0 < 0)) then
  some true
 else
  some (decide (a0 ≥ 10000))
def f211_E (n : Nat) : Ent := ⟨211, [hI], [.bool], fun x => f211 n x⟩
def f211_D (α : Type) (n : Nat) : D3 α := { reg := [], join := [], loop := [] }
theorem f211_ents (α : Type) (n : Nat) : AllS Tryz.prog (entsOf (f211_D α n).reg) := trivial
theorem f211_d (α : Type) (n : Nat) : D3.OK Tryz.prog (tyOf Tryz.prog) ⟨9, []⟩ (f211_D α n) (bodyOf Tryz.f211) :=
 D3.OK.mk3 (f211_ents α n) (show loopsOf (bodyOf Tryz.f211) = [] by kernel_rfl) trivial
theorem f211_ok (n : Nat) : (f211_E n).Sound Tryz.prog :=
 fn_ok (tyOf_ok _) prog_fol (f211_D _ n) (show Tryz.prog.funcs[211]? = some Tryz.f211 by kernel_rfl) (by kernel_rfl) (show Tryz.f211.body = some (bodyOf Tryz.f211) by kernel_rfl) rfl rfl (Nat.le_of_ble_eq_true rfl) (f211_d _ n) (by intro x; kernel_rfl) 

def f224c211_L2B {α : Type} (n : Nat) (s0 : LI) (s7 s8 : Int) (f : LI → Int → Int → Option α) (k0 : Int → Option α) (k1 : Unit → Option α) : Option α :=
 bif (decide (s8 < s7)) then
  gd (decide (0 ≤ s8) && decide (s8 < (s0.length : Int))) (
   ob (f211 n (s0.getD s8.toNat 0)) fun r_1 =>
   bif r_1 then
    k0 s8
   else
    f s0 s7 (W (s8 + 1)))
 else
  k1 ()
abbrev f224c211_L2H : Tm := ⟨[(0, .d hIs), (1, .d (.fn 211)), (7, .d hI), (8, .d hI)], [], [], []⟩
abbrev f224c211_L2X0 : Tm := ⟨[(4, .d hI)], [], [], []⟩
abbrev f224c211_L2X1 : Tm := ⟨[], [], [], []⟩
abbrev f224c211_L2O : List (Exit × Tm) := [(.ret, f224c211_L2X0), (.exit 0, f224c211_L2X1)]
def f224c211_L2U {α : Type} (n : Nat) (v : f224c211_L2H.den) (f : f224c211_L2H.den → Option α) (ks : KS α f224c211_L2O) : Option α := f224c211_L2B n v.1.1 v.1.2.2.1 v.1.2.2.2.1 (fun s0 s7 s8 => f ((s0, (), s7, s8, ()), ())) (fun w0 => ks.1 ((w0, ()), ())) (fun _ => ks.2.1 ((), ()))
def f224c211_L2 {α : Type} (n m : Nat) (s0 : LI) (s7 s8 : Int) (k0 : Int → Option α) (k1 : Unit → Option α) : Option α := rounds (f224c211_L2U n) m ((s0, (), s7, s8, ()), ()) (fun w => k0 w.1.1, fun w => k1 (), ())
theorem f224c211_L2_0 {α n s0 s7 s8 k0 k1} : f224c211_L2 (α := α) n 0 s0 s7 s8 k0 k1 = none := rfl
theorem f224c211_L2_s {α n m s0 s7 s8 k0 k1} : f224c211_L2 (α := α) n (m + 1) s0 s7 s8 k0 k1 = f224c211_L2B n s0 s7 s8 (fun s0 s7 s8 => f224c211_L2 n m s0 s7 s8 k0 k1) k0 k1 := rfl
def f224c211 (n : Nat) (a0 : LI) (a1 : Unit) : Option Int :=
 f224c211_L2 n n a0 (a0.length : Int) 0
  (fun z_2 => (
   some z_2))
  (fun (_ : Unit) => (
   some (-1)))
def f224c211_E (n : Nat) : Ent := ⟨224, [hIs, (.fn 211)], [hI], fun x => f224c211 n x.1 x.2⟩
def f224c211_D (α : Type) (n : Nat) : D3 α := { reg := [(4, ⟨0, [], [(5, { ent := some (f211_E n) })]⟩)], join := [], loop := [(2, ⟨f224c211_L2H, f224c211_L2O, rounds (f224c211_L2U n) n⟩)] }
theorem f224c211_ents (α : Type) (n : Nat) : AllS Tryz.prog (entsOf (f224c211_D α n).reg) := ⟨f211_ok n, trivial⟩
theorem f224c211_L2_d (α : Type) (n : Nat) : D3.OK Tryz.prog (tyOf Tryz.prog) ⟨19, []⟩ (f224c211_D α n) ((bodyOf Tryz.f224).at [1, 0, 1, 0, 0]) :=
 D3.OK.mk3 (f224c211_ents α n) (show loopsOf ((bodyOf Tryz.f224).at [1, 0, 1, 0, 0]) = [] by kernel_rfl) trivial
theorem f224c211_L2_ok (α : Type) (n : Nat) : LO.Sound (α := α) Tryz.prog ⟨19, []⟩ ⟨f224c211_L2H, f224c211_L2O, rounds (f224c211_L2U n) n⟩ (.loop ((bodyOf Tryz.f224).at [1, 0, 1, 0, 0])) :=
 loop_ok (tyOf_ok _) prog_fol (f224c211_L2U n) (f224c211_L2_d α n) (by intro v f ks; kernel_rfl) n
theorem f224c211_d (α : Type) (n : Nat) : D3.OK Tryz.prog (tyOf Tryz.prog) ⟨19, []⟩ (f224c211_D α n) (bodyOf Tryz.f224) :=
 D3.OK.mk3 (f224c211_ents α n) (show loopsOf (bodyOf Tryz.f224) = [(2, (.loop ((bodyOf Tryz.f224).at [1, 0, 1, 0, 0])))] by kernel_rfl) ⟨look_sound rfl (f224c211_L2_ok α n), trivial⟩
theorem f224c211_ok (n : Nat) : (f224c211_E n).Sound Tryz.prog :=
 fn_ok (tyOf_ok _) prog_fol (f224c211_D _ n) (show Tryz.prog.funcs[224]? = some Tryz.f224 by kernel_rfl) (by kernel_rfl) (show Tryz.f224.body = some (bodyOf Tryz.f224) by kernel_rfl) rfl rfl (Nat.le_of_ble_eq_true rfl) (f224c211_d _ n) (by intro x; kernel_rfl) 

def f210c211 (n : Nat) (a0 : LI) (a1 : Unit) : Option Bool :=
 ob (f224c211 n a0 a1) fun r_1 =>
 some (decide (r_1 ≥ 0))
def f210c211_E (n : Nat) : Ent := ⟨210, [hIs, (.fn 211)], [.bool], fun x => f210c211 n x.1 x.2⟩
def f210c211_D (α : Type) (n : Nat) : D3 α := { reg := [(1, ⟨0, [], [(2, { ent := some (f224c211_E n) })]⟩)], join := [], loop := [] }
theorem f210c211_ents (α : Type) (n : Nat) : AllS Tryz.prog (entsOf (f210c211_D α n).reg) := ⟨f224c211_ok n, trivial⟩
theorem f210c211_d (α : Type) (n : Nat) : D3.OK Tryz.prog (tyOf Tryz.prog) ⟨9, []⟩ (f210c211_D α n) (bodyOf Tryz.f210) :=
 D3.OK.mk3 (f210c211_ents α n) (show loopsOf (bodyOf Tryz.f210) = [] by kernel_rfl) trivial
theorem f210c211_ok (n : Nat) : (f210c211_E n).Sound Tryz.prog :=
 fn_ok (tyOf_ok _) prog_fol (f210c211_D _ n) (show Tryz.prog.funcs[210]? = some Tryz.f210 by kernel_rfl) (by kernel_rfl) (show Tryz.f210.body = some (bodyOf Tryz.f210) by kernel_rfl) rfl rfl (Nat.le_of_ble_eq_true rfl) (f210c211_d _ n) (by intro x; kernel_rfl) 

def f197 (n : Nat) (a0 : LI) : Option Bool :=
 bif (decide ((a0.length : Int) > 40)) then
  some false
 else
  bif (decide ((a0.length : Int) > 0)) then
   gd (decide (0 ≤ (W ((a0.length : Int) - 1))) && decide ((W ((a0.length : Int) - 1)) < (a0.length : Int))) (
    bif ((a0.getD ((W ((a0.length : Int) - 1)).toNat) 0) == 0) then
     some false
    else
     ob (f210c211 n a0 ()) fun r_1 =>
     some (!r_1))
  else
   ob (f210c211 n a0 ()) fun r_2 =>
   some (!r_2)
def f197_E (n : Nat) : Ent := ⟨197, [hIs], [.bool], fun x => f197 n x⟩
def f197_D (α : Type) (n : Nat) : D3 α := { reg := [(4, ⟨0, [], [(1, { ent := some (f210c211_E n) })]⟩)], join := [], loop := [] }
theorem f197_ents (α : Type) (n : Nat) : AllS Tryz.prog (entsOf (f197_D α n).reg) := ⟨f210c211_ok n, trivial⟩
theorem f197_d (α : Type) (n : Nat) : D3.OK Tryz.prog (tyOf Tryz.prog) ⟨23, []⟩ (f197_D α n) (bodyOf Tryz.f197) :=
 D3.OK.mk3 (f197_ents α n) (show loopsOf (bodyOf Tryz.f197) = [] by kernel_rfl) trivial
theorem f197_ok (n : Nat) : (f197_E n).Sound Tryz.prog :=
 fn_ok (tyOf_ok _) prog_fol (f197_D _ n) (show Tryz.prog.funcs[197]? = some Tryz.f197 by kernel_rfl) (by kernel_rfl) (show Tryz.f197.body = some (bodyOf Tryz.f197) by kernel_rfl) rfl rfl (Nat.le_of_ble_eq_true rfl) (f197_d _ n) (by intro x; kernel_rfl) 

def f74 (n : Nat) (a0 : Rq) : Option Bool :=
 some ((a0.2.1.length : Int) == 0)
def f74_E (n : Nat) : Ent := ⟨74, [hR], [.bool], fun x => f74 n x⟩
def f74_D (α : Type) (n : Nat) : D3 α := { reg := [], join := [], loop := [] }
theorem f74_ents (α : Type) (n : Nat) : AllS Tryz.prog (entsOf (f74_D α n).reg) := trivial
theorem f74_d (α : Type) (n : Nat) : D3.OK Tryz.prog (tyOf Tryz.prog) ⟨7, []⟩ (f74_D α n) (bodyOf Tryz.f74) :=
 D3.OK.mk3 (f74_ents α n) (show loopsOf (bodyOf Tryz.f74) = [] by kernel_rfl) trivial
theorem f74_ok (n : Nat) : (f74_E n).Sound Tryz.prog :=
 fn_ok (tyOf_ok _) prog_fol (f74_D _ n) (show Tryz.prog.funcs[74]? = some Tryz.f74 by kernel_rfl) (by kernel_rfl) (show Tryz.f74.body = some (bodyOf Tryz.f74) by kernel_rfl) rfl rfl (Nat.le_of_ble_eq_true rfl) (f74_d _ n) (by intro x; kernel_rfl) 

def f201 (n : Nat) (a0 : LI) : Option LI :=
 some a0
def f201_E (n : Nat) : Ent := ⟨201, [hIs], [(.clo 223 (.ref hIs))], fun x => f201 n x⟩
def f201_D (α : Type) (n : Nat) : D3 α := { reg := [(1, ⟨0, [], [(0, { sh := some (.ref hIs) })]⟩)], join := [], loop := [] }
theorem f201_ents (α : Type) (n : Nat) : AllS Tryz.prog (entsOf (f201_D α n).reg) := trivial
theorem f201_d (α : Type) (n : Nat) : D3.OK Tryz.prog (tyOf Tryz.prog) ⟨4, []⟩ (f201_D α n) (bodyOf Tryz.f201) :=
 D3.OK.mk3 (f201_ents α n) (show loopsOf (bodyOf Tryz.f201) = [] by kernel_rfl) trivial
theorem f201_ok (n : Nat) : (f201_E n).Sound Tryz.prog :=
 fn_ok (tyOf_ok _) prog_fol (f201_D _ n) (show Tryz.prog.funcs[201]? = some Tryz.f201 by kernel_rfl) (by kernel_rfl) (show Tryz.f201.body = some (bodyOf Tryz.f201) by kernel_rfl) rfl rfl (Nat.le_of_ble_eq_true rfl) (f201_d _ n) (by intro x; kernel_rfl) 

def f170_L6B {α : Type} (n : Nat) (i : Nat) (z : Int) (s18 : LI) (c3_0 : LI) (c4_0 : Int) (f : LI → LI → Int → Option α) (k0 : Int → Option α) (k1 : Int → Option α) : Option α :=
 gd (decide (0 ≤ (i : Int)) && decide ((i : Int) < (c3_0.length : Int))) (
  bif (z != (c3_0.getD ((i : Int).toNat) 0)) then
   gd (decide (0 ≤ (i : Int)) && decide ((i : Int) < (c3_0.length : Int))) (
    bif (decide (z < (c3_0.getD ((i : Int).toNat) 0))) then
     k1 (-1)
    else
     k1 1)
  else
   f s18 c3_0 c4_0)
abbrev f170_L6H : Tm := ⟨[(3, .k (.hp 3 0 0)), (4, .k (.hp 4 0 0)), (18, .d (.clo 223 (.ref hIs)))], [(3, .var 28 true false [.d hIs]), (4, .var 3 true false [.d hI])], [], []⟩
abbrev f170_L6X0 : Tm := ⟨[(4, .k (.hp 4 0 0))], [(4, .var 3 true false [.d hI])], [3], []⟩
abbrev f170_L6X1 : Tm := ⟨[(4, .k (.hp 4 0 0))], [(4, .var 3 true false [.d hI])], [3], []⟩
abbrev f170_L6O : List (Exit × Tm) := [(.normal, f170_L6X0), (.ret, f170_L6X1)]
def f170_L6Z (v : f170_L6H.den) : List Int := (fun s18 c3_0 c4_0 => s18) v.1.2.2.1 v.2.1.1 v.2.2.1.1
def f170_L6U {α : Type} (n : Nat) (i : Nat) (z : Int) (v : f170_L6H.den) (f : f170_L6H.den → Option α) (ks : KS α f170_L6O) : Option α := f170_L6B n i z v.1.2.2.1 v.2.1.1 v.2.2.1.1 (fun s18 c3_0 c4_0 => f (((), (), s18, ()), ((c3_0, ()), (c4_0, ()), ()))) (fun w0 => ks.1 (((), ()), ((w0, ()), ()))) (fun w0 => ks.2.1 (((), ()), ((w0, ()), ())))
def f170_L6N {α : Type} (v : f170_L6H.den) (ks : KS α f170_L6O) : Option α := (fun s18 c3_0 c4_0 => ks.1 (((), ()), ((c4_0, ()), ()))) v.1.2.2.1 v.2.1.1 v.2.2.1.1
def f170_L6 {α : Type} (n : Nat) (s18 : LI) (c3_0 : LI) (c4_0 : Int) (k0 : Int → Option α) (k1 : Int → Option α) : Option α := rangeR f170_L6Z (f170_L6U n) f170_L6N (((), (), s18, ()), ((c3_0, ()), (c4_0, ()), ())) (fun w => k0 w.2.1.1, fun w => k1 w.2.1.1, ())
def f170_L6R {α : Type} (n : Nat) (zs : List Int) (i : Nat) (s18 : LI) (c3_0 : LI) (c4_0 : Int) (k0 : Int → Option α) (k1 : Int → Option α) : Option α := rangeB f170_L6Z (f170_L6U n) zs i (((), (), s18, ()), ((c3_0, ()), (c4_0, ()), ())) (fun v => f170_L6N v (fun w => k0 w.2.1.1, fun w => k1 w.2.1.1, ())) (fun w => k0 w.2.1.1, fun w => k1 w.2.1.1, ())
theorem f170_L6_e {α : Type} (n : Nat) (s18 : LI) (c3_0 : LI) (c4_0 : Int) (k0 : Int → Option α) (k1 : Int → Option α) : f170_L6 (α := α) n s18 c3_0 c4_0 k0 k1 = gd (decide (s18.length ≤ 4611686018427387904)) (f170_L6R n s18 s18.length s18 c3_0 c4_0 k0 k1) := rfl
theorem f170_L6_0 {α : Type} (n : Nat) (zs : List Int) (s18 : LI) (c3_0 : LI) (c4_0 : Int) (k0 : Int → Option α) (k1 : Int → Option α) : f170_L6R (α := α) n zs 0 s18 c3_0 c4_0 k0 k1 = k0 c4_0 := rfl
theorem f170_L6_s {α : Type} (n : Nat) (zs : List Int) (i : Nat) (s18 : LI) (c3_0 : LI) (c4_0 : Int) (k0 : Int → Option α) (k1 : Int → Option α) : f170_L6R (α := α) n zs (i + 1) s18 c3_0 c4_0 k0 k1 = f170_L6B n i (zs.getD i 0) s18 c3_0 c4_0 (fun s18 c3_0 c4_0 => gd (decide (s18 = zs)) (f170_L6R n zs i s18 c3_0 c4_0 k0 k1)) k0 k1 := rfl
def f170 (n : Nat) (a0 a1 : LI) : Option Int :=
 bif ((a0.length : Int) != (a1.length : Int)) then
  bif (decide ((a0.length : Int) < (a1.length : Int))) then
   some (-1)
  else
   some 1
 else
  ob (f201 n a0) fun r_1 =>
  f170_L6 n r_1 a1 0
   (fun z_2 => (
    some 0))
   (fun z_3 => (
    some z_3))
def f170_E (n : Nat) : Ent := ⟨170, [hIs, hIs], [hI], fun x => f170 n x.1 x.2⟩
def f170_D (α : Type) (n : Nat) : D3 α := { reg := [(5, ⟨0, [], [(1, { ent := some (f201_E n) })]⟩)], join := [], loop := [(6, ⟨f170_L6H, f170_L6O, rangeR f170_L6Z (f170_L6U n) f170_L6N⟩)] }
theorem f170_ents (α : Type) (n : Nat) : AllS Tryz.prog (entsOf (f170_D α n).reg) := ⟨f201_ok n, trivial⟩
theorem f170_L6A_d (α : Type) (n : Nat) : D3.OK Tryz.prog (tyOf Tryz.prog) ⟨33, []⟩ (f170_D α n) ((bodyOf Tryz.f170).at [1, 1, 0, 1, 0, 0]) :=
 D3.OK.mk3 (f170_ents α n) (show loopsOf ((bodyOf Tryz.f170).at [1, 1, 0, 1, 0, 0]) = [] by kernel_rfl) trivial
theorem f170_L6B_d (α : Type) (n : Nat) : D3.OK Tryz.prog (tyOf Tryz.prog) ⟨33, []⟩ (f170_D α n) ((bodyOf Tryz.f170).at [1, 1, 0, 1, 0, 1]) :=
 D3.OK.mk3 (f170_ents α n) (show loopsOf ((bodyOf Tryz.f170).at [1, 1, 0, 1, 0, 1]) = [] by kernel_rfl) trivial
theorem f170_L6_ok (α : Type) (n : Nat) : LO.Sound (α := α) Tryz.prog ⟨33, []⟩ ⟨f170_L6H, f170_L6O, rangeR f170_L6Z (f170_L6U n) f170_L6N⟩ (.rangeFunc (.tmp 18) #[19, 20] ((bodyOf Tryz.f170).at [1, 1, 0, 1, 0, 0]) ((bodyOf Tryz.f170).at [1, 1, 0, 1, 0, 1])) :=
 range_ok (tyOf_ok _) prog_fol f170_L6Z (f170_L6U n) f170_L6N back_ok rfl rfl rfl rfl (f170_L6A_d α n) (f170_L6B_d α n) (by intro v; rfl) (by intro i z v f ks; kernel_rfl) (by intro v ks; kernel_rfl)
theorem f170_d (α : Type) (n : Nat) : D3.OK Tryz.prog (tyOf Tryz.prog) ⟨33, []⟩ (f170_D α n) (bodyOf Tryz.f170) :=
 D3.OK.mk3 (f170_ents α n) (show loopsOf (bodyOf Tryz.f170) = [(6, (.rangeFunc (.tmp 18) #[19, 20] ((bodyOf Tryz.f170).at [1, 1, 0, 1, 0, 0]) ((bodyOf Tryz.f170).at [1, 1, 0, 1, 0, 1])))] by kernel_rfl) ⟨look_sound rfl (f170_L6_ok α n), trivial⟩
theorem f170_ok (n : Nat) : (f170_E n).Sound Tryz.prog :=
 fn_ok (tyOf_ok _) prog_fol (f170_D _ n) (show Tryz.prog.funcs[170]? = some Tryz.f170 by kernel_rfl) (by kernel_rfl) (show Tryz.f170.body = some (bodyOf Tryz.f170) by kernel_rfl) rfl rfl (Nat.le_of_ble_eq_true rfl) (f170_d _ n) (by intro x; kernel_rfl) 

def f145G (n : Nat) (a0 : LI) : Option LI :=
 gd ((!a0.isEmpty)) (
  gd (decide ((0 + a0.length) * 8 ≤ 140737488355328)) (
   some a0))
def f145G_E (n : Nat) : Ent := ⟨145, [hIs], [hIs], fun x => f145G n x⟩
def f145G_D (α : Type) (n : Nat) : D3 α := { reg := [(3, ⟨0, [], [(0, { sh := some hI })]⟩)], join := [], loop := [] }
theorem f145G_ents (α : Type) (n : Nat) : AllS Tryz.prog (entsOf (f145G_D α n).reg) := trivial
theorem f145G_d (α : Type) (n : Nat) : D3.OK Tryz.prog (tyOf Tryz.prog) ⟨8, []⟩ (f145G_D α n) (bodyOf Tryz.f145) :=
 D3.OK.mk3 (f145G_ents α n) (show loopsOf (bodyOf Tryz.f145) = [] by kernel_rfl) trivial
theorem f145G_ok (n : Nat) : (f145G_E n).Sound Tryz.prog :=
 fn_ok (tyOf_ok _) prog_fol (f145G_D _ n) (show Tryz.prog.funcs[145]? = some Tryz.f145 by kernel_rfl) (by kernel_rfl) (show Tryz.f145.body = some (bodyOf Tryz.f145) by kernel_rfl) rfl rfl (Nat.le_of_ble_eq_true rfl) (f145G_d _ n) (by intro x; kernel_rfl) 

set_option maxRecDepth 100000 in
set_option maxHeartbeats 2000000 in
theorem clone_nil (ad : Option Addr) (cap : Nat) (hc : ad = none → cap = 0) (w : World) : Calls Tryz.prog 145 #[.slice ad 0 cap] w fun e w' => (∃ a c, e = .returned (.slice a 0 c) ∧ (a = none → c = 0)) ∧ w.grownBy w' none := by
 refine (callsIn_wide (n := 3)).1 ?_
 refine callsIn_of_wp Tryz.func145 rfl trivial ?_ rfl
 simp only [Tryz.ntmps145, List.size_toArray, List.length_cons, List.length_nil, Nat.reduceAdd, Nat.reduceSub, Array.replicate_succ, Array.replicate_zero, List.push_toArray, List.append_toArray, List.nil_append, List.cons_append]
 have hi : ∃ i, Tryz.prog.info? 3 = some i := ⟨_, rfl⟩
 obtain ⟨i3, hi3⟩ := hi
 have hap : ∀ (base : Option Addr) (sCap : Nat) (a : Option Addr) (cp : Nat) (w : World), (Builtin.append_ #[28, 28] 28 #[.slice base 0 sCap, .slice a 0 cp]).run Tryz.prog w = .ok (.slice base 0 sCap) w := fun base sCap a cp w =>
  run_append_none w 28 28 3 i3 Tryz.underlying28 hi3 base 0 sCap (Nat.zero_le _) a cp
 cases ad with
 | none =>
  obtain rfl := hc rfl
  have hb : ∀ w, (binOp BinOp.eql 28 (.slice none 0 0) (.slice none 0 0)).run Tryz.prog w = .ok (.bool true) w := fun w => by kernel_rfl
  gi_wp2
  refine bodyPost_ret (results_tmp rfl _ _ _) rfl ?_
  exact ⟨⟨none, 0, rfl, fun _ => rfl⟩, ⟨rfl, rfl, rfl, Nat.le_refl _, fun _ _ _ => rfl⟩⟩
 | some ad =>
  have hb : ∀ w, (binOp BinOp.eql 28 (.slice (some ad) 0 cap) (.slice none 0 0)).run Tryz.prog w = .ok (.bool false) w := fun w => by kernel_rfl
  gi_wp2
  refine bodyPost_ret (results_tmp rfl _ _ _) rfl ?_
  exact ⟨⟨_, 0, rfl, fun _ => rfl⟩, World.grownBy_alloc w _ none⟩
def f145 (n : Nat) (a0 : List Int) : Option (List Int) := bif a0.isEmpty then some [] else f145G n a0
def f145_E (n : Nat) : Ent := ⟨145, [hIs], [hIs], fun x => f145 n x⟩
theorem f145_nil (nt : Nat) : FDen Tryz.prog 145 nt [] [] [.one (.i (.sl 0 false 1 []))] (.v (.one (.i (.sl 0 false 1 [])))) nt [] := by
 refine ⟨⟨Tryz.f145, by kernel_rfl, by kernel_rfl, by kernel_rfl⟩, fun w E vs hin hv => ?_⟩
 obtain ⟨hl, hget⟩ := hv
 match vs, hl with
 | [v], _ =>
  have h1 : Rv w E v (.one (.i (.sl 0 false 1 []))) := hget 0 v _ rfl rfl
  cases h1 with
  | one h1 =>
   cases h1 with
   | i h1 =>
    cases h1 with
    | sl _ _ _ _ _ _ _ hne => exact absurd rfl hne
    | nil _ _ cap a _ hn hc =>
     refine (clone_nil a cap hc w).mono ?_
     rintro e w' ⟨⟨a', c', rfl, hc'⟩, hg⟩
     exact ⟨_, E, rfl, .v (.one (.i (.nil 0 1 c' a' false (fun e => by cases e) hc'))), ⟨hg.os, hg.tape, hg.output, hg.size, fun b hb _ => hg.block b hb (by simp)⟩,
      ⟨fun b hb => Nat.lt_of_lt_of_le (hin.wf.alt b hb) hg.size, hin.wf.tag, hin.wf.inj, fun b h hb => by cases hin.odom b h hb⟩, fun _ _ => Iff.rfl, Nat.le_refl _, fun _ _ => rfl, fun t g ht h => absurd (hin.wf.tag t g h).1 (Nat.not_lt.2 ht),
      fun h b hb => (by cases hb), fun h h' b b' g g' z z' hb => (by cases hb), fun h b g z hb => (by cases hb), fun h b hb => (by cases hb), fun g h hg => (by cases hin.odom g h hg)⟩
theorem f145_ok (n : Nat) : (f145_E n).Sound Tryz.prog := by
 intro nt x r h
 cases x with
 | cons z l => exact f145G_ok n nt (z :: l) r h
 | nil =>
  have h : some ([] : List Int) = some r := h
  obtain rfl := Option.some.inj h
  exact f145_nil nt

def f185_L2B {α : Type} (n : Nat) (s0 : LI) (s3 : Int) (f : LI → Int → Option α) (k0 : LI → Int → Option α) : Option α :=
 bif (decide (s3 > 0)) then
  gd (decide (0 ≤ (W (s3 - 1))) && decide ((W (s3 - 1)) < (s0.length : Int))) (
   bif ((s0.getD ((W (s3 - 1)).toNat) 0) == 0) then
    f s0 (W (s3 - 1))
   else
    k0 s0 s3)
 else
  k0 s0 s3
abbrev f185_L2H : Tm := ⟨[(0, .d hIs), (3, .d hI)], [], [], []⟩
abbrev f185_L2X0 : Tm := ⟨[(0, .d hIs), (3, .d hI)], [], [], []⟩
abbrev f185_L2O : List (Exit × Tm) := [(.exit 0, f185_L2X0)]
def f185_L2U {α : Type} (n : Nat) (v : f185_L2H.den) (f : f185_L2H.den → Option α) (ks : KS α f185_L2O) : Option α := f185_L2B n v.1.1 v.1.2.1 (fun s0 s3 => f ((s0, s3, ()), ())) (fun w0 w1 => ks.1 ((w0, w1, ()), ()))
def f185_L2 {α : Type} (n m : Nat) (s0 : LI) (s3 : Int) (k0 : LI → Int → Option α) : Option α := rounds (f185_L2U n) m ((s0, s3, ()), ()) (fun w => k0 w.1.1 w.1.2.1, ())
theorem f185_L2_0 {α n s0 s3 k0} : f185_L2 (α := α) n 0 s0 s3 k0 = none := rfl
theorem f185_L2_s {α n m s0 s3 k0} : f185_L2 (α := α) n (m + 1) s0 s3 k0 = f185_L2B n s0 s3 (fun s0 s3 => f185_L2 n m s0 s3 k0) k0 := rfl
def f185 (n : Nat) (a0 : LI) : Option LI :=
 f185_L2 n n a0 (a0.length : Int)
  (fun z_1 z_2 => (
   gd (decide (0 ≤ z_2) && decide (z_2 ≤ (z_1.length : Int))) (
    some ((z_1.drop 0).take (z_2.toNat - 0)))))
def f185_E (n : Nat) : Ent := ⟨185, [hIs], [hIs], fun x => f185 n x⟩
def f185_D (α : Type) (n : Nat) : D3 α := { reg := [], join := [], loop := [(2, ⟨f185_L2H, f185_L2O, rounds (f185_L2U n) n⟩)] }
theorem f185_ents (α : Type) (n : Nat) : AllS Tryz.prog (entsOf (f185_D α n).reg) := trivial
theorem f185_L2_d (α : Type) (n : Nat) : D3.OK Tryz.prog (tyOf Tryz.prog) ⟨21, []⟩ (f185_D α n) ((bodyOf Tryz.f185).at [1, 1, 0, 0, 0]) :=
 D3.OK.mk3 (f185_ents α n) (show loopsOf ((bodyOf Tryz.f185).at [1, 1, 0, 0, 0]) = [] by kernel_rfl) trivial
theorem f185_L2_ok (α : Type) (n : Nat) : LO.Sound (α := α) Tryz.prog ⟨21, []⟩ ⟨f185_L2H, f185_L2O, rounds (f185_L2U n) n⟩ (.loop ((bodyOf Tryz.f185).at [1, 1, 0, 0, 0])) :=
 loop_ok (tyOf_ok _) prog_fol (f185_L2U n) (f185_L2_d α n) (by intro v f ks; kernel_rfl) n
theorem f185_d (α : Type) (n : Nat) : D3.OK Tryz.prog (tyOf Tryz.prog) ⟨21, []⟩ (f185_D α n) (bodyOf Tryz.f185) :=
 D3.OK.mk3 (f185_ents α n) (show loopsOf (bodyOf Tryz.f185) = [(2, (.loop ((bodyOf Tryz.f185).at [1, 1, 0, 0, 0])))] by kernel_rfl) ⟨look_sound rfl (f185_L2_ok α n), trivial⟩
theorem f185_ok (n : Nat) : (f185_E n).Sound Tryz.prog :=
 fn_ok (tyOf_ok _) prog_fol (f185_D _ n) (show Tryz.prog.funcs[185]? = some Tryz.f185 by kernel_rfl) (by kernel_rfl) (show Tryz.f185.body = some (bodyOf Tryz.f185) by kernel_rfl) rfl rfl (Nat.le_of_ble_eq_true rfl) (f185_d _ n) (by intro x; kernel_rfl) 

def f160_L2B {α : Type} (n : Nat) (s0 : Int) (b4 : LI) (f : Int → LI → Option α) (k0 : LI → Option α) : Option α :=
 bif (decide (s0 > 0)) then
  gd (decide ((b4.length + 1) * 8 ≤ 140737488355328)) (
   f (W (Int.tdiv s0 10000)) (b4 ++ [(Int.tmod s0 10000)]))
 else
  k0 b4
abbrev f160_L2H : Tm := ⟨[(0, .d hI), (3, .k (.hw 4))], [(4, .arr 3 hI false)], [12], []⟩
abbrev f160_L2X0 : Tm := ⟨[(3, .k (.hw 4))], [(4, .arr 3 hI false)], [], []⟩
abbrev f160_L2O : List (Exit × Tm) := [(.exit 0, f160_L2X0)]
def f160_L2U {α : Type} (n : Nat) (v : f160_L2H.den) (f : f160_L2H.den → Option α) (ks : KS α f160_L2O) : Option α := f160_L2B n v.1.1 v.2.1 (fun s0 b4 => f ((s0, (), ()), (b4, ()))) (fun w0 => ks.1 (((), ()), (w0, ())))
def f160_L2 {α : Type} (n m : Nat) (s0 : Int) (b4 : LI) (k0 : LI → Option α) : Option α := rounds (f160_L2U n) m ((s0, (), ()), (b4, ())) (fun w => k0 w.2.1, ())
theorem f160_L2_0 {α n s0 b4 k0} : f160_L2 (α := α) n 0 s0 b4 k0 = none := rfl
theorem f160_L2_s {α n m s0 b4 k0} : f160_L2 (α := α) n (m + 1) s0 b4 k0 = f160_L2B n s0 b4 (fun s0 b4 => f160_L2 n m s0 b4 k0) k0 := rfl
def f160 (n : Nat) (a0 : Int) : Option LI :=
 f160_L2 n n a0 []
  (fun z_1 => (
   some z_1))
def f160_E (n : Nat) : Ent := ⟨160, [hI], [hIs], fun x => f160 n x⟩
def f160_D (α : Type) (n : Nat) : D3 α := { reg := [(1, ⟨0, [], [(0, { sh := some hI })]⟩), (4, ⟨0, [], [(3, { sh := some hI })]⟩)], join := [], loop := [(2, ⟨f160_L2H, f160_L2O, rounds (f160_L2U n) n⟩)] }
theorem f160_ents (α : Type) (n : Nat) : AllS Tryz.prog (entsOf (f160_D α n).reg) := trivial
theorem f160_L2_d (α : Type) (n : Nat) : D3.OK Tryz.prog (tyOf Tryz.prog) ⟨15, []⟩ (f160_D α n) ((bodyOf Tryz.f160).at [1, 1, 0, 0, 0]) :=
 D3.OK.mk3 (f160_ents α n) (show loopsOf ((bodyOf Tryz.f160).at [1, 1, 0, 0, 0]) = [] by kernel_rfl) trivial
theorem f160_L2_ok (α : Type) (n : Nat) : LO.Sound (α := α) Tryz.prog ⟨15, []⟩ ⟨f160_L2H, f160_L2O, rounds (f160_L2U n) n⟩ (.loop ((bodyOf Tryz.f160).at [1, 1, 0, 0, 0])) :=
 loop_ok (tyOf_ok _) prog_fol (f160_L2U n) (f160_L2_d α n) (by intro v f ks; kernel_rfl) n
theorem f160_d (α : Type) (n : Nat) : D3.OK Tryz.prog (tyOf Tryz.prog) ⟨15, []⟩ (f160_D α n) (bodyOf Tryz.f160) :=
 D3.OK.mk3 (f160_ents α n) (show loopsOf (bodyOf Tryz.f160) = [(2, (.loop ((bodyOf Tryz.f160).at [1, 1, 0, 0, 0])))] by kernel_rfl) ⟨look_sound rfl (f160_L2_ok α n), trivial⟩
theorem f160_ok (n : Nat) : (f160_E n).Sound Tryz.prog :=
 fn_ok (tyOf_ok _) prog_fol (f160_D _ n) (show Tryz.prog.funcs[160]? = some Tryz.f160 by kernel_rfl) (by kernel_rfl) (show Tryz.f160.body = some (bodyOf Tryz.f160) by kernel_rfl) rfl rfl (Nat.le_of_ble_eq_true rfl) (f160_d _ n) (by intro x; kernel_rfl) 

def f145B (n : Nat) (a0 : LI) : Option LI :=
 gd ((!a0.isEmpty)) (
  gd (decide ((0 + a0.length) * 8 ≤ 140737488355328)) (
   some a0))
def f145B_E (n : Nat) : Ent3 := ⟨145, [.im hIs], [[.one (.own 3 hI)]], fun x => f145B n x⟩
def f145B_D (α : Type) (n : Nat) : D3 α := { reg := [(3, ⟨0, [], [(0, { sh := some hI })]⟩)], join := [], loop := [] }
theorem f145B_ents (α : Type) (n : Nat) : AllS Tryz.prog (entsOf (f145B_D α n).reg) := trivial
theorem f145B_d (α : Type) (n : Nat) : D3.OK Tryz.prog (tyOf Tryz.prog) ⟨8, []⟩ (f145B_D α n) (bodyOf Tryz.f145) :=
 D3.OK.mk3 (f145B_ents α n) (show loopsOf (bodyOf Tryz.f145) = [] by kernel_rfl) trivial
theorem f145B_ok (n : Nat) : (f145B_E n).Sound Tryz.prog :=
 fn_okB (tyOf_ok _) prog_fol (f145B_D _ n) (show Tryz.prog.funcs[145]? = some Tryz.f145 by kernel_rfl) (by kernel_rfl) (show Tryz.f145.body = some (bodyOf Tryz.f145) by kernel_rfl) rfl rfl (Nat.le_of_ble_eq_true rfl) (f145B_d _ n) (by intro x; kernel_rfl) 

def f204B_L6B {α : Type} (n : Nat) (s0o s0l : Nat) (s1 : LI) (s5 s7 s8 s50 s51 : Int) (b1000 : LI) (f : Nat → Nat → LI → Int → Int → Int → Int → Int → LI → Option α) (k0 : Nat → Nat → LI → Int → Int → Int → LI → Option α) : Option α :=
 bif (decide (s51 < s50)) then
  gd (decide (0 ≤ s51) && decide (s51 < (s0l : Int))) (
   gd (decide ((s0o + s51.toNat) < b1000.length)) (
    let J_4 := fun (y_1 : Int) => (
     let J_3 := fun (y_2 : Int) => (
      gd (decide (0 ≤ s51) && decide (s51 < (s0l : Int))) (
       gd (decide ((s0o + s51.toNat) < b1000.length)) (
        f s0o s0l s1 s5 s7 y_2 s50 (W (s51 + 1)) (b1000.set (s0o + s51.toNat) (W (y_1 - (W (y_2 * 10000))))))))
     bif (decide (y_1 < 0)) then
      J_3 (W (Int.tdiv (W ((W (y_1 - 10000)) + 1)) 10000))
     else
      J_3 0)
    bif (decide (s51 < s5)) then
     gd (decide (0 ≤ s51) && decide (s51 < (s1.length : Int))) (
      J_4 (W ((W ((b1000.getD (s0o + s51.toNat) 0) + s8)) - (W (s7 * (s1.getD s51.toNat 0))))))
    else
     J_4 (W ((b1000.getD (s0o + s51.toNat) 0) + s8))))
 else
  k0 s0o s0l s1 s5 s7 s8 b1000
abbrev f204B_L6H : Tm := ⟨[(0, .hs 1000), (1, .d hIs), (5, .d hI), (7, .d hI), (8, .d hI), (50, .d hI), (51, .d hI)], [(1000, .arr 3 hI false)], [], []⟩
abbrev f204B_L6X0 : Tm := ⟨[(0, .hs 1000), (1, .d hIs), (5, .d hI), (7, .d hI), (8, .d hI)], [(1000, .arr 3 hI false)], [], []⟩
abbrev f204B_L6O : List (Exit × Tm) := [(.exit 0, f204B_L6X0)]
def f204B_L6U {α : Type} (n : Nat) (v : f204B_L6H.den) (f : f204B_L6H.den → Option α) (ks : KS α f204B_L6O) : Option α := f204B_L6B n v.1.1.1 v.1.1.2 v.1.2.1 v.1.2.2.1 v.1.2.2.2.1 v.1.2.2.2.2.1 v.1.2.2.2.2.2.1 v.1.2.2.2.2.2.2.1 v.2.1 (fun s0o s0l s1 s5 s7 s8 s50 s51 b1000 => f (((s0o, s0l), s1, s5, s7, s8, s50, s51, ()), (b1000, ()))) (fun w0 w1 w2 w3 w4 w5 w6 => ks.1 (((w0, w1), w2, w3, w4, w5, ()), (w6, ())))
def f204B_L6 {α : Type} (n m : Nat) (s0o s0l : Nat) (s1 : LI) (s5 s7 s8 s50 s51 : Int) (b1000 : LI) (k0 : Nat → Nat → LI → Int → Int → Int → LI → Option α) : Option α := rounds (f204B_L6U n) m (((s0o, s0l), s1, s5, s7, s8, s50, s51, ()), (b1000, ())) (fun w => k0 w.1.1.1 w.1.1.2 w.1.2.1 w.1.2.2.1 w.1.2.2.2.1 w.1.2.2.2.2.1 w.2.1, ())
theorem f204B_L6_0 {α n s0o s0l s1 s5 s7 s8 s50 s51 b1000 k0} : f204B_L6 (α := α) n 0 s0o s0l s1 s5 s7 s8 s50 s51 b1000 k0 = none := rfl
theorem f204B_L6_s {α n m s0o s0l s1 s5 s7 s8 s50 s51 b1000 k0} : f204B_L6 (α := α) n (m + 1) s0o s0l s1 s5 s7 s8 s50 s51 b1000 k0 = f204B_L6B n s0o s0l s1 s5 s7 s8 s50 s51 b1000 (fun s0o s0l s1 s5 s7 s8 s50 s51 b1000 => f204B_L6 n m s0o s0l s1 s5 s7 s8 s50 s51 b1000 k0) k0 := rfl
def f204B_L20B {α : Type} (n : Nat) (s0o s0l : Nat) (s1 : LI) (s5 s7 s8 s11 s90 s91 : Int) (b1000 : LI) (f : Nat → Nat → LI → Int → Int → Int → Int → Int → Int → LI → Option α) (k0 : Nat → Nat → LI → Int → Int → Int → Int → LI → Option α) : Option α :=
 bif (decide (s91 < s90)) then
  gd (decide (0 ≤ s91) && decide (s91 < (s0l : Int))) (
   gd (decide ((s0o + s91.toNat) < b1000.length)) (
    let J_13 := fun (y_12 : Int) => (
     gd (decide (0 ≤ s91) && decide (s91 < (s0l : Int))) (
      gd (decide ((s0o + s91.toNat) < b1000.length)) (
       f s0o s0l s1 s5 s7 s8 (W (Int.tdiv y_12 10000)) s90 (W (s91 + 1)) (b1000.set (s0o + s91.toNat) (Int.tmod y_12 10000)))))
    bif (decide (s91 < s5)) then
     gd (decide (0 ≤ s91) && decide (s91 < (s1.length : Int))) (
      J_13 (W ((W ((b1000.getD (s0o + s91.toNat) 0) + s11)) + (s1.getD s91.toNat 0))))
    else
     J_13 (W ((b1000.getD (s0o + s91.toNat) 0) + s11))))
 else
  k0 s0o s0l s1 s5 s7 s8 s11 b1000
abbrev f204B_L20H : Tm := ⟨[(0, .hs 1000), (1, .d hIs), (5, .d hI), (7, .d hI), (8, .d hI), (11, .d hI), (90, .d hI), (91, .d hI)], [(1000, .arr 3 hI false)], [], []⟩
abbrev f204B_L20X0 : Tm := ⟨[(0, .hs 1000), (1, .d hIs), (5, .d hI), (7, .d hI), (8, .d hI), (11, .d hI)], [(1000, .arr 3 hI false)], [], []⟩
abbrev f204B_L20O : List (Exit × Tm) := [(.exit 4, f204B_L20X0)]
def f204B_L20U {α : Type} (n : Nat) (v : f204B_L20H.den) (f : f204B_L20H.den → Option α) (ks : KS α f204B_L20O) : Option α := f204B_L20B n v.1.1.1 v.1.1.2 v.1.2.1 v.1.2.2.1 v.1.2.2.2.1 v.1.2.2.2.2.1 v.1.2.2.2.2.2.1 v.1.2.2.2.2.2.2.1 v.1.2.2.2.2.2.2.2.1 v.2.1 (fun s0o s0l s1 s5 s7 s8 s11 s90 s91 b1000 => f (((s0o, s0l), s1, s5, s7, s8, s11, s90, s91, ()), (b1000, ()))) (fun w0 w1 w2 w3 w4 w5 w6 w7 => ks.1 (((w0, w1), w2, w3, w4, w5, w6, ()), (w7, ())))
def f204B_L20 {α : Type} (n m : Nat) (s0o s0l : Nat) (s1 : LI) (s5 s7 s8 s11 s90 s91 : Int) (b1000 : LI) (k0 : Nat → Nat → LI → Int → Int → Int → Int → LI → Option α) : Option α := rounds (f204B_L20U n) m (((s0o, s0l), s1, s5, s7, s8, s11, s90, s91, ()), (b1000, ())) (fun w => k0 w.1.1.1 w.1.1.2 w.1.2.1 w.1.2.2.1 w.1.2.2.2.1 w.1.2.2.2.2.1 w.1.2.2.2.2.2.1 w.2.1, ())
theorem f204B_L20_0 {α n s0o s0l s1 s5 s7 s8 s11 s90 s91 b1000 k0} : f204B_L20 (α := α) n 0 s0o s0l s1 s5 s7 s8 s11 s90 s91 b1000 k0 = none := rfl
theorem f204B_L20_s {α n m s0o s0l s1 s5 s7 s8 s11 s90 s91 b1000 k0} : f204B_L20 (α := α) n (m + 1) s0o s0l s1 s5 s7 s8 s11 s90 s91 b1000 k0 = f204B_L20B n s0o s0l s1 s5 s7 s8 s11 s90 s91 b1000 (fun s0o s0l s1 s5 s7 s8 s11 s90 s91 b1000 => f204B_L20 n m s0o s0l s1 s5 s7 s8 s11 s90 s91 b1000 k0) k0 := rfl
def f204B_L16B {α : Type} (n : Nat) (s0o s0l : Nat) (s1 : LI) (s5 s7 s8 : Int) (b1000 : LI) (f : Nat → Nat → LI → Int → Int → Int → LI → Option α) (k0 : Int → LI → Option α) : Option α :=
 bif (decide (s8 < 0)) then
  f204B_L20 n n s0o s0l s1 s5 (W (s7 - 1)) s8 0 (s0l : Int) 0 b1000
   (fun z_12 z_13 z_14 z_15 z_16 z_17 z_18 z_19 => (
    f z_12 z_13 z_14 z_15 z_16 (W (z_17 + z_18)) z_19))
 else
  k0 s7 b1000
abbrev f204B_L16H : Tm := ⟨[(0, .hs 1000), (1, .d hIs), (5, .d hI), (7, .d hI), (8, .d hI)], [(1000, .arr 3 hI false)], [], []⟩
abbrev f204B_L16X0 : Tm := ⟨[(7, .d hI)], [(1000, .arr 3 hI false)], [], []⟩
abbrev f204B_L16O : List (Exit × Tm) := [(.exit 2, f204B_L16X0)]
def f204B_L16U {α : Type} (n : Nat) (v : f204B_L16H.den) (f : f204B_L16H.den → Option α) (ks : KS α f204B_L16O) : Option α := f204B_L16B n v.1.1.1 v.1.1.2 v.1.2.1 v.1.2.2.1 v.1.2.2.2.1 v.1.2.2.2.2.1 v.2.1 (fun s0o s0l s1 s5 s7 s8 b1000 => f (((s0o, s0l), s1, s5, s7, s8, ()), (b1000, ()))) (fun w0 w1 => ks.1 ((w0, ()), (w1, ())))
def f204B_L16 {α : Type} (n m : Nat) (s0o s0l : Nat) (s1 : LI) (s5 s7 s8 : Int) (b1000 : LI) (k0 : Int → LI → Option α) : Option α := rounds (f204B_L16U n) m (((s0o, s0l), s1, s5, s7, s8, ()), (b1000, ())) (fun w => k0 w.1.1 w.2.1, ())
theorem f204B_L16_0 {α n s0o s0l s1 s5 s7 s8 b1000 k0} : f204B_L16 (α := α) n 0 s0o s0l s1 s5 s7 s8 b1000 k0 = none := rfl
theorem f204B_L16_s {α n m s0o s0l s1 s5 s7 s8 b1000 k0} : f204B_L16 (α := α) n (m + 1) s0o s0l s1 s5 s7 s8 b1000 k0 = f204B_L16B n s0o s0l s1 s5 s7 s8 b1000 (fun s0o s0l s1 s5 s7 s8 b1000 => f204B_L16 n m s0o s0l s1 s5 s7 s8 b1000 k0) k0 := rfl
abbrev f204B_J11 : Tm := ⟨[(0, .hs 1000), (1, .d hIs), (5, .d hI), (7, .d hI), (9, .d hI), (10, .d hI), (50, .d hI), (51, .d hI)], [(1000, .arr 3 hI false)], [], []⟩
abbrev f204B_J14 : Tm := ⟨[(0, .hs 1000), (1, .d hIs), (5, .d hI), (7, .d hI), (8, .d hI), (9, .d hI), (10, .d hI), (50, .d hI), (51, .d hI)], [(1000, .arr 3 hI false)], [], []⟩
abbrev f204B_J25 : Tm := ⟨[(0, .hs 1000), (1, .d hIs), (5, .d hI), (7, .d hI), (8, .d hI), (12, .d hI), (13, .d hI), (90, .d hI), (91, .d hI)], [(1000, .arr 3 hI false)], [], []⟩
def f204B (n : Nat) (a0 : LI × Nat × Nat) (a1 : LI) : Option (Int × LI) :=
 gd (decide (0 ≤ (a1.length : Int)) && decide ((a1.length : Int) < (a0.2.2 : Int))) (
  gd (decide ((a0.2.1 + (a1.length : Int).toNat) < a0.1.length)) (
   gd (decide (0 ≤ (W ((a1.length : Int) - 1))) && decide ((W ((a1.length : Int) - 1)) < (a0.2.2 : Int))) (
    gd (decide ((a0.2.1 + (W ((a1.length : Int) - 1)).toNat) < a0.1.length)) (
     gd (decide (0 ≤ (W ((a1.length : Int) - 2))) && decide ((W ((a1.length : Int) - 2)) < (a0.2.2 : Int))) (
      gd (decide ((a0.2.1 + (W ((a1.length : Int) - 2)).toNat) < a0.1.length)) (
       gd (decide (0 ≤ (W ((a1.length : Int) - 1))) && decide ((W ((a1.length : Int) - 1)) < (a1.length : Int))) (
        gd (decide (0 ≤ (W ((a1.length : Int) - 2))) && decide ((W ((a1.length : Int) - 2)) < (a1.length : Int))) (
         gd (decide ((W ((W ((a1.getD ((W ((a1.length : Int) - 1)).toNat) 0) * 10000)) + (a1.getD ((W ((a1.length : Int) - 2)).toNat) 0))) ≠ 0)) (
          f204B_L6 n n a0.2.1 a0.2.2 a1 (a1.length : Int) (min (W (Int.tdiv (W ((W ((W ((W ((a0.1.getD (a0.2.1 + (a1.length : Int).toNat) 0) * 10000)) + (a0.1.getD (a0.2.1 + (W ((a1.length : Int) - 1)).toNat) 0))) * 10000)) + (a0.1.getD (a0.2.1 + (W ((a1.length : Int) - 2)).toNat) 0))) (W ((W ((a1.getD ((W ((a1.length : Int) - 1)).toNat) 0) * 10000)) + (a1.getD ((W ((a1.length : Int) - 2)).toNat) 0))))) 9999) 0 (a0.2.2 : Int) 0 a0.1
           (fun z_5 z_6 z_7 z_8 z_9 z_10 z_11 => (
            f204B_L16 n n z_5 z_6 z_7 z_8 z_9 z_10 z_11
             (fun z_20 z_21 => (
              some (z_20, z_21))))))))))))))
def f204B_E (n : Nat) : Ent3 := ⟨204, [.one (.win 3 hI), .im hIs], [[.im hI]], fun x => f204B n x.1 x.2⟩
def f204B_D (α : Type) (n : Nat) : D3 α := { reg := [(2, ⟨17, [], []⟩), (3, ⟨13, [], []⟩)], join := [(11, f204B_J11), (14, f204B_J14), (25, f204B_J25)], loop := [(6, ⟨f204B_L6H, f204B_L6O, rounds (f204B_L6U n) n⟩), (20, ⟨f204B_L20H, f204B_L20O, rounds (f204B_L20U n) n⟩), (16, ⟨f204B_L16H, f204B_L16O, rounds (f204B_L16U n) n⟩)] }
theorem f204B_ents (α : Type) (n : Nat) : AllS Tryz.prog (entsOf (f204B_D α n).reg) := trivial
theorem f204B_L6_d (α : Type) (n : Nat) : D3.OK Tryz.prog (tyOf Tryz.prog) ⟨121, []⟩ (f204B_D α n) ((bodyOf Tryz.f204).at [1, 1, 1, 1, 1, 0, 1, 0, 0]) :=
 D3.OK.mk3 (f204B_ents α n) (show loopsOf ((bodyOf Tryz.f204).at [1, 1, 1, 1, 1, 0, 1, 0, 0]) = [] by kernel_rfl) trivial
theorem f204B_L6_ok (α : Type) (n : Nat) : LO.Sound (α := α) Tryz.prog ⟨121, []⟩ ⟨f204B_L6H, f204B_L6O, rounds (f204B_L6U n) n⟩ (.loop ((bodyOf Tryz.f204).at [1, 1, 1, 1, 1, 0, 1, 0, 0])) :=
 loop_ok (tyOf_ok _) prog_fol (f204B_L6U n) (f204B_L6_d α n) (by intro v f ks; kernel_rfl) n
theorem f204B_L20_d (α : Type) (n : Nat) : D3.OK Tryz.prog (tyOf Tryz.prog) ⟨121, []⟩ (f204B_D α n) ((bodyOf Tryz.f204).at [1, 1, 1, 1, 1, 1, 0, 0, 0, 1, 0, 1, 1, 0, 1, 0, 0]) :=
 D3.OK.mk3 (f204B_ents α n) (show loopsOf ((bodyOf Tryz.f204).at [1, 1, 1, 1, 1, 1, 0, 0, 0, 1, 0, 1, 1, 0, 1, 0, 0]) = [] by kernel_rfl) trivial
theorem f204B_L20_ok (α : Type) (n : Nat) : LO.Sound (α := α) Tryz.prog ⟨121, []⟩ ⟨f204B_L20H, f204B_L20O, rounds (f204B_L20U n) n⟩ (.loop ((bodyOf Tryz.f204).at [1, 1, 1, 1, 1, 1, 0, 0, 0, 1, 0, 1, 1, 0, 1, 0, 0])) :=
 loop_ok (tyOf_ok _) prog_fol (f204B_L20U n) (f204B_L20_d α n) (by intro v f ks; kernel_rfl) n
theorem f204B_L16_d (α : Type) (n : Nat) : D3.OK Tryz.prog (tyOf Tryz.prog) ⟨121, []⟩ (f204B_D α n) ((bodyOf Tryz.f204).at [1, 1, 1, 1, 1, 1, 0, 0, 0]) :=
 D3.OK.mk3 (f204B_ents α n) (show loopsOf ((bodyOf Tryz.f204).at [1, 1, 1, 1, 1, 1, 0, 0, 0]) = [(20, (.loop ((bodyOf Tryz.f204).at [1, 1, 1, 1, 1, 1, 0, 0, 0, 1, 0, 1, 1, 0, 1, 0, 0])))] by kernel_rfl) ⟨look_sound rfl (f204B_L20_ok α n), trivial⟩
theorem f204B_L16_ok (α : Type) (n : Nat) : LO.Sound (α := α) Tryz.prog ⟨121, []⟩ ⟨f204B_L16H, f204B_L16O, rounds (f204B_L16U n) n⟩ (.loop ((bodyOf Tryz.f204).at [1, 1, 1, 1, 1, 1, 0, 0, 0])) :=
 loop_ok (tyOf_ok _) prog_fol (f204B_L16U n) (f204B_L16_d α n) (by intro v f ks; kernel_rfl) n
theorem f204B_d (α : Type) (n : Nat) : D3.OK Tryz.prog (tyOf Tryz.prog) ⟨121, []⟩ (f204B_D α n) (bodyOf Tryz.f204) :=
 D3.OK.mk3 (f204B_ents α n) (show loopsOf (bodyOf Tryz.f204) = [(6, (.loop ((bodyOf Tryz.f204).at [1, 1, 1, 1, 1, 0, 1, 0, 0]))), (16, (.loop ((bodyOf Tryz.f204).at [1, 1, 1, 1, 1, 1, 0, 0, 0])))] by kernel_rfl) ⟨look_sound rfl (f204B_L6_ok α n), look_sound rfl (f204B_L16_ok α n), trivial⟩
theorem f204B_ok (n : Nat) : (f204B_E n).Sound Tryz.prog :=
 fn_okB (tyOf_ok _) prog_fol (f204B_D _ n) (show Tryz.prog.funcs[204]? = some Tryz.f204 by kernel_rfl) (by kernel_rfl) (show Tryz.f204.body = some (bodyOf Tryz.f204) by kernel_rfl) rfl rfl (Nat.le_of_ble_eq_true rfl) (f204B_d _ n) (by intro x; kernel_rfl) 

def f184_L7B {α : Type} (n : Nat) (i : Nat) (z : Int) (s29 : LI) (c3_0 : LI) (c8_0 : Int) (b27 : LI) (f : LI → LI → Int → LI → Option α) (k0 : Int → LI → Option α) : Option α :=
 gd (decide (0 < (c3_0.length : Int))) (
  gd (decide ((c3_0.getD 0 0) ≠ 0)) (
   gd (decide (0 < (c3_0.length : Int))) (
    gd (decide ((c3_0.getD 0 0) ≠ 0)) (
     gd (decide (0 ≤ (i : Int)) && decide ((i : Int) < (b27.length : Int))) (
      gd (decide ((i : Int).toNat < b27.length)) (
       f s29 c3_0 (Int.tmod (W ((W (c8_0 * 10000)) + z)) (c3_0.getD 0 0)) (b27.set ((i : Int).toNat) (W (Int.tdiv (W ((W (c8_0 * 10000)) + z)) (c3_0.getD 0 0))))))))))
abbrev f184_L7H : Tm := ⟨[(3, .k (.hp 3 0 0)), (7, .k (.hp 7 0 0)), (8, .k (.hp 8 0 0)), (29, .d (.clo 223 (.ref hIs)))], [(3, .var 28 true false [.d hIs]), (7, .var 28 false false [.k (.hw 27)]), (8, .var 3 true false [.d hI]), (27, .arr 3 hI false)], [], []⟩
abbrev f184_L7X0 : Tm := ⟨[(7, .k (.hp 7 0 0)), (8, .k (.hp 8 0 0))], [(7, .var 28 false false [.k (.hw 27)]), (8, .var 3 true false [.d hI]), (27, .arr 3 hI false)], [3], []⟩
abbrev f184_L7O : List (Exit × Tm) := [(.normal, f184_L7X0)]
def f184_L7Z (v : f184_L7H.den) : List Int := (fun s29 c3_0 c8_0 b27 => s29) v.1.2.2.2.1 v.2.1.1 v.2.2.2.1.1 v.2.2.2.2.1
def f184_L7U {α : Type} (n : Nat) (i : Nat) (z : Int) (v : f184_L7H.den) (f : f184_L7H.den → Option α) (ks : KS α f184_L7O) : Option α := f184_L7B n i z v.1.2.2.2.1 v.2.1.1 v.2.2.2.1.1 v.2.2.2.2.1 (fun s29 c3_0 c8_0 b27 => f (((), (), (), s29, ()), ((c3_0, ()), ((), ()), (c8_0, ()), b27, ()))) (fun w0 w1 => ks.1 (((), (), ()), (((), ()), (w0, ()), w1, ())))
def f184_L7N {α : Type} (v : f184_L7H.den) (ks : KS α f184_L7O) : Option α := (fun s29 c3_0 c8_0 b27 => ks.1 (((), (), ()), (((), ()), (c8_0, ()), b27, ()))) v.1.2.2.2.1 v.2.1.1 v.2.2.2.1.1 v.2.2.2.2.1
def f184_L7 {α : Type} (n : Nat) (s29 : LI) (c3_0 : LI) (c8_0 : Int) (b27 : LI) (k0 : Int → LI → Option α) : Option α := rangeR f184_L7Z (f184_L7U n) f184_L7N (((), (), (), s29, ()), ((c3_0, ()), ((), ()), (c8_0, ()), b27, ())) (fun w => k0 w.2.2.1.1 w.2.2.2.1, ())
def f184_L7R {α : Type} (n : Nat) (zs : List Int) (i : Nat) (s29 : LI) (c3_0 : LI) (c8_0 : Int) (b27 : LI) (k0 : Int → LI → Option α) : Option α := rangeB f184_L7Z (f184_L7U n) zs i (((), (), (), s29, ()), ((c3_0, ()), ((), ()), (c8_0, ()), b27, ())) (fun v => f184_L7N v (fun w => k0 w.2.2.1.1 w.2.2.2.1, ())) (fun w => k0 w.2.2.1.1 w.2.2.2.1, ())
theorem f184_L7_e {α : Type} (n : Nat) (s29 : LI) (c3_0 : LI) (c8_0 : Int) (b27 : LI) (k0 : Int → LI → Option α) : f184_L7 (α := α) n s29 c3_0 c8_0 b27 k0 = gd (decide (s29.length ≤ 4611686018427387904)) (f184_L7R n s29 s29.length s29 c3_0 c8_0 b27 k0) := rfl
theorem f184_L7_0 {α : Type} (n : Nat) (zs : List Int) (s29 : LI) (c3_0 : LI) (c8_0 : Int) (b27 : LI) (k0 : Int → LI → Option α) : f184_L7R (α := α) n zs 0 s29 c3_0 c8_0 b27 k0 = k0 c8_0 b27 := rfl
theorem f184_L7_s {α : Type} (n : Nat) (zs : List Int) (i : Nat) (s29 : LI) (c3_0 : LI) (c8_0 : Int) (b27 : LI) (k0 : Int → LI → Option α) : f184_L7R (α := α) n zs (i + 1) s29 c3_0 c8_0 b27 k0 = f184_L7B n i (zs.getD i 0) s29 c3_0 c8_0 b27 (fun s29 c3_0 c8_0 b27 => gd (decide (s29 = zs)) (f184_L7R n zs i s29 c3_0 c8_0 b27 k0)) k0 := rfl
def f184_L14B {α : Type} (n : Nat) (s6 s13 : Int) (c3_0 b62 b310 : LI) (f : Int → Int → LI → LI → LI → Option α) (k0 : LI → LI → Option α) : Option α :=
 bif (decide (s13 ≥ 0)) then
  gd (decide (0 ≤ s13) && decide (s13 ≤ (W ((W (s13 + s6)) + 1))) && decide ((W ((W (s13 + s6)) + 1)) ≤ (b310.length : Int))) (
   ob (f204B n (b310, s13.toNat, ((W ((W (s13 + s6)) + 1)).toNat - s13.toNat)) c3_0) fun r_9 =>
   gd (Nat.beq r_9.2.length b310.length && true) (
    gd (decide (0 ≤ s13) && decide (s13 < (b62.length : Int))) (
     gd (decide (s13.toNat < b62.length)) (
      f s6 (W (s13 - 1)) c3_0 (b62.set s13.toNat r_9.1) r_9.2))))
 else
  k0 b62 b310
abbrev f184_L14H : Tm := ⟨[(3, .k (.hp 3 0 0)), (6, .d hI), (11, .k (.hw 310)), (12, .k (.hw 62)), (13, .d hI)], [(3, .var 28 true false [.d hIs]), (62, .arr 3 hI false), (310, .arr 3 hI false)], [55], []⟩
abbrev f184_L14X0 : Tm := ⟨[(11, .k (.hw 310)), (12, .k (.hw 62))], [(62, .arr 3 hI false), (310, .arr 3 hI false)], [3], []⟩
abbrev f184_L14O : List (Exit × Tm) := [(.exit 2, f184_L14X0)]
def f184_L14U {α : Type} (n : Nat) (v : f184_L14H.den) (f : f184_L14H.den → Option α) (ks : KS α f184_L14O) : Option α := f184_L14B n v.1.2.1 v.1.2.2.2.2.1 v.2.1.1 v.2.2.1 v.2.2.2.1 (fun s6 s13 c3_0 b62 b310 => f (((), s6, (), (), s13, ()), ((c3_0, ()), b62, b310, ()))) (fun w0 w1 => ks.1 (((), (), ()), (w0, w1, ())))
def f184_L14 {α : Type} (n m : Nat) (s6 s13 : Int) (c3_0 b62 b310 : LI) (k0 : LI → LI → Option α) : Option α := rounds (f184_L14U n) m (((), s6, (), (), s13, ()), ((c3_0, ()), b62, b310, ())) (fun w => k0 w.2.1 w.2.2.1, ())
theorem f184_L14_0 {α n s6 s13 c3_0 b62 b310 k0} : f184_L14 (α := α) n 0 s6 s13 c3_0 b62 b310 k0 = none := rfl
theorem f184_L14_s {α n m s6 s13 c3_0 b62 b310 k0} : f184_L14 (α := α) n (m + 1) s6 s13 c3_0 b62 b310 k0 = f184_L14B n s6 s13 c3_0 b62 b310 (fun s6 s13 c3_0 b62 b310 => f184_L14 n m s6 s13 c3_0 b62 b310 k0) k0 := rfl
abbrev f184_G10 : Tm := ⟨[(3, .k (.hp 3 0 0)), (7, .k (.hp 7 0 0)), (8, .k (.hp 8 0 0)), (9, .d hI), (10, .d hI), (29, .d (.clo 223 (.ref hIs))), (30, .d hI), (31, .d hI)], [(3, .var 28 true false [.d hIs]), (7, .var 28 false false [.k (.hw 27)]), (8, .var 3 true false [.d hI]), (27, .arr 3 hI false)], [], []⟩
abbrev f184_G11 : Tm := ⟨[(7, .k (.hp 7 0 0)), (8, .k (.hp 8 0 0))], [(7, .var 28 false false [.k (.hw 27)]), (8, .var 3 true false [.d hI]), (27, .arr 3 hI false)], [], []⟩
abbrev f184_G12 : Tm := ⟨[(0, .d hIs), (3, .k (.hp 3 0 0)), (6, .d hI)], [(3, .var 28 true false [.d hIs])], [], []⟩
abbrev f184_G16 : Tm := ⟨[(3, .k (.hp 3 0 0)), (6, .d hI), (11, .k (.hw 310)), (12, .k (.hw 62)), (13, .d hI)], [(3, .var 28 true false [.d hIs]), (62, .arr 3 hI false), (310, .arr 3 hI false)], [], []⟩
def f184 (n : Nat) (a0 a1 : LI) : Option (LI × LI) :=
 ob (f170 n a0 a1) fun r_1 =>
 bif (decide (r_1 < 0)) then
  ob (f145 n a0) fun r_2 =>
  some ([], r_2)
 else
  bif ((a1.length : Int) == 1) then
   gd (decide (0 ≤ (a0.length : Int)) && decide ((a0.length : Int) ≤ 4611686018427387904) && decide ((8 : Int) * (a0.length : Int) ≤ 281474976710656)) (
    ob (f201 n a0) fun r_3 =>
    f184_L7 n r_3 a1 0 (List.replicate ((a0.length : Int).toNat) 0)
     (fun z_4 z_5 => (
      ob (f185 n z_5) fun r_6 =>
      ob (f160 n z_4) fun r_7 =>
      some (r_6, r_7))))
  else
   ob (f145B n a0) fun r_8 =>
   gd (decide ((r_8.length + 1) * 8 ≤ 140737488355328)) (
    gd (decide (0 ≤ (W ((W ((a0.length : Int) - (a1.length : Int))) + 1))) && decide ((W ((W ((a0.length : Int) - (a1.length : Int))) + 1)) ≤ 4611686018427387904) && decide ((8 : Int) * (W ((W ((a0.length : Int) - (a1.length : Int))) + 1)) ≤ 281474976710656)) (
     f184_L14 n n (a1.length : Int) (W ((a0.length : Int) - (a1.length : Int))) a1 (List.replicate ((W ((W ((a0.length : Int) - (a1.length : Int))) + 1)).toNat) 0) (r_8 ++ [0])
      (fun z_10 z_11 => (
       ob (f185 n z_10) fun r_12 =>
       ob (f185 n z_11) fun r_13 =>
       some (r_12, r_13)))))
def f184_E (n : Nat) : Ent := ⟨184, [hIs, hIs], [hIs, hIs], fun x => f184 n x.1 x.2⟩
def f184_D (α : Type) (n : Nat) : D3 α := { reg := [(1, ⟨0, [], [(2, { ent := some (f170_E n) })]⟩), (2, ⟨0, [], [(0, { sh := some hI }), (2, { ent := some (f145_E n) })]⟩), (6, ⟨0, [], [(1, { ent := some (f201_E n) })]⟩), (11, ⟨0, [], [(1, { ent := some (f185_E n), fz := [(49, hIs)] }), (3, { ent := some (f160_E n) })]⟩), (12, ⟨0, [], [(1, { entB := some (f145B_E n), hb := 310 }), (2, { sh := some hI })]⟩), (16, ⟨0, [], [(10, { entB := some (f204B_E n), hb := 320 })]⟩), (17, ⟨0, [], [(1, { ent := some (f185_E n), fz := [(83, hIs)] }), (3, { ent := some (f185_E n), fz := [(85, hIs)] })]⟩)], join := [], loop := [(7, ⟨f184_L7H, f184_L7O, rangeR f184_L7Z (f184_L7U n) f184_L7N⟩), (14, ⟨f184_L14H, f184_L14O, rounds (f184_L14U n) n⟩)], any := [(10, f184_G10), (11, f184_G11), (12, f184_G12), (16, f184_G16)] }
set_option maxHeartbeats 8000000 in
theorem f184_A10 (n : Nat) : FamAll (tyOf Tryz.prog) ⟨87, []⟩ [] f184_G10 (regOps ((bodyOf Tryz.f184).at [1, 1, 1, 0, 1, 0, 1, 0, 1, 0, 1, 0, 1])) := by
 refine ⟨by kernel_rfl, fun w q hq => ?_⟩
 have e : WT [] (swapIdx (regOps ((bodyOf Tryz.f184).at [1, 1, 1, 0, 1, 0, 1, 0, 1, 0, 1, 0, 1])).toList) q = (q = []) := by kernel_rfl
 rw [e] at hq
 obtain rfl := hq
 all_goals exact .inr ⟨14, by kernel_rfl, by kernel_rfl, by kernel_rfl⟩
set_option maxHeartbeats 8000000 in
theorem f184_A11 (n : Nat) : FamAll (tyOf Tryz.prog) ⟨87, []⟩ [(1, { ent := some (f185_E n), fz := [(49, hIs)] }), (3, { ent := some (f160_E n) })] f184_G11 (regOps ((bodyOf Tryz.f184).at [1, 1, 1, 0, 1, 0, 1, 1, 0])) := by
 refine ⟨by kernel_rfl, fun w q hq => ?_⟩
 have e : WT [(1, { ent := some (f185_E n), fz := [(49, hIs)] }), (3, { ent := some (f160_E n) })] (swapIdx (regOps ((bodyOf Tryz.f184).at [1, 1, 1, 0, 1, 0, 1, 1, 0])).toList) q = (∃ (y0 : HL (f185_E n).rs) (q0 : List (Nat × RV)), q = (1, .sv (resSV (f185_E n).rs y0)) :: q0 ∧ ∃ (y1 : HL (f160_E n).rs) (q1 : List (Nat × RV)), q0 = (3, .sv (resSV (f160_E n).rs y1)) :: q1 ∧ q1 = []) := by kernel_rfl
 rw [e] at hq
 obtain ⟨y0, q0, rfl, y1, q1, rfl, rfl⟩ := hq
 all_goals exact .inl (FamEq.mk (by kernel_rfl))
set_option maxHeartbeats 8000000 in
theorem f184_A12 (n : Nat) : FamAll (tyOf Tryz.prog) ⟨87, []⟩ [(1, { entB := some (f145B_E n), hb := 310 }), (2, { sh := some hI })] f184_G12 (regOps ((bodyOf Tryz.f184).at [1, 1, 1, 1, 0])) := by
 refine ⟨by kernel_rfl, fun w q hq => ?_⟩
 have e : WT [(1, { entB := some (f145B_E n), hb := 310 }), (2, { sh := some hI })] (swapIdx (regOps ((bodyOf Tryz.f184).at [1, 1, 1, 1, 0])).toList) q = (∃ (y0 : HF (ownsP 1000 (f145B_E n).ts) (f145B_E n).forms) (q0 : List (Nat × RV)), q = (1, .bx (f145B_E n) y0) :: q0 ∧ q0 = []) := by kernel_rfl
 rw [e] at hq
 obtain ⟨y0, q0, rfl, rfl⟩ := hq
 all_goals exact .inl (FamEq.mk (by kernel_rfl))
set_option maxHeartbeats 8000000 in
theorem f184_A16 (n : Nat) : FamAll (tyOf Tryz.prog) ⟨87, []⟩ [(10, { entB := some (f204B_E n), hb := 320 })] f184_G16 (regOps ((bodyOf Tryz.f184).at [1, 1, 1, 1, 1, 0, 1, 0, 0, 1, 0, 0])) := by
 refine ⟨by kernel_rfl, fun w q hq => ?_⟩
 have e : WT [(10, { entB := some (f204B_E n), hb := 320 })] (swapIdx (regOps ((bodyOf Tryz.f184).at [1, 1, 1, 1, 1, 0, 1, 0, 0, 1, 0, 0])).toList) q = (∃ (y0 : HF (ownsP 1000 (f204B_E n).ts) (f204B_E n).forms) (q0 : List (Nat × RV)), q = (10, .bx (f204B_E n) y0) :: q0 ∧ q0 = []) := by kernel_rfl
 rw [e] at hq
 obtain ⟨y0, q0, rfl, rfl⟩ := hq
 all_goals exact .inr ⟨11, by kernel_rfl, by kernel_rfl, by kernel_rfl⟩
theorem f184_ents (α : Type) (n : Nat) : AllS Tryz.prog (entsOf (f184_D α n).reg) := ⟨f170_ok n, f145_ok n, f201_ok n, f185_ok n, f160_ok n, f145B_ok n, f204B_ok n, f185_ok n, f185_ok n, trivial⟩
theorem f184_L7A_d (α : Type) (n : Nat) : D3.OK Tryz.prog (tyOf Tryz.prog) ⟨87, []⟩ (f184_D α n) ((bodyOf Tryz.f184).at [1, 1, 1, 0, 1, 0, 1, 0, 1, 0, 0]) :=
 D3.OK.mk3a (f184_ents α n) (show loopsOf ((bodyOf Tryz.f184).at [1, 1, 1, 0, 1, 0, 1, 0, 1, 0, 0]) = [] by kernel_rfl) trivial (show anysOf ((bodyOf Tryz.f184).at [1, 1, 1, 0, 1, 0, 1, 0, 1, 0, 0]) = [] by kernel_rfl) trivial
theorem f184_L7B_d (α : Type) (n : Nat) : D3.OK Tryz.prog (tyOf Tryz.prog) ⟨87, []⟩ (f184_D α n) ((bodyOf Tryz.f184).at [1, 1, 1, 0, 1, 0, 1, 0, 1, 0, 1]) :=
 D3.OK.mk3a (f184_ents α n) (show loopsOf ((bodyOf Tryz.f184).at [1, 1, 1, 0, 1, 0, 1, 0, 1, 0, 1]) = [] by kernel_rfl) trivial (show anysOf ((bodyOf Tryz.f184).at [1, 1, 1, 0, 1, 0, 1, 0, 1, 0, 1]) = [(10, regOps ((bodyOf Tryz.f184).at [1, 1, 1, 0, 1, 0, 1, 0, 1, 0, 1, 0, 1]))] by kernel_rfl) ⟨fun X h => (by cases h; exact f184_A10 n), trivial⟩
theorem f184_L7_ok (α : Type) (n : Nat) : LO.Sound (α := α) Tryz.prog ⟨87, []⟩ ⟨f184_L7H, f184_L7O, rangeR f184_L7Z (f184_L7U n) f184_L7N⟩ (.rangeFunc (.tmp 29) #[30, 31] ((bodyOf Tryz.f184).at [1, 1, 1, 0, 1, 0, 1, 0, 1, 0, 0]) ((bodyOf Tryz.f184).at [1, 1, 1, 0, 1, 0, 1, 0, 1, 0, 1])) :=
 range_ok (tyOf_ok _) prog_fol f184_L7Z (f184_L7U n) f184_L7N back_ok rfl rfl rfl rfl (f184_L7A_d α n) (f184_L7B_d α n) (by intro v; rfl) (by intro i z v f ks; kernel_rfl) (by intro v ks; kernel_rfl)
theorem f184_L14_d (α : Type) (n : Nat) : D3.OK Tryz.prog (tyOf Tryz.prog) ⟨87, []⟩ (f184_D α n) ((bodyOf Tryz.f184).at [1, 1, 1, 1, 1, 0, 1, 0, 0]) :=
 D3.OK.mk3a (f184_ents α n) (show loopsOf ((bodyOf Tryz.f184).at [1, 1, 1, 1, 1, 0, 1, 0, 0]) = [] by kernel_rfl) trivial (show anysOf ((bodyOf Tryz.f184).at [1, 1, 1, 1, 1, 0, 1, 0, 0]) = [(16, regOps ((bodyOf Tryz.f184).at [1, 1, 1, 1, 1, 0, 1, 0, 0, 1, 0, 0]))] by kernel_rfl) ⟨fun X h => (by cases h; exact f184_A16 n), trivial⟩
theorem f184_L14_ok (α : Type) (n : Nat) : LO.Sound (α := α) Tryz.prog ⟨87, []⟩ ⟨f184_L14H, f184_L14O, rounds (f184_L14U n) n⟩ (.loop ((bodyOf Tryz.f184).at [1, 1, 1, 1, 1, 0, 1, 0, 0])) :=
 loop_ok (tyOf_ok _) prog_fol (f184_L14U n) (f184_L14_d α n) (by intro v f ks; kernel_rfl) n
theorem f184_d (α : Type) (n : Nat) : D3.OK Tryz.prog (tyOf Tryz.prog) ⟨87, []⟩ (f184_D α n) (bodyOf Tryz.f184) :=
 D3.OK.mk3a (f184_ents α n) (show loopsOf (bodyOf Tryz.f184) = [(7, (.rangeFunc (.tmp 29) #[30, 31] ((bodyOf Tryz.f184).at [1, 1, 1, 0, 1, 0, 1, 0, 1, 0, 0]) ((bodyOf Tryz.f184).at [1, 1, 1, 0, 1, 0, 1, 0, 1, 0, 1]))), (14, (.loop ((bodyOf Tryz.f184).at [1, 1, 1, 1, 1, 0, 1, 0, 0])))] by kernel_rfl) ⟨look_sound rfl (f184_L7_ok α n), look_sound rfl (f184_L14_ok α n), trivial⟩ (show anysOf (bodyOf Tryz.f184) = [(11, regOps ((bodyOf Tryz.f184).at [1, 1, 1, 0, 1, 0, 1, 1, 0])), (12, regOps ((bodyOf Tryz.f184).at [1, 1, 1, 1, 0]))] by kernel_rfl) ⟨fun X h => (by cases h; exact f184_A11 n), fun X h => (by cases h; exact f184_A12 n), trivial⟩
theorem f184_ok (n : Nat) : (f184_E n).Sound Tryz.prog :=
 fn_ok (tyOf_ok _) prog_fol (f184_D _ n) (show Tryz.prog.funcs[184]? = some Tryz.f184 by kernel_rfl) (by kernel_rfl) (show Tryz.f184.body = some (bodyOf Tryz.f184) by kernel_rfl) rfl rfl (Nat.le_of_ble_eq_true rfl) (f184_d _ n) (by intro x; kernel_rfl) 

end Go.Ev
