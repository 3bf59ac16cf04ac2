/- DERIVED. What the functions compute, and that they do. -/
import Derived.Test.YtcpdoafoahaagaaGreatSb

set_option linter.all false
set_option linter.unusedVariables false
set_option linter.unusedSimpArgs false

namespace Go.Ev
open Go Go.Proofs Go.RowKit Go.Shelf
abbrev f148_J3 : Tm := ⟨[(1, .k (.hp 1 0 0))], [(1, .var 30 true false [.d .bool, .d hIs, .d hIs])], [], []⟩
def f148 (n : Nat) (a0 : Rq) : Option Bool :=
 let J_5 := fun (_ : Unit) => (
  ob (f190 n a0.2.1 a0.2.2) fun r_3 =>
  ob (f187 n r_3 [1]) fun r_4 =>
  some (r_4 == 0))
 ob (f189 n a0.2.1) fun r_1 =>
 bif (!r_1) then
  some false
 else
  ob (f189 n a0.2.2) fun r_2 =>
  bif (!r_2) then
   some false
  else
   bif ((a0.2.2.length : Int) == 0) then
    some false
   else
    bif ((a0.2.1.length : Int) == 0) then
     bif a0.1 then
      some false
     else
      J_5 ()
    else
     J_5 ()
def f148_E (n : Nat) : Ent := ⟨148, [hR], [.bool], fun x => f148 n x⟩
def f148_D (α : Type) (n : Nat) : D3 α := { reg := [(1, ⟨0, [], [(2, { ent := some (f189_E n) }), (7, { ent := some (f189_E n) })]⟩), (3, ⟨0, [], [(4, { ent := some (f190_E n) }), (5, { sh := some hI }), (6, { ent := some (f187_E n) })]⟩)], join := [(3, f148_J3)], loop := [] }
theorem f148_ents (α : Type) (n : Nat) : AllS Tryz.prog (entsOf (f148_D α n).reg) := ⟨f189_ok n, f189_ok n, f190_ok n, f187_ok n, trivial⟩
theorem f148_d (α : Type) (n : Nat) : D3.OK Tryz.prog (tyOf Tryz.prog) ⟨37, []⟩ (f148_D α n) (bodyOf Tryz.f148) :=
 D3.OK.mk3 (f148_ents α n) (show loopsOf (bodyOf Tryz.f148) = [] by kernel_rfl) trivial
theorem f148_ok (n : Nat) : (f148_E n).Sound Tryz.prog :=
 fn_ok (tyOf_ok _) prog_fol (f148_D _ n) (show Tryz.prog.funcs[148]? = some Tryz.f148 by kernel_rfl) (by kernel_rfl) (show Tryz.f148.body = some (bodyOf Tryz.f148) by kernel_rfl) rfl rfl (Nat.le_of_ble_eq_true rfl) (f148_d _ n) (by intro x; kernel_rfl) 

def f114_L4B {α : Type} (n : Nat) (s0 : LR) (s3 : Int) (f : LR → Int → Option α) (k0 : Bool → Option α) (k1 : LR → Option α) : Option α :=
 bif (decide (s3 < (s0.length : Int))) then
  gd (decide (0 ≤ s3) && decide (s3 < (s0.length : Int))) (
   let x_1 := s0.getD s3.toNat (false, [], [])
   ob (f148 n x_1) fun r_2 =>
   bif (!r_2) then
    k0 false
   else
    f s0 (W (s3 + 1)))
 else
  k1 s0
abbrev f114_L4H : Tm := ⟨[(0, .d hRs), (3, .d hI)], [], [], []⟩
abbrev f114_L4X0 : Tm := ⟨[(2, .d .bool)], [], [], []⟩
abbrev f114_L4X1 : Tm := ⟨[(0, .d hRs)], [], [], []⟩
abbrev f114_L4O : List (Exit × Tm) := [(.ret, f114_L4X0), (.exit 0, f114_L4X1)]
def f114_L4U {α : Type} (n : Nat) (v : f114_L4H.den) (f : f114_L4H.den → Option α) (ks : KS α f114_L4O) : Option α := f114_L4B n v.1.1 v.1.2.1 (fun s0 s3 => f ((s0, s3, ()), ())) (fun w0 => ks.1 ((w0, ()), ())) (fun w0 => ks.2.1 ((w0, ()), ()))
def f114_L4 {α : Type} (n m : Nat) (s0 : LR) (s3 : Int) (k0 : Bool → Option α) (k1 : LR → Option α) : Option α := rounds (f114_L4U n) m ((s0, s3, ()), ()) (fun w => k0 w.1.1, fun w => k1 w.1.1, ())
theorem f114_L4_0 {α n s0 s3 k0 k1} : f114_L4 (α := α) n 0 s0 s3 k0 k1 = none := rfl
theorem f114_L4_s {α n m s0 s3 k0 k1} : f114_L4 (α := α) n (m + 1) s0 s3 k0 k1 = f114_L4B n s0 s3 (fun s0 s3 => f114_L4 n m s0 s3 k0 k1) k0 k1 := rfl
def f114 (n : Nat) (a0 : LR) : Option Bool :=
 bif (decide ((a0.length : Int) > 4096)) then
  some false
 else
  f114_L4 n n a0 0
   (fun z_3 => (
    some z_3))
   (fun z_4 => (
    ob (f65 n (z_4.length : Int) 1 4) fun r_5 =>
    some r_5))
def f114_E (n : Nat) : Ent := ⟨114, [hRs], [.bool], fun x => f114 n x⟩
def f114_D (α : Type) (n : Nat) : D3 α := { reg := [(6, ⟨0, [], [(4, { ent := some (f148_E n) })]⟩), (8, ⟨0, [], [(2, { ent := some (f65_E n) })]⟩)], join := [], loop := [(4, ⟨f114_L4H, f114_L4O, rounds (f114_L4U n) n⟩)] }
theorem f114_ents (α : Type) (n : Nat) : AllS Tryz.prog (entsOf (f114_D α n).reg) := ⟨f148_ok n, f65_ok n, trivial⟩
theorem f114_L4_d (α : Type) (n : Nat) : D3.OK Tryz.prog (tyOf Tryz.prog) ⟨22, []⟩ (f114_D α n) ((bodyOf Tryz.f114).at [1, 1, 0, 1, 0, 0]) :=
 D3.OK.mk3 (f114_ents α n) (show loopsOf ((bodyOf Tryz.f114).at [1, 1, 0, 1, 0, 0]) = [] by kernel_rfl) trivial
theorem f114_L4_ok (α : Type) (n : Nat) : LO.Sound (α := α) Tryz.prog ⟨22, []⟩ ⟨f114_L4H, f114_L4O, rounds (f114_L4U n) n⟩ (.loop ((bodyOf Tryz.f114).at [1, 1, 0, 1, 0, 0])) :=
 loop_ok (tyOf_ok _) prog_fol (f114_L4U n) (f114_L4_d α n) (by intro v f ks; kernel_rfl) n
theorem f114_d (α : Type) (n : Nat) : D3.OK Tryz.prog (tyOf Tryz.prog) ⟨22, []⟩ (f114_D α n) (bodyOf Tryz.f114) :=
 D3.OK.mk3 (f114_ents α n) (show loopsOf (bodyOf Tryz.f114) = [(4, (.loop ((bodyOf Tryz.f114).at [1, 1, 0, 1, 0, 0])))] by kernel_rfl) ⟨look_sound rfl (f114_L4_ok α n), trivial⟩
theorem f114_ok (n : Nat) : (f114_E n).Sound Tryz.prog :=
 fn_ok (tyOf_ok _) prog_fol (f114_D _ n) (show Tryz.prog.funcs[114]? = some Tryz.f114 by kernel_rfl) (by kernel_rfl) (show Tryz.f114.body = some (bodyOf Tryz.f114) by kernel_rfl) rfl rfl (Nat.le_of_ble_eq_true rfl) (f114_d _ n) (by intro x; kernel_rfl) 

def f79_L6B {α : Type} (n : Nat) (s0 : LR) (s5 : Int) (f : LR → Int → Option α) (k0 : Bool → Option α) (k1 : Unit → Option α) : Option α :=
 bif (decide (s5 < (s0.length : Int))) then
  gd (decide (0 ≤ s5) && decide (s5 < (s0.length : Int))) (
   let x_2 := s0.getD s5.toNat (false, [], [])
   ob (f148 n x_2) fun r_3 =>
   bif (!r_3) then
    k0 false
   else
    f s0 (W (s5 + 1)))
 else
  k1 ()
abbrev f79_L6H : Tm := ⟨[(0, .d hRs), (5, .d hI)], [], [], []⟩
abbrev f79_L6X0 : Tm := ⟨[(4, .d .bool)], [], [], []⟩
abbrev f79_L6X1 : Tm := ⟨[], [], [], []⟩
abbrev f79_L6O : List (Exit × Tm) := [(.ret, f79_L6X0), (.exit 0, f79_L6X1)]
def f79_L6U {α : Type} (n : Nat) (v : f79_L6H.den) (f : f79_L6H.den → Option α) (ks : KS α f79_L6O) : Option α := f79_L6B n v.1.1 v.1.2.1 (fun s0 s5 => f ((s0, s5, ()), ())) (fun w0 => ks.1 ((w0, ()), ())) (fun _ => ks.2.1 ((), ()))
def f79_L6 {α : Type} (n m : Nat) (s0 : LR) (s5 : Int) (k0 : Bool → Option α) (k1 : Unit → Option α) : Option α := rounds (f79_L6U n) m ((s0, s5, ()), ()) (fun w => k0 w.1.1, fun w => k1 (), ())
theorem f79_L6_0 {α n s0 s5 k0 k1} : f79_L6 (α := α) n 0 s0 s5 k0 k1 = none := rfl
theorem f79_L6_s {α n m s0 s5 k0 k1} : f79_L6 (α := α) n (m + 1) s0 s5 k0 k1 = f79_L6B n s0 s5 (fun s0 s5 => f79_L6 n m s0 s5 k0 k1) k0 k1 := rfl
def f79 (n : Nat) (a0 : LR) (a1 : Int) : Option Bool :=
 bif (decide ((a0.length : Int) > 4096)) then
  some false
 else
  ob (f65 n a1 1 4) fun r_1 =>
  bif (!r_1) then
   some false
  else
   bif ((a0.length : Int) != (W (a1 * a1))) then
    some false
   else
    f79_L6 n n a0 0
     (fun z_4 => (
      some z_4))
     (fun (_ : Unit) => (
      some true))
def f79_E (n : Nat) : Ent := ⟨79, [hRs, hI], [.bool], fun x => f79 n x.1 x.2⟩
def f79_D (α : Type) (n : Nat) : D3 α := { reg := [(3, ⟨0, [], [(1, { ent := some (f65_E n) })]⟩), (8, ⟨0, [], [(4, { ent := some (f148_E n) })]⟩)], join := [], loop := [(6, ⟨f79_L6H, f79_L6O, rounds (f79_L6U n) n⟩)] }
theorem f79_ents (α : Type) (n : Nat) : AllS Tryz.prog (entsOf (f79_D α n).reg) := ⟨f65_ok n, f148_ok n, trivial⟩
theorem f79_L6_d (α : Type) (n : Nat) : D3.OK Tryz.prog (tyOf Tryz.prog) ⟨32, []⟩ (f79_D α n) ((bodyOf Tryz.f79).at [1, 1, 1, 0, 1, 0, 0]) :=
 D3.OK.mk3 (f79_ents α n) (show loopsOf ((bodyOf Tryz.f79).at [1, 1, 1, 0, 1, 0, 0]) = [] by kernel_rfl) trivial
theorem f79_L6_ok (α : Type) (n : Nat) : LO.Sound (α := α) Tryz.prog ⟨32, []⟩ ⟨f79_L6H, f79_L6O, rounds (f79_L6U n) n⟩ (.loop ((bodyOf Tryz.f79).at [1, 1, 1, 0, 1, 0, 0])) :=
 loop_ok (tyOf_ok _) prog_fol (f79_L6U n) (f79_L6_d α n) (by intro v f ks; kernel_rfl) n
theorem f79_d (α : Type) (n : Nat) : D3.OK Tryz.prog (tyOf Tryz.prog) ⟨32, []⟩ (f79_D α n) (bodyOf Tryz.f79) :=
 D3.OK.mk3 (f79_ents α n) (show loopsOf (bodyOf Tryz.f79) = [(6, (.loop ((bodyOf Tryz.f79).at [1, 1, 1, 0, 1, 0, 0])))] by kernel_rfl) ⟨look_sound rfl (f79_L6_ok α n), trivial⟩
theorem f79_ok (n : Nat) : (f79_E n).Sound Tryz.prog :=
 fn_ok (tyOf_ok _) prog_fol (f79_D _ n) (show Tryz.prog.funcs[79]? = some Tryz.f79 by kernel_rfl) (by kernel_rfl) (show Tryz.f79.body = some (bodyOf Tryz.f79) by kernel_rfl) rfl rfl (Nat.le_of_ble_eq_true rfl) (f79_d _ n) (by intro x; kernel_rfl) 

abbrev f52_J2 : Tm := ⟨[(0, .d hRs), (1, .d hRs), (5, .d .bool)], [], [], []⟩
def f52 (n : Nat) (a0 a1 : LR) : Option Int :=
 let J_4 := fun (y_1 : Bool) => (
  bif y_1 then
   some 2
  else
   ob (f114 n a1) fun r_2 =>
   bif (!r_2) then
    some 1
   else
    ob (f79 n a0 (a1.length : Int)) fun r_3 =>
    bif (!r_3) then
     some 1
    else
     some 0)
 bif (decide ((a0.length : Int) > 4096)) then
  J_4 true
 else
  J_4 (decide ((a1.length : Int) > 4096))
def f52_E (n : Nat) : Ent := ⟨52, [hRs, hRs], [hI], fun x => f52 n x.1 x.2⟩
def f52_D (α : Type) (n : Nat) : D3 α := { reg := [(3, ⟨0, [], [(1, { ent := some (f114_E n) }), (7, { ent := some (f79_E n) })]⟩)], join := [(2, f52_J2)], loop := [] }
theorem f52_ents (α : Type) (n : Nat) : AllS Tryz.prog (entsOf (f52_D α n).reg) := ⟨f114_ok n, f79_ok n, trivial⟩
theorem f52_d (α : Type) (n : Nat) : D3.OK Tryz.prog (tyOf Tryz.prog) ⟨25, []⟩ (f52_D α n) (bodyOf Tryz.f52) :=
 D3.OK.mk3 (f52_ents α n) (show loopsOf (bodyOf Tryz.f52) = [] by kernel_rfl) trivial
theorem f52_ok (n : Nat) : (f52_E n).Sound Tryz.prog :=
 fn_ok (tyOf_ok _) prog_fol (f52_D _ n) (show Tryz.prog.funcs[52]? = some Tryz.f52 by kernel_rfl) (by kernel_rfl) (show Tryz.f52.body = some (bodyOf Tryz.f52) by kernel_rfl) rfl rfl (Nat.le_of_ble_eq_true rfl) (f52_d _ n) (by intro x; kernel_rfl) 

def f116 (n : Nat) (a0 : Rq) : Option Bool :=
 some ((a0.2.1.length : Int) == 0)
def f116_E (n : Nat) : Ent := ⟨116, [hR], [.bool], fun x => f116 n x⟩
def f116_D (α : Type) (n : Nat) : D3 α := { reg := [], join := [], loop := [] }
theorem f116_ents (α : Type) (n : Nat) : AllS Tryz.prog (entsOf (f116_D α n).reg) := trivial
theorem f116_d (α : Type) (n : Nat) : D3.OK Tryz.prog (tyOf Tryz.prog) ⟨7, []⟩ (f116_D α n) (bodyOf Tryz.f116) :=
 D3.OK.mk3 (f116_ents α n) (show loopsOf (bodyOf Tryz.f116) = [] by kernel_rfl) trivial
theorem f116_ok (n : Nat) : (f116_E n).Sound Tryz.prog :=
 fn_ok (tyOf_ok _) prog_fol (f116_D _ n) (show Tryz.prog.funcs[116]? = some Tryz.f116 by kernel_rfl) (by kernel_rfl) (show Tryz.f116.body = some (bodyOf Tryz.f116) by kernel_rfl) rfl rfl (Nat.le_of_ble_eq_true rfl) (f116_d _ n) (by intro x; kernel_rfl) 

def f138 (n : Nat) (a0 : Rq) : Option Rq :=
 bif (!a0.1) then
  some ((decide ((a0.2.1.length : Int) > 0)), a0.2)
 else
  some (false, a0.2)
def f138_E (n : Nat) : Ent := ⟨138, [hR], [hR], fun x => f138 n x⟩
def f138_D (α : Type) (n : Nat) : D3 α := { reg := [], join := [], loop := [] }
theorem f138_ents (α : Type) (n : Nat) : AllS Tryz.prog (entsOf (f138_D α n).reg) := trivial
theorem f138_d (α : Type) (n : Nat) : D3.OK Tryz.prog (tyOf Tryz.prog) ⟨14, []⟩ (f138_D α n) (bodyOf Tryz.f138) :=
 D3.OK.mk3 (f138_ents α n) (show loopsOf (bodyOf Tryz.f138) = [] by kernel_rfl) trivial
theorem f138_ok (n : Nat) : (f138_E n).Sound Tryz.prog :=
 fn_ok (tyOf_ok _) prog_fol (f138_D _ n) (show Tryz.prog.funcs[138]? = some Tryz.f138 by kernel_rfl) (by kernel_rfl) (show Tryz.f138.body = some (bodyOf Tryz.f138) by kernel_rfl) rfl rfl (Nat.le_of_ble_eq_true rfl) (f138_d _ n) (by intro x; kernel_rfl) 

def f176 (n : Nat) (a0 a1 : Rq) : Option Rq :=
 ob (f178 n a0.2.1 a1.2.1) fun r_1 =>
 ob (f178 n a0.2.2 a1.2.2) fun r_2 =>
 ob (f177 n (!(a0.1 == a1.1)) r_1 r_2) fun r_3 =>
 some r_3
def f176_E (n : Nat) : Ent := ⟨176, [hR, hR], [hR], fun x => f176 n x.1 x.2⟩
def f176_D (α : Type) (n : Nat) : D3 α := { reg := [(1, ⟨15, [], [(9, { ent := some (f178_E n) }), (14, { ent := some (f178_E n) }), (15, { ent := some (f177_E n) })]⟩)], join := [], loop := [] }
theorem f176_ents (α : Type) (n : Nat) : AllS Tryz.prog (entsOf (f176_D α n).reg) := ⟨f178_ok n, f178_ok n, f177_ok n, trivial⟩
theorem f176_d (α : Type) (n : Nat) : D3.OK Tryz.prog (tyOf Tryz.prog) ⟨21, []⟩ (f176_D α n) (bodyOf Tryz.f176) :=
 D3.OK.mk3 (f176_ents α n) (show loopsOf (bodyOf Tryz.f176) = [] by kernel_rfl) trivial
theorem f176_ok (n : Nat) : (f176_E n).Sound Tryz.prog :=
 fn_ok (tyOf_ok _) prog_fol (f176_D _ n) (show Tryz.prog.funcs[176]? = some Tryz.f176 by kernel_rfl) (by kernel_rfl) (show Tryz.f176.body = some (bodyOf Tryz.f176) by kernel_rfl) rfl rfl (Nat.le_of_ble_eq_true rfl) (f176_d _ n) (by intro x; kernel_rfl) 

def f118 (n : Nat) (a0 a1 : Rq) : Option Rq :=
 ob (f178 n a0.2.1 a1.2.2) fun r_1 =>
 ob (f178 n a0.2.2 a1.2.1) fun r_2 =>
 ob (f177 n (!(a0.1 == a1.1)) r_1 r_2) fun r_3 =>
 some r_3
def f118_E (n : Nat) : Ent := ⟨118, [hR, hR], [hR], fun x => f118 n x.1 x.2⟩
def f118_D (α : Type) (n : Nat) : D3 α := { reg := [(1, ⟨15, [], [(9, { ent := some (f178_E n) }), (14, { ent := some (f178_E n) }), (15, { ent := some (f177_E n) })]⟩)], join := [], loop := [] }
theorem f118_ents (α : Type) (n : Nat) : AllS Tryz.prog (entsOf (f118_D α n).reg) := ⟨f178_ok n, f178_ok n, f177_ok n, trivial⟩
theorem f118_d (α : Type) (n : Nat) : D3.OK Tryz.prog (tyOf Tryz.prog) ⟨21, []⟩ (f118_D α n) (bodyOf Tryz.f118) :=
 D3.OK.mk3 (f118_ents α n) (show loopsOf (bodyOf Tryz.f118) = [] by kernel_rfl) trivial
theorem f118_ok (n : Nat) : (f118_E n).Sound Tryz.prog :=
 fn_ok (tyOf_ok _) prog_fol (f118_D _ n) (show Tryz.prog.funcs[118]? = some Tryz.f118 by kernel_rfl) (by kernel_rfl) (show Tryz.f118.body = some (bodyOf Tryz.f118) by kernel_rfl) rfl rfl (Nat.le_of_ble_eq_true rfl) (f118_d _ n) (by intro x; kernel_rfl) 

def f186_L4B {α : Type} (n : Nat) (s0 s1 : LI) (s6 s7 : Int) (b8 : LI) (f : LI → LI → Int → Int → LI → Option α) (k0 : LI → Option α) : Option α :=
 let J_5 := fun (_ : Unit) => (
  let J_4 := fun (y_1 : Int) => (
   let J_3 := fun (y_2 : Int) => (
    gd (decide ((b8.length + 1) * 8 ≤ 140737488355328)) (
     f s0 s1 (W (Int.tdiv y_2 10000)) (W (s7 + 1)) (b8 ++ [(Int.tmod y_2 10000)])))
   bif (decide (s7 < (s1.length : Int))) then
    gd (decide (0 ≤ s7) && decide (s7 < (s1.length : Int))) (
     J_3 (W (y_1 + (s1.getD s7.toNat 0))))
   else
    J_3 y_1)
  bif (decide (s7 < (s0.length : Int))) then
   gd (decide (0 ≤ s7) && decide (s7 < (s0.length : Int))) (
    J_4 (W (s6 + (s0.getD s7.toNat 0))))
  else
   J_4 s6)
 bif (decide (s7 < (s0.length : Int))) then
  J_5 ()
 else
  bif (decide (s7 < (s1.length : Int))) then
   J_5 ()
  else
   bif (decide (s6 > 0)) then
    J_5 ()
   else
    k0 b8
abbrev f186_L4H : Tm := ⟨[(0, .d hIs), (1, .d hIs), (5, .k (.hw 8)), (6, .d hI), (7, .d hI)], [(8, .arr 3 hI false)], [48], []⟩
abbrev f186_L4X0 : Tm := ⟨[(5, .k (.hw 8))], [(8, .arr 3 hI false)], [], []⟩
abbrev f186_L4O : List (Exit × Tm) := [(.exit 0, f186_L4X0)]
def f186_L4U {α : Type} (n : Nat) (v : f186_L4H.den) (f : f186_L4H.den → Option α) (ks : KS α f186_L4O) : Option α := f186_L4B n v.1.1 v.1.2.1 v.1.2.2.2.1 v.1.2.2.2.2.1 v.2.1 (fun s0 s1 s6 s7 b8 => f ((s0, s1, (), s6, s7, ()), (b8, ()))) (fun w0 => ks.1 (((), ()), (w0, ())))
def f186_L4 {α : Type} (n m : Nat) (s0 s1 : LI) (s6 s7 : Int) (b8 : LI) (k0 : LI → Option α) : Option α := rounds (f186_L4U n) m ((s0, s1, (), s6, s7, ()), (b8, ())) (fun w => k0 w.2.1, ())
theorem f186_L4_0 {α n s0 s1 s6 s7 b8 k0} : f186_L4 (α := α) n 0 s0 s1 s6 s7 b8 k0 = none := rfl
theorem f186_L4_s {α n m s0 s1 s6 s7 b8 k0} : f186_L4 (α := α) n (m + 1) s0 s1 s6 s7 b8 k0 = f186_L4B n s0 s1 s6 s7 b8 (fun s0 s1 s6 s7 b8 => f186_L4 n m s0 s1 s6 s7 b8 k0) k0 := rfl
abbrev f186_J6 : Tm := ⟨[(0, .d hIs), (1, .d hIs), (5, .k (.hw 8)), (6, .d hI), (7, .d hI)], [(8, .arr 3 hI false)], [], []⟩
abbrev f186_J8 : Tm := ⟨[(0, .d hIs), (1, .d hIs), (5, .k (.hw 8)), (6, .d hI), (7, .d hI)], [(8, .arr 3 hI false)], [], []⟩
abbrev f186_J10 : Tm := ⟨[(0, .d hIs), (1, .d hIs), (5, .k (.hw 8)), (6, .d hI), (7, .d hI)], [(8, .arr 3 hI false)], [], []⟩
def f186 (n : Nat) (a0 a1 : LI) : Option LI :=
 f186_L4 n n a0 a1 0 0 []
  (fun z_6 => (
   some z_6))
def f186_E (n : Nat) : Ent := ⟨186, [hIs, hIs], [hIs], fun x => f186 n x.1 x.2⟩
def f186_D (α : Type) (n : Nat) : D3 α := { reg := [(1, ⟨0, [], [(0, { sh := some hI })]⟩), (10, ⟨0, [], [(3, { sh := some hI })]⟩)], join := [(6, f186_J6), (8, f186_J8), (10, f186_J10)], loop := [(4, ⟨f186_L4H, f186_L4O, rounds (f186_L4U n) n⟩)] }
theorem f186_ents (α : Type) (n : Nat) : AllS Tryz.prog (entsOf (f186_D α n).reg) := trivial
theorem f186_L4_d (α : Type) (n : Nat) : D3.OK Tryz.prog (tyOf Tryz.prog) ⟨53, []⟩ (f186_D α n) ((bodyOf Tryz.f186).at [1, 1, 1, 0, 1, 0, 0]) :=
 D3.OK.mk3 (f186_ents α n) (show loopsOf ((bodyOf Tryz.f186).at [1, 1, 1, 0, 1, 0, 0]) = [] by kernel_rfl) trivial
theorem f186_L4_ok (α : Type) (n : Nat) : LO.Sound (α := α) Tryz.prog ⟨53, []⟩ ⟨f186_L4H, f186_L4O, rounds (f186_L4U n) n⟩ (.loop ((bodyOf Tryz.f186).at [1, 1, 1, 0, 1, 0, 0])) :=
 loop_ok (tyOf_ok _) prog_fol (f186_L4U n) (f186_L4_d α n) (by intro v f ks; kernel_rfl) n
theorem f186_d (α : Type) (n : Nat) : D3.OK Tryz.prog (tyOf Tryz.prog) ⟨53, []⟩ (f186_D α n) (bodyOf Tryz.f186) :=
 D3.OK.mk3 (f186_ents α n) (show loopsOf (bodyOf Tryz.f186) = [(4, (.loop ((bodyOf Tryz.f186).at [1, 1, 1, 0, 1, 0, 0])))] by kernel_rfl) ⟨look_sound rfl (f186_L4_ok α n), trivial⟩
theorem f186_ok (n : Nat) : (f186_E n).Sound Tryz.prog :=
 fn_ok (tyOf_ok _) prog_fol (f186_D _ n) (show Tryz.prog.funcs[186]? = some Tryz.f186 by kernel_rfl) (by kernel_rfl) (show Tryz.f186.body = some (bodyOf Tryz.f186) by kernel_rfl) rfl rfl (Nat.le_of_ble_eq_true rfl) (f186_d _ n) (by intro x; kernel_rfl) 

def f146 (n : Nat) (a0 a1 : Rq) : Option Rq :=
 ob (f178 n a0.2.1 a1.2.2) fun r_1 =>
 ob (f178 n a1.2.1 a0.2.2) fun r_2 =>
 ob (f178 n a0.2.2 a1.2.2) fun r_3 =>
 bif (a0.1 == a1.1) then
  ob (f186 n r_1 r_2) fun r_4 =>
  ob (f177 n a0.1 r_4 r_3) fun r_5 =>
  some r_5
 else
  ob (f187 n r_1 r_2) fun r_6 =>
  bif (decide (r_6 ≥ 0)) then
   ob (f188 n r_1 r_2) fun r_7 =>
   ob (f177 n a0.1 r_7 r_3) fun r_8 =>
   some r_8
  else
   ob (f188 n r_2 r_1) fun r_9 =>
   ob (f177 n a1.1 r_9 r_3) fun r_10 =>
   some r_10
def f146_E (n : Nat) : Ent := ⟨146, [hR, hR], [hR], fun x => f146 n x.1 x.2⟩
def f146_D (α : Type) (n : Nat) : D3 α := { reg := [(1, ⟨0, [], [(4, { ent := some (f178_E n) })]⟩), (2, ⟨0, [], [(4, { ent := some (f178_E n) })]⟩), (3, ⟨0, [], [(4, { ent := some (f178_E n) })]⟩), (5, ⟨6, [], [(4, { ent := some (f186_E n) }), (6, { ent := some (f177_E n) })]⟩), (6, ⟨0, [], [(2, { ent := some (f187_E n) })]⟩), (7, ⟨6, [], [(4, { ent := some (f188_E n) }), (6, { ent := some (f177_E n) })]⟩), (8, ⟨6, [], [(4, { ent := some (f188_E n) }), (6, { ent := some (f177_E n) })]⟩)], join := [], loop := [] }
theorem f146_ents (α : Type) (n : Nat) : AllS Tryz.prog (entsOf (f146_D α n).reg) := ⟨f178_ok n, f178_ok n, f178_ok n, f186_ok n, f177_ok n, f187_ok n, f188_ok n, f177_ok n, f188_ok n, f177_ok n, trivial⟩
theorem f146_d (α : Type) (n : Nat) : D3.OK Tryz.prog (tyOf Tryz.prog) ⟨53, []⟩ (f146_D α n) (bodyOf Tryz.f146) :=
 D3.OK.mk3 (f146_ents α n) (show loopsOf (bodyOf Tryz.f146) = [] by kernel_rfl) trivial
theorem f146_ok (n : Nat) : (f146_E n).Sound Tryz.prog :=
 fn_ok (tyOf_ok _) prog_fol (f146_D _ n) (show Tryz.prog.funcs[146]? = some Tryz.f146 by kernel_rfl) (by kernel_rfl) (show Tryz.f146.body = some (bodyOf Tryz.f146) by kernel_rfl) rfl rfl (Nat.le_of_ble_eq_true rfl) (f146_d _ n) (by intro x; kernel_rfl) 

def f119 (n : Nat) (a0 a1 : Rq) : Option Rq :=
 ob (f138 n a1) fun r_1 =>
 ob (f146 n a0 r_1) fun r_2 =>
 some r_2
def f119_E (n : Nat) : Ent := ⟨119, [hR, hR], [hR], fun x => f119 n x.1 x.2⟩
def f119_D (α : Type) (n : Nat) : D3 α := { reg := [(1, ⟨3, [], [(2, { ent := some (f138_E n) }), (3, { ent := some (f146_E n) })]⟩)], join := [], loop := [] }
theorem f119_ents (α : Type) (n : Nat) : AllS Tryz.prog (entsOf (f119_D α n).reg) := ⟨f138_ok n, f146_ok n, trivial⟩
theorem f119_d (α : Type) (n : Nat) : D3.OK Tryz.prog (tyOf Tryz.prog) ⟨9, []⟩ (f119_D α n) (bodyOf Tryz.f119) :=
 D3.OK.mk3 (f119_ents α n) (show loopsOf (bodyOf Tryz.f119) = [] by kernel_rfl) trivial
theorem f119_ok (n : Nat) : (f119_E n).Sound Tryz.prog :=
 fn_ok (tyOf_ok _) prog_fol (f119_D _ n) (show Tryz.prog.funcs[119]? = some Tryz.f119 by kernel_rfl) (by kernel_rfl) (show Tryz.f119.body = some (bodyOf Tryz.f119) by kernel_rfl) rfl rfl (Nat.le_of_ble_eq_true rfl) (f119_d _ n) (by intro x; kernel_rfl) 

def f115_L9B {α : Type} (n : Nat) (s7 s9 s10 : Int) (c6_0 c8_0 : Bool) (c8_1 c8_2 : LI) (b19 b22 : LR) (f : Int → Int → Int → Bool → Bool → LI → LI → LR → LR → Option α) (k0 : Int → Int → Int → Bool → Bool → LI → LI → LR → LR → Option α) : Option α :=
 bif (decide (s10 < s7)) then
  gd (decide (0 ≤ (W ((W (s10 * s7)) + s9))) && decide ((W ((W (s10 * s7)) + s9)) < (b19.length : Int))) (
   gd (decide ((W ((W (s10 * s7)) + s9)).toNat < b19.length)) (
    let x_2 := b19.getD ((W ((W (s10 * s7)) + s9)).toNat) (false, [], [])
    ob (f116 n x_2) fun r_3 =>
    bif r_3 then
     f s7 s9 (W (s10 + 1)) c6_0 c8_0 c8_1 c8_2 b19 b22
    else
     k0 s7 s9 s10 c6_0 c8_0 c8_1 c8_2 b19 b22))
 else
  k0 s7 s9 s10 c6_0 c8_0 c8_1 c8_2 b19 b22
abbrev f115_L9H : Tm := ⟨[(0, .k (.hw 19)), (1, .k (.hw 22)), (6, .k (.hp 6 0 0)), (7, .d hI), (8, .k (.hp 8 0 0)), (9, .d hI), (10, .d hI)], [(6, .var 30 true false [.d .bool, .d .nil, .d .nil]), (8, .var 30 true false [.d .bool, .d hIs, .d hIs]), (19, .arr 30 hR false), (22, .arr 30 hR false)], [], []⟩
abbrev f115_L9X0 : Tm := ⟨[(0, .k (.hw 19)), (1, .k (.hw 22)), (6, .k (.hp 6 0 0)), (7, .d hI), (8, .k (.hp 8 0 0)), (9, .d hI), (10, .d hI)], [(6, .var 30 true false [.d .bool, .d .nil, .d .nil]), (8, .var 30 true false [.d .bool, .d hIs, .d hIs]), (19, .arr 30 hR false), (22, .arr 30 hR false)], [], []⟩
abbrev f115_L9O : List (Exit × Tm) := [(.exit 2, f115_L9X0)]
def f115_L9U {α : Type} (n : Nat) (v : f115_L9H.den) (f : f115_L9H.den → Option α) (ks : KS α f115_L9O) : Option α := f115_L9B n v.1.2.2.2.1 v.1.2.2.2.2.2.1 v.1.2.2.2.2.2.2.1 v.2.1.1 v.2.2.1.1 v.2.2.1.2.1 v.2.2.1.2.2.1 v.2.2.2.1 v.2.2.2.2.1 (fun s7 s9 s10 c6_0 c8_0 c8_1 c8_2 b19 b22 => f (((), (), (), s7, (), s9, s10, ()), ((c6_0, (), (), ()), (c8_0, c8_1, c8_2, ()), b19, b22, ()))) (fun w0 w1 w2 w3 w4 w5 w6 w7 w8 => ks.1 (((), (), (), w0, (), w1, w2, ()), ((w3, (), (), ()), (w4, w5, w6, ()), w7, w8, ())))
def f115_L9 {α : Type} (n m : Nat) (s7 s9 s10 : Int) (c6_0 c8_0 : Bool) (c8_1 c8_2 : LI) (b19 b22 : LR) (k0 : Int → Int → Int → Bool → Bool → LI → LI → LR → LR → Option α) : Option α := rounds (f115_L9U n) m (((), (), (), s7, (), s9, s10, ()), ((c6_0, (), (), ()), (c8_0, c8_1, c8_2, ()), b19, b22, ())) (fun w => k0 w.1.2.2.2.1 w.1.2.2.2.2.2.1 w.1.2.2.2.2.2.2.1 w.2.1.1 w.2.2.1.1 w.2.2.1.2.1 w.2.2.1.2.2.1 w.2.2.2.1 w.2.2.2.2.1, ())
theorem f115_L9_0 {α n s7 s9 s10 c6_0 c8_0 c8_1 c8_2 b19 b22 k0} : f115_L9 (α := α) n 0 s7 s9 s10 c6_0 c8_0 c8_1 c8_2 b19 b22 k0 = none := rfl
theorem f115_L9_s {α n m s7 s9 s10 c6_0 c8_0 c8_1 c8_2 b19 b22 k0} : f115_L9 (α := α) n (m + 1) s7 s9 s10 c6_0 c8_0 c8_1 c8_2 b19 b22 k0 = f115_L9B n s7 s9 s10 c6_0 c8_0 c8_1 c8_2 b19 b22 (fun s7 s9 s10 c6_0 c8_0 c8_1 c8_2 b19 b22 => f115_L9 n m s7 s9 s10 c6_0 c8_0 c8_1 c8_2 b19 b22 k0) k0 := rfl
def f115_L16B {α : Type} (n : Nat) (s7 s9 s10 s11 : Int) (c6_0 c8_0 : Bool) (c8_1 c8_2 : LI) (b19 b22 : LR) (f : Int → Int → Int → Int → Bool → Bool → LI → LI → LR → LR → Option α) (k0 : Int → Int → Int → Bool → Bool → LI → LI → LR → LR → Option α) : Option α :=
 bif (decide (s11 < s7)) then
  gd (decide (0 ≤ (W ((W (s10 * s7)) + s11))) && decide ((W ((W (s10 * s7)) + s11)) < (b19.length : Int))) (
   gd (decide ((W ((W (s10 * s7)) + s11)).toNat < b19.length)) (
    let x_15 := b19.getD ((W ((W (s10 * s7)) + s11)).toNat) (false, [], [])
    gd (decide (0 ≤ (W ((W (s9 * s7)) + s11))) && decide ((W ((W (s9 * s7)) + s11)) < (b19.length : Int))) (
     gd (decide ((W ((W (s9 * s7)) + s11)).toNat < b19.length)) (
      let x_16 := b19.getD ((W ((W (s9 * s7)) + s11)).toNat) (false, [], [])
      gd (decide (0 ≤ (W ((W (s10 * s7)) + s11))) && decide ((W ((W (s10 * s7)) + s11)) < (b19.length : Int))) (
       gd (decide ((W ((W (s10 * s7)) + s11)).toNat < b19.length)) (
        gd (decide (0 ≤ (W ((W (s9 * s7)) + s11))) && decide ((W ((W (s9 * s7)) + s11)) < (((b19.set ((W ((W (s10 * s7)) + s11)).toNat) x_16).length : Nat) : Int))) (
         gd (decide ((W ((W (s9 * s7)) + s11)).toNat < (b19.set ((W ((W (s10 * s7)) + s11)).toNat) x_16).length)) (
          f s7 s9 s10 (W (s11 + 1)) c6_0 c8_0 c8_1 c8_2 ((b19.set ((W ((W (s10 * s7)) + s11)).toNat) x_16).set ((W ((W (s9 * s7)) + s11)).toNat) x_15) b22))))))))
 else
  k0 s7 s9 s10 c6_0 c8_0 c8_1 c8_2 b19 b22
abbrev f115_L16H : Tm := ⟨[(0, .k (.hw 19)), (1, .k (.hw 22)), (6, .k (.hp 6 0 0)), (7, .d hI), (8, .k (.hp 8 0 0)), (9, .d hI), (10, .d hI), (11, .d hI)], [(6, .var 30 true false [.d .bool, .d .nil, .d .nil]), (8, .var 30 true false [.d .bool, .d hIs, .d hIs]), (19, .arr 30 hR false), (22, .arr 30 hR false)], [12], []⟩
abbrev f115_L16X0 : Tm := ⟨[(0, .k (.hw 19)), (1, .k (.hw 22)), (6, .k (.hp 6 0 0)), (7, .d hI), (8, .k (.hp 8 0 0)), (9, .d hI), (10, .d hI)], [(6, .var 30 true false [.d .bool, .d .nil, .d .nil]), (8, .var 30 true false [.d .bool, .d hIs, .d hIs]), (19, .arr 30 hR false), (22, .arr 30 hR false)], [], []⟩
abbrev f115_L16O : List (Exit × Tm) := [(.exit 4, f115_L16X0)]
def f115_L16U {α : Type} (n : Nat) (v : f115_L16H.den) (f : f115_L16H.den → Option α) (ks : KS α f115_L16O) : Option α := f115_L16B n v.1.2.2.2.1 v.1.2.2.2.2.2.1 v.1.2.2.2.2.2.2.1 v.1.2.2.2.2.2.2.2.1 v.2.1.1 v.2.2.1.1 v.2.2.1.2.1 v.2.2.1.2.2.1 v.2.2.2.1 v.2.2.2.2.1 (fun s7 s9 s10 s11 c6_0 c8_0 c8_1 c8_2 b19 b22 => f (((), (), (), s7, (), s9, s10, s11, ()), ((c6_0, (), (), ()), (c8_0, c8_1, c8_2, ()), b19, b22, ()))) (fun w0 w1 w2 w3 w4 w5 w6 w7 w8 => ks.1 (((), (), (), w0, (), w1, w2, ()), ((w3, (), (), ()), (w4, w5, w6, ()), w7, w8, ())))
def f115_L16 {α : Type} (n m : Nat) (s7 s9 s10 s11 : Int) (c6_0 c8_0 : Bool) (c8_1 c8_2 : LI) (b19 b22 : LR) (k0 : Int → Int → Int → Bool → Bool → LI → LI → LR → LR → Option α) : Option α := rounds (f115_L16U n) m (((), (), (), s7, (), s9, s10, s11, ()), ((c6_0, (), (), ()), (c8_0, c8_1, c8_2, ()), b19, b22, ())) (fun w => k0 w.1.2.2.2.1 w.1.2.2.2.2.2.1 w.1.2.2.2.2.2.2.1 w.2.1.1 w.2.2.1.1 w.2.2.1.2.1 w.2.2.1.2.2.1 w.2.2.2.1 w.2.2.2.2.1, ())
theorem f115_L16_0 {α n s7 s9 s10 s11 c6_0 c8_0 c8_1 c8_2 b19 b22 k0} : f115_L16 (α := α) n 0 s7 s9 s10 s11 c6_0 c8_0 c8_1 c8_2 b19 b22 k0 = none := rfl
theorem f115_L16_s {α n m s7 s9 s10 s11 c6_0 c8_0 c8_1 c8_2 b19 b22 k0} : f115_L16 (α := α) n (m + 1) s7 s9 s10 s11 c6_0 c8_0 c8_1 c8_2 b19 b22 k0 = f115_L16B n s7 s9 s10 s11 c6_0 c8_0 c8_1 c8_2 b19 b22 (fun s7 s9 s10 s11 c6_0 c8_0 c8_1 c8_2 b19 b22 => f115_L16 n m s7 s9 s10 s11 c6_0 c8_0 c8_1 c8_2 b19 b22 k0) k0 := rfl
def f115_L30B {α : Type} (n : Nat) (s7 s9 s14 s16 : Int) (c6_0 c8_0 : Bool) (c8_1 c8_2 : LI) (c15_0 : Bool) (c15_1 c15_2 : LI) (b19 b22 : LR) (f : Int → Int → Int → Int → Bool → Bool → LI → LI → Bool → LI → LI → LR → LR → Option α) (k0 : Int → Int → Int → Bool → Bool → LI → LI → Bool → LI → LI → LR → LR → Option α) : Option α :=
 bif (decide (s16 < s7)) then
  gd (decide (0 ≤ (W ((W (s14 * s7)) + s16))) && decide ((W ((W (s14 * s7)) + s16)) < (b19.length : Int))) (
   gd (decide ((W ((W (s14 * s7)) + s16)).toNat < b19.length)) (
    let x_39 := b19.getD ((W ((W (s14 * s7)) + s16)).toNat) (false, [], [])
    gd (decide (0 ≤ (W ((W (s9 * s7)) + s16))) && decide ((W ((W (s9 * s7)) + s16)) < (b19.length : Int))) (
     gd (decide ((W ((W (s9 * s7)) + s16)).toNat < b19.length)) (
      let x_40 := b19.getD ((W ((W (s9 * s7)) + s16)).toNat) (false, [], [])
      ob (f176 n (c15_0, c15_1, c15_2) x_40) fun r_41 =>
      ob (f119 n x_39 r_41) fun r_42 =>
      gd (decide (0 ≤ (W ((W (s14 * s7)) + s16))) && decide ((W ((W (s14 * s7)) + s16)) < (b19.length : Int))) (
       gd (decide ((W ((W (s14 * s7)) + s16)).toNat < b19.length)) (
        f s7 s9 s14 (W (s16 + 1)) c6_0 c8_0 c8_1 c8_2 c15_0 c15_1 c15_2 (b19.set ((W ((W (s14 * s7)) + s16)).toNat) r_42) b22))))))
 else
  k0 s7 s9 s14 c6_0 c8_0 c8_1 c8_2 c15_0 c15_1 c15_2 b19 b22
abbrev f115_L30H : Tm := ⟨[(0, .k (.hw 19)), (1, .k (.hw 22)), (6, .k (.hp 6 0 0)), (7, .d hI), (8, .k (.hp 8 0 0)), (9, .d hI), (14, .d hI), (15, .k (.hp 15 0 0)), (16, .d hI)], [(6, .var 30 true false [.d .bool, .d .nil, .d .nil]), (8, .var 30 true false [.d .bool, .d hIs, .d hIs]), (15, .var 30 true false [.d .bool, .d hIs, .d hIs]), (19, .arr 30 hR false), (22, .arr 30 hR false)], [], []⟩
abbrev f115_L30X0 : Tm := ⟨[(0, .k (.hw 19)), (1, .k (.hw 22)), (6, .k (.hp 6 0 0)), (7, .d hI), (8, .k (.hp 8 0 0)), (9, .d hI), (14, .d hI), (15, .k (.hp 15 0 0))], [(6, .var 30 true false [.d .bool, .d .nil, .d .nil]), (8, .var 30 true false [.d .bool, .d hIs, .d hIs]), (15, .var 30 true false [.d .bool, .d hIs, .d hIs]), (19, .arr 30 hR false), (22, .arr 30 hR false)], [], []⟩
abbrev f115_L30O : List (Exit × Tm) := [(.exit 8, f115_L30X0)]
def f115_L30U {α : Type} (n : Nat) (v : f115_L30H.den) (f : f115_L30H.den → Option α) (ks : KS α f115_L30O) : Option α := f115_L30B n v.1.2.2.2.1 v.1.2.2.2.2.2.1 v.1.2.2.2.2.2.2.1 v.1.2.2.2.2.2.2.2.2.1 v.2.1.1 v.2.2.1.1 v.2.2.1.2.1 v.2.2.1.2.2.1 v.2.2.2.1.1 v.2.2.2.1.2.1 v.2.2.2.1.2.2.1 v.2.2.2.2.1 v.2.2.2.2.2.1 (fun s7 s9 s14 s16 c6_0 c8_0 c8_1 c8_2 c15_0 c15_1 c15_2 b19 b22 => f (((), (), (), s7, (), s9, s14, (), s16, ()), ((c6_0, (), (), ()), (c8_0, c8_1, c8_2, ()), (c15_0, c15_1, c15_2, ()), b19, b22, ()))) (fun w0 w1 w2 w3 w4 w5 w6 w7 w8 w9 w10 w11 => ks.1 (((), (), (), w0, (), w1, w2, (), ()), ((w3, (), (), ()), (w4, w5, w6, ()), (w7, w8, w9, ()), w10, w11, ())))
def f115_L30 {α : Type} (n m : Nat) (s7 s9 s14 s16 : Int) (c6_0 c8_0 : Bool) (c8_1 c8_2 : LI) (c15_0 : Bool) (c15_1 c15_2 : LI) (b19 b22 : LR) (k0 : Int → Int → Int → Bool → Bool → LI → LI → Bool → LI → LI → LR → LR → Option α) : Option α := rounds (f115_L30U n) m (((), (), (), s7, (), s9, s14, (), s16, ()), ((c6_0, (), (), ()), (c8_0, c8_1, c8_2, ()), (c15_0, c15_1, c15_2, ()), b19, b22, ())) (fun w => k0 w.1.2.2.2.1 w.1.2.2.2.2.2.1 w.1.2.2.2.2.2.2.1 w.2.1.1 w.2.2.1.1 w.2.2.1.2.1 w.2.2.1.2.2.1 w.2.2.2.1.1 w.2.2.2.1.2.1 w.2.2.2.1.2.2.1 w.2.2.2.2.1 w.2.2.2.2.2.1, ())
theorem f115_L30_0 {α n s7 s9 s14 s16 c6_0 c8_0 c8_1 c8_2 c15_0 c15_1 c15_2 b19 b22 k0} : f115_L30 (α := α) n 0 s7 s9 s14 s16 c6_0 c8_0 c8_1 c8_2 c15_0 c15_1 c15_2 b19 b22 k0 = none := rfl
theorem f115_L30_s {α n m s7 s9 s14 s16 c6_0 c8_0 c8_1 c8_2 c15_0 c15_1 c15_2 b19 b22 k0} : f115_L30 (α := α) n (m + 1) s7 s9 s14 s16 c6_0 c8_0 c8_1 c8_2 c15_0 c15_1 c15_2 b19 b22 k0 = f115_L30B n s7 s9 s14 s16 c6_0 c8_0 c8_1 c8_2 c15_0 c15_1 c15_2 b19 b22 (fun s7 s9 s14 s16 c6_0 c8_0 c8_1 c8_2 c15_0 c15_1 c15_2 b19 b22 => f115_L30 n m s7 s9 s14 s16 c6_0 c8_0 c8_1 c8_2 c15_0 c15_1 c15_2 b19 b22 k0) k0 := rfl
def f115_L26B {α : Type} (n : Nat) (s7 s9 s14 : Int) (c6_0 c8_0 : Bool) (c8_1 c8_2 : LI) (b19 b22 : LR) (f : Int → Int → Int → Bool → Bool → LI → LI → LR → LR → Option α) (k0 : Int → Int → Bool → Bool → LI → LI → LR → LR → Option α) : Option α :=
 bif (decide (s14 < s7)) then
  gd (decide (0 ≤ (W ((W (s14 * s7)) + s9))) && decide ((W ((W (s14 * s7)) + s9)) < (b19.length : Int))) (
   gd (decide ((W ((W (s14 * s7)) + s9)).toNat < b19.length)) (
    let x_36 := b19.getD ((W ((W (s14 * s7)) + s9)).toNat) (false, [], [])
    gd (decide (0 ≤ (W ((W (s9 * s7)) + s9))) && decide ((W ((W (s9 * s7)) + s9)) < (b19.length : Int))) (
     gd (decide ((W ((W (s9 * s7)) + s9)).toNat < b19.length)) (
      let x_37 := b19.getD ((W ((W (s9 * s7)) + s9)).toNat) (false, [], [])
      ob (f118 n x_36 x_37) fun r_38 =>
      f115_L30 n n s7 s9 s14 s9 c6_0 c8_0 c8_1 c8_2 r_38.1 r_38.2.1 r_38.2.2 b19 b22
       (fun z_39 z_40 z_41 z_42 z_43 z_44 z_45 z_46 z_47 z_48 z_49 z_50 => (
        gd (decide (0 ≤ z_41) && decide (z_41 < (z_50.length : Int))) (
         gd (decide (z_41.toNat < z_50.length)) (
          let x_51 := z_50.getD z_41.toNat (false, [], [])
          gd (decide (0 ≤ z_40) && decide (z_40 < (z_50.length : Int))) (
           gd (decide (z_40.toNat < z_50.length)) (
            let x_52 := z_50.getD z_40.toNat (false, [], [])
            ob (f176 n (z_46, z_47, z_48) x_52) fun r_53 =>
            ob (f119 n x_51 r_53) fun r_54 =>
            gd (decide (0 ≤ z_41) && decide (z_41 < (z_50.length : Int))) (
             gd (decide (z_41.toNat < z_50.length)) (
              f z_39 z_40 (W (z_41 + 1)) z_42 z_43 z_44 z_45 z_49 (z_50.set z_41.toNat r_54)))))))))))))
 else
  k0 s7 s9 c6_0 c8_0 c8_1 c8_2 b19 b22
abbrev f115_L26H : Tm := ⟨[(0, .k (.hw 19)), (1, .k (.hw 22)), (6, .k (.hp 6 0 0)), (7, .d hI), (8, .k (.hp 8 0 0)), (9, .d hI), (14, .d hI)], [(6, .var 30 true false [.d .bool, .d .nil, .d .nil]), (8, .var 30 true false [.d .bool, .d hIs, .d hIs]), (19, .arr 30 hR false), (22, .arr 30 hR false)], [15], []⟩
abbrev f115_L26X0 : Tm := ⟨[(0, .k (.hw 19)), (1, .k (.hw 22)), (6, .k (.hp 6 0 0)), (7, .d hI), (8, .k (.hp 8 0 0)), (9, .d hI)], [(6, .var 30 true false [.d .bool, .d .nil, .d .nil]), (8, .var 30 true false [.d .bool, .d hIs, .d hIs]), (19, .arr 30 hR false), (22, .arr 30 hR false)], [], []⟩
abbrev f115_L26O : List (Exit × Tm) := [(.exit 6, f115_L26X0)]
def f115_L26U {α : Type} (n : Nat) (v : f115_L26H.den) (f : f115_L26H.den → Option α) (ks : KS α f115_L26O) : Option α := f115_L26B n v.1.2.2.2.1 v.1.2.2.2.2.2.1 v.1.2.2.2.2.2.2.1 v.2.1.1 v.2.2.1.1 v.2.2.1.2.1 v.2.2.1.2.2.1 v.2.2.2.1 v.2.2.2.2.1 (fun s7 s9 s14 c6_0 c8_0 c8_1 c8_2 b19 b22 => f (((), (), (), s7, (), s9, s14, ()), ((c6_0, (), (), ()), (c8_0, c8_1, c8_2, ()), b19, b22, ()))) (fun w0 w1 w2 w3 w4 w5 w6 w7 => ks.1 (((), (), (), w0, (), w1, ()), ((w2, (), (), ()), (w3, w4, w5, ()), w6, w7, ())))
def f115_L26 {α : Type} (n m : Nat) (s7 s9 s14 : Int) (c6_0 c8_0 : Bool) (c8_1 c8_2 : LI) (b19 b22 : LR) (k0 : Int → Int → Bool → Bool → LI → LI → LR → LR → Option α) : Option α := rounds (f115_L26U n) m (((), (), (), s7, (), s9, s14, ()), ((c6_0, (), (), ()), (c8_0, c8_1, c8_2, ()), b19, b22, ())) (fun w => k0 w.1.2.2.2.1 w.1.2.2.2.2.2.1 w.2.1.1 w.2.2.1.1 w.2.2.1.2.1 w.2.2.1.2.2.1 w.2.2.2.1 w.2.2.2.2.1, ())
theorem f115_L26_0 {α n s7 s9 s14 c6_0 c8_0 c8_1 c8_2 b19 b22 k0} : f115_L26 (α := α) n 0 s7 s9 s14 c6_0 c8_0 c8_1 c8_2 b19 b22 k0 = none := rfl
theorem f115_L26_s {α n m s7 s9 s14 c6_0 c8_0 c8_1 c8_2 b19 b22 k0} : f115_L26 (α := α) n (m + 1) s7 s9 s14 c6_0 c8_0 c8_1 c8_2 b19 b22 k0 = f115_L26B n s7 s9 s14 c6_0 c8_0 c8_1 c8_2 b19 b22 (fun s7 s9 s14 c6_0 c8_0 c8_1 c8_2 b19 b22 => f115_L26 n m s7 s9 s14 c6_0 c8_0 c8_1 c8_2 b19 b22 k0) k0 := rfl
def f115_L6B {α : Type} (n : Nat) (s7 s9 : Int) (c6_0 c8_0 : Bool) (c8_1 c8_2 : LI) (b19 b22 : LR) (f : Int → Int → Bool → Bool → LI → LI → LR → LR → Option α) (k0 : Bool → LI → LI → LR → LR → Option α) (k1 : Bool → Bool → LI → LI → LR → LR → Option α) : Option α :=
 bif (decide (s9 < s7)) then
  f115_L9 n n s7 s9 s9 c6_0 c8_0 c8_1 c8_2 b19 b22
   (fun z_2 z_3 z_4 z_5 z_6 z_7 z_8 z_9 z_10 => (
    bif (z_4 == z_2) then
     ob (f106 n 0) fun r_11 =>
     k0 r_11.1 r_11.2.1 r_11.2.2 z_9 z_10
    else
     let J_42 := fun (y_24 : Int) (y_25 : Int) (y_26 : Bool) (y_27 : Bool) (y_28 : LI) (y_29 : LI) (y_30 : LR) (y_31 : LR) => (
      gd (decide (0 ≤ (W ((W (y_25 * y_24)) + y_25))) && decide ((W ((W (y_25 * y_24)) + y_25)) < (y_30.length : Int))) (
       gd (decide ((W ((W (y_25 * y_24)) + y_25)).toNat < y_30.length)) (
        let x_32 := y_30.getD ((W ((W (y_25 * y_24)) + y_25)).toNat) (false, [], [])
        ob (f176 n (y_27, y_28, y_29) x_32) fun r_33 =>
        f115_L26 n n y_24 y_25 (W (y_25 + 1)) y_26 r_33.1 r_33.2.1 r_33.2.2 y_30 y_31
         (fun z_34 z_35 z_36 z_37 z_38 z_39 z_40 z_41 => (
          f z_34 (W (z_35 + 1)) z_36 z_37 z_38 z_39 z_40 z_41)))))
     bif (decide (z_4 > z_3)) then
      ob (f138 n (z_6, z_7, z_8)) fun r_12 =>
      f115_L16 n n z_2 z_3 z_4 0 z_5 r_12.1 r_12.2.1 r_12.2.2 z_9 z_10
       (fun z_13 z_14 z_15 z_16 z_17 z_18 z_19 z_20 z_21 => (
        gd (decide (0 ≤ z_15) && decide (z_15 < (z_21.length : Int))) (
         gd (decide (z_15.toNat < z_21.length)) (
          let x_22 := z_21.getD z_15.toNat (false, [], [])
          gd (decide (0 ≤ z_14) && decide (z_14 < (z_21.length : Int))) (
           gd (decide (z_14.toNat < z_21.length)) (
            let x_23 := z_21.getD z_14.toNat (false, [], [])
            gd (decide (0 ≤ z_15) && decide (z_15 < (z_21.length : Int))) (
             gd (decide (z_15.toNat < z_21.length)) (
              gd (decide (0 ≤ z_14) && decide (z_14 < (((z_21.set z_15.toNat x_23).length : Nat) : Int))) (
               gd (decide (z_14.toNat < (z_21.set z_15.toNat x_23).length)) (
                J_42 z_13 z_14 z_16 z_17 z_18 z_19 z_20 ((z_21.set z_15.toNat x_23).set z_14.toNat x_22)))))))))))
     else
      J_42 z_2 z_3 z_5 z_6 z_7 z_8 z_9 z_10))
 else
  k1 c6_0 c8_0 c8_1 c8_2 b19 b22
abbrev f115_L6H : Tm := ⟨[(0, .k (.hw 19)), (1, .k (.hw 22)), (6, .k (.hp 6 0 0)), (7, .d hI), (8, .k (.hp 8 0 0)), (9, .d hI)], [(6, .var 30 true false [.d .bool, .d .nil, .d .nil]), (8, .var 30 true false [.d .bool, .d hIs, .d hIs]), (19, .arr 30 hR false), (22, .arr 30 hR false)], [], []⟩
abbrev f115_L6X0 : Tm := ⟨[(4, .k (.hw 19)), (5, .k (.hw 22)), (6, .k (.hp 6 0 0))], [(6, .var 30 true false [.d .bool, .d hIs, .d hIs]), (19, .arr 30 hR false), (22, .arr 30 hR false)], [8], []⟩
abbrev f115_L6X1 : Tm := ⟨[(0, .k (.hw 19)), (1, .k (.hw 22)), (6, .k (.hp 6 0 0)), (8, .k (.hp 8 0 0))], [(6, .var 30 true false [.d .bool, .d .nil, .d .nil]), (8, .var 30 true false [.d .bool, .d hIs, .d hIs]), (19, .arr 30 hR false), (22, .arr 30 hR false)], [], []⟩
abbrev f115_L6O : List (Exit × Tm) := [(.ret, f115_L6X0), (.exit 0, f115_L6X1)]
def f115_L6U {α : Type} (n : Nat) (v : f115_L6H.den) (f : f115_L6H.den → Option α) (ks : KS α f115_L6O) : Option α := f115_L6B n v.1.2.2.2.1 v.1.2.2.2.2.2.1 v.2.1.1 v.2.2.1.1 v.2.2.1.2.1 v.2.2.1.2.2.1 v.2.2.2.1 v.2.2.2.2.1 (fun s7 s9 c6_0 c8_0 c8_1 c8_2 b19 b22 => f (((), (), (), s7, (), s9, ()), ((c6_0, (), (), ()), (c8_0, c8_1, c8_2, ()), b19, b22, ()))) (fun w0 w1 w2 w3 w4 => ks.1 (((), (), (), ()), ((w0, w1, w2, ()), w3, w4, ()))) (fun w0 w1 w2 w3 w4 w5 => ks.2.1 (((), (), (), (), ()), ((w0, (), (), ()), (w1, w2, w3, ()), w4, w5, ())))
def f115_L6 {α : Type} (n m : Nat) (s7 s9 : Int) (c6_0 c8_0 : Bool) (c8_1 c8_2 : LI) (b19 b22 : LR) (k0 : Bool → LI → LI → LR → LR → Option α) (k1 : Bool → Bool → LI → LI → LR → LR → Option α) : Option α := rounds (f115_L6U n) m (((), (), (), s7, (), s9, ()), ((c6_0, (), (), ()), (c8_0, c8_1, c8_2, ()), b19, b22, ())) (fun w => k0 w.2.1.1 w.2.1.2.1 w.2.1.2.2.1 w.2.2.1 w.2.2.2.1, fun w => k1 w.2.1.1 w.2.2.1.1 w.2.2.1.2.1 w.2.2.1.2.2.1 w.2.2.2.1 w.2.2.2.2.1, ())
theorem f115_L6_0 {α n s7 s9 c6_0 c8_0 c8_1 c8_2 b19 b22 k0 k1} : f115_L6 (α := α) n 0 s7 s9 c6_0 c8_0 c8_1 c8_2 b19 b22 k0 k1 = none := rfl
theorem f115_L6_s {α n m s7 s9 c6_0 c8_0 c8_1 c8_2 b19 b22 k0 k1} : f115_L6 (α := α) n (m + 1) s7 s9 c6_0 c8_0 c8_1 c8_2 b19 b22 k0 k1 = f115_L6B n s7 s9 c6_0 c8_0 c8_1 c8_2 b19 b22 (fun s7 s9 c6_0 c8_0 c8_1 c8_2 b19 b22 => f115_L6 n m s7 s9 c6_0 c8_0 c8_1 c8_2 b19 b22 k0 k1) k0 k1 := rfl
abbrev f115_G28 : Tm := ⟨[(0, .k (.hw 19)), (1, .k (.hw 22)), (6, .k (.hp 6 0 0)), (7, .d hI), (8, .k (.hp 8 0 0)), (9, .d hI), (14, .d hI)], [(6, .var 30 true false [.d .bool, .d .nil, .d .nil]), (8, .var 30 true false [.d .bool, .d hIs, .d hIs]), (19, .arr 30 hR false), (22, .arr 30 hR false)], [], []⟩
abbrev f115_J24 : Tm := ⟨[(0, .k (.hw 19)), (1, .k (.hw 22)), (6, .k (.hp 6 0 0)), (7, .d hI), (8, .k (.hp 8 0 0)), (9, .d hI)], [(6, .var 30 true false [.d .bool, .d .nil, .d .nil]), (8, .var 30 true false [.d .bool, .d hIs, .d hIs]), (19, .arr 30 hR false), (22, .arr 30 hR false)], [13], []⟩
def f115 (n : Nat) (a0 a1 : LR) : Option (LR × LR × Rq) :=
 gd (decide ((0 + a0.length) * 56 ≤ 140737488355328)) (
  gd (decide ((0 + a1.length) * 56 ≤ 140737488355328)) (
   ob (f106 n 1) fun r_1 =>
   f115_L6 n n (a1.length : Int) 0 false r_1.1 r_1.2.1 r_1.2.2 a0 a1
    (fun z_43 z_44 z_45 z_46 z_47 => (
     some (z_46, z_47, (z_43, z_44, z_45))))
    (fun z_48 z_49 z_50 z_51 z_52 z_53 => (
     some (z_52, z_53, (z_49, z_50, z_51))))))
def f115_E (n : Nat) : Ent := ⟨115, [hRs, hRs], [hRs, hRs, hR], fun x => f115 n x.1 x.2⟩
def f115_D (α : Type) (n : Nat) : D3 α := { reg := [(2, ⟨0, [], [(0, { sh := some hR })]⟩), (3, ⟨0, [], [(0, { sh := some hR })]⟩), (4, ⟨0, [], [(0, { ent := some (f106_E n) })]⟩), (9, ⟨0, [], [(12, { ent := some (f116_E n) })]⟩), (12, ⟨0, [], [(2, { ent := some (f106_E n) })]⟩), (14, ⟨0, [], [(1, { ent := some (f138_E n) })]⟩), (24, ⟨9, [], [(9, { ent := some (f176_E n) })]⟩), (28, ⟨0, [], [(16, { ent := some (f118_E n) })]⟩), (32, ⟨25, [], [(23, { ent := some (f176_E n) }), (24, { ent := some (f119_E n) })]⟩), (33, ⟨13, [], [(11, { ent := some (f176_E n) }), (12, { ent := some (f119_E n) })]⟩), (34, ⟨5, [], []⟩)], join := [(24, f115_J24)], loop := [(9, ⟨f115_L9H, f115_L9O, rounds (f115_L9U n) n⟩), (16, ⟨f115_L16H, f115_L16O, rounds (f115_L16U n) n⟩), (30, ⟨f115_L30H, f115_L30O, rounds (f115_L30U n) n⟩), (26, ⟨f115_L26H, f115_L26O, rounds (f115_L26U n) n⟩), (6, ⟨f115_L6H, f115_L6O, rounds (f115_L6U n) n⟩)], any := [(28, f115_G28)] }
set_option maxHeartbeats 8000000 in
theorem f115_A28 (n : Nat) : FamAll (tyOf Tryz.prog) ⟨193, []⟩ [(16, { ent := some (f118_E n) })] f115_G28 (regOps ((bodyOf Tryz.f115).at [1, 1, 1, 1, 1, 0, 1, 0, 0, 1, 0, 0, 1, 1, 1, 1, 1, 1, 0, 0, 1, 0, 0, 0])) := by
 refine ⟨by kernel_rfl, fun w q hq => ?_⟩
 have e : WT [(16, { ent := some (f118_E n) })] (swapIdx (regOps ((bodyOf Tryz.f115).at [1, 1, 1, 1, 1, 0, 1, 0, 0, 1, 0, 0, 1, 1, 1, 1, 1, 1, 0, 0, 1, 0, 0, 0])).toList) q = (∃ (y0 : HL (f118_E n).rs) (q0 : List (Nat × RV)), q = (16, .sv (resSV (f118_E n).rs y0)) :: q0 ∧ q0 = []) := by kernel_rfl
 rw [e] at hq
 obtain ⟨y0, q0, rfl, rfl⟩ := hq
 all_goals exact .inr ⟨18, by kernel_rfl, by kernel_rfl, by kernel_rfl⟩
theorem f115_ents (α : Type) (n : Nat) : AllS Tryz.prog (entsOf (f115_D α n).reg) := ⟨f106_ok n, f116_ok n, f106_ok n, f138_ok n, f176_ok n, f118_ok n, f176_ok n, f119_ok n, f176_ok n, f119_ok n, trivial⟩
theorem f115_L9_d (α : Type) (n : Nat) : D3.OK Tryz.prog (tyOf Tryz.prog) ⟨193, []⟩ (f115_D α n) ((bodyOf Tryz.f115).at [1, 1, 1, 1, 1, 0, 1, 0, 0, 1, 0, 0, 1, 0, 0, 0]) :=
 D3.OK.mk3a (f115_ents α n) (show loopsOf ((bodyOf Tryz.f115).at [1, 1, 1, 1, 1, 0, 1, 0, 0, 1, 0, 0, 1, 0, 0, 0]) = [] by kernel_rfl) trivial (show anysOf ((bodyOf Tryz.f115).at [1, 1, 1, 1, 1, 0, 1, 0, 0, 1, 0, 0, 1, 0, 0, 0]) = [] by kernel_rfl) trivial
theorem f115_L9_ok (α : Type) (n : Nat) : LO.Sound (α := α) Tryz.prog ⟨193, []⟩ ⟨f115_L9H, f115_L9O, rounds (f115_L9U n) n⟩ (.loop ((bodyOf Tryz.f115).at [1, 1, 1, 1, 1, 0, 1, 0, 0, 1, 0, 0, 1, 0, 0, 0])) :=
 loop_ok (tyOf_ok _) prog_fol (f115_L9U n) (f115_L9_d α n) (by intro v f ks; kernel_rfl) n
theorem f115_L16_d (α : Type) (n : Nat) : D3.OK Tryz.prog (tyOf Tryz.prog) ⟨193, []⟩ (f115_D α n) ((bodyOf Tryz.f115).at [1, 1, 1, 1, 1, 0, 1, 0, 0, 1, 0, 0, 1, 1, 1, 0, 1, 0, 1, 0, 1, 0, 0]) :=
 D3.OK.mk3a (f115_ents α n) (show loopsOf ((bodyOf Tryz.f115).at [1, 1, 1, 1, 1, 0, 1, 0, 0, 1, 0, 0, 1, 1, 1, 0, 1, 0, 1, 0, 1, 0, 0]) = [] by kernel_rfl) trivial (show anysOf ((bodyOf Tryz.f115).at [1, 1, 1, 1, 1, 0, 1, 0, 0, 1, 0, 0, 1, 1, 1, 0, 1, 0, 1, 0, 1, 0, 0]) = [] by kernel_rfl) trivial
theorem f115_L16_ok (α : Type) (n : Nat) : LO.Sound (α := α) Tryz.prog ⟨193, []⟩ ⟨f115_L16H, f115_L16O, rounds (f115_L16U n) n⟩ (.loop ((bodyOf Tryz.f115).at [1, 1, 1, 1, 1, 0, 1, 0, 0, 1, 0, 0, 1, 1, 1, 0, 1, 0, 1, 0, 1, 0, 0])) :=
 loop_ok (tyOf_ok _) prog_fol (f115_L16U n) (f115_L16_d α n) (by intro v f ks; kernel_rfl) n
theorem f115_L30_d (α : Type) (n : Nat) : D3.OK Tryz.prog (tyOf Tryz.prog) ⟨193, []⟩ (f115_D α n) ((bodyOf Tryz.f115).at [1, 1, 1, 1, 1, 0, 1, 0, 0, 1, 0, 0, 1, 1, 1, 1, 1, 1, 0, 0, 1, 0, 0, 1, 0, 1, 0, 0]) :=
 D3.OK.mk3a (f115_ents α n) (show loopsOf ((bodyOf Tryz.f115).at [1, 1, 1, 1, 1, 0, 1, 0, 0, 1, 0, 0, 1, 1, 1, 1, 1, 1, 0, 0, 1, 0, 0, 1, 0, 1, 0, 0]) = [] by kernel_rfl) trivial (show anysOf ((bodyOf Tryz.f115).at [1, 1, 1, 1, 1, 0, 1, 0, 0, 1, 0, 0, 1, 1, 1, 1, 1, 1, 0, 0, 1, 0, 0, 1, 0, 1, 0, 0]) = [(32, regOps ((bodyOf Tryz.f115).at [1, 1, 1, 1, 1, 0, 1, 0, 0, 1, 0, 0, 1, 1, 1, 1, 1, 1, 0, 0, 1, 0, 0, 1, 0, 1, 0, 0, 1, 0, 0]))] by kernel_rfl) ⟨fun X h => (by cases h), trivial⟩
theorem f115_L30_ok (α : Type) (n : Nat) : LO.Sound (α := α) Tryz.prog ⟨193, []⟩ ⟨f115_L30H, f115_L30O, rounds (f115_L30U n) n⟩ (.loop ((bodyOf Tryz.f115).at [1, 1, 1, 1, 1, 0, 1, 0, 0, 1, 0, 0, 1, 1, 1, 1, 1, 1, 0, 0, 1, 0, 0, 1, 0, 1, 0, 0])) :=
 loop_ok (tyOf_ok _) prog_fol (f115_L30U n) (f115_L30_d α n) (by intro v f ks; kernel_rfl) n
theorem f115_L26_d (α : Type) (n : Nat) : D3.OK Tryz.prog (tyOf Tryz.prog) ⟨193, []⟩ (f115_D α n) ((bodyOf Tryz.f115).at [1, 1, 1, 1, 1, 0, 1, 0, 0, 1, 0, 0, 1, 1, 1, 1, 1, 1, 0, 0]) :=
 D3.OK.mk3a (f115_ents α n) (show loopsOf ((bodyOf Tryz.f115).at [1, 1, 1, 1, 1, 0, 1, 0, 0, 1, 0, 0, 1, 1, 1, 1, 1, 1, 0, 0]) = [(30, (.loop ((bodyOf Tryz.f115).at [1, 1, 1, 1, 1, 0, 1, 0, 0, 1, 0, 0, 1, 1, 1, 1, 1, 1, 0, 0, 1, 0, 0, 1, 0, 1, 0, 0])))] by kernel_rfl) ⟨look_sound rfl (f115_L30_ok α n), trivial⟩ (show anysOf ((bodyOf Tryz.f115).at [1, 1, 1, 1, 1, 0, 1, 0, 0, 1, 0, 0, 1, 1, 1, 1, 1, 1, 0, 0]) = [(28, regOps ((bodyOf Tryz.f115).at [1, 1, 1, 1, 1, 0, 1, 0, 0, 1, 0, 0, 1, 1, 1, 1, 1, 1, 0, 0, 1, 0, 0, 0])), (33, regOps ((bodyOf Tryz.f115).at [1, 1, 1, 1, 1, 0, 1, 0, 0, 1, 0, 0, 1, 1, 1, 1, 1, 1, 0, 0, 1, 0, 0, 1, 1]))] by kernel_rfl) ⟨fun X h => (by cases h; exact f115_A28 n), fun X h => (by cases h), trivial⟩
theorem f115_L26_ok (α : Type) (n : Nat) : LO.Sound (α := α) Tryz.prog ⟨193, []⟩ ⟨f115_L26H, f115_L26O, rounds (f115_L26U n) n⟩ (.loop ((bodyOf Tryz.f115).at [1, 1, 1, 1, 1, 0, 1, 0, 0, 1, 0, 0, 1, 1, 1, 1, 1, 1, 0, 0])) :=
 loop_ok (tyOf_ok _) prog_fol (f115_L26U n) (f115_L26_d α n) (by intro v f ks; kernel_rfl) n
theorem f115_L6_d (α : Type) (n : Nat) : D3.OK Tryz.prog (tyOf Tryz.prog) ⟨193, []⟩ (f115_D α n) ((bodyOf Tryz.f115).at [1, 1, 1, 1, 1, 0, 1, 0, 0]) :=
 D3.OK.mk3a (f115_ents α n) (show loopsOf ((bodyOf Tryz.f115).at [1, 1, 1, 1, 1, 0, 1, 0, 0]) = [(9, (.loop ((bodyOf Tryz.f115).at [1, 1, 1, 1, 1, 0, 1, 0, 0, 1, 0, 0, 1, 0, 0, 0]))), (16, (.loop ((bodyOf Tryz.f115).at [1, 1, 1, 1, 1, 0, 1, 0, 0, 1, 0, 0, 1, 1, 1, 0, 1, 0, 1, 0, 1, 0, 0]))), (26, (.loop ((bodyOf Tryz.f115).at [1, 1, 1, 1, 1, 0, 1, 0, 0, 1, 0, 0, 1, 1, 1, 1, 1, 1, 0, 0])))] by kernel_rfl) ⟨look_sound rfl (f115_L9_ok α n), look_sound rfl (f115_L16_ok α n), look_sound rfl (f115_L26_ok α n), trivial⟩ (show anysOf ((bodyOf Tryz.f115).at [1, 1, 1, 1, 1, 0, 1, 0, 0]) = [(24, regOps ((bodyOf Tryz.f115).at [1, 1, 1, 1, 1, 0, 1, 0, 0, 1, 0, 0, 1, 1, 1, 1, 0]))] by kernel_rfl) ⟨fun X h => (by cases h), trivial⟩
theorem f115_L6_ok (α : Type) (n : Nat) : LO.Sound (α := α) Tryz.prog ⟨193, []⟩ ⟨f115_L6H, f115_L6O, rounds (f115_L6U n) n⟩ (.loop ((bodyOf Tryz.f115).at [1, 1, 1, 1, 1, 0, 1, 0, 0])) :=
 loop_ok (tyOf_ok _) prog_fol (f115_L6U n) (f115_L6_d α n) (by intro v f ks; kernel_rfl) n
theorem f115_d (α : Type) (n : Nat) : D3.OK Tryz.prog (tyOf Tryz.prog) ⟨193, []⟩ (f115_D α n) (bodyOf Tryz.f115) :=
 D3.OK.mk3a (f115_ents α n) (show loopsOf (bodyOf Tryz.f115) = [(6, (.loop ((bodyOf Tryz.f115).at [1, 1, 1, 1, 1, 0, 1, 0, 0])))] by kernel_rfl) ⟨look_sound rfl (f115_L6_ok α n), trivial⟩ (show anysOf (bodyOf Tryz.f115) = [(34, regOps ((bodyOf Tryz.f115).at [1, 1, 1, 1, 1, 1, 0]))] by kernel_rfl) ⟨fun X h => (by cases h), trivial⟩
theorem f115_ok (n : Nat) : (f115_E n).Sound Tryz.prog :=
 fn_ok (tyOf_ok _) prog_fol (f115_D _ n) (show Tryz.prog.funcs[115]? = some Tryz.f115 by kernel_rfl) (by kernel_rfl) (show Tryz.f115.body = some (bodyOf Tryz.f115) by kernel_rfl) rfl rfl (Nat.le_of_ble_eq_true rfl) (f115_d _ n) (by intro x; kernel_rfl) 

def f117B_L3B {α : Type} (n : Nat) (s0 s4 : Int) (b5 : LR) (f : Int → Int → LR → Option α) (k0 : LR → Option α) : Option α :=
 bif (decide (s4 < s0)) then
  ob (f106 n 0) fun r_1 =>
  gd (decide ((b5.length + 1) * 56 ≤ 140737488355328)) (
   f s0 (W (s4 + 1)) (b5 ++ [r_1]))
 else
  k0 b5
abbrev f117B_L3H : Tm := ⟨[(0, .d hI), (3, .k (.hw 5)), (4, .d hI)], [(5, .arr 30 hR false)], [13], []⟩
abbrev f117B_L3X0 : Tm := ⟨[(3, .k (.hw 5))], [(5, .arr 30 hR false)], [], []⟩
abbrev f117B_L3O : List (Exit × Tm) := [(.exit 0, f117B_L3X0)]
def f117B_L3U {α : Type} (n : Nat) (v : f117B_L3H.den) (f : f117B_L3H.den → Option α) (ks : KS α f117B_L3O) : Option α := f117B_L3B n v.1.1 v.1.2.2.1 v.2.1 (fun s0 s4 b5 => f ((s0, (), s4, ()), (b5, ()))) (fun w0 => ks.1 (((), ()), (w0, ())))
def f117B_L3 {α : Type} (n m : Nat) (s0 s4 : Int) (b5 : LR) (k0 : LR → Option α) : Option α := rounds (f117B_L3U n) m ((s0, (), s4, ()), (b5, ())) (fun w => k0 w.2.1, ())
theorem f117B_L3_0 {α n s0 s4 b5 k0} : f117B_L3 (α := α) n 0 s0 s4 b5 k0 = none := rfl
theorem f117B_L3_s {α n m s0 s4 b5 k0} : f117B_L3 (α := α) n (m + 1) s0 s4 b5 k0 = f117B_L3B n s0 s4 b5 (fun s0 s4 b5 => f117B_L3 n m s0 s4 b5 k0) k0 := rfl
def f117B (n : Nat) (a0 : Int) : Option LR :=
 f117B_L3 n n a0 0 []
  (fun z_2 => (
   some z_2))
def f117B_E (n : Nat) : Ent3 := ⟨117, [.im hI], [[.one (.own 30 hR)]], fun x => f117B n x⟩
def f117B_D (α : Type) (n : Nat) : D3 α := { reg := [(1, ⟨0, [], [(0, { sh := some hR })]⟩), (5, ⟨0, [], [(1, { ent := some (f106_E n) }), (2, { sh := some hR })]⟩)], join := [], loop := [(3, ⟨f117B_L3H, f117B_L3O, rounds (f117B_L3U n) n⟩)] }
theorem f117B_ents (α : Type) (n : Nat) : AllS Tryz.prog (entsOf (f117B_D α n).reg) := ⟨f106_ok n, trivial⟩
theorem f117B_L3_d (α : Type) (n : Nat) : D3.OK Tryz.prog (tyOf Tryz.prog) ⟨16, []⟩ (f117B_D α n) ((bodyOf Tryz.f117).at [1, 1, 0, 1, 0, 0]) :=
 D3.OK.mk3 (f117B_ents α n) (show loopsOf ((bodyOf Tryz.f117).at [1, 1, 0, 1, 0, 0]) = [] by kernel_rfl) trivial
theorem f117B_L3_ok (α : Type) (n : Nat) : LO.Sound (α := α) Tryz.prog ⟨16, []⟩ ⟨f117B_L3H, f117B_L3O, rounds (f117B_L3U n) n⟩ (.loop ((bodyOf Tryz.f117).at [1, 1, 0, 1, 0, 0])) :=
 loop_ok (tyOf_ok _) prog_fol (f117B_L3U n) (f117B_L3_d α n) (by intro v f ks; kernel_rfl) n
theorem f117B_d (α : Type) (n : Nat) : D3.OK Tryz.prog (tyOf Tryz.prog) ⟨16, []⟩ (f117B_D α n) (bodyOf Tryz.f117) :=
 D3.OK.mk3 (f117B_ents α n) (show loopsOf (bodyOf Tryz.f117) = [(3, (.loop ((bodyOf Tryz.f117).at [1, 1, 0, 1, 0, 0])))] by kernel_rfl) ⟨look_sound rfl (f117B_L3_ok α n), trivial⟩
theorem f117B_ok (n : Nat) : (f117B_E n).Sound Tryz.prog :=
 fn_okB (tyOf_ok _) prog_fol (f117B_D _ n) (show Tryz.prog.funcs[117]? = some Tryz.f117 by kernel_rfl) (by kernel_rfl) (show Tryz.f117.body = some (bodyOf Tryz.f117) by kernel_rfl) rfl rfl (Nat.le_of_ble_eq_true rfl) (f117B_d _ n) (by intro x; kernel_rfl) 

def f120B_L3B {α : Type} (n : Nat) (s0 : LR) (s6 : Int) (c4_0 c5_0 : Bool) (c5_1 c5_2 : LI) (b1001 : LR) (f : LR → Int → Bool → Bool → LI → LI → LR → Option α) (k0 : Bool → Bool → LI → LI → LR → Option α) : Option α :=
 bif (decide (s6 < (s0.length : Int))) then
  gd (decide (0 ≤ s6) && decide (s6 < (s0.length : Int))) (
   let x_2 := s0.getD s6.toNat (false, [], [])
   gd (decide (0 ≤ s6) && decide (s6 < (b1001.length : Int))) (
    gd (decide (s6.toNat < b1001.length)) (
     let x_3 := b1001.getD s6.toNat (false, [], [])
     ob (f176 n x_2 x_3) fun r_4 =>
     ob (f146 n (c5_0, c5_1, c5_2) r_4) fun r_5 =>
     f s0 (W (s6 + 1)) c4_0 r_5.1 r_5.2.1 r_5.2.2 b1001)))
 else
  k0 c4_0 c5_0 c5_1 c5_2 b1001
abbrev f120B_L3H : Tm := ⟨[(0, .d hRs), (1, .k (.hw 1001)), (4, .k (.hp 4 0 0)), (5, .k (.hp 5 0 0)), (6, .d hI)], [(4, .var 30 true false [.d .bool, .d .nil, .d .nil]), (5, .var 30 true false [.d .bool, .d hIs, .d hIs]), (1001, .arr 30 hR false)], [], []⟩
abbrev f120B_L3X0 : Tm := ⟨[(4, .k (.hp 4 0 0)), (5, .k (.hp 5 0 0))], [(4, .var 30 true false [.d .bool, .d .nil, .d .nil]), (5, .var 30 true false [.d .bool, .d hIs, .d hIs]), (1001, .arr 30 hR false)], [], []⟩
abbrev f120B_L3O : List (Exit × Tm) := [(.exit 0, f120B_L3X0)]
def f120B_L3U {α : Type} (n : Nat) (v : f120B_L3H.den) (f : f120B_L3H.den → Option α) (ks : KS α f120B_L3O) : Option α := f120B_L3B n v.1.1 v.1.2.2.2.2.1 v.2.1.1 v.2.2.1.1 v.2.2.1.2.1 v.2.2.1.2.2.1 v.2.2.2.1 (fun s0 s6 c4_0 c5_0 c5_1 c5_2 b1001 => f ((s0, (), (), (), s6, ()), ((c4_0, (), (), ()), (c5_0, c5_1, c5_2, ()), b1001, ()))) (fun w0 w1 w2 w3 w4 => ks.1 (((), (), ()), ((w0, (), (), ()), (w1, w2, w3, ()), w4, ())))
def f120B_L3 {α : Type} (n m : Nat) (s0 : LR) (s6 : Int) (c4_0 c5_0 : Bool) (c5_1 c5_2 : LI) (b1001 : LR) (k0 : Bool → Bool → LI → LI → LR → Option α) : Option α := rounds (f120B_L3U n) m ((s0, (), (), (), s6, ()), ((c4_0, (), (), ()), (c5_0, c5_1, c5_2, ()), b1001, ())) (fun w => k0 w.2.1.1 w.2.2.1.1 w.2.2.1.2.1 w.2.2.1.2.2.1 w.2.2.2.1, ())
theorem f120B_L3_0 {α n s0 s6 c4_0 c5_0 c5_1 c5_2 b1001 k0} : f120B_L3 (α := α) n 0 s0 s6 c4_0 c5_0 c5_1 c5_2 b1001 k0 = none := rfl
theorem f120B_L3_s {α n m s0 s6 c4_0 c5_0 c5_1 c5_2 b1001 k0} : f120B_L3 (α := α) n (m + 1) s0 s6 c4_0 c5_0 c5_1 c5_2 b1001 k0 = f120B_L3B n s0 s6 c4_0 c5_0 c5_1 c5_2 b1001 (fun s0 s6 c4_0 c5_0 c5_1 c5_2 b1001 => f120B_L3 n m s0 s6 c4_0 c5_0 c5_1 c5_2 b1001 k0) k0 := rfl
def f120B (n : Nat) (a0 a1 : LR) : Option (Rq × LR) :=
 ob (f106 n 0) fun r_1 =>
 f120B_L3 n n a0 0 false r_1.1 r_1.2.1 r_1.2.2 a1
  (fun z_6 z_7 z_8 z_9 z_10 => (
   some ((z_7, z_8, z_9), z_10)))
def f120B_E (n : Nat) : Ent3 := ⟨120, [.im hRs, .one (.own 30 hR)], [[.im hR]], fun x => f120B n x.1 x.2⟩
def f120B_D (α : Type) (n : Nat) : D3 α := { reg := [(1, ⟨0, [], [(0, { ent := some (f106_E n) })]⟩), (5, ⟨10, [], [(9, { ent := some (f176_E n) }), (10, { ent := some (f146_E n) })]⟩)], join := [], loop := [(3, ⟨f120B_L3H, f120B_L3O, rounds (f120B_L3U n) n⟩)] }
theorem f120B_ents (α : Type) (n : Nat) : AllS Tryz.prog (entsOf (f120B_D α n).reg) := ⟨f106_ok n, f176_ok n, f146_ok n, trivial⟩
theorem f120B_L3_d (α : Type) (n : Nat) : D3.OK Tryz.prog (tyOf Tryz.prog) ⟨26, []⟩ (f120B_D α n) ((bodyOf Tryz.f120).at [1, 1, 0, 1, 0, 0]) :=
 D3.OK.mk3 (f120B_ents α n) (show loopsOf ((bodyOf Tryz.f120).at [1, 1, 0, 1, 0, 0]) = [] by kernel_rfl) trivial
theorem f120B_L3_ok (α : Type) (n : Nat) : LO.Sound (α := α) Tryz.prog ⟨26, []⟩ ⟨f120B_L3H, f120B_L3O, rounds (f120B_L3U n) n⟩ (.loop ((bodyOf Tryz.f120).at [1, 1, 0, 1, 0, 0])) :=
 loop_ok (tyOf_ok _) prog_fol (f120B_L3U n) (f120B_L3_d α n) (by intro v f ks; kernel_rfl) n
theorem f120B_d (α : Type) (n : Nat) : D3.OK Tryz.prog (tyOf Tryz.prog) ⟨26, []⟩ (f120B_D α n) (bodyOf Tryz.f120) :=
 D3.OK.mk3 (f120B_ents α n) (show loopsOf (bodyOf Tryz.f120) = [(3, (.loop ((bodyOf Tryz.f120).at [1, 1, 0, 1, 0, 0])))] by kernel_rfl) ⟨look_sound rfl (f120B_L3_ok α n), trivial⟩
theorem f120B_ok (n : Nat) : (f120B_E n).Sound Tryz.prog :=
 fn_okB (tyOf_ok _) prog_fol (f120B_D _ n) (show Tryz.prog.funcs[120]? = some Tryz.f120 by kernel_rfl) (by kernel_rfl) (show Tryz.f120.body = some (bodyOf Tryz.f120) by kernel_rfl) rfl rfl (Nat.le_of_ble_eq_true rfl) (f120B_d _ n) (by intro x; kernel_rfl) 

def f53_L7B {α : Type} (n : Nat) (s6 : Int) (s7 s8 : LR) (s11 : Int) (b310 : LR) (f : Int → LR → LR → Int → LR → Option α) (k0 : LR → Option α) : Option α :=
 bif (decide (s11 ≥ 0)) then
  gd (decide (0 ≤ s11) && decide (s11 < (s8.length : Int))) (
   let x_4 := s8.getD s11.toNat (false, [], [])
   gd (decide (0 ≤ (W (s11 * s6))) && decide ((W (s11 * s6)) ≤ (W ((W (s11 + 1)) * s6))) && decide ((W ((W (s11 + 1)) * s6)) ≤ (s7.length : Int))) (
    ob (f120B n ((s7.drop ((W (s11 * s6)).toNat)).take ((W ((W (s11 + 1)) * s6)).toNat - (W (s11 * s6)).toNat)) b310) fun r_5 =>
    gd (Nat.beq r_5.2.length b310.length && true) (
     ob (f119 n x_4 r_5.1) fun r_6 =>
     gd (decide (0 ≤ (W ((W (s11 * s6)) + s11))) && decide ((W ((W (s11 * s6)) + s11)) < (s7.length : Int))) (
      let x_7 := s7.getD ((W ((W (s11 * s6)) + s11)).toNat) (false, [], [])
      ob (f118 n r_6 x_7) fun r_8 =>
      gd (decide (0 ≤ s11) && decide (s11 < (r_5.2.length : Int))) (
       gd (decide (s11.toNat < r_5.2.length)) (
        f s6 s7 s8 (W (s11 - 1)) (r_5.2.set s11.toNat r_8)))))))
 else
  k0 b310
abbrev f53_L7H : Tm := ⟨[(6, .d hI), (7, .d hRs), (8, .d hRs), (10, .k (.hw 310)), (11, .d hI)], [(310, .arr 30 hR false)], [9], []⟩
abbrev f53_L7X0 : Tm := ⟨[(10, .k (.hw 310))], [(310, .arr 30 hR false)], [], []⟩
abbrev f53_L7O : List (Exit × Tm) := [(.exit 0, f53_L7X0)]
def f53_L7U {α : Type} (n : Nat) (v : f53_L7H.den) (f : f53_L7H.den → Option α) (ks : KS α f53_L7O) : Option α := f53_L7B n v.1.1 v.1.2.1 v.1.2.2.1 v.1.2.2.2.2.1 v.2.1 (fun s6 s7 s8 s11 b310 => f ((s6, s7, s8, (), s11, ()), (b310, ()))) (fun w0 => ks.1 (((), ()), (w0, ())))
def f53_L7 {α : Type} (n m : Nat) (s6 : Int) (s7 s8 : LR) (s11 : Int) (b310 : LR) (k0 : LR → Option α) : Option α := rounds (f53_L7U n) m ((s6, s7, s8, (), s11, ()), (b310, ())) (fun w => k0 w.2.1, ())
theorem f53_L7_0 {α n s6 s7 s8 s11 b310 k0} : f53_L7 (α := α) n 0 s6 s7 s8 s11 b310 k0 = none := rfl
theorem f53_L7_s {α n m s6 s7 s8 s11 b310 k0} : f53_L7 (α := α) n (m + 1) s6 s7 s8 s11 b310 k0 = f53_L7B n s6 s7 s8 s11 b310 (fun s6 s7 s8 s11 b310 => f53_L7 n m s6 s7 s8 s11 b310 k0) k0 := rfl
abbrev f53_G9 : Tm := ⟨[(6, .d hI), (7, .d hRs), (8, .d hRs), (10, .k (.hw 310)), (11, .d hI)], [(310, .arr 30 hR false)], [], []⟩
def f53 (n : Nat) (a0 a1 : LR) : Option (LR × Bool) :=
 ob (f115 n a0 a1) fun r_1 =>
 ob (f116 n r_1.2.2) fun r_2 =>
 bif r_2 then
  some ([], false)
 else
  ob (f117B n (a1.length : Int)) fun r_3 =>
  f53_L7 n n (a1.length : Int) r_1.1 r_1.2.1 (W ((a1.length : Int) - 1)) r_3
   (fun z_9 => (
    some (z_9, true)))
def f53_E (n : Nat) : Ent := ⟨53, [hRs, hRs], [hRs, .bool], fun x => f53 n x.1 x.2⟩
def f53_D (α : Type) (n : Nat) : D3 α := { reg := [(2, ⟨0, [], [(2, { ent := some (f115_E n) })]⟩), (3, ⟨0, [], [(1, { ent := some (f116_E n) })]⟩), (4, ⟨0, [], [(0, { sh := some hR })]⟩), (5, ⟨0, [], [(1, { entB := some (f117B_E n), hb := 310 })]⟩), (9, ⟨0, [], [(16, { entB := some (f120B_E n), hb := 320 }), (17, { ent := some (f119_E n) }), (26, { ent := some (f118_E n) })]⟩)], join := [], loop := [(7, ⟨f53_L7H, f53_L7O, rounds (f53_L7U n) n⟩)], any := [(9, f53_G9)] }
set_option maxHeartbeats 8000000 in
theorem f53_A9 (n : Nat) : FamAll (tyOf Tryz.prog) ⟨61, []⟩ [(16, { entB := some (f120B_E n), hb := 320 }), (17, { ent := some (f119_E n) }), (26, { ent := some (f118_E n) })] f53_G9 (regOps ((bodyOf Tryz.f53).at [1, 1, 1, 1, 1, 0, 1, 0, 0, 1, 0, 0])) := by
 refine ⟨by kernel_rfl, fun w q hq => ?_⟩
 have e : WT [(16, { entB := some (f120B_E n), hb := 320 }), (17, { ent := some (f119_E n) }), (26, { ent := some (f118_E n) })] (swapIdx (regOps ((bodyOf Tryz.f53).at [1, 1, 1, 1, 1, 0, 1, 0, 0, 1, 0, 0])).toList) q = (∃ (y0 : HF (ownsP 1000 (f120B_E n).ts) (f120B_E n).forms) (q0 : List (Nat × RV)), q = (16, .bx (f120B_E n) y0) :: q0 ∧ ∃ (y1 : HL (f119_E n).rs) (q1 : List (Nat × RV)), q0 = (17, .sv (resSV (f119_E n).rs y1)) :: q1 ∧ ∃ (y2 : HL (f118_E n).rs) (q2 : List (Nat × RV)), q1 = (26, .sv (resSV (f118_E n).rs y2)) :: q2 ∧ q2 = []) := by kernel_rfl
 rw [e] at hq
 obtain ⟨y0, q0, rfl, y1, q1, rfl, y2, q2, rfl, rfl⟩ := hq
 all_goals exact .inr ⟨27, by kernel_rfl, by kernel_rfl, by kernel_rfl⟩
theorem f53_ents (α : Type) (n : Nat) : AllS Tryz.prog (entsOf (f53_D α n).reg) := ⟨f115_ok n, f116_ok n, f117B_ok n, f120B_ok n, f119_ok n, f118_ok n, trivial⟩
theorem f53_L7_d (α : Type) (n : Nat) : D3.OK Tryz.prog (tyOf Tryz.prog) ⟨61, []⟩ (f53_D α n) ((bodyOf Tryz.f53).at [1, 1, 1, 1, 1, 0, 1, 0, 0]) :=
 D3.OK.mk3a (f53_ents α n) (show loopsOf ((bodyOf Tryz.f53).at [1, 1, 1, 1, 1, 0, 1, 0, 0]) = [] by kernel_rfl) trivial (show anysOf ((bodyOf Tryz.f53).at [1, 1, 1, 1, 1, 0, 1, 0, 0]) = [(9, regOps ((bodyOf Tryz.f53).at [1, 1, 1, 1, 1, 0, 1, 0, 0, 1, 0, 0]))] by kernel_rfl) ⟨fun X h => (by cases h; exact f53_A9 n), trivial⟩
theorem f53_L7_ok (α : Type) (n : Nat) : LO.Sound (α := α) Tryz.prog ⟨61, []⟩ ⟨f53_L7H, f53_L7O, rounds (f53_L7U n) n⟩ (.loop ((bodyOf Tryz.f53).at [1, 1, 1, 1, 1, 0, 1, 0, 0])) :=
 loop_ok (tyOf_ok _) prog_fol (f53_L7U n) (f53_L7_d α n) (by intro v f ks; kernel_rfl) n
theorem f53_d (α : Type) (n : Nat) : D3.OK Tryz.prog (tyOf Tryz.prog) ⟨61, []⟩ (f53_D α n) (bodyOf Tryz.f53) :=
 D3.OK.mk3a (f53_ents α n) (show loopsOf (bodyOf Tryz.f53) = [(7, (.loop ((bodyOf Tryz.f53).at [1, 1, 1, 1, 1, 0, 1, 0, 0])))] by kernel_rfl) ⟨look_sound rfl (f53_L7_ok α n), trivial⟩ (show anysOf (bodyOf Tryz.f53) = [] by kernel_rfl) trivial
theorem f53_ok (n : Nat) : (f53_E n).Sound Tryz.prog :=
 fn_ok (tyOf_ok _) prog_fol (f53_D _ n) (show Tryz.prog.funcs[53]? = some Tryz.f53 by kernel_rfl) (by kernel_rfl) (show Tryz.f53.body = some (bodyOf Tryz.f53) by kernel_rfl) rfl rfl (Nat.le_of_ble_eq_true rfl) (f53_d _ n) (by intro x; kernel_rfl) 

def f121 (n : Nat) (a0 : Rq) : Option Bool :=
 bif (decide ((a0.2.1.length : Int) ≤ 40)) then
  some (decide ((a0.2.2.length : Int) ≤ 40))
 else
  some false
def f121_E (n : Nat) : Ent := ⟨121, [hR], [.bool], fun x => f121 n x⟩
def f121_D (α : Type) (n : Nat) : D3 α := { reg := [], join := [], loop := [] }
theorem f121_ents (α : Type) (n : Nat) : AllS Tryz.prog (entsOf (f121_D α n).reg) := trivial
theorem f121_d (α : Type) (n : Nat) : D3.OK Tryz.prog (tyOf Tryz.prog) ⟨13, []⟩ (f121_D α n) (bodyOf Tryz.f121) :=
 D3.OK.mk3 (f121_ents α n) (show loopsOf (bodyOf Tryz.f121) = [] by kernel_rfl) trivial
theorem f121_ok (n : Nat) : (f121_E n).Sound Tryz.prog :=
 fn_ok (tyOf_ok _) prog_fol (f121_D _ n) (show Tryz.prog.funcs[121]? = some Tryz.f121 by kernel_rfl) (by kernel_rfl) (show Tryz.f121.body = some (bodyOf Tryz.f121) by kernel_rfl) rfl rfl (Nat.le_of_ble_eq_true rfl) (f121_d _ n) (by intro x; kernel_rfl) 

abbrev f122_G1 : Tm := ⟨[(1, .k (.hp 1 0 0)), (2, .k (.hp 2 0 0))], [(1, .var 30 true false [.d .bool, .d hIs, .d hIs]), (2, .var 30 true false [.d .bool, .d .nil, .d .nil])], [], []⟩
def f122 (n : Nat) (a0 : Rq) : Option Rq :=
 gd (decide ((0 + a0.2.1.length) * 8 ≤ 140737488355328)) (
  gd (decide ((0 + a0.2.2.length) * 8 ≤ 140737488355328)) (
   some a0))
def f122_E (n : Nat) : Ent := ⟨122, [hR], [hR], fun x => f122 n x⟩
def f122_D (α : Type) (n : Nat) : D3 α := { reg := [(1, ⟨0, [], [(2, { sh := some hI }), (6, { sh := some hI })]⟩)], join := [], loop := [], any := [(1, f122_G1)] }
set_option maxHeartbeats 8000000 in
theorem f122_A1 (n : Nat) : FamAll (tyOf Tryz.prog) ⟨14, []⟩ [(2, { sh := some hI }), (6, { sh := some hI })] f122_G1 (regOps ((bodyOf Tryz.f122).at [1, 0])) := by
 refine ⟨by kernel_rfl, fun w q hq => ?_⟩
 have e : WT [(2, { sh := some hI }), (6, { sh := some hI })] (swapIdx (regOps ((bodyOf Tryz.f122).at [1, 0])).toList) q = (q = []) := by kernel_rfl
 rw [e] at hq
 obtain rfl := hq
 all_goals exact .inl (FamEq.mk (by kernel_rfl))
theorem f122_ents (α : Type) (n : Nat) : AllS Tryz.prog (entsOf (f122_D α n).reg) := trivial
theorem f122_d (α : Type) (n : Nat) : D3.OK Tryz.prog (tyOf Tryz.prog) ⟨14, []⟩ (f122_D α n) (bodyOf Tryz.f122) :=
 D3.OK.mk3a (f122_ents α n) (show loopsOf (bodyOf Tryz.f122) = [] by kernel_rfl) trivial (show anysOf (bodyOf Tryz.f122) = [(1, regOps ((bodyOf Tryz.f122).at [1, 0]))] by kernel_rfl) ⟨fun X h => (by cases h; exact f122_A1 n), trivial⟩
theorem f122_ok (n : Nat) : (f122_E n).Sound Tryz.prog :=
 fn_ok (tyOf_ok _) prog_fol (f122_D _ n) (show Tryz.prog.funcs[122]? = some Tryz.f122 by kernel_rfl) (by kernel_rfl) (show Tryz.f122.body = some (bodyOf Tryz.f122) by kernel_rfl) rfl rfl (Nat.le_of_ble_eq_true rfl) (f122_d _ n) (by intro x; kernel_rfl) 

def f54_L3B {α : Type} (n : Nat) (s0 : LR) (s5 : Int) (b6 : LR) (f : LR → Int → LR → Option α) (k0 : Int → LR → Option α) (k1 : LR → Option α) : Option α :=
 bif (decide (s5 < (s0.length : Int))) then
  gd (decide (0 ≤ s5) && decide (s5 < (s0.length : Int))) (
   let x_1 := s0.getD s5.toNat (false, [], [])
   ob (f121 n x_1) fun r_2 =>
   bif (!r_2) then
    k0 7 []
   else
    gd (decide (0 ≤ s5) && decide (s5 < (s0.length : Int))) (
     let x_3 := s0.getD s5.toNat (false, [], [])
     ob (f122 n x_3) fun r_4 =>
     gd (decide ((b6.length + 1) * 56 ≤ 140737488355328)) (
      f s0 (W (s5 + 1)) (b6 ++ [r_4]))))
 else
  k1 b6
abbrev f54_L3H : Tm := ⟨[(0, .d hRs), (4, .k (.hw 6)), (5, .d hI)], [(6, .arr 30 hR false)], [26], []⟩
abbrev f54_L3X0 : Tm := ⟨[(2, .k (.hw 19)), (3, .d hI)], [(19, .arr 30 hR false)], [6], []⟩
abbrev f54_L3X1 : Tm := ⟨[(4, .k (.hw 6))], [(6, .arr 30 hR false)], [], []⟩
abbrev f54_L3O : List (Exit × Tm) := [(.ret, f54_L3X0), (.exit 0, f54_L3X1)]
def f54_L3U {α : Type} (n : Nat) (v : f54_L3H.den) (f : f54_L3H.den → Option α) (ks : KS α f54_L3O) : Option α := f54_L3B n v.1.1 v.1.2.2.1 v.2.1 (fun s0 s5 b6 => f ((s0, (), s5, ()), (b6, ()))) (fun w0 w1 => ks.1 (((), w0, ()), (w1, ()))) (fun w0 => ks.2.1 (((), ()), (w0, ())))
def f54_L3 {α : Type} (n m : Nat) (s0 : LR) (s5 : Int) (b6 : LR) (k0 : Int → LR → Option α) (k1 : LR → Option α) : Option α := rounds (f54_L3U n) m ((s0, (), s5, ()), (b6, ())) (fun w => k0 w.1.2.1 w.2.1, fun w => k1 w.2.1, ())
theorem f54_L3_0 {α n s0 s5 b6 k0 k1} : f54_L3 (α := α) n 0 s0 s5 b6 k0 k1 = none := rfl
theorem f54_L3_s {α n m s0 s5 b6 k0 k1} : f54_L3 (α := α) n (m + 1) s0 s5 b6 k0 k1 = f54_L3B n s0 s5 b6 (fun s0 s5 b6 => f54_L3 n m s0 s5 b6 k0 k1) k0 k1 := rfl
def f54 (n : Nat) (a0 : LR) : Option (LR × Int) :=
 f54_L3 n n a0 0 []
  (fun z_5 z_6 => (
   some (z_6, z_5)))
  (fun z_7 => (
   some (z_7, 0)))
def f54_E (n : Nat) : Ent := ⟨54, [hRs], [hRs, hI], fun x => f54 n x⟩
def f54_D (α : Type) (n : Nat) : D3 α := { reg := [(1, ⟨0, [], [(0, { sh := some hR })]⟩), (5, ⟨0, [], [(4, { ent := some (f121_E n) })]⟩), (6, ⟨0, [], [(0, { sh := some hR })]⟩), (7, ⟨0, [], [(5, { ent := some (f122_E n) }), (6, { sh := some hR })]⟩)], join := [], loop := [(3, ⟨f54_L3H, f54_L3O, rounds (f54_L3U n) n⟩)] }
theorem f54_ents (α : Type) (n : Nat) : AllS Tryz.prog (entsOf (f54_D α n).reg) := ⟨f121_ok n, f122_ok n, trivial⟩
theorem f54_L3_d (α : Type) (n : Nat) : D3.OK Tryz.prog (tyOf Tryz.prog) ⟨29, []⟩ (f54_D α n) ((bodyOf Tryz.f54).at [1, 1, 0, 1, 0, 0]) :=
 D3.OK.mk3 (f54_ents α n) (show loopsOf ((bodyOf Tryz.f54).at [1, 1, 0, 1, 0, 0]) = [] by kernel_rfl) trivial
theorem f54_L3_ok (α : Type) (n : Nat) : LO.Sound (α := α) Tryz.prog ⟨29, []⟩ ⟨f54_L3H, f54_L3O, rounds (f54_L3U n) n⟩ (.loop ((bodyOf Tryz.f54).at [1, 1, 0, 1, 0, 0])) :=
 loop_ok (tyOf_ok _) prog_fol (f54_L3U n) (f54_L3_d α n) (by intro v f ks; kernel_rfl) n
theorem f54_d (α : Type) (n : Nat) : D3.OK Tryz.prog (tyOf Tryz.prog) ⟨29, []⟩ (f54_D α n) (bodyOf Tryz.f54) :=
 D3.OK.mk3 (f54_ents α n) (show loopsOf (bodyOf Tryz.f54) = [(3, (.loop ((bodyOf Tryz.f54).at [1, 1, 0, 1, 0, 0])))] by kernel_rfl) ⟨look_sound rfl (f54_L3_ok α n), trivial⟩
theorem f54_ok (n : Nat) : (f54_E n).Sound Tryz.prog :=
 fn_ok (tyOf_ok _) prog_fol (f54_D _ n) (show Tryz.prog.funcs[54]? = some Tryz.f54 by kernel_rfl) (by kernel_rfl) (show Tryz.f54.body = some (bodyOf Tryz.f54) by kernel_rfl) rfl rfl (Nat.le_of_ble_eq_true rfl) (f54_d _ n) (by intro x; kernel_rfl) 

def f14 (n : Nat) (a0 a1 : LR) : Option (LR × Int) :=
 bif (decide ((a0.length : Int) > 4096)) then
  some ([], 2)
 else
  bif (decide ((a1.length : Int) > 4096)) then
   some ([], 2)
  else
   ob (f52 n a0 a1) fun r_1 =>
   bif (r_1 != 0) then
    some ([], r_1)
   else
    ob (f53 n a0 a1) fun r_2 =>
    bif (!r_2.2) then
     some ([], 5)
    else
     ob (f54 n r_2.1) fun r_3 =>
     some (r_3.1, r_3.2)
def f14_E (n : Nat) : Ent := ⟨14, [hRs, hRs], [hRs, hI], fun x => f14 n x.1 x.2⟩
def f14_D (α : Type) (n : Nat) : D3 α := { reg := [(2, ⟨0, [], [(0, { sh := some hR })]⟩), (3, ⟨0, [], [(2, { ent := some (f52_E n) })]⟩), (5, ⟨0, [], [(0, { sh := some hR })]⟩), (6, ⟨0, [], [(2, { ent := some (f53_E n) })]⟩), (8, ⟨0, [], [(0, { sh := some hR })]⟩), (9, ⟨0, [], [(1, { ent := some (f54_E n) })]⟩)], join := [], loop := [] }
theorem f14_ents (α : Type) (n : Nat) : AllS Tryz.prog (entsOf (f14_D α n).reg) := ⟨f52_ok n, f53_ok n, f54_ok n, trivial⟩
theorem f14_d (α : Type) (n : Nat) : D3.OK Tryz.prog (tyOf Tryz.prog) ⟨38, []⟩ (f14_D α n) (bodyOf Tryz.f14) :=
 D3.OK.mk3 (f14_ents α n) (show loopsOf (bodyOf Tryz.f14) = [] by kernel_rfl) trivial
theorem f14_ok (n : Nat) : (f14_E n).Sound Tryz.prog :=
 fn_ok (tyOf_ok _) prog_fol (f14_D _ n) (show Tryz.prog.funcs[14]? = some Tryz.f14 by kernel_rfl) (by kernel_rfl) (show Tryz.f14.body = some (bodyOf Tryz.f14) by kernel_rfl) rfl rfl (Nat.le_of_ble_eq_true rfl) (f14_d _ n) (by intro x; kernel_rfl) 

def f58B_L3B {α : Type} (n : Nat) (s0 : LR) (s1 s11 s12 : Int) (b10 : List LR) (f : LR → Int → Int → Int → (List LR) → Option α) (k0 : (List LR) → Option α) : Option α :=
 bif (decide (s12 < s11)) then
  gd (decide (0 ≤ (W (s12 * s1))) && decide ((W (s12 * s1)) ≤ (W ((W (s12 + 1)) * s1))) && decide ((W ((W (s12 + 1)) * s1)) ≤ (s0.length : Int))) (
   ob (f128B n ((s0.drop ((W (s12 * s1)).toNat)).take ((W ((W (s12 + 1)) * s1)).toNat - (W (s12 * s1)).toNat))) fun r_1 =>
   gd (decide ((b10.length + 1) * 24 ≤ 140737488355328)) (
    f s0 s1 s11 (W (s12 + 1)) (b10 ++ [r_1])))
 else
  k0 b10
abbrev f58B_L3H : Tm := ⟨[(0, .d hRs), (1, .d hI), (2, .d .nil), (7, .k (.hw 10)), (11, .d hI), (12, .d hI)], [(10, .arr 24 hRs false)], [36, 310], []⟩
abbrev f58B_L3X0 : Tm := ⟨[(7, .k (.hw 10))], [(10, .arr 24 hRs false)], [], []⟩
abbrev f58B_L3O : List (Exit × Tm) := [(.exit 0, f58B_L3X0)]
def f58B_L3U {α : Type} (n : Nat) (v : f58B_L3H.den) (f : f58B_L3H.den → Option α) (ks : KS α f58B_L3O) : Option α := f58B_L3B n v.1.1 v.1.2.1 v.1.2.2.2.2.1 v.1.2.2.2.2.2.1 v.2.1 (fun s0 s1 s11 s12 b10 => f ((s0, s1, (), (), s11, s12, ()), (b10, ()))) (fun w0 => ks.1 (((), ()), (w0, ())))
def f58B_L3 {α : Type} (n m : Nat) (s0 : LR) (s1 s11 s12 : Int) (b10 : List LR) (k0 : (List LR) → Option α) : Option α := rounds (f58B_L3U n) m ((s0, s1, (), (), s11, s12, ()), (b10, ())) (fun w => k0 w.2.1, ())
theorem f58B_L3_0 {α n s0 s1 s11 s12 b10 k0} : f58B_L3 (α := α) n 0 s0 s1 s11 s12 b10 k0 = none := rfl
theorem f58B_L3_s {α n m s0 s1 s11 s12 b10 k0} : f58B_L3 (α := α) n (m + 1) s0 s1 s11 s12 b10 k0 = f58B_L3B n s0 s1 s11 s12 b10 (fun s0 s1 s11 s12 b10 => f58B_L3 n m s0 s1 s11 s12 b10 k0) k0 := rfl
def f58B (n : Nat) (a0 : LR) (a1 : Int) (a2 : Unit) : Option (List LR) :=
 f58B_L3 n n a0 a1 a1 0 []
  (fun z_2 => (
   some z_2))
def f58B_E (n : Nat) : Ent3 := ⟨58, [.im hRs, .im hI, .im .nil], [[.one (.own 24 hRs)]], fun x => f58B n x.1 x.2.1 x.2.2⟩
def f58B_D (α : Type) (n : Nat) : D3 α := { reg := [(1, ⟨0, [], [(0, { sh := some hRs })]⟩), (5, ⟨0, [], [(9, { entB := some (f128B_E n), hb := 310 })]⟩), (8, ⟨0, [], [(2, { sh := some hRs, fz := [(35, hRs)] })]⟩)], join := [], loop := [(3, ⟨f58B_L3H, f58B_L3O, rounds (f58B_L3U n) n⟩)] }
theorem f58B_ents (α : Type) (n : Nat) : AllS Tryz.prog (entsOf (f58B_D α n).reg) := ⟨f128B_ok n, trivial⟩
theorem f58B_L3_d (α : Type) (n : Nat) : D3.OK Tryz.prog (tyOf Tryz.prog) ⟨40, []⟩ (f58B_D α n) ((bodyOf Tryz.f58).at [1, 1, 0, 1, 0, 0]) :=
 D3.OK.mk3 (f58B_ents α n) (show loopsOf ((bodyOf Tryz.f58).at [1, 1, 0, 1, 0, 0]) = [] by kernel_rfl) trivial
theorem f58B_L3_ok (α : Type) (n : Nat) : LO.Sound (α := α) Tryz.prog ⟨40, []⟩ ⟨f58B_L3H, f58B_L3O, rounds (f58B_L3U n) n⟩ (.loop ((bodyOf Tryz.f58).at [1, 1, 0, 1, 0, 0])) :=
 loop_ok (tyOf_ok _) prog_fol (f58B_L3U n) (f58B_L3_d α n) (by intro v f ks; kernel_rfl) n
theorem f58B_d (α : Type) (n : Nat) : D3.OK Tryz.prog (tyOf Tryz.prog) ⟨40, []⟩ (f58B_D α n) (bodyOf Tryz.f58) :=
 D3.OK.mk3 (f58B_ents α n) (show loopsOf (bodyOf Tryz.f58) = [(3, (.loop ((bodyOf Tryz.f58).at [1, 1, 0, 1, 0, 0])))] by kernel_rfl) ⟨look_sound rfl (f58B_L3_ok α n), trivial⟩
theorem f58B_ok (n : Nat) : (f58B_E n).Sound Tryz.prog :=
 fn_okB (tyOf_ok _) prog_fol (f58B_D _ n) (show Tryz.prog.funcs[58]? = some Tryz.f58 by kernel_rfl) (by kernel_rfl) (show Tryz.f58.body = some (bodyOf Tryz.f58) by kernel_rfl) rfl rfl (Nat.le_of_ble_eq_true rfl) (f58B_d _ n) (by intro x; kernel_rfl) 

def f56 (n : Nat) (a0 : Rq) : Option (Rq × Int) :=
 ob (f113 n a0) fun r_1 =>
 bif (!r_1) then
  some ((false, [], []), 7)
 else
  some (a0, 0)
def f56_E (n : Nat) : Ent := ⟨56, [hR], [hR, hI], fun x => f56 n x⟩
def f56_D (α : Type) (n : Nat) : D3 α := { reg := [(1, ⟨0, [], [(1, { ent := some (f113_E n) })]⟩)], join := [], loop := [] }
theorem f56_ents (α : Type) (n : Nat) : AllS Tryz.prog (entsOf (f56_D α n).reg) := ⟨f113_ok n, trivial⟩
theorem f56_d (α : Type) (n : Nat) : D3.OK Tryz.prog (tyOf Tryz.prog) ⟨9, []⟩ (f56_D α n) (bodyOf Tryz.f56) :=
 D3.OK.mk3 (f56_ents α n) (show loopsOf (bodyOf Tryz.f56) = [] by kernel_rfl) trivial
theorem f56_ok (n : Nat) : (f56_E n).Sound Tryz.prog :=
 fn_ok (tyOf_ok _) prog_fol (f56_D _ n) (show Tryz.prog.funcs[56]? = some Tryz.f56 by kernel_rfl) (by kernel_rfl) (show Tryz.f56.body = some (bodyOf Tryz.f56) by kernel_rfl) rfl rfl (Nat.le_of_ble_eq_true rfl) (f56_d _ n) (by intro x; kernel_rfl) 

def f15 (n : Nat) (a0 : LR) (a1 : Int) : Option (Rq × Int) :=
 ob (f55 n a1 [a0]) fun r_1 =>
 bif (r_1 != 0) then
  some ((false, [], []), r_1)
 else
  ob (f58B n a0 a1 ()) fun r_2 =>
  ob (f57B n r_2) fun r_3 =>
  gd (Nat.beq r_3.2.length r_2.length && true) (
   ob (f56 n r_3.1) fun r_4 =>
   some (r_4.1, r_4.2))
def f15_E (n : Nat) : Ent := ⟨15, [hRs, hI], [hR, hI], fun x => f15 n x.1 x.2⟩
def f15_D (α : Type) (n : Nat) : D3 α := { reg := [(1, ⟨0, [], [(2, { sh := some hRs }), (3, { ent := some (f55_E n) })]⟩), (4, ⟨0, [], [(2, { entB := some (f58B_E n), hb := 310 }), (3, { entB := some (f57B_E n), hb := 320 }), (4, { ent := some (f56_E n) })]⟩)], join := [], loop := [] }
theorem f15_ents (α : Type) (n : Nat) : AllS Tryz.prog (entsOf (f15_D α n).reg) := ⟨f55_ok n, f58B_ok n, f57B_ok n, f56_ok n, trivial⟩
theorem f15_d (α : Type) (n : Nat) : D3.OK Tryz.prog (tyOf Tryz.prog) ⟨22, []⟩ (f15_D α n) (bodyOf Tryz.f15) :=
 D3.OK.mk3 (f15_ents α n) (show loopsOf (bodyOf Tryz.f15) = [] by kernel_rfl) trivial
theorem f15_ok (n : Nat) : (f15_E n).Sound Tryz.prog :=
 fn_ok (tyOf_ok _) prog_fol (f15_D _ n) (show Tryz.prog.funcs[15]? = some Tryz.f15 by kernel_rfl) (by kernel_rfl) (show Tryz.f15.body = some (bodyOf Tryz.f15) by kernel_rfl) rfl rfl (Nat.le_of_ble_eq_true rfl) (f15_d _ n) (by intro x; kernel_rfl) 

def f105_L4B {α : Type} (n : Nat) (s0 s1 : LI) (s5 : Int) (f : LI → LI → Int → Option α) (k0 : Bool → Option α) (k1 : Unit → Option α) : Option α :=
 bif (decide (s5 < (s0.length : Int))) then
  gd (decide (0 ≤ s5) && decide (s5 < (s0.length : Int))) (
   gd (decide (0 ≤ s5) && decide (s5 < (s1.length : Int))) (
    bif ((s0.getD s5.toNat 0) != (s1.getD s5.toNat 0)) then
     k0 false
    else
     f s0 s1 (W (s5 + 1))))
 else
  k1 ()
abbrev f105_L4H : Tm := ⟨[(0, .d hIs), (1, .d hIs), (5, .d hI)], [], [], []⟩
abbrev f105_L4X0 : Tm := ⟨[(4, .d .bool)], [], [], []⟩
abbrev f105_L4X1 : Tm := ⟨[], [], [], []⟩
abbrev f105_L4O : List (Exit × Tm) := [(.ret, f105_L4X0), (.exit 0, f105_L4X1)]
def f105_L4U {α : Type} (n : Nat) (v : f105_L4H.den) (f : f105_L4H.den → Option α) (ks : KS α f105_L4O) : Option α := f105_L4B n v.1.1 v.1.2.1 v.1.2.2.1 (fun s0 s1 s5 => f ((s0, s1, s5, ()), ())) (fun w0 => ks.1 ((w0, ()), ())) (fun _ => ks.2.1 ((), ()))
def f105_L4 {α : Type} (n m : Nat) (s0 s1 : LI) (s5 : Int) (k0 : Bool → Option α) (k1 : Unit → Option α) : Option α := rounds (f105_L4U n) m ((s0, s1, s5, ()), ()) (fun w => k0 w.1.1, fun w => k1 (), ())
theorem f105_L4_0 {α n s0 s1 s5 k0 k1} : f105_L4 (α := α) n 0 s0 s1 s5 k0 k1 = none := rfl
theorem f105_L4_s {α n m s0 s1 s5 k0 k1} : f105_L4 (α := α) n (m + 1) s0 s1 s5 k0 k1 = f105_L4B n s0 s1 s5 (fun s0 s1 s5 => f105_L4 n m s0 s1 s5 k0 k1) k0 k1 := rfl
def f105 (n : Nat) (a0 a1 : LI) : Option Bool :=
 bif ((a0.length : Int) != (a1.length : Int)) then
  some false
 else
  f105_L4 n n a0 a1 0
   (fun z_1 => (
    some z_1))
   (fun (_ : Unit) => (
    some true))
def f105_E (n : Nat) : Ent := ⟨105, [hIs, hIs], [.bool], fun x => f105 n x.1 x.2⟩
def f105_D (α : Type) (n : Nat) : D3 α := { reg := [(6, ⟨8, [], []⟩)], join := [], loop := [(4, ⟨f105_L4H, f105_L4O, rounds (f105_L4U n) n⟩)] }
theorem f105_ents (α : Type) (n : Nat) : AllS Tryz.prog (entsOf (f105_D α n).reg) := trivial
theorem f105_L4_d (α : Type) (n : Nat) : D3.OK Tryz.prog (tyOf Tryz.prog) ⟨26, []⟩ (f105_D α n) ((bodyOf Tryz.f105).at [1, 1, 0, 1, 0, 0]) :=
 D3.OK.mk3 (f105_ents α n) (show loopsOf ((bodyOf Tryz.f105).at [1, 1, 0, 1, 0, 0]) = [] by kernel_rfl) trivial
theorem f105_L4_ok (α : Type) (n : Nat) : LO.Sound (α := α) Tryz.prog ⟨26, []⟩ ⟨f105_L4H, f105_L4O, rounds (f105_L4U n) n⟩ (.loop ((bodyOf Tryz.f105).at [1, 1, 0, 1, 0, 0])) :=
 loop_ok (tyOf_ok _) prog_fol (f105_L4U n) (f105_L4_d α n) (by intro v f ks; kernel_rfl) n
theorem f105_d (α : Type) (n : Nat) : D3.OK Tryz.prog (tyOf Tryz.prog) ⟨26, []⟩ (f105_D α n) (bodyOf Tryz.f105) :=
 D3.OK.mk3 (f105_ents α n) (show loopsOf (bodyOf Tryz.f105) = [(4, (.loop ((bodyOf Tryz.f105).at [1, 1, 0, 1, 0, 0])))] by kernel_rfl) ⟨look_sound rfl (f105_L4_ok α n), trivial⟩
theorem f105_ok (n : Nat) : (f105_E n).Sound Tryz.prog :=
 fn_ok (tyOf_ok _) prog_fol (f105_D _ n) (show Tryz.prog.funcs[105]? = some Tryz.f105 by kernel_rfl) (by kernel_rfl) (show Tryz.f105.body = some (bodyOf Tryz.f105) by kernel_rfl) rfl rfl (Nat.le_of_ble_eq_true rfl) (f105_d _ n) (by intro x; kernel_rfl) 

def f45 (n : Nat) (a0 a1 : Rq) : Option Bool :=
 bif (a0.1 == a1.1) then
  ob (f105 n a0.2.1 a1.2.1) fun r_1 =>
  bif r_1 then
   ob (f105 n a0.2.2 a1.2.2) fun r_2 =>
   some r_2
  else
   some false
 else
  some false
def f45_E (n : Nat) : Ent := ⟨45, [hR, hR], [.bool], fun x => f45 n x.1 x.2⟩
def f45_D (α : Type) (n : Nat) : D3 α := { reg := [(1, ⟨0, [], [(10, { ent := some (f105_E n) }), (17, { ent := some (f105_E n) })]⟩)], join := [], loop := [] }
theorem f45_ents (α : Type) (n : Nat) : AllS Tryz.prog (entsOf (f45_D α n).reg) := ⟨f105_ok n, f105_ok n, trivial⟩
theorem f45_d (α : Type) (n : Nat) : D3.OK Tryz.prog (tyOf Tryz.prog) ⟨24, []⟩ (f45_D α n) (bodyOf Tryz.f45) :=
 D3.OK.mk3 (f45_ents α n) (show loopsOf (bodyOf Tryz.f45) = [] by kernel_rfl) trivial
theorem f45_ok (n : Nat) : (f45_E n).Sound Tryz.prog :=
 fn_ok (tyOf_ok _) prog_fol (f45_D _ n) (show Tryz.prog.funcs[45]? = some Tryz.f45 by kernel_rfl) (by kernel_rfl) (show Tryz.f45.body = some (bodyOf Tryz.f45) by kernel_rfl) rfl rfl (Nat.le_of_ble_eq_true rfl) (f45_d _ n) (by intro x; kernel_rfl) 

def f16_L4B {α : Type} (n : Nat) (s0 s1 : LR) (s5 : Int) (f : LR → LR → Int → Option α) (k0 : Bool → Option α) (k1 : Unit → Option α) : Option α :=
 bif (decide (s5 < (s0.length : Int))) then
  gd (decide (0 ≤ s5) && decide (s5 < (s0.length : Int))) (
   let x_1 := s0.getD s5.toNat (false, [], [])
   gd (decide (0 ≤ s5) && decide (s5 < (s1.length : Int))) (
    let x_2 := s1.getD s5.toNat (false, [], [])
    ob (f45 n x_1 x_2) fun r_3 =>
    bif (!r_3) then
     k0 false
    else
     f s0 s1 (W (s5 + 1))))
 else
  k1 ()
abbrev f16_L4H : Tm := ⟨[(0, .d hRs), (1, .d hRs), (5, .d hI)], [], [], []⟩
abbrev f16_L4X0 : Tm := ⟨[(4, .d .bool)], [], [], []⟩
abbrev f16_L4X1 : Tm := ⟨[], [], [], []⟩
abbrev f16_L4O : List (Exit × Tm) := [(.ret, f16_L4X0), (.exit 0, f16_L4X1)]
def f16_L4U {α : Type} (n : Nat) (v : f16_L4H.den) (f : f16_L4H.den → Option α) (ks : KS α f16_L4O) : Option α := f16_L4B n v.1.1 v.1.2.1 v.1.2.2.1 (fun s0 s1 s5 => f ((s0, s1, s5, ()), ())) (fun w0 => ks.1 ((w0, ()), ())) (fun _ => ks.2.1 ((), ()))
def f16_L4 {α : Type} (n m : Nat) (s0 s1 : LR) (s5 : Int) (k0 : Bool → Option α) (k1 : Unit → Option α) : Option α := rounds (f16_L4U n) m ((s0, s1, s5, ()), ()) (fun w => k0 w.1.1, fun w => k1 (), ())
theorem f16_L4_0 {α n s0 s1 s5 k0 k1} : f16_L4 (α := α) n 0 s0 s1 s5 k0 k1 = none := rfl
theorem f16_L4_s {α n m s0 s1 s5 k0 k1} : f16_L4 (α := α) n (m + 1) s0 s1 s5 k0 k1 = f16_L4B n s0 s1 s5 (fun s0 s1 s5 => f16_L4 n m s0 s1 s5 k0 k1) k0 k1 := rfl
def f16 (n : Nat) (a0 a1 : LR) : Option Bool :=
 bif ((a0.length : Int) != (a1.length : Int)) then
  some false
 else
  f16_L4 n n a0 a1 0
   (fun z_4 => (
    some z_4))
   (fun (_ : Unit) => (
    some true))
def f16_E (n : Nat) : Ent := ⟨16, [hRs, hRs], [.bool], fun x => f16 n x.1 x.2⟩
def f16_D (α : Type) (n : Nat) : D3 α := { reg := [(6, ⟨8, [], [(8, { ent := some (f45_E n) })]⟩)], join := [], loop := [(4, ⟨f16_L4H, f16_L4O, rounds (f16_L4U n) n⟩)] }
theorem f16_ents (α : Type) (n : Nat) : AllS Tryz.prog (entsOf (f16_D α n).reg) := ⟨f45_ok n, trivial⟩
theorem f16_L4_d (α : Type) (n : Nat) : D3.OK Tryz.prog (tyOf Tryz.prog) ⟨27, []⟩ (f16_D α n) ((bodyOf Tryz.f16).at [1, 1, 0, 1, 0, 0]) :=
 D3.OK.mk3 (f16_ents α n) (show loopsOf ((bodyOf Tryz.f16).at [1, 1, 0, 1, 0, 0]) = [] by kernel_rfl) trivial
theorem f16_L4_ok (α : Type) (n : Nat) : LO.Sound (α := α) Tryz.prog ⟨27, []⟩ ⟨f16_L4H, f16_L4O, rounds (f16_L4U n) n⟩ (.loop ((bodyOf Tryz.f16).at [1, 1, 0, 1, 0, 0])) :=
 loop_ok (tyOf_ok _) prog_fol (f16_L4U n) (f16_L4_d α n) (by intro v f ks; kernel_rfl) n
theorem f16_d (α : Type) (n : Nat) : D3.OK Tryz.prog (tyOf Tryz.prog) ⟨27, []⟩ (f16_D α n) (bodyOf Tryz.f16) :=
 D3.OK.mk3 (f16_ents α n) (show loopsOf (bodyOf Tryz.f16) = [(4, (.loop ((bodyOf Tryz.f16).at [1, 1, 0, 1, 0, 0])))] by kernel_rfl) ⟨look_sound rfl (f16_L4_ok α n), trivial⟩
theorem f16_ok (n : Nat) : (f16_E n).Sound Tryz.prog :=
 fn_ok (tyOf_ok _) prog_fol (f16_D _ n) (show Tryz.prog.funcs[16]? = some Tryz.f16 by kernel_rfl) (by kernel_rfl) (show Tryz.f16.body = some (bodyOf Tryz.f16) by kernel_rfl) rfl rfl (Nat.le_of_ble_eq_true rfl) (f16_d _ n) (by intro x; kernel_rfl) 

def f73_L3B {α : Type} (n : Nat) (s1 s9 : LR) (s10 s11 : Int) (c4_0 c5_0 : Bool) (c5_1 c5_2 : LI) (f : LR → LR → Int → Int → Bool → Bool → LI → LI → Option α) (k0 : Bool → Bool → LI → LI → Option α) : Option α :=
 bif (decide (s11 < s10)) then
  gd (decide (0 ≤ s11) && decide (s11 < (s9.length : Int))) (
   let x_2 := s9.getD s11.toNat (false, [], [])
   gd (decide (0 ≤ s11) && decide (s11 < (s1.length : Int))) (
    let x_3 := s1.getD s11.toNat (false, [], [])
    ob (f103 n x_2 x_3) fun r_4 =>
    ob (f104 n (c5_0, c5_1, c5_2) r_4) fun r_5 =>
    f s1 s9 s10 (W (s11 + 1)) c4_0 r_5.1 r_5.2.1 r_5.2.2))
 else
  k0 c4_0 c5_0 c5_1 c5_2
abbrev f73_L3H : Tm := ⟨[(1, .d hRs), (4, .k (.hp 4 0 0)), (5, .k (.hp 5 0 0)), (9, .d hRs), (10, .d hI), (11, .d hI)], [(4, .var 30 true false [.d .bool, .d .nil, .d .nil]), (5, .var 30 true false [.d .bool, .d hIs, .d hIs])], [7], []⟩
abbrev f73_L3X0 : Tm := ⟨[(4, .k (.hp 4 0 0)), (5, .k (.hp 5 0 0))], [(4, .var 30 true false [.d .bool, .d .nil, .d .nil]), (5, .var 30 true false [.d .bool, .d hIs, .d hIs])], [], []⟩
abbrev f73_L3O : List (Exit × Tm) := [(.exit 0, f73_L3X0)]
def f73_L3U {α : Type} (n : Nat) (v : f73_L3H.den) (f : f73_L3H.den → Option α) (ks : KS α f73_L3O) : Option α := f73_L3B n v.1.1 v.1.2.2.2.1 v.1.2.2.2.2.1 v.1.2.2.2.2.2.1 v.2.1.1 v.2.2.1.1 v.2.2.1.2.1 v.2.2.1.2.2.1 (fun s1 s9 s10 s11 c4_0 c5_0 c5_1 c5_2 => f ((s1, (), (), s9, s10, s11, ()), ((c4_0, (), (), ()), (c5_0, c5_1, c5_2, ()), ()))) (fun w0 w1 w2 w3 => ks.1 (((), (), ()), ((w0, (), (), ()), (w1, w2, w3, ()), ())))
def f73_L3 {α : Type} (n m : Nat) (s1 s9 : LR) (s10 s11 : Int) (c4_0 c5_0 : Bool) (c5_1 c5_2 : LI) (k0 : Bool → Bool → LI → LI → Option α) : Option α := rounds (f73_L3U n) m ((s1, (), (), s9, s10, s11, ()), ((c4_0, (), (), ()), (c5_0, c5_1, c5_2, ()), ())) (fun w => k0 w.2.1.1 w.2.2.1.1 w.2.2.1.2.1 w.2.2.1.2.2.1, ())
theorem f73_L3_0 {α n s1 s9 s10 s11 c4_0 c5_0 c5_1 c5_2 k0} : f73_L3 (α := α) n 0 s1 s9 s10 s11 c4_0 c5_0 c5_1 c5_2 k0 = none := rfl
theorem f73_L3_s {α n m s1 s9 s10 s11 c4_0 c5_0 c5_1 c5_2 k0} : f73_L3 (α := α) n (m + 1) s1 s9 s10 s11 c4_0 c5_0 c5_1 c5_2 k0 = f73_L3B n s1 s9 s10 s11 c4_0 c5_0 c5_1 c5_2 (fun s1 s9 s10 s11 c4_0 c5_0 c5_1 c5_2 => f73_L3 n m s1 s9 s10 s11 c4_0 c5_0 c5_1 c5_2 k0) k0 := rfl
def f73 (n : Nat) (a0 a1 : LR) : Option Rq :=
 ob (f92 n 0) fun r_1 =>
 f73_L3 n n a1 a0 (a0.length : Int) 0 false r_1.1 r_1.2.1 r_1.2.2
  (fun z_6 z_7 z_8 z_9 => (
   some (z_7, z_8, z_9)))
def f73_E (n : Nat) : Ent := ⟨73, [hRs, hRs], [hR], fun x => f73 n x.1 x.2⟩
def f73_D (α : Type) (n : Nat) : D3 α := { reg := [(1, ⟨0, [], [(0, { ent := some (f92_E n) })]⟩), (5, ⟨7, [], [(6, { ent := some (f103_E n) }), (7, { ent := some (f104_E n) })]⟩)], join := [], loop := [(3, ⟨f73_L3H, f73_L3O, rounds (f73_L3U n) n⟩)] }
theorem f73_ents (α : Type) (n : Nat) : AllS Tryz.prog (entsOf (f73_D α n).reg) := ⟨f92_ok n, f103_ok n, f104_ok n, trivial⟩
theorem f73_L3_d (α : Type) (n : Nat) : D3.OK Tryz.prog (tyOf Tryz.prog) ⟨26, []⟩ (f73_D α n) ((bodyOf Tryz.f73).at [1, 1, 0, 1, 0, 0]) :=
 D3.OK.mk3 (f73_ents α n) (show loopsOf ((bodyOf Tryz.f73).at [1, 1, 0, 1, 0, 0]) = [] by kernel_rfl) trivial
theorem f73_L3_ok (α : Type) (n : Nat) : LO.Sound (α := α) Tryz.prog ⟨26, []⟩ ⟨f73_L3H, f73_L3O, rounds (f73_L3U n) n⟩ (.loop ((bodyOf Tryz.f73).at [1, 1, 0, 1, 0, 0])) :=
 loop_ok (tyOf_ok _) prog_fol (f73_L3U n) (f73_L3_d α n) (by intro v f ks; kernel_rfl) n
theorem f73_d (α : Type) (n : Nat) : D3.OK Tryz.prog (tyOf Tryz.prog) ⟨26, []⟩ (f73_D α n) (bodyOf Tryz.f73) :=
 D3.OK.mk3 (f73_ents α n) (show loopsOf (bodyOf Tryz.f73) = [(3, (.loop ((bodyOf Tryz.f73).at [1, 1, 0, 1, 0, 0])))] by kernel_rfl) ⟨look_sound rfl (f73_L3_ok α n), trivial⟩
theorem f73_ok (n : Nat) : (f73_E n).Sound Tryz.prog :=
 fn_ok (tyOf_ok _) prog_fol (f73_D _ n) (show Tryz.prog.funcs[73]? = some Tryz.f73 by kernel_rfl) (by kernel_rfl) (show Tryz.f73.body = some (bodyOf Tryz.f73) by kernel_rfl) rfl rfl (Nat.le_of_ble_eq_true rfl) (f73_d _ n) (by intro x; kernel_rfl) 

def f130 (n : Nat) (a0 : Int) (a1 : LR) (a2 : Int) (a3 : LR) : Option Rq :=
 gd (decide (0 ≤ (W (a0 * a2))) && decide ((W (a0 * a2)) ≤ (W ((W (a0 + 1)) * a2))) && decide ((W ((W (a0 + 1)) * a2)) ≤ (a1.length : Int))) (
  ob (f73 n ((a1.drop ((W (a0 * a2)).toNat)).take ((W ((W (a0 + 1)) * a2)).toNat - (W (a0 * a2)).toNat)) a3) fun r_1 =>
  some r_1)
def f130_E (n : Nat) : Ent := ⟨130, [hI, (.ref hRs), (.ref hI), (.ref hRs)], [hR], fun x => f130 n x.1 x.2.1 x.2.2.1 x.2.2.2⟩
def f130_D (α : Type) (n : Nat) : D3 α := { reg := [(1, ⟨10, [], [(10, { ent := some (f73_E n) })]⟩)], join := [], loop := [] }
theorem f130_ents (α : Type) (n : Nat) : AllS Tryz.prog (entsOf (f130_D α n).reg) := ⟨f73_ok n, trivial⟩
theorem f130_d (α : Type) (n : Nat) : D3.OK Tryz.prog (tyOf Tryz.prog) ⟨17, []⟩ (f130_D α n) (bodyOf Tryz.f130) :=
 D3.OK.mk3 (f130_ents α n) (show loopsOf (bodyOf Tryz.f130) = [] by kernel_rfl) trivial
theorem f130_ok (n : Nat) : (f130_E n).Sound Tryz.prog :=
 fn_ok (tyOf_ok _) prog_fol (f130_D _ n) (show Tryz.prog.funcs[130]? = some Tryz.f130 by kernel_rfl) (by kernel_rfl) (show Tryz.f130.body = some (bodyOf Tryz.f130) by kernel_rfl) rfl rfl (Nat.le_of_ble_eq_true rfl) (f130_d _ n) (by intro x; kernel_rfl) 

def f129c130_L3B {α : Type} (n : Nat) (s1 : LR × Int × LR) (s8 s9 : Int) (b7 : LR) (f : (LR × Int × LR) → Int → Int → LR → Option α) (k0 : LR → Option α) : Option α :=
 bif (decide (s9 < s8)) then
  ob (f130 n s9 s1.1 s1.2.1 s1.2.2) fun r_1 =>
  ob (f97 n r_1) fun r_2 =>
  gd (decide ((b7.length + 1) * 56 ≤ 140737488355328)) (
   f s1 s8 (W (s9 + 1)) (b7 ++ [r_2]))
 else
  k0 b7
abbrev f129c130_L3H : Tm := ⟨[(1, .d (.clo 130 (.pair (.ref hRs) (.pair (.ref hI) (.ref hRs))))), (5, .k (.hw 7)), (8, .d hI), (9, .d hI)], [(7, .arr 30 hR false)], [17], []⟩
abbrev f129c130_L3X0 : Tm := ⟨[(5, .k (.hw 7))], [(7, .arr 30 hR false)], [], []⟩
abbrev f129c130_L3O : List (Exit × Tm) := [(.exit 0, f129c130_L3X0)]
def f129c130_L3U {α : Type} (n : Nat) (v : f129c130_L3H.den) (f : f129c130_L3H.den → Option α) (ks : KS α f129c130_L3O) : Option α := f129c130_L3B n v.1.1 v.1.2.2.1 v.1.2.2.2.1 v.2.1 (fun s1 s8 s9 b7 => f ((s1, (), s8, s9, ()), (b7, ()))) (fun w0 => ks.1 (((), ()), (w0, ())))
def f129c130_L3 {α : Type} (n m : Nat) (s1 : LR × Int × LR) (s8 s9 : Int) (b7 : LR) (k0 : LR → Option α) : Option α := rounds (f129c130_L3U n) m ((s1, (), s8, s9, ()), (b7, ())) (fun w => k0 w.2.1, ())
theorem f129c130_L3_0 {α n s1 s8 s9 b7 k0} : f129c130_L3 (α := α) n 0 s1 s8 s9 b7 k0 = none := rfl
theorem f129c130_L3_s {α n m s1 s8 s9 b7 k0} : f129c130_L3 (α := α) n (m + 1) s1 s8 s9 b7 k0 = f129c130_L3B n s1 s8 s9 b7 (fun s1 s8 s9 b7 => f129c130_L3 n m s1 s8 s9 b7 k0) k0 := rfl
def f129c130 (n : Nat) (a0 : Int) (a1 : LR × Int × LR) : Option LR :=
 f129c130_L3 n n a1 a0 0 []
  (fun z_3 => (
   some z_3))
def f129c130_E (n : Nat) : Ent := ⟨129, [hI, (.clo 130 (.pair (.ref hRs) (.pair (.ref hI) (.ref hRs))))], [hRs], fun x => f129c130 n x.1 x.2⟩
def f129c130_D (α : Type) (n : Nat) : D3 α := { reg := [(1, ⟨0, [], [(0, { sh := some hR })]⟩), (5, ⟨0, [], [(3, { ent := some (f130_E n) }), (4, { ent := some (f97_E n) }), (5, { sh := some hR })]⟩)], join := [], loop := [(3, ⟨f129c130_L3H, f129c130_L3O, rounds (f129c130_L3U n) n⟩)] }
theorem f129c130_ents (α : Type) (n : Nat) : AllS Tryz.prog (entsOf (f129c130_D α n).reg) := ⟨f130_ok n, f97_ok n, trivial⟩
theorem f129c130_L3_d (α : Type) (n : Nat) : D3.OK Tryz.prog (tyOf Tryz.prog) ⟨21, []⟩ (f129c130_D α n) ((bodyOf Tryz.f129).at [1, 1, 0, 1, 0, 0]) :=
 D3.OK.mk3 (f129c130_ents α n) (show loopsOf ((bodyOf Tryz.f129).at [1, 1, 0, 1, 0, 0]) = [] by kernel_rfl) trivial
theorem f129c130_L3_ok (α : Type) (n : Nat) : LO.Sound (α := α) Tryz.prog ⟨21, []⟩ ⟨f129c130_L3H, f129c130_L3O, rounds (f129c130_L3U n) n⟩ (.loop ((bodyOf Tryz.f129).at [1, 1, 0, 1, 0, 0])) :=
 loop_ok (tyOf_ok _) prog_fol (f129c130_L3U n) (f129c130_L3_d α n) (by intro v f ks; kernel_rfl) n
theorem f129c130_d (α : Type) (n : Nat) : D3.OK Tryz.prog (tyOf Tryz.prog) ⟨21, []⟩ (f129c130_D α n) (bodyOf Tryz.f129) :=
 D3.OK.mk3 (f129c130_ents α n) (show loopsOf (bodyOf Tryz.f129) = [(3, (.loop ((bodyOf Tryz.f129).at [1, 1, 0, 1, 0, 0])))] by kernel_rfl) ⟨look_sound rfl (f129c130_L3_ok α n), trivial⟩
theorem f129c130_ok (n : Nat) : (f129c130_E n).Sound Tryz.prog :=
 fn_ok (tyOf_ok _) prog_fol (f129c130_D _ n) (show Tryz.prog.funcs[129]? = some Tryz.f129 by kernel_rfl) (by kernel_rfl) (show Tryz.f129.body = some (bodyOf Tryz.f129) by kernel_rfl) rfl rfl (Nat.le_of_ble_eq_true rfl) (f129c130_d _ n) (by intro x; kernel_rfl) 

def f59 (n : Nat) (a0 a1 : LR) : Option LR :=
 ob (f129c130 n (a1.length : Int) (a0, (a1.length : Int), a1)) fun r_1 =>
 some r_1
def f59_E (n : Nat) : Ent := ⟨59, [hRs, hRs], [hRs], fun x => f59 n x.1 x.2⟩
def f59_D (α : Type) (n : Nat) : D3 α := { reg := [(2, ⟨0, [], [(1, { sh := some (.pair (.ref hRs) (.pair (.ref hI) (.ref hRs))) }), (2, { ent := some (f129c130_E n) })]⟩)], join := [], loop := [] }
theorem f59_ents (α : Type) (n : Nat) : AllS Tryz.prog (entsOf (f59_D α n).reg) := ⟨f129c130_ok n, trivial⟩
theorem f59_d (α : Type) (n : Nat) : D3.OK Tryz.prog (tyOf Tryz.prog) ⟨11, []⟩ (f59_D α n) (bodyOf Tryz.f59) :=
 D3.OK.mk3 (f59_ents α n) (show loopsOf (bodyOf Tryz.f59) = [] by kernel_rfl) trivial
theorem f59_ok (n : Nat) : (f59_E n).Sound Tryz.prog :=
 fn_ok (tyOf_ok _) prog_fol (f59_D _ n) (show Tryz.prog.funcs[59]? = some Tryz.f59 by kernel_rfl) (by kernel_rfl) (show Tryz.f59.body = some (bodyOf Tryz.f59) by kernel_rfl) rfl rfl (Nat.le_of_ble_eq_true rfl) (f59_d _ n) (by intro x; kernel_rfl) 

def f17 (n : Nat) (a0 a1 : LR) : Option (LR × Int) :=
 ob (f49 n a0 a1) fun r_1 =>
 bif (r_1 != 0) then
  some ([], r_1)
 else
  ob (f59 n a0 a1) fun r_2 =>
  ob (f51 n r_2) fun r_3 =>
  some (r_3.1, r_3.2)
def f17_E (n : Nat) : Ent := ⟨17, [hRs, hRs], [hRs, hI], fun x => f17 n x.1 x.2⟩
def f17_D (α : Type) (n : Nat) : D3 α := { reg := [(1, ⟨0, [], [(2, { ent := some (f49_E n) })]⟩), (4, ⟨0, [], [(2, { ent := some (f59_E n) }), (3, { ent := some (f51_E n) })]⟩)], join := [], loop := [] }
theorem f17_ents (α : Type) (n : Nat) : AllS Tryz.prog (entsOf (f17_D α n).reg) := ⟨f49_ok n, f59_ok n, f51_ok n, trivial⟩
theorem f17_d (α : Type) (n : Nat) : D3.OK Tryz.prog (tyOf Tryz.prog) ⟨19, []⟩ (f17_D α n) (bodyOf Tryz.f17) :=
 D3.OK.mk3 (f17_ents α n) (show loopsOf (bodyOf Tryz.f17) = [] by kernel_rfl) trivial
theorem f17_ok (n : Nat) : (f17_E n).Sound Tryz.prog :=
 fn_ok (tyOf_ok _) prog_fol (f17_D _ n) (show Tryz.prog.funcs[17]? = some Tryz.f17 by kernel_rfl) (by kernel_rfl) (show Tryz.f17.body = some (bodyOf Tryz.f17) by kernel_rfl) rfl rfl (Nat.le_of_ble_eq_true rfl) (f17_d _ n) (by intro x; kernel_rfl) 

def f3 (n : Nat) (a0 a1 : LI) : Option Bool :=
 bif (decide ((a0.length : Int) > 1048576)) then
  some true
 else
  bif (decide ((a1.length : Int) > 1048576)) then
   some true
  else
   ob (f10 n a1 0 3) fun r_1 =>
   ob (f11 n a0 (W (1 + r_1))) fun r_2 =>
   ob (f12 n a1 (W (1 + r_1))) fun r_3 =>
   ob (f13 n r_2 r_3) fun r_4 =>
   ob (f14 n r_2 r_3) fun r_5 =>
   ob (f15 n r_2 (W (1 + r_1))) fun r_6 =>
   bif (r_4.2 != r_5.2) then
    some false
   else
    ob (f16 n r_4.1 r_5.1) fun r_7 =>
    bif (!r_7) then
     some false
    else
     bif (r_6.2 != 0) then
      some false
     else
      bif (!((r_4.2 == 0) == (decide ((r_6.1.2.1.length : Int) > 0)))) then
       some false
      else
       bif (r_4.2 != 0) then
        some (r_4.2 == 5)
       else
        ob (f17 n r_2 r_4.1) fun r_8 =>
        bif (r_8.2 == 0) then
         ob (f16 n r_8.1 r_3) fun r_9 =>
         some r_9
        else
         some false
def f3_E (n : Nat) : Ent := ⟨3, [(.sl (.int .u8)), (.sl (.int .u8))], [.bool], fun x => f3 n x.1 x.2⟩
def f3_D (α : Type) (n : Nat) : D3 α := { reg := [(3, ⟨0, [], [(1, { ent := some (f10_E n) })]⟩), (4, ⟨0, [], [(2, { ent := some (f11_E n) })]⟩), (5, ⟨0, [], [(2, { ent := some (f12_E n) })]⟩), (6, ⟨0, [], [(2, { ent := some (f13_E n) })]⟩), (7, ⟨0, [], [(2, { ent := some (f14_E n) })]⟩), (8, ⟨0, [], [(2, { ent := some (f15_E n) })]⟩), (9, ⟨0, [], [(6, { ent := some (f16_E n) })]⟩), (13, ⟨0, [], [(2, { ent := some (f17_E n) })]⟩), (14, ⟨0, [], [(5, { ent := some (f16_E n) })]⟩)], join := [], loop := [] }
theorem f3_ents (α : Type) (n : Nat) : AllS Tryz.prog (entsOf (f3_D α n).reg) := ⟨f10_ok n, f11_ok n, f12_ok n, f13_ok n, f14_ok n, f15_ok n, f16_ok n, f17_ok n, f16_ok n, trivial⟩
theorem f3_d (α : Type) (n : Nat) : D3.OK Tryz.prog (tyOf Tryz.prog) ⟨90, []⟩ (f3_D α n) (bodyOf Tryz.f3) :=
 D3.OK.mk3 (f3_ents α n) (show loopsOf (bodyOf Tryz.f3) = [] by kernel_rfl) trivial
theorem f3_ok (n : Nat) : (f3_E n).Sound Tryz.prog :=
 fn_ok (tyOf_ok _) prog_fol (f3_D _ n) (show Tryz.prog.funcs[3]? = some Tryz.f3 by kernel_rfl) (by kernel_rfl) (show Tryz.f3.body = some (bodyOf Tryz.f3) by kernel_rfl) rfl rfl (Nat.le_of_ble_eq_true rfl) (f3_d _ n) (by intro x; kernel_rfl) 

end Go.Ev
